/- A function compiled,whole: its code and its results. Conditions: none; over any program. -/
import Derived.Test.YtoanajmmemjeeaaGreatDoorFwI
import Derived.WideKeyElems2
import Derived.OpenShut
import Derived.FnData
import Derived.Below
import Derived.ChangeSame
import Derived.CallsIn
import Derived.ChangeArms
import Derived.MakeChecks
open Option renaming some→za,none→zb
open List renaming getD_eq_getElem?_getD→zc,all_eq_true→zd,getElem?_eq_getElem→ze,getElem?_cons_succ→zf,getElem?_cons_zero→zi,mem_cons_of_mem→zl,drop_succ_cons→zn,mem_cons_self→zo,nil_append→zq,length_cons→zr,cons_append→zt,mem_cons→zw,head?_cons→zx,append_nil→zy,drop_zero→z0,all_cons→z4,getElem?_append→z9,all_nil→qb,getElem?_map→qd,mem_map→qj,take_append_drop→ql,flatten_cons→qn
open Bool renaming and_eq_true→zg,false_eq_true→zp,xor_false→z1,not_false→z2,xor_true→z5,not_true→z6,and_true→z7,and_self→z8
open Array renaming getD_eq_getD_getElem?→zh,getElem?_eq_none→zz,getElem?_eq_getElem→qi
open Nat renaming not_lt_zero→zj,lt_of_lt_of_le→zk,zero_add→zm,succ_ne_zero→zu,add_zero→zv,reduceEqDiff→z3,le_refl→qa,reduceMul→qe,reduceAdd→qf,reduceLT→qg,add_mul→qh,lt_or_ge→qk,eq_of_beq_eq_true→qm
open Classical renaming propDecidable→qc
set_option linter.all false
private theorem om{P:Prop}(h:P:=by omega):P:=h
namespace Go.Id
open Go
variable {P:Program} {w w' w'':World} {ρ ρ' ρ'':bC} {E:Nat->IV} {O O':aQ} {N n n':Nat} {fr:a8} {a:Act} {pf:List Nat}
inductive IR where|t (n:Nat)|cell (agg:Option Nat)(n:Nat) deriving Inhabited
def QE(P:Program):ResultVar->Option IR|.tmp t=>za (.t t)|.cell ad t=>match fG P t with|some agg=>za (.cell agg ad)|none=>zb
def vB(P:Program):List ResultVar->Option (List IR)|[]=>za []|r::rs=>match QE P r,vB P rs with|some x,za xs=>za (x::xs)|_,_=>zb
def irV(O:aQ)(fr:a8):IR->Option IV|.t n=>za (fr.get n)|.cell agg n=>iI O agg (fr.get n)
def lQ(O:aQ)(fr:a8):List IR->Option (List IV)|[]=>za []|r::rs=>match irV O fr r,lQ O fr rs with|some v,za vs=>za (v::vs)|_,_=>zb
def OU:∀(c:List ResultVar)(b:List IR),vB P c=za b->s8 P O fr c=lQ O fr b:=by intro c;induction c with|nil=>intro b h;cases h;rfl|cons r c ih=>intro b h;simp only[vB]at h;split at h;{rename_i x xs d f;cases h;have g:GQ P O fr r=irV O fr x:=(by cases r with|tmp t=>cases d;rfl|cell ad t=>simp only[QE]at d;split at d;{rename_i i e;cases d;simp[GQ,irV,e]};cases d);simp only[s8,lQ,g,ih _ f];cases irV O fr x<;>cases lQ O fr xs<;>rfl};cases h
def ue(P:Program)(f N:Nat)(pf:List Nat)(an:lZ)(ic:IC)(irs:List IR):Prop :=∃fn,P.funcs[f]? = za fn/\fn.ntmps=N/\fn.body.bind (dH P pf N an)=za ic/\vB P fn.results.toList=za irs
def ju3{f:Nat}{c:Func}{an:lZ}{d:IC}{b:List IR}(h:P.funcs[f]? = za c)(g:c.ntmps=N)(hc:c.body.bind (dH P pf N an)=za d)(e:vB P c.results.toList=za b):ue P f N pf an d b :=⟨c,h,g,hc,e⟩
def QF(irs:List IR)(Qc:IV->aQ->Prop):Exit->a8->aQ->Prop|.normal,fr,O|.ret,fr,O=>∃vs,lQ O fr irs=za vs/\Qc (oO vs) O|_,_,_=>False
def lv1{f:Nat}{an:lZ}{g:IC}{b:List IR}{args:List IV}{j:IV->aQ->Prop}(hf:ue P f N pf an g b)(k:args.length<=N)(h:nk P E N O.aP g (kU args 0) O (QF b j)):C P E f args O j:=by have⟨r,p,o,d,m⟩:=hf;cases i:r.body with|none=>rw[i]at d;cases d|some c=>rw[i]at d;refine P1 p i o k ((CM g _ _ _ h pf an c d).mono ?_);intro e fr' O' q;cases e<;>first|(have⟨vs,q1,q2⟩:=q;exact ⟨vs,by rw[OU _ _ m];exact q1,q2⟩)|exact q
end Go.Id
namespace Go.Id
open Go
def a8.get_nil (t:Nat):a8.get [] t=.undef:=by unfold a8.get;simp
def a8.wW (t s:Nat)(v:IV)(fr:a8):a8.get ((t,v)::fr) s=if s=t then v else a8.get fr s:=a8.Ft fr t s v
universe u
variable {P:Program} {E:Nat->IV} {O O':aQ} {N n n0:Nat} {fr:a8} {a:Act} {pf:List Nat}
abbrev PT:=Nat->List IV->Option IV
abbrev CT:=Nat->List IV->aQ->Option (IV->aQ->Prop)
structure TOK (P:Program) (E:Nat->IV) (pt:PT) (ct:CT):Prop where
 p:∀f args v,pt f args=za v->PC P E f args v
 c:∀f args O Q,ct f args O=za Q->okF P f=true/\C P E f args O Q
def og:PT:=λ_ _=>zb
def mI:CT:=λ_ _ _=>zb
def cd:TOK P E og mI:=⟨(λ_ _ _ h=>by cases h),(λ_ _ _ _ h=>by cases h)⟩
def AZ {f:Nat}{args:List IV}:og f args=zb:=by unfold og;exact Eq.trans rfl rfl
def A0 {f:Nat}{args:List IV}:mI f args O=zb:=by unfold mI;exact Eq.trans rfl rfl
def fP{α:Type}:Option α->(α->Prop)->Prop|some v,K=>K v|none,_=>False
def Jr:IV->(Bool->Prop)->Prop|.bool b,K=>K b|_,_=>False
def sg(v:IV)(want:Bool)(A B:Prop):Prop :=match s7 v want with|some true=>A|some false=>B|none=>False
def LI{v:IV}{b:Bool}{A B:Prop}(h:sg v b A B):∃c,s7 v b=za c/\if c=true then A else B:=by unfold sg at h;split at h;{rename_i ha;exact ⟨true,ha,h⟩};{rename_i ha;exact ⟨false,ha,h⟩};exact h.elim
def ou{b:Type}{o:Option b}{K:b->Prop}(h:fP o K):∃v,o=za v/\K v:=by cases o with|none=>exact h.elim|some v=>exact ⟨v,rfl,h⟩
def TO{o:IV}{K:Bool->Prop}(h:Jr o K):∃b,o=.bool b/\K b:=by cases o<;>first|exact ⟨_,rfl,h⟩|exact h.elim
def qK(P:Program)(E:Nat->IV)(o:Option (IV->aQ->Prop))(f:Nat)(args:List IV)(O:aQ)(K:IV->aQ->Prop):Prop :=match o with|some Q=>∀v s,Q v s->O.aP<=s.aP/\K v s|none=>∃Q,(okF P f=true/\C P E f args O Q)/\∀v s,Q v s->O.aP<=s.aP/\K v s
def OW (P:Program)(E:Nat->IV)(x:IV)(args:List IV)(O:aQ)(K:IV->aQ->Prop):Prop:=∃v,PCV P E x args v/\K v O
def Gy(P:Program)(E:Nat->IV)(o:Option IV)(f:Nat)(args:List IV)(O:aQ)(K:IV->aQ->Prop):Prop :=match o with|some v=>K v O|none=>∃v,PC P E f args v/\K v O
def ek(pt:PT)(ct:CT)(P:Program)(E:Nat->IV)(op:IK)(id:Nat)(fr:a8)(O:aQ)(K:IV->aQ->Prop):Prop :=match op with|.q q=>fP (cJ E fr O q) λv=>K v O|.alloc z=>K (.ptr id 0) (O.put id (.cells z))|.box x=>(x.ev E fr).cs.all IV.aY=true/\K (.ptr id 0) (O.put id (.cells (x.ev E fr).cs))|.lA esz n z parts=>fP (gz (rep z n) (parts.map λp=>(p.1,p.2.1,p.2.2.ev E fr))) λout=>K (.slice id 0 n esz) (O.put id (.row out))|.store sz x y=>fP (jD O sz (x.ev E fr) (y.ev E fr)) λO'=>K .undef O'|.pY x=>(match x.ev E fr with|.str s=>K (.ptr id 0) (O.put id (.jG s 0))|_=>False)|.rS x=>fP (pV O (x.ev E fr)) λr=>K r.1 r.2|.qI=>K (.map id) (O.put id (.map []))|.oP tag x k v=>fP (iX O tag (x.ev E fr) (k.ev E fr) (v.ev E fr)) λO'=>K .undef O'|.app esz s x=>fP (c8 O id esz (s.ev E fr) (x.ev E fr)) λr=>K r.1 r.2|.call f args=>qK P E (ct f (args.map (·.ev E fr)) O) f (args.map (·.ev E fr)) O K|.jU x args=>OW P E (x.ev E fr) (args.map (·.ev E fr)) O K|.jW f args=>Gy P E (pt f (args.map (·.ev E fr))) f (args.map (·.ev E fr)) O K|.rT x args=>(match x.ev E fr with|.func (.func f) first cap=>qK P E (ct f (first++args.map (·.ev E fr)++cap) O) f (first++args.map (·.ev E fr)++cap) O K|.yield i=>∃Q,CV P E (.yield i) (args.map (·.ev E fr)) O Q/\∀v O',Q v O'->O.aP<=O'.aP/\K v O'|_=>False)|.ju esz n z parts=>fP (gz (rep z n) (parts.map λp=>(p.1,p.2.1,p.2.2.ev E fr))) λout=>K (.aW (chunk esz n out)) O|.ka x=>(x.ev E fr).cs.all IV.aY=true/\K (.bd (x.ev E fr).cs) O|.ph x=>(match x.ev E fr with|.bY es=>K (.ptr id 0) (O.put id (.fJ es zb))|_=>False)|.qJ x=>fP (oA O (x.ev E fr)) λr=>(r.2=[]->K (.tuple [.bool false]) O) /\ ∀j,j<r.2.length->K (.tuple [.bool true,(r.2.getD j (.undef,.undef)).1,(r.2.getD j (.undef,.undef)).2]) (O.put r.1 (.fJ (r.2.eraseIdx j) (za (r.2.getD j (.undef,.undef)))))|.qR x=>fP (nK O (x.ev E fr)) λv=>K v O|.kH esz z x=>fP (qF (x.ev E fr)) λn=>K (.slice id 0 n esz) (O.put id (.row (rep z n)))|.clr esz z x=>fP (qO O esz z (x.ev E fr)) λO'=>O'.aP=O.aP/\K .undef O'|.st k xs=>fP (stI k id O (xs.map (·.ev E fr))) λr=>K r.1 r.2
def KJ{e:PT}{d:CT}(g:TOK P E e d){f:Nat}{args:List IV}{K:IV->aQ->Prop}(h:qK P E (d f args O) f args O K):∃Q,(okF P f=true/\C P E f args O Q)/\∀v s,Q v s->O.aP<=s.aP/\K v s:=by cases b:d f args O with|none=>rw[b]at h;exact h|some Q=>rw[b]at h;exact ⟨Q,g.c _ _ _ Q b,h⟩
def CO{d:PT}{m:CT}(j:TOK P E d m){op:IK}{id:Nat}{K:IV->aQ->Prop}(h:ek d m P E op id fr O K):fc P E op id fr O K:=by cases op with|q q=>exact ou h|alloc z=>exact h|box x=>exact h|lA e n z ps=>exact ou h|store e x y=>exact ou h|app e s x=>exact ou h|qI=>exact h|pY x=>simp only[ek]at h;split at h;{rename_i s he;exact ⟨s,he,h⟩};exact h.elim|rS x=>exact ou h|oP t x y z=>exact ou h|call f xs=>have⟨Q,c,b⟩:=KJ j h;exact ⟨Q,c.2,b⟩|jU x xs=>exact h|jW f xs=>(simp only[ek]at h;cases g:d f (xs.map (·.ev E fr))with|none=>rw[g]at h;exact h|some v=>rw[g]at h;exact ⟨v,j.p _ _ _ g,h⟩)|rT x xs=>simp only[ek]at h;split at h;{rename_i f first cap he;have⟨Q,c,b⟩:=KJ j h;refine ⟨Q,?_,b⟩;rw[he];exact c};{rename_i i he;rw[<- he]at h;exact h};exact h.elim|ju e n z ps=>exact ou h|ka x=>exact h|ph x=>simp only[ek]at h;split at h;{rename_i s he;exact ⟨s,he,h⟩};exact h.elim|qJ x=>have⟨⟨i,l⟩,c,b⟩:=ou h;exact ⟨i,l,c,b⟩|qR x=>exact ou h|kH e z x=>exact ou h|clr e z x=>exact ou h|st k xs=>exact ou h
def nO(pt:PT)(ct:CT)(P:Program)(E:Nat->IV):List bZ->Nat->a8->aQ->(a8->aQ->Prop)->Prop|[],_,fr,O,K=>K fr O|o::rest,id,fr,O,K=>match o.guard with|none=>ek pt ct P E o.op id fr O λv O'=>nO pt ct P E rest (if o.op.cc then id+1 else id) (fr.bS o.dst v) O' K|some (s,want)=>sg (fr.get s) want (ek pt ct P E o.op id fr O λv O'=>nO pt ct P E rest (if o.op.cc then id+1 else id) (fr.bS o.dst v) O' K) (nO pt ct P E rest (if o.op.cc then id+1 else id) (fr.bS o.dst eX) O K)
def Ss{e:PT}{i:CT}(f:TOK P E e i):∀(ops:List bZ)(id:Nat)(fr:a8)(O:aQ)(K:a8->aQ->Prop),nO e i P E ops id fr O K->nM P E ops id fr O K:=by intro ops;induction ops with|nil=>intro id fr O K h;exact h|cons o os ih=>intro id fr O K h;have⟨d,g,op⟩:=o;cases g with|none=>simp only[nO,nM]at h ⊢;exact ⟨true,rfl,ki (λv s k=>ih _ _ _ _ k) (CO f h)⟩|some p=>have⟨s,c⟩:=p;simp only[nO,nM]at h ⊢;have⟨b,ha,h⟩:=LI h;refine ⟨b,ha,?_⟩;cases b with|true=>rw[ab rfl]at h ⊢;exact ki (λv s k=>ih _ _ _ _ k) (CO f h)|false=>rw[aa (by simp)]at h ⊢;exact ih _ _ _ _ h
def gn(E:Nat->IV)(fr:a8)(O:aQ):IK->Prop|.q (.load _ x)=>(match x.ev E fr with|.bd _=>True|.ptr i _=>(match O.aR i with|some (.cells _)=>True|_=>False)|_=>False)|_=>True
def KL{op:IK}(h:gn E fr O op):j8 E fr O op:=by cases op with|q q=>(cases q with|load ag x=>(simp only[gn,j8]at h ⊢;cases he:x.ev E fr<;>rw[he]at h<;>simp only at h ⊢;rename_i i off;cases b:O.aR i with|none=>rw[b]at h;exact h.elim|some ob=>rw[b]at h;cases ob<;>first|exact ⟨_,rfl⟩|exact h.elim)|_=>trivial)|_=>trivial
def lL(pt:PT)(ct:CT)(P:Program)(E:Nat->IV)(B:Bool):List bZ->Nat->a8->aQ->(a8->aQ->Prop)->Prop|[],_,fr,O,K=>K fr O|o::rest,id,fr,O,K=>match o.guard with|none=>(B=true->gn E fr O o.op)/\ek pt ct P E o.op id fr O λv O'=>lL pt ct P E B rest (id+1) (fr.bS o.dst v) O' K|some (s,want)=>sg (fr.get s) want ((B=true->gn E fr O o.op)/\ek pt ct P E o.op id fr O λv O'=>lL pt ct P E B rest (id+1) (fr.bS o.dst v) O' K) (lL pt ct P E B rest (id+1) (fr.bS o.dst eX) O K)
def Su{f:PT}{m:CT}(j:TOK P E f m){B:Bool}{base:Nat}:∀(ops:List bZ)(i:Nat)(fr:a8)(O:aQ)(K:a8->aQ->Prop),lL f m P E B ops (base+i) fr O K->j9 P E B (mG base i ops) fr O K:=by intro ops;induction ops with|nil=>intro i fr O K h;exact h|cons o os ih=>intro i fr O K h;have⟨d,g,op⟩:=o;cases g with|none=>simp only[lL]at h;exact ⟨true,rfl,ki (λv s k=>ih _ _ _ _ k) (CO j h.2),λc=>KL (h.1 c)⟩|some p=>have⟨s,e⟩:=p;simp only[lL]at h;have⟨b,ha,h⟩:=LI h;refine ⟨b,ha,?_⟩;cases b with|true=>exact ⟨ki (λv s k=>ih _ _ _ _ k) (CO j h.2),λc=>KL (h.1 c)⟩|false=>exact ih _ _ _ _ h
def fp(pt:PT)(ct:CT)(P:Program)(E:Nat->IV)(N n0:Nat):IC->a8->aQ->(Exit->a8->aQ->Prop)->Prop|.skip,fr,O,Q=>Q .normal fr O|.lF _ ops aT,fr,O,Q=>nO pt ct P E ops O.aP fr ⟨O.aP+nN ops,O.aR⟩ (λfr' O'=>Q .normal (fr'.aT aT) O')|.se _ ops B aT,fr,O,Q=>lL pt ct P E B ops O.aP fr ⟨O.aP+ops.length,O.aR⟩ (λfr' O'=>Q .normal (fr'.aT aT) O')|.qP _ ops aT,fr,O,Q=>fH P E (m7 O.aP ops) [] fr { O with aP:=O.aP+ops.length } (λfr' O'=>Q .normal (fr'.aT aT) O')|.seq a b,fr,O,Q=>fp pt ct P E N n0 a fr O (λe fr' O'=>match e with|.normal=>fp pt ct P E N n0 b fr' O' Q|e=>Q e fr' O')|.cond x a b,fr,O,Q=>Jr (x.ev E fr) λt=>if t=true then fp pt ct P E N n0 a fr O Q else fp pt ct P E N n0 b fr O Q|.block id a,fr,O,Q=>fp pt ct P E N n0 a fr O (rI id Q)|.loop a,fr,O,Q=>RI P E N n0 (.loop a) fr O Q|.exit id,fr,O,Q=>Q (.exit id) fr O|.ret,fr,O,Q=>Q .ret fr O|.mu g ps y a,fr,O,Q=>RI P E N n0 (.mu g ps y a) fr O Q|.scope a,fr,O,Q=>fp pt ct P E N n0 a fr O (uW Q)
def C3:∀(z:IC)(fr:a8)(O:aQ)(Q d:Exit->a8->aQ->Prop),(∀e f s,Q e f s->d e f s)->nk P E N n0 z fr O Q->nk P E N n0 z fr O d:=by have r:∀(ops:List bZ)(id:Nat)(fr:a8)(O:aQ)(K p:a8->aQ->Prop),(∀f s,K f s->p f s)->nM P E ops id fr O K->nM P E ops id fr O p:=(by intro ops;induction ops with|nil=>intro id fr O K p m h;exact m _ _ h|cons o os ih=>intro id fr O K p m h;simp only[nM]at h ⊢;have⟨j,ha,h⟩:=h;refine ⟨j,ha,?_⟩;cases j with|true=>rw[ab rfl]at h ⊢;exact ki (λv s k=>ih _ _ _ _ _ m k) h|false=>rw[aa (by simp)]at h ⊢;exact ih _ _ _ _ _ m h);have q:∀(u:List Item)(B:Bool)(fr:a8)(O:aQ)(K p:a8->aQ->Prop),(∀f s,K f s->p f s)->j9 P E B u fr O K->j9 P E B u fr O p:=(by intro u;induction u with|nil=>intro B fr O K p m h;exact m _ _ h|cons it u ih=>intro B fr O K p m h;have⟨i,o,id⟩:=it;have⟨j,ha,A⟩:=h;refine ⟨j,ha,?_⟩;cases j with|true=>exact ⟨ki (λv s k=>ih _ _ _ _ _ m k) A.1,A.2⟩|false=>exact ih _ _ _ _ _ m A);intro z;induction z with|skip=>intro fr O Q d c h;exact c _ _ _ h|lF id ops aT=>intro fr O Q d c h;exact r _ _ _ _ _ _ (λf s k=>c _ _ _ k) h|se id ops B aT=>intro fr O Q d c h;exact q _ _ _ _ _ _ (λf s k=>c _ _ _ k) h|qP id ops aT=>intro fr O Q d c h;exact TF _ _ _ _ (λf s k=>c _ _ _ k) h|seq x y ihx ihy=>(intro fr O Q d c h;refine ihx _ _ _ _ ?_ h;intro e f s k;cases e with|normal=>exact ihy _ _ _ _ c k|_=>exact c _ _ _ k)|cond x a b iha ihb=>(intro fr O Q d c h;have⟨t,D,h⟩:=h;refine ⟨t,D,?_⟩;cases t with|true=>exact iha _ _ _ _ c h|false=>exact ihb _ _ _ _ c h)|block id x ih=>(intro fr O Q d c h;refine ih _ _ _ _ ?_ h;intro e f s k;cases e with|exit i=>simp only[rI]at k ⊢;split<;>rename_i hi<;>simp only[hi,af,ae]at k<;>exact c _ _ _ k|_=>exact c _ _ _ k)|scope x ih=>(intro fr O Q d c h;refine ih _ _ _ _ ?_ h;intro e f s k;cases e with|goto l=>exact k|_=>exact c _ _ _ k)|loop x ih=>intro fr O Q d c h;exact gM h c|exit id=>intro fr O Q d c h;exact c _ _ _ h|mu g ps y x ihy ih=>intro fr O Q d c h;exact gM h c|ret=>intro fr O Q d c h;exact c _ _ _ h
def wG{d:PT}{i:CT}(j:TOK P E d i):∀(c:IC)(fr:a8)(O:aQ)(Q:Exit->a8->aQ->Prop),fp d i P E N n0 c fr O Q->nk P E N n0 c fr O Q:=by intro c;induction c with|skip=>intro fr O Q h;exact h|lF id ops aT=>intro fr O Q h;exact Ss j _ _ _ _ _ h|se id ops B aT=>intro fr O Q h;exact Su j _ 0 _ _ _ h|qP id ops aT=>intro fr O Q h;exact h|seq x y ihx ihy=>(intro fr O Q h;have o:=ihx _ _ _ (show fp d i P E N n0 x fr O _ from h);refine C3 x fr O _ (λe fr' O'=>match e with|.normal=>nk P E N n0 y fr' O' Q|e=>Q e fr' O') ?_ o;intro e f s k;cases e with|normal=>exact ihy _ _ _ k|_=>exact k)|cond x a b iha ihb=>(intro fr O Q h;have⟨t,m,h⟩:=TO h;refine ⟨t,m,?_⟩;cases t with|true=>exact iha _ _ _ h|false=>exact ihb _ _ _ h)|block id x ih=>intro fr O Q h;exact ih _ _ _ h|scope x ih=>intro fr O Q h;exact ih _ _ _ h|loop x ih=>intro fr O Q h;exact h|exit id=>intro fr O Q h;exact h|ret=>intro fr O Q h;exact h|mu g ps y x ihy ih=>intro fr O Q h;exact h
def qS(irs:List IR)(Qc:IV->aQ->Prop):Exit->a8->aQ->Prop|.normal,fr,O|.ret,fr,O=>fP (lQ O fr irs) λvs=>Qc (oO vs) O|_,_,_=>False
def KM{b:List IR}{c:IV->aQ->Prop}{e:Exit}(h:qS b c e fr O):QF b c e fr O:=by cases e<;>first|exact ou h|exact h
def C_T{c:PT}{e:CT}(j:TOK P E c e){f:Nat}{an:lZ}{d:IC}{b:List IR}{args:List IV}{g:IV->aQ->Prop}(hf:ue P f N pf an d b)(i:args.length<=N)(h:fp c e P E N O.aP d (kU args 0) O (qS b g)):C P E f args O g :=lv1 hf i (C3 _ _ _ _ _ (λ_ _ _ k=>KM k) (wG j _ _ _ _ h))
def lv4{c:PT}{e:CT}(j:TOK P E c e){f:Nat}{an:lZ}{d:IC}{b:List IR}{args:List IV}{v:IV}(hf:ue P f N pf an d b)(i:args.length<=N)(h:∀O,fp c e P E N O.aP d (kU args 0) O (qS b λg O'=>g=v/\O'=O)):PC P E f args v :=λO=>C_T j hf i (h O)
def OX{b:PT}{c:CT}(d:TOK P E b c){x:IC}{Q:Exit->a8->aQ->Prop}(I:Nat->a8->aQ->Prop)(m:Nat)(h:I m fr O)(e:∀m fr O,I m fr O->fp b c P E N n0 x fr O (vu I m Q)):RI P E N n0 (.loop x) fr O Q :=Nz I m h λm fr O hi=>wG d _ _ _ _ (e m fr O hi)
def nr {c:Sort u}{a b:c}(h:a=b):a=b:=h
def vV (o:Option IV)(O:aQ)(K:IV->aQ->Prop):Prop:=fP o λv=>K v O
def Cl (o:Option aQ)(K:IV->aQ->Prop):Prop:=fP o λs=>K .undef s
def D7 (o:Option (IV×aQ))(K:IV->aQ->Prop):Prop:=fP o λr=>K r.1 r.2
def nU (v:IV)(O:aQ):IV->aQ->Prop:=λv' O'=>v'=v/\O'=O
def QG (o:Option (List IV))(id n esz:Nat)(O:aQ)(K:IV->aQ->Prop):Prop:=fP o λout=>K (.slice id 0 n esz) (O.put id (.row out))
def F6(ct:CT)(P:Program)(E:Nat->IV)(x:IV)(args:List IV)(O:aQ)(K:IV->aQ->Prop):Prop:=match x with|.func (.func f) first cap=>qK P E (ct f (first++args++cap) O) f (first++args++cap) O K|.yield i=>∃Q,CV P E (.yield i) args O Q/\∀v O',Q v O'->O.aP<=O'.aP/\K v O'|_=>False
def Gz (pt:PT)(ct:CT)(P:Program)(E:Nat->IV)(rest:List bZ)(id:Nat)(d:Option Nat)(fr:a8)(K:a8->aQ->Prop):IV->aQ->Prop:=λv O'=>nO pt ct P E rest id (fr.bS d v) O' K
def vC (pt:PT)(ct:CT)(P:Program)(E:Nat->IV)(B:Bool)(rest:List bZ)(id:Nat)(d:Option Nat)(fr:a8)(K:a8->aQ->Prop):IV->aQ->Prop:=λv O'=>lL pt ct P E B rest id (fr.bS d v) O' K
def GA (ks:List Nat)(Q:Exit->a8->aQ->Prop):a8->aQ->Prop:=λfr O=>Q .normal (fr.aT ks) O
def Cm (pt:PT)(ct:CT)(P:Program)(E:Nat->IV)(v:IV)(want:Bool)(op:IK)(id:Nat)(fr:a8)(O:aQ)(K:IV->aQ->Prop):Prop:=sg v want (ek pt ct P E op id fr O K) (K eX O)
def pH (pt:PT)(ct:CT)(P:Program)(E:Nat->IV)(B:Bool)(v:IV)(want:Bool)(op:IK)(id:Nat)(fr:a8)(O:aQ)(K:IV->aQ->Prop):Prop:=sg v want ((B=true->gn E fr O op)/\ek pt ct P E op id fr O K) (K eX O)
def Js (pt:PT)(ct:CT)(P:Program)(E:Nat->IV)(N n0:Nat)(v:IV)(a b:IC)(fr:a8)(O:aQ)(Q:Exit->a8->aQ->Prop):Prop:=Jr v λt=>if t=true then fp pt ct P E N n0 a fr O Q else fp pt ct P E N n0 b fr O Q
def GS(pt:PT)(ct:CT)(P:Program)(E:Nat->IV)(N n0:Nat)(b:IC)(Q:Exit->a8->aQ->Prop):Exit->a8->aQ->Prop:=λe fr' O'=>match e with|.normal=>fp pt ct P E N n0 b fr' O' Q|e=>Q e fr' O'
variable {pt:PT} {ct:CT} {id want:Nat} {K:IV->aQ->Prop} {Kf:a8->aQ->Prop} {Q:Exit->a8->aQ->Prop} {v:IV} {c:Prop} [Decidable c]
def zF {b:Type}(v:b)(K:b->Prop):fP (za v) K=K v:=nr rfl
def zG (v:IV):vV (za v) O K=K v O:=nr rfl
def xM (v:IV):vV (if c then za v else zb) O K=(c/\K v O):=by by_cases h:c<;>simp[h,vV,fP]
def wX (v:IV):vV (if c then zb else za v) O K=(¬c/\K v O):=by by_cases h:c<;>simp[h,vV,fP]
def zH:Cl (za O) K=K .undef O:=nr rfl
def xN:Cl (if c then za O else zb) K=(c/\K .undef O):=by by_cases h:c<;>simp[h,Cl,fP]
def zJ (v:IV):D7 (za (v,O)) K=K v O:=nr rfl
def xO (v:IV):D7 (if c then za (v,O) else zb) K=(c/\K v O):=by by_cases h:c<;>simp[h,D7,fP]
def A1 {f:Nat}{args:List IV}(v:IV):qK P E (za (nU v O')) f args O K=(O.aP<=O'.aP/\K v O'):=propext ⟨λh=>h v O' ⟨rfl,rfl⟩,λh e s' ⟨d,b⟩=>by subst d;subst b;exact h⟩
def Cn {f:Nat}{args:List IV}(v:IV):Gy P E (za v) f args O K=K v O:=nr rfl
def cf {f:Nat}{args:List IV}{v:IV}(h:PC P E f args v)(b:K v O):Gy P E zb f args O K:=⟨v,h,b⟩
def mh {f:Nat}{args:List IV}{b:IV->aQ->Prop}(d:okF P f=true)(h:C P E f args O b)(e:∀v s,b v s->O.aP<=s.aP/\K v s):qK P E zb f args O K:=⟨b,⟨d,h⟩,e⟩
def zK {n esz:Nat}(b:List IV):QG (za b) id n esz O K=K (.slice id 0 n esz) (O.put id (.row b)):=nr rfl
def xP (f:Nat)(first cap args:List IV):F6 ct P E (.func (.func f) first cap) args O K=qK P E (ct f (first++args++cap) O) f (first++args++cap) O K:=nr rfl
def zL {b:List bZ}{d:Nat}(v:IV):Gz pt ct P E b id (za d) fr Kf v O=nO pt ct P E b id ((d,v)::fr) O Kf:=nr rfl
def xQ {b:List bZ}(v:IV):Gz pt ct P E b id zb fr Kf v O=nO pt ct P E b id fr O Kf:=nr rfl
def xR {B:Bool}{b:List bZ}{d:Nat}(v:IV):vC pt ct P E B b id (za d) fr Kf v O=lL pt ct P E B b id ((d,v)::fr) O Kf:=nr rfl
def wY {B:Bool}{b:List bZ}(v:IV):vC pt ct P E B b id zb fr Kf v O=lL pt ct P E B b id fr O Kf:=nr rfl
def zM {ks:List Nat}:GA ks Q fr O=Q .normal (fr.aT ks) O:=nr rfl
def w_q {q:IQ}:ek pt ct P E (.q q) id fr O K=vV (cJ E fr O q) O K:=nr rfl
def xS {z:List IV}:ek pt ct P E (.alloc z) id fr O K=K (.ptr id 0) (O.put id (.cells z)):=nr rfl
def A2 {x:IX}:ek pt ct P E (.box x) id fr O K=((x.ev E fr).cs.all IV.aY=true/\K (.ptr id 0) (O.put id (.cells (x.ev E fr).cs))):=nr rfl
def A3 {esz n:Nat}{z:List IV}{ps:List (Nat×Nat×IX)}:ek pt ct P E (.lA esz n z ps) id fr O K=QG (gz (rep z n) (ps.map λp=>(p.1,p.2.1,p.2.2.ev E fr))) id n esz O K:=nr rfl
def xT {b:Nat}{x y:IX}:ek pt ct P E (.store b x y) id fr O K=Cl (jD O b (x.ev E fr) (y.ev E fr)) K:=nr rfl
def QH(v:IV)(id:Nat)(O:aQ)(K:IV->aQ->Prop):Prop:=match v with|.str s=>K (.ptr id 0) (O.put id (.jG s 0))|_=>False
def zN {s:List UInt8}:QH (.str s) id O K=K (.ptr id 0) (O.put id (.jG s 0)):=nr rfl
def wZ {x:IX}:ek pt ct P E (.pY x) id fr O K=QH (x.ev E fr) id O K:=nr rfl
def xU {x:IX}:ek pt ct P E (.rS x) id fr O K=D7 (pV O (x.ev E fr)) K:=nr rfl
def xV:ek pt ct P E .qI id fr O K=K (.map id) (O.put id (.map [])):=nr rfl
def zO {b:Nat}{x k y:IX}:ek pt ct P E (.oP b x k y) id fr O K=Cl (iX O b (x.ev E fr) (k.ev E fr) (y.ev E fr)) K:=nr rfl
def A4 {esz:Nat}{s x:IX}:ek pt ct P E (.app esz s x) id fr O K=D7 (c8 O id esz (s.ev E fr) (x.ev E fr)) K:=nr rfl
def zP {f:Nat}{args:List IX}:ek pt ct P E (.call f args) id fr O K=qK P E (ct f (args.map (·.ev E fr)) O) f (args.map (·.ev E fr)) O K:=nr rfl
def xW {f:Nat}{args:List IX}:ek pt ct P E (.jW f args) id fr O K=Gy P E (pt f (args.map (·.ev E fr))) f (args.map (·.ev E fr)) O K:=nr rfl
def X7 {x:IX}{args:List IX}:ek pt ct P E (.jU x args) id fr O K=OW P E (x.ev E fr) (args.map (·.ev E fr)) O K:=nr rfl
def xc {x:IX}{args:List IX}:ek pt ct P E (.rT x args) id fr O K=F6 ct P E (x.ev E fr) (args.map (·.ev E fr)) O K:=nr rfl
def A5:nO pt ct P E [] id fr O Kf=Kf fr O:=nr rfl
def zQ {d:Option Nat}{op:IK}{b:List bZ}:nO pt ct P E (⟨d,zb,op⟩::b) id fr O Kf=ek pt ct P E op id fr O (Gz pt ct P E b (if op.cc then id+1 else id) d fr Kf):=nr rfl
def A6 {d:Option Nat}{op:IK}{b:List bZ}{s:Nat}{want:Bool}:nO pt ct P E (⟨d,za (s,want),op⟩::b) id fr O Kf=Cm pt ct P E (fr.get s) want op id fr O (Gz pt ct P E b (if op.cc then id+1 else id) d fr Kf):=nr rfl
def zR {B:Bool}:lL pt ct P E B [] id fr O Kf=Kf fr O:=nr rfl
def xX{d:Option Nat}{op:IK}{b:List bZ}:lL pt ct P E false (⟨d,zb,op⟩::b) id fr O Kf=ek pt ct P E op id fr O (vC pt ct P E false b (id+1) d fr Kf):=by have:lL pt ct P E false (⟨d,zb,op⟩::b) id fr O Kf=((false=true->gn E fr O op)/\ek pt ct P E op id fr O (vC pt ct P E false b (id+1) d fr Kf)):=nr rfl;rw[this];simp
def xY{d:Option Nat}{op:IK}{b:List bZ}:lL pt ct P E true (⟨d,zb,op⟩::b) id fr O Kf=(gn E fr O op/\ek pt ct P E op id fr O (vC pt ct P E true b (id+1) d fr Kf)):=by have:lL pt ct P E true (⟨d,zb,op⟩::b) id fr O Kf=((true=true->gn E fr O op)/\ek pt ct P E op id fr O (vC pt ct P E true b (id+1) d fr Kf)):=nr rfl;rw[this];simp
def zS {B:Bool}{d:Option Nat}{op:IK}{b:List bZ}{s:Nat}{want:Bool}:lL pt ct P E B (⟨d,za (s,want),op⟩::b) id fr O Kf=pH pt ct P E B (fr.get s) want op id fr O (vC pt ct P E B b (id+1) d fr Kf):=nr rfl
def A7 {op:IK}:Cm pt ct P E (.bool true) true op id fr O K=ek pt ct P E op id fr O K:=nr rfl
def A8 {op:IK}:Cm pt ct P E (.bool false) false op id fr O K=ek pt ct P E op id fr O K:=nr rfl
def A9 {op:IK}:Cm pt ct P E (.bool true) false op id fr O K=K eX O:=nr rfl
def Ba {op:IK}:Cm pt ct P E (.bool false) true op id fr O K=K eX O:=nr rfl
def Bb {op:IK}:pH pt ct P E false (.bool true) true op id fr O K=ek pt ct P E op id fr O K:=by simp[pH,sg,s7]
def Bc {op:IK}:pH pt ct P E false (.bool false) false op id fr O K=ek pt ct P E op id fr O K:=by simp[pH,sg,s7]
def Be {B:Bool}{op:IK}:pH pt ct P E B (.bool true) false op id fr O K=K eX O:=nr rfl
def Bf {B:Bool}{op:IK}:pH pt ct P E B (.bool false) true op id fr O K=K eX O:=nr rfl
def Bg {op:IK}:pH pt ct P E true (.bool true) true op id fr O K=(gn E fr O op/\ek pt ct P E op id fr O K):=by simp[pH,sg,s7]
def Bh {op:IK}:pH pt ct P E true (.bool false) false op id fr O K=(gn E fr O op/\ek pt ct P E op id fr O K):=by simp[pH,sg,s7]
def Co {op:IK}{want:Bool}:Cm pt ct P E eX want op id fr O K=K eX O:=nr rfl
def Cp {B want:Bool}{op:IK}:pH pt ct P E B eX want op id fr O K=K eX O:=nr rfl
def zT:fp pt ct P E N n0 .skip fr O Q=Q .normal fr O:=nr rfl
def Bi {i:Nat}{ops:List bZ}{ks:List Nat}:fp pt ct P E N n0 (.lF i ops ks) fr O Q=nO pt ct P E ops O.aP fr ⟨O.aP+nN ops,O.aR⟩ (GA ks Q):=nr rfl
def zV {i:Nat}{ops:List bZ}{B:Bool}{ks:List Nat}:fp pt ct P E N n0 (.se i ops B ks) fr O Q=lL pt ct P E B ops O.aP fr ⟨O.aP+ops.length,O.aR⟩ (GA ks Q):=nr rfl
def Bj {x y:IC}:fp pt ct P E N n0 (.seq x y) fr O Q=fp pt ct P E N n0 x fr O (GS pt ct P E N n0 y Q):=nr rfl
def zW {i:IX}{x y:IC}:fp pt ct P E N n0 (.cond i x y) fr O Q=Js pt ct P E N n0 (i.ev E fr) x y fr O Q:=nr rfl
def xZ {i:Nat}{x:IC}:fp pt ct P E N n0 (.block i x) fr O Q=fp pt ct P E N n0 x fr O (rI i Q):=nr rfl
def zX {x:IC}:fp pt ct P E N n0 (.loop x) fr O Q=RI P E N n0 (.loop x) fr O Q:=nr rfl
def yc {g:IX}{ps:List Nat}{x y:IC}:fp pt ct P E N n0 (.mu g ps y x) fr O Q=RI P E N n0 (.mu g ps y x) fr O Q:=nr rfl
def NJ(v:IV)(id:Nat)(O:aQ)(K:IV->aQ->Prop):Prop:=match v with|.bY es=>K (.ptr id 0) (O.put id (.fJ es zb))|_=>False
def OY(o:Option (Nat×List (IV×IV)))(O:aQ)(K:IV->aQ->Prop):Prop:=fP o λr=>(r.2=[]->K (.tuple [.bool false]) O) /\ ∀j,j<r.2.length->K (.tuple [.bool true,(r.2.getD j (.undef,.undef)).1,(r.2.getD j (.undef,.undef)).2]) (O.put r.1 (.fJ (r.2.eraseIdx j) (za (r.2.getD j (.undef,.undef)))))
def xf {x:IX}:ek pt ct P E (.ph x) id fr O K=NJ (x.ev E fr) id O K:=nr rfl
def wH {es:List (IV×IV)}:NJ (.bY es) id O K=K (.ptr id 0) (O.put id (.fJ es zb)):=nr rfl
def yd {x:IX}:ek pt ct P E (.qJ x) id fr O K=OY (oA O (x.ev E fr)) O K:=nr rfl
def xg{i:Nat}{l:List (IV×IV)}:OY (za (i,l)) O K=((l=[]->K (.tuple [.bool false]) O) /\ ∀j,j<l.length->K (.tuple [.bool true,(l.getD j (.undef,.undef)).1,(l.getD j (.undef,.undef)).2]) (O.put i (.fJ (l.eraseIdx j) (za (l.getD j (.undef,.undef)))))):=nr rfl
def zY {x:IX}:ek pt ct P E (.qR x) id fr O K=vV (nK O (x.ev E fr)) O K:=nr rfl
def zZ {x:IX}:ek pt ct P E (.ka x) id fr O K=((x.ev E fr).cs.all IV.aY=true/\K (.bd (x.ev E fr).cs) O):=nr rfl
def P2 (o:Option (List IV))(esz n:Nat)(O:aQ)(K:IV->aQ->Prop):Prop:=fP o λout=>K (.aW (chunk esz n out)) O
def Aa {esz n:Nat}{z:List IV}{ps:List (Nat×Nat×IX)}:ek pt ct P E (.ju esz n z ps) id fr O K=P2 (gz (rep z n) (ps.map λp=>(p.1,p.2.1,p.2.2.ev E fr))) esz n O K:=nr rfl
def ye {esz n:Nat}{b:List IV}:P2 (za b) esz n O K=K (.aW (chunk esz n b)) O:=nr rfl
def Ab {i:Nat}:fp pt ct P E N n0 (.exit i) fr O Q=Q (.exit i) fr O:=nr rfl
def Bk:fp pt ct P E N n0 .ret fr O Q=Q .ret fr O:=nr rfl
def Cr {x y:IC}:Js pt ct P E N n0 (.bool true) x y fr O Q=fp pt ct P E N n0 x fr O Q:=nr rfl
def Cs {x y:IC}:Js pt ct P E N n0 (.bool false) x y fr O Q=fp pt ct P E N n0 y fr O Q:=nr rfl
def Bl {y:IC}:GS pt ct P E N n0 y Q .normal fr O=fp pt ct P E N n0 y fr O Q:=nr rfl
def Bm {y:IC}{i:Nat}:GS pt ct P E N n0 y Q (.exit i) fr O=Q (.exit i) fr O:=nr rfl
def Bn {y:IC}:GS pt ct P E N n0 y Q .ret fr O=Q .ret fr O:=nr rfl
def Bo {i:Nat}:rI i Q .normal fr O=Q .normal fr O:=nr rfl
def Bp {i:Nat}:rI i Q .ret fr O=Q .ret fr O:=nr rfl
def Bq {i j:Nat}:rI i Q (.exit j) fr O=if j=i then Q .normal fr O else Q (.exit j) fr O:=nr rfl
def Br {I:Nat->a8->aQ->Prop}{m:Nat}:vu I m Q .normal fr O=∃b,b<m/\I b fr O:=nr rfl
def Bs {I:Nat->a8->aQ->Prop}{m i:Nat}:vu I m Q (.exit i) fr O=Q (.exit i) fr O:=nr rfl
def Bt {I:Nat->a8->aQ->Prop}{m:Nat}:vu I m Q .ret fr O=Q .ret fr O:=nr rfl
def Bu {b:List IR}{d:IV->aQ->Prop}:qS b d .ret fr O=fP (lQ O fr b) λvs=>d (oO vs) O:=nr rfl
def Ac {b:List IR}{d:IV->aQ->Prop}:qS b d .normal fr O=fP (lQ O fr b) λvs=>d (oO vs) O:=nr rfl
end Go.Id
namespace Go.Id
open Go
variable {P:Program} {E:Nat->IV} {O O':aQ} {fr:a8} {x y z:IX} {k k':IntKind} {a b:Int} {s t:List UInt8} {n m off esz len:Nat} {v u:IV}
variable {j:Nat}
def bH{o:bU}:(O.put j o).aP=O.aP:=nr rfl
def aV{i:Nat}{o:bU}:(O.put j o).aR i=if i=j then za o else O.aR i:=nr rfl
def e_t:(IX.t n).ev E fr=fr.get n:=nr rfl
def e_c:(IX.c v).ev E fr=v:=nr rfl
def e_g:(IX.g n).ev E fr=E n:=nr rfl
def e_f:(IX.f n).ev E fr=.func (.func n) [] []:=nr rfl
def Bv:cJ E fr O (.lh x)=za (x.ev E fr):=nr rfl
def Ad:cJ E fr O (.pick x y z)=iZ (x.ev E fr) (y.ev E fr) (z.ev E fr):=nr rfl
def Bw:cJ E fr O (.not x)=D1 (x.ev E fr):=nr rfl
def Bx:cJ E fr O (.neg x)=D2 (x.ev E fr):=nr rfl
def By {op:BinOp}:cJ E fr O (.bin op x y)=dF op (x.ev E fr) (y.ev E fr):=nr rfl
variable {c:Bool}
def gk{d:TypeDesc}:cJ E fr O (.AT d c x)=(gg d (x.ev E fr)).map λb=>.bool (b ^^ c):=nr rfl
def Bz{d:List Nat}{h:Bool}:cJ E fr O (.eqs d c h x y)=sd d c h (x.ev E fr) (y.ev E fr):=nr rfl
def Ae:cJ E fr O (.conv k x)=DQ k (x.ev E fr):=nr rfl
def yf:cJ E fr O (.DR x)=Dv (x.ev E fr):=nr rfl
def BA:cJ E fr O (.len n x)=gR n O (x.ev E fr):=nr rfl
def yg:cJ E fr O (.tR off x)=qE off (x.ev E fr):=nr rfl
variable {d:Option Nat}
def BC:cJ E fr O (.fld d off x)=Cb d off (x.ev E fr):=nr rfl
def yh:cJ E fr O (.tS esz x y)=kC esz (x.ev E fr) (y.ev E fr):=nr rfl
def yi:cJ E fr O (.AU n esz x y)=zC n esz (x.ev E fr) (y.ev E fr):=nr rfl
def BD:cJ E fr O (.idx d n esz x y)=vP d n esz (x.ev E fr) (y.ev E fr):=nr rfl
def Af:cJ E fr O (.Cf x y)=tO (x.ev E fr) (y.ev E fr):=nr rfl
def BF {lo hi:Option IX}:cJ E fr O (.slc esz x lo hi)=gm esz (lo.map (·.ev E fr)) (hi.map (·.ev E fr)) (x.ev E fr):=nr rfl
def Ag {lo hi:Option IX}:cJ E fr O (.Cg x lo hi)=pA (lo.map (·.ev E fr)) (hi.map (·.ev E fr)) (x.ev E fr):=nr rfl
def BG:cJ E fr O (.slz x)=sc (x.ev E fr):=nr rfl
def BH:cJ E fr O (.ext n x)=vQ n (x.ev E fr):=nr rfl
variable {f:List IX}
def BI{cs:List IX}:cJ E fr O (.mkf n f cs)=za (.func (.func n) (f.map (·.ev E fr)) (cs.map (·.ev E fr))):=nr rfl
variable {g:List (Nat×Nat×IX)}
def BJ{zs:List IV}:cJ E fr O (.bld zs g)=(gz zs (g.map λp=>(p.1,p.2.1,p.2.2.ev E fr))).map .agg:=nr rfl
def Ah:cJ E fr O (.load d x)=iI O d (x.ev E fr):=nr rfl
def Ai:cJ E fr O (.vR x)=tP (x.ev E fr):=nr rfl
def uf:cJ E fr O (.mm c x y)=pL c (x.ev E fr) (y.ev E fr):=nr rfl
def tU:pL true (.int k a) (.int k' b)=za (.int k (if b>a then b else a)):=by simp[pL]
def vD:pL false (.int k a) (.int k' b)=za (.int k (if b<a then b else a)):=by simp[pL]
def vE{zero:IV}:cJ E fr O (.lE n zero c x y)=fy O n zero c (x.ev E fr) (y.ev E fr):=nr rfl
def yj:a8.aT fr []=[]:=nr rfl
def yk {ks:List Nat}:a8.aT fr (n::ks)=(n,fr.get n)::a8.aT fr ks:=nr rfl
def Aj:kU [] n=[]:=nr rfl
variable {p:List IV}
def Ak:kU (v::p) n=(n,v)::kU p (n+1):=nr rfl
def yl:nN []=0:=nr rfl
def ym{g:Option (Nat×Bool)}{op:IK}{e:List bZ}:nN (⟨d,g,op⟩::e)=(if op.cc=true then 1 else 0)+nN e:=nr (Hp _ _)
def Ct {q:IQ}:(IK.q q).cc=false:=nr rfl
def xh {zs:List IV}:(IK.alloc zs).cc=true:=nr rfl
def Al:(IK.box x).cc=true:=nr rfl
def Am{zs:List IV}:(IK.lA esz n zs g).cc=true:=nr rfl
def An:(IK.app esz x y).cc=true:=nr rfl
def xi:IK.qI.cc=true:=nr rfl
def yp:(IK.oP n x y z).cc=false:=nr rfl
def wI:(IK.pY x).cc=true:=nr rfl
def xj:(IK.rS x).cc=false:=nr rfl
def wJ:(IK.ph x).cc=true:=nr rfl
def yq {zs:List IV}:(IK.kH esz zs x).cc=true:=nr rfl
def Ao {zs:List IV}:(IK.clr esz zs x).cc=false:=nr rfl
def yr:(IK.qR x).cc=false:=nr rfl
def xk:(IK.qJ x).cc=false:=nr rfl
def yu:(IK.ka x).cc=false:=nr rfl
def yv{zs:List IV}:(IK.ju esz n zs g).cc=false:=nr rfl
def lj4:cJ E fr O (.ibs x y)=D3 (x.ev E fr) (y.ev E fr):=nr rfl
def km5:D3 (.str s) (.int .u8 a)=if 0<=a/\a<256 then za (.int .i64 (mE a.toNat s 0)) else zb:=nr rfl
def xl:(IK.store n x y).cc=false:=nr rfl
def yw:(IK.call n f).cc=false:=nr rfl
def xm:(IK.jW n f).cc=false:=nr rfl
def VK:(IK.jU x f).cc=false:=nr rfl
def xo:(IK.rT x f).cc=false:=nr rfl
variable {i h:Type}
def Ap{f:i->h}:List.map f []=[]:=nr rfl
def Aq{f:i->h}{c:i}{cs:List i}:List.map f (c::cs)=f c::List.map f cs:=nr rfl
def vF{f:i->h}:Option.map f zb=zb:=nr rfl
def vG{f:i->h}{c:i}:Option.map f (za c)=za (f c):=nr rfl
def yx:iZ (.bool true) v u=za v:=nr rfl
def yy:iZ (.bool false) v u=za u:=nr rfl
def yz{d:Bool}:iZ (.bool c) (.bool true) (.bool d)=za (.bool (c||d)):=by cases c<;>rfl
def yA{d:Bool}:iZ (.bool c) (.bool d) (.bool false)=za (.bool (c&&d)):=by cases c<;>rfl
def Ar:D1 (.bool c)=za (.bool !c):=nr rfl
def As:D2 (.int k a)=za (.int k (k.wrap (0-a))):=nr rfl
def yB:DQ k (.int k' a)=za (.int k (k.wrap a)):=nr rfl
def xp:Dv (.str s)=za (.str s):=nr rfl
def BK:dF .add (.int k a) (.int k b)=za (.int k (k.wrap (a+b))):=by simp[dF,m6]
def BL:dF .sub (.int k a) (.int k b)=za (.int k (k.wrap (a-b))):=by simp[dF,m6]
def BM:dF .mul (.int k a) (.int k b)=za (.int k (k.wrap (a*b))):=by simp[dF,m6]
def BN:dF .quo (.int k a) (.int k b)=if b=0 then zb else za (.int k (k.wrap (a.tdiv b))):=by simp[dF,m6]
def BO:dF .rem (.int k a) (.int k b)=if b=0 then zb else za (.int k (a.tmod b)):=by simp[dF,m6]
def BP:dF .eql (.int k a) (.int k b)=za (.bool (decide (a=b))):=by simp[dF,m6]
def BQ:dF .neq (.int k a) (.int k b)=za (.bool (!decide (a=b))):=by simp[dF,m6]
def BR:dF .lss (.int k a) (.int k b)=za (.bool (decide (a<b))):=by simp[dF,m6]
def BS:dF .leq (.int k a) (.int k b)=za (.bool (decide (a<=b))):=by simp[dF,m6]
def BU:dF .gtr (.int k a) (.int k b)=za (.bool (decide (b<a))):=by simp[dF,m6]
def BV:dF .geq (.int k a) (.int k b)=za (.bool (decide (b<=a))):=by simp[dF,m6]
def BW:dF .shl (.int k a) (.int k' b)=if 0<=b then za (.int k (k.wrap (a*2^(min b.toNat k.bits)))) else zb:=by simp[dF]
def vH:dF .shr (.int k a) (.int k' b)=if 0<=b then za (.int k (a.fdiv (2^(min b.toNat k.bits)))) else zb:=by simp[dF]
def uY:dF .add (.str s) (.str t)=if s.length+t.length<2^62 then za (.str (s++t)) else zb:=by simp[dF,sX]
def Au:dF .eql (.str s) (.str t)=za (.bool (decide (s=t))):=by simp[dF,sX]
def Av:dF .neq (.str s) (.str t)=za (.bool (!decide (s=t))):=by simp[dF,sX]
def Aw:dF .lss (.str s) (.str t)=za (.bool (Op.bytesLess s t)):=by simp[dF,sX]
def Ax:dF .leq (.str s) (.str t)=za (.bool (Op.bytesLess s t||decide (s=t))):=by simp[dF,sX]
def Ay:dF .gtr (.str s) (.str t)=za (.bool (!(Op.bytesLess s t||decide (s=t)))):=by simp[dF,sX]
def Az:dF .geq (.str s) (.str t)=za (.bool (!Op.bytesLess s t)):=by simp[dF,sX]
variable {e:List (List IV)}
def AA:gR 0 O (.aW e)=za (.int .i64 e.length):=nr rfl
def AB:gR 0 O .bc=za (.int .i64 0):=nr rfl
def AC:gR 0 O .cw=za (.int .i64 0):=nr rfl
def km6:gR 0 O .dN=za (.int .i64 0):=nr rfl
def uZ:gR 0 O (.slice n off len esz)=za (.int .i64 len):=nr rfl
def xq:gR 1 O (.str s)=za (.int .i64 s.length):=nr rfl
def yC:tP (.ptr n off)=za (.ptr n off):=nr rfl
def yD {cs:List IV}:tP (.bd cs)=za (.bd cs):=nr rfl
variable {q:List IV}
def yE{f:FuncId}:tP (.func (.func f) p q)=za (.func (.func f) p q):=nr rfl
def AD:sc .bc=za .bc:=nr rfl
def AE:sc .cw=za .cw:=nr rfl
def km7:sc .dN=za .cw:=nr rfl
def AF:sc (.aW e)=if e=[] then za (.aW []) else za .cw:=nr rfl
def AG:sc (.slice n off len esz)=za .cw:=nr rfl
def BX:lQ O fr []=za []:=nr rfl
def BY:lQ O fr [.t n]=za [fr.get n]:=nr rfl
def AH:lQ O fr [.t n,.t m]=za [fr.get n,fr.get m]:=nr rfl
def BZ:lQ O fr [.cell d n]=(iI O d (fr.get n)).map λv=>[v]:=by simp only[lQ,irV];cases iI O d (fr.get n)<;>rfl
def yF:oO [v]=v:=nr rfl
def yG:oO [v,u]=.tuple [v,u]:=nr rfl
def yH:oO []=.tuple []:=nr rfl
def sQ(ag:Option Nat)(off:Nat):Option bU->Option IV|some (.cells cs)|some (.row cs)=>(match ag with|none=>(cs.drop off).head?|some n=>if n<=(cs.drop off).length then za (.agg ((cs.drop off).take n)) else zb)|_=>zb
def yI:iI O d (.ptr n off)=sQ d off (O.aR n):=by cases h:O.aR n with|none=>simp[iI,lJ,sQ,h]|some o=>cases o<;>cases d<;>simp[iI,lJ,sQ,h]
def yJ {cs:List IV}:iI O zb (.bd cs)=cs.head?:=nr rfl
def xr {cs:List IV}:iI O (za n) (.bd cs)=if n<=cs.length then za (.agg (cs.take n)) else zb:=nr rfl
def my {cs:List IV}:sQ zb off (za (.cells cs))=(cs.drop off).head?:=nr rfl
def nP {cs:List IV}:sQ (za n) off (za (.cells cs))=if n<=(cs.drop off).length then za (.agg ((cs.drop off).take n)) else zb:=nr rfl
def B4 {cs:List IV}:sQ zb off (za (.row cs))=(cs.drop off).head?:=nr rfl
def vI {cs:List IV}:sQ (za n) off (za (.row cs))=if n<=(cs.drop off).length then za (.agg ((cs.drop off).take n)) else zb:=nr rfl
def DC(O:aQ)(id off n:Nat)(vs:List IV):Option bU->Option aQ|some (.cells cs)=>if vs.length=n/\off+n<=cs.length/\vs.all IV.aY=true then za (O.put id (.cells (cO cs off vs))) else zb|some (.row cs)=>if vs.length=n/\off+n<=cs.length/\vs.all IV.aY=true then za (O.put id (.row (cO cs off vs))) else zb|_=>zb
def xu:jD O n (.ptr m off) v=DC O m off n v.cs (O.aR m):=by cases h:O.aR m with|none=>simp[jD,DC,h]|some o=>cases o<;>simp[jD,DC,h]
def B5{cs:List IV}:DC O m off n p (za (.cells cs))=if p.length=n/\off+n<=cs.length/\p.all IV.aY=true then za (O.put m (.cells (cO cs off p))) else zb:=nr rfl
def vJ{cs:List IV}:DC O m off n p (za (.row cs))=if p.length=n/\off+n<=cs.length/\p.all IV.aY=true then za (O.put m (.row (cO cs off p))) else zb:=nr rfl
def xw:kC esz (.aW e) (.int k a)=if 0<=a/\a<e.length/\(e.getD a.toNat []).length=esz then za (.bd (e.getD a.toNat [])) else zb:=nr rfl
def xx:kC esz (.slice n off len m) (.int k a)=if 0<=a/\a<len/\m=esz then za (.ptr n (off+a.toNat*esz)) else zb:=nr rfl
def yK {cs:List IV}:qE n (.bd cs)=za (.bd (cs.drop n)):=nr rfl
def yL:qE n (.ptr m off)=za (.ptr m (off+n)):=nr rfl
def yM {cs:List IV}:IV.cs (.agg cs)=cs:=nr rfl
def yN:IV.cs (.int k a)=[.int k a]:=nr rfl
def xy:IV.cs (.bool c)=[.bool c]:=nr rfl
def yO:IV.cs (.str s)=[.str s]:=nr rfl
def yP:IV.cs (.ptr n off)=[.ptr n off]:=nr rfl
def xz {cs:List IV}:IV.cs (.bd cs)=[.bd cs]:=nr rfl
def wK:IV.cs (.slice n off len esz)=[.slice n off len esz]:=nr rfl
def wB:IV.cs (.aW e)=[.aW e]:=nr rfl
def xA{f:Fn}:IV.cs (.func f p q)=[.func f p q]:=nr rfl
def yQ:IV.cs (.map n)=[.map n]:=nr rfl
def xB {es:List (IV×IV)}:IV.cs (.bY es)=[.bY es]:=nr rfl
def AI:IV.cs .bc=[.bc]:=nr rfl
def AJ:IV.cs .cw=[.cw]:=nr rfl
def km8:IV.cs .dN=[.dN]:=nr rfl
def AK:IV.cs .ee=[.ee]:=nr rfl
def yR:IV.aY (.int k a)=true:=nr rfl
def xC:IV.aY (.bool c)=true:=nr rfl
def yS:IV.aY (.str s)=true:=nr rfl
def yT:IV.aY (.ptr n off)=true:=nr rfl
def xD {cs:List IV}:IV.aY (.bd cs)=true:=nr rfl
def wL:IV.aY (.slice n off len esz)=true:=nr rfl
def wC:IV.aY (.aW e)=true:=nr rfl
def xE{f:Fn}:IV.aY (.func f p q)=true:=nr rfl
def yU:IV.aY (.map n)=true:=nr rfl
def xF {es:List (IV×IV)}:IV.aY (.bY es)=true:=nr rfl
def AL:IV.aY .bc=true:=nr rfl
def AM:IV.aY .cw=true:=nr rfl
def km9:IV.aY .dN=true:=nr rfl
def AN:IV.aY .ee=true:=nr rfl
def F7(O:aQ)(id:Nat):Option bU->Option (IV×aQ)|some (.jG s pos)=>if pos<s.length then za (.tuple [.bool true,.int .i64 pos,.int .i32 (Utf8.decode ⟨s.toArray⟩ pos).1],O.put id (.jG s (pos+(Utf8.decode ⟨s.toArray⟩ pos).2))) else za (.tuple [.bool false],O)|_=>zb
def tG:pV O (.ptr n 0)=F7 O n (O.aR n):=by cases h:O.aR n with|none=>simp[pV,F7,h]|some o=>cases o<;>simp[pV,F7,h]
def ug:F7 O n (za (.jG s j))=if j<s.length then za (.tuple [.bool true,.int .i64 j,.int .i32 (Utf8.decode ⟨s.toArray⟩ j).1],O.put n (.jG s (j+(Utf8.decode ⟨s.toArray⟩ j).2))) else za (.tuple [.bool false],O):=nr rfl
def AO {cs:List IV}:vQ n (.tuple cs)=cs[n]?:=by cases h:cs[n]?<;>simp[vQ,h]
def B6:(aQ.mk O.aP O.aR)=O:=nr rfl
def wrap64{x:Int}(e:-9223372036854775808<=x)(d:x<9223372036854775808):IntKind.i64.wrap x=x:=by simp[IntKind.wrap,IntKind.bits,IntKind.signed];omega
end Go.Id
namespace Go.Id
open Go
variable {P:Program} {w w' w'':World} {ρ ρ' ρ'':bC} {E:Nat->IV} {O O':aQ} {N n n':Nat}
abbrev bM (n:Nat)(v:IV):Prop:=Nm (λi=>i<n) v
abbrev gH (O:aQ)(n:Nat)(v v':IV):Prop:=de O (λi=>i<n) v v'
def bC.cut (ρ:bC)(n:Nat):bC:=⟨λi=>if i<n then ρ i else .no,ρ.X⟩
def OZ(ρ:bC)(n:Nat):nJ (λi=>i<n) ρ (ρ.cut n):=⟨λi h=>by show (if i<n then ρ i else jK.no)=_;rw[ab h],λi h=>by show (if i<n then ρ i else jK.no)=_;rw[aa h],λ_ h=>.inl h⟩
def TP(hf:∀i,n<=i->ρ i=.no):∀i,ρ i≠.no->i<n:=λi h=>by rcases qk i n with d|d;{exact d};exact au (hf i d) h
variable {f:Nat}{a:List IV}
def Jt{v:IV}(h:(∀b∈a,bM O.aP b)->C P E f a O λL O'=>(∀i,i<O.aP->O'.aR i=O.aR i)/\O.aP<=O'.aP/\gH O' O.aP L v):C P E f a O (nU v O):=by intro ρ w p hs ha;have q:=TP hs.fresh;have J:∀b∈a,bM O.aP b:=λb S=>let ⟨i,hi,he⟩:=jT (d:=.undef) S;he▸(ha.2 i hi).nm q;refine CallsIn.mono (h J ρ w p hs ha) ?_;rintro e w' ⟨L,r,ρ',O',rfl,⟨H,T,F⟩,D,G,j⟩;have I:∀i,O.aP<=i->O.aR i=zb:=λi hi=>hs.eI i (hs.fresh i hi);have A:=OZ ρ' O.aP;refine ⟨v,r,ρ'.cut O.aP,O,rfl,⟨rfl,rfl⟩,D.D4 A H (λi hi=>I i om) (λi o _ M=>hs.nmO q i o M) (λi hi=>A.off i om) (λg=>(hs.env g).nm q),F.vr A rfl D r G,?_⟩;exact ⟨j.size,j.aT,j.shape,λi B d hi=>j.iE i B d (A.at hi).2,λi B d hi h=>by rw[A.on i hi];exact j.at_ i B d hi h,λi hi h=>by rw[A.on i hi];exact j.dead i hi h,λi hi h=>by rw[A.on i hi];exact j.no i hi h,j.output,j.os,j.tape,j.loops,j.X⟩
def lM{v:IV}(h:PC P E f a v):C P E f a O (nU v O):=h O
def O3{v:IV}(h:∀O,(∀b∈a,bM O.aP b)->C P E f a O λd O'=>(∀i,i<O.aP->O'.aR i=O.aR i)/\O.aP<=O'.aP/\gH O' O.aP d v):PC P E f a v :=λO=>Jt (h O)
def lj5{pt:PT}{ct:CT}{pf:List Nat}(p:TOK P E pt ct){an:lZ}{e:IC}{d:List IR}{v:IV}(hf:ue P f N pf an e d)(j:a.length<=N)(h:∀O,(∀b∈a,bM O.aP b)->fp pt ct P E N O.aP e (kU a 0) O (qS d λg O'=>(∀i,i<O.aP->O'.aR i=O.aR i)/\O.aP<=O'.aP/\gH O' O.aP g v)):PC P E f a v :=O3 λO o=>C_T p hf j (h O o)
def IV.plain:IV->Bool|.bool _|.int _ _|.str _=>true|.tuple vs=>vs.attach.all λ⟨v,_⟩=>v.plain|.agg vs=>vs.attach.all λ⟨v,_⟩=>v.plain|_=>false
def X8{v:IV}{r:Value}(h:v.plain=true)(d:VR ρ w v r):VR ρ' w' v r:=by induction d with|bool b=>exact .bool _|int k n=>exact .int _ _|str s=>exact .str _|agg cs rs hl d ih=>refine .agg cs rs hl λi hi=>ih i hi ?_;unfold IV.plain at h;exact zd.1 h ⟨_,eY .undef hi⟩ (List.mem_attach _ _)|tuple cs rs hl d ih=>refine .tuple cs rs hl λi hi=>ih i hi ?_;unfold IV.plain at h;exact zd.1 h ⟨_,eY .undef hi⟩ (List.mem_attach _ _)|_=>simp[IV.plain]at h
def Kh(S:Nat->Prop)(ρ:bC):∃ρ':bC,nJ S ρ ρ'/\∀b,ρ'.X b↔ρ.X b\/∃i d,¬S i/\ρ i=.at b d:=by refine ⟨⟨λi=>if qc (S i) |>.decide then ρ i else .no,λb=>ρ.X b\/∃i d,¬S i/\ρ i=.at b d⟩,⟨λi h=>?_,λi h=>?_,λb h=>h⟩,λb=>Iff.rfl⟩;{show (if (qc (S i)).decide=true then ρ i else jK.no)=_;rw[ab (by simpa using h)]};show (if (qc (S i)).decide=true then ρ i else jK.no)=_;rw[aa (by simpa using h)]
def aQ.only (O:aQ)(S:Nat->Bool):aQ:=⟨O.aP,λi=>if S i then O.aR i else zb⟩
def aQ.back (O' O:aQ)(S:Nat->Bool):aQ:=⟨O'.aP,λi=>if S i then O'.aR i else O.aR i⟩
def MC{v:IV}(hE:∀g,bM 0 (E g))(ha:∀c∈a,bM 0 c)(h:C P E f a ⟨0,λ_=>zb⟩ λv' O'=>gH O' 0 v' v):PC P E f a v:=by intro O ρ w p hs hr;have⟨ρ0,H,hX⟩:=Kh (λ_=>False) ρ;have U:bF E ρ0 w ⟨0,λ_=>zb⟩:=hs.D4 H (λi h=>h.elim) (λ_ _=>rfl) (λi o h=>h.elim) (λi _=>H.off i (λh=>h)) (λg=>(hE g).b9 λi h=>au h (zj _));have W:CR ρ0 w a p:=⟨hr.1,λi hi=>(hr.2 i hi).cut H ((ha _ (eY _ hi)).b9 λi h=>au h (zj _))⟩;refine CallsIn.mono (h ρ0 w p U W) ?_;rintro e w' ⟨v',r,ρ',O',rfl,Z,V,T,A⟩;have F:∀i,ρ0 i=.no:=λi=>H.off i (λh=>h);have j:∀b,b<w.heap.size->w'.heap[b]? = w.heap[b]?:=λb D=>A.aT b ⟨D,λi d h=>by rw[F i]at h;cases h⟩;have G:∀(b:Nat)(o:Obj),w.heap[b]? = za o->b<w.heap.size:=λb o h=>(by rcases qk b w.heap.size with h'|h';{exact h'};rw[zz h']at h;cases h);have q:∀n,Ext n ρ w ρ w':=λn=>⟨A.size,λb D=>j b D.1,λb I el fz h=>⟨I,by rw[j b (G b _ h)];exact h,rfl⟩,λi B d h=>.inl ⟨i,d,h⟩,λi B d h=>.inl h,λi h=>h,λi _ h=>h,A.output,A.os,A.tape,λl L h=>⟨L,by rw[j l (G l _ h)];exact h⟩,rfl⟩;let ρ1:bC:=⟨λ_=>.no,ρ'.X⟩;have Y:nJ (λi=>i<0) ρ' ρ1:=⟨λi h=>au h (zj _),λi _=>rfl,λb h=>.inl h⟩;have S:VR ρ1 w' v r:=Z.vr Y rfl V r T;have M:VR ρ w' v r:=S.refs (λi h=>au rfl h) λb D=>⟨D.1,λi d hi=>D.3 (by show ρ'.X b;rw[A.X];exact (hX b).2 (.inr ⟨i,d,λh=>h,hi⟩)),λJ=>D.3 (by show ρ'.X b;rw[A.X];exact (hX b).2 (.inl J))⟩;refine ⟨v,r,ρ,O,rfl,⟨rfl,rfl⟩,⟨hs.inj,λi B d h=>zk (hs.lt i B d h) A.size,λi B d h=>?_,hs.dead,hs.fresh,hs.eI,λg=>(hs.env g).mono (q 0),hs.nx,λb h=>zk (hs.gh b h) A.size⟩,M,(q O.aP).b9 (qa _)⟩;have⟨o,h1,h2⟩:=hs.aR i B d h;exact ⟨o,h1,h2.mono (q 0) (j B (hs.lt i B d h))⟩
def aQ.cz (O:aQ)(S:Nat->Bool):aQ:=⟨O.aP,λi=>if S i then O.aR i else zb⟩
def G9{S:Nat->Bool}(hs:bF E ρ w O):∃p:bC,bF E p w (O.cz S)/\(∀n,Ext n ρ w p w)/\∀v G r,de O (λi=>S i=true) v G->VR ρ w v r->VR p w G r:=by
 let ρc:bC:=⟨λi=>if S i then ρ i else .no,ρ.X⟩;let p:bC:=⟨λi=>if S i then ρ i else match ρ i with|.no=>.no|_=>.dead,ρ.X⟩;have con:∀i,S i=true->ρc i=ρ i:=λi h=>by show (if S i=true then ρ i else .no)=_;rw[ab h]
 have D:∀i,S i=false->ρc i=.no:=λi h=>by show (if S i=true then ρ i else .no)=_;rw[aa (by simp[h])]
 have q:∀i,S i=true->p i=ρ i:=λi h=>by show (if S i=true then ρ i else _)=_;rw[ab h]
 have A:∀i,S i=false->p i=(match ρ i with|.no=>.no|_=>.dead):=λi h=>by show (if S i=true then ρ i else _)=_;rw[aa (by simp[h])]
 have f:∀i B d,p i=.at B d->S i=true/\ρ i=.at B d:=λi B d h=>by cases e:S i with|true=>rw[q i e]at h;exact ⟨rfl,h⟩|false=>rw[A i e]at h;cases I:ρ i<;>rw[I]at h<;>cases h
 have M:nJ (λi=>S i=true) ρ ρc:=⟨con,λi h=>D i (by simpa using h),λb h=>.inl h⟩;have F:∀n,Ext n ρ w p w:=λn=>Fu (λi B d h=>by cases e:S i with|true=>rw[q i e];exact .inl h|false=>rw[A i e,h];exact .inr rfl) (λi h=>by cases e:S i with|true=>rw[q i e];exact h|false=>rw[A i e,h]) (λi _ h=>by cases e:S i with|true=>rw[q i e];exact h|false=>rw[A i e,h]) (λi B d h=>⟨i,d,(f i B d h).2⟩) rfl;have H:Ext 0 ρc w p w:=Fu (λi B d h=>by have⟨L,J⟩:=M.at h;exact .inl (by rw[q i L];exact J)) (λi h=>by cases e:S i with|true=>rw[con i e]at h;rw[q i e];exact h|false=>rw[D i e]at h;cases h) (λi hi _=>au hi (zj _)) (λi B d h=>⟨i,d,by rw[con i (f i B d h).1];exact (f i B d h).2⟩) rfl;refine ⟨p,?_,F,λv G r hf T=>(hf.vr M rfl hs r T).mono H⟩;refine ⟨λi j B d Z hi V=>hs.inj i j B d Z (f _ _ _ hi).2 (f _ _ _ V).2,λi B d hi=>hs.lt i B d (f _ _ _ hi).2,λi B d hi=>?_,λi hi=>?_,λi hi=>?_,λi hi=>?_,λg=>(hs.env g).mono (F 0),λi B d hi=>hs.nx i B d (f _ _ _ hi).2,hs.gh⟩;{have⟨L,J⟩:=f _ _ _ hi;have⟨o,Y,W⟩:=hs.aR i B d J;exact ⟨o,by simp[aQ.cz,L,Y],W.mono (F 0) rfl⟩};{cases e:S i with|true=>rw[q i e]at hi;simp[aQ.cz,e,hs.dead i hi]|false=>simp[aQ.cz,e]};{have U:O.aP<=i:=hi;have:=hs.fresh i U;cases e:S i with|true=>rw[q i e];exact this|false=>rw[A i e,this]};cases e:S i with|true=>rw[q i e]at hi;simp[aQ.cz,e,hs.eI i hi]|false=>simp[aQ.cz,e]
def I6{S:Nat->Bool}{args':List IV}{Q:IV->aQ->Prop}(H:args'.length=a.length)(ha:∀i,i<a.length->de O (λi=>S i=true) (a.getD i .undef) (args'.getD i .undef))(h:C P E f args' (O.cz S) Q):C P E f a O Q:=by intro ρ w d hs D;have⟨g,q,j,o⟩:=G9 (S:=S) hs;have B:CR g w args' d:=⟨by rw[H];exact D.1,λi hi=>o _ _ _ (ha i om) (D.2 i om)⟩;refine CallsIn.mono (h g w d q B) ?_;rintro e w' ⟨v,r,ρ',O',rfl,G,A,p,F⟩;exact ⟨v,r,ρ',O',rfl,G,A,p,((j O.aP).b9 (qa _)).trans F⟩
def DD{S:Nat->Bool}{L:IC}{fr fr':a8}{Q:Exit->a8->aQ->Prop}(hf:∀t,fr'.get t=fr.get t\/de O (λi=>S i=true) (fr.get t) (fr'.get t))(h:RI P E N f L fr' (O.cz S) Q):RI P E N f L fr O Q:=by intro pf an c hc U M h0 ρ w a hs b V T;have⟨g,D,j,A⟩:=G9 (S:=S) hs;have o:FR g w N fr' a.tmps:=⟨b.size,λt=>by rcases hf t with e|e;{rw[e];exact (b.get t).mono (j 0)};exact A _ _ _ e (b.get t)⟩;have d:=(j f).b9 (qa f);refine wpIn_mono (h pf an c hc U M h0 g w a D o (V.mono d) (T.mono d)) ?_;rintro e X w' ⟨J,W,p,G,q,B,H,I,F,r⟩;exact ⟨J,W,p,G,q,B,H,I,F,d.trans r⟩
def mj{args args':List IV}{v:IV}(hE:∀g,bM 0 (E g))(W:args'.length=args.length)(ha:∀i,i<args.length->gH O 0 (args.getD i .undef) (args'.getD i .undef))(V:v.plain=true)(h:PC P E f args' v):C P E f args O (nU v O):=by intro ρ w p hs T;have F:=OZ ρ 0;have I:bF E (ρ.cut 0) w ⟨0,λ_=>zb⟩:=hs.D4 F (λi h=>au h (zj _)) (λ_ _=>rfl) (λi o h=>au h (zj _)) (λi _=>F.off i (zj _)) hE;have J:CR (ρ.cut 0) w args' p:=⟨by rw[W];exact T.1,λi hi=>(ha i om).vr F rfl hs _ (T.2 i om)⟩;refine CallsIn.mono (h ⟨0,λ_=>zb⟩ (ρ.cut 0) w p I J) ?_;rintro e w' ⟨Z,r,ρ',O',rfl,⟨rfl,rfl⟩,U,H,A⟩;have j:∀b,b<w.heap.size->w'.heap[b]? = w.heap[b]?:=λb M=>A.aT b ⟨M,λi d h=>au (F.at h).1 (zj _)⟩;have D:∀(b:Nat)(o:Obj),w.heap[b]? = za o->b<w.heap.size:=λb o h=>(by rcases qk b w.heap.size with S|S;{exact S};rw[zz S]at h;cases h);have q:∀n,Ext n ρ w ρ w':=λn=>⟨A.size,λb M=>j b M.1,λb G el fz h=>⟨G,by rw[j b (D b _ h)];exact h,rfl⟩,λi B d h=>.inl ⟨i,d,h⟩,λi B d h=>.inl h,λi h=>h,λi _ h=>h,A.output,A.os,A.tape,λl L h=>⟨L,by rw[j l (D l _ h)];exact h⟩,rfl⟩;refine ⟨_,r,ρ,O,rfl,⟨rfl,rfl⟩,⟨hs.inj,λi B d h=>zk (hs.lt i B d h) A.size,λi B d h=>?_,hs.dead,hs.fresh,hs.eI,λg=>(hs.env g).mono (q 0),hs.nx,λb h=>zk (hs.gh b h) A.size⟩,X8 V H,(q O.aP).b9 (qa _)⟩;have⟨o,Y,X⟩:=hs.aR i B d h;exact ⟨o,Y,X.mono (q 0) (j B (hs.lt i B d h))⟩
end Go.Id
namespace Go.Id
open Go
variable {P:Program} {E:Nat->IV} {O O':aQ} {N n n0:Nat} {fr:a8}
def mQ:Nat->IV->Bool|0,_=>false|n+1,v=>match v with|.ptr _ _|.slice _ _ _ _|.map _|.yield _|.eg _ _ _ _|.eD _ _ _ _ _=>false|.bd cs=>cs.all (mQ n)|.aW es=>es.all λe=>e.all (mQ n)|.bY es=>es.all λe=>mQ n e.1&&mQ n e.2|.func _ a b=>a.all (mQ n)&&b.all (mQ n)|.iface _ v=>mQ n v|.agg cs=>cs.all (mQ n)|.tuple cs=>cs.all (mQ n)|_=>true
def wq:∀(n:Nat)(v:IV),mQ n v=true->bM 0 v:=by intro n;induction n with|zero=>intro v h;cases h|succ n ih=>intro v h;have all:∀ {cs:List IV},cs.all (mQ n)=true->∀c∈cs,bM 0 c:=λh c hc=>ih c (zd.1 h c hc);cases v with|undef=>exact .undef|bool b=>exact .bool b|int k x=>exact .int k x|str s=>exact .str s|ee=>exact .ee|ptr id off=>cases h|bd cs=>exact .bd cs (all h)|bc=>exact .bc|cw=>exact .cw|dN=>exact .dN|slice a b c d=>cases h|aW es=>exact .aW es λe he=>all (zd.1 h e he)|fM=>exact .fM|map id=>cases h|bY es=>exact .bY es (λe he=>ih _ (by have:=zd.1 h e he;simp at this;exact this.1)) (λe he=>ih _ (by have:=zd.1 h e he;simp at this;exact this.2))|func f a b=>simp only[mQ,zg]at h;exact .func f a b (all h.1) (all h.2)|yield id=>cases h|gL=>exact .gL|iface t v=>exact .iface t v (ih v h)|iG=>exact .iG|agg cs=>exact .agg cs (all h)|tuple cs=>exact .tuple cs (all h)|eg a b c d=>cases h|eD a b c d e=>cases h
end Go.Id
namespace Go.Id
open Go
variable {P:Program} {E:Nat->IV} {O O':aQ} {N n n0:Nat} {fr:a8}
variable {a:List Nat}{b:lZ}{c:Code}{x:IC}
def VM{i:IX}{y:IC}(h:dH P a N b c=za (.cond i x y)):∃o k m,c=.cond o k m/\bN o=za i/\dH P a N b k=za x/\dH P a N b m=za y:=by cases c with|cond o k m=>simp only[dH]at h;split at h;{rename_i p j f hi e d;cases h;exact ⟨o,k,m,rfl,hi,e,d⟩};cases h|region id ops draw=>(simp only[dH]at h;split at h<;>first|(cases h;done)|(split at h<;>first|(cases h;done)|(split at h<;>cases h)))|seq k m=>simp only[dH]at h;split at h<;>cases h|block id k=>have⟨_,_,h⟩:=map_some h;cases h|scope k=>have⟨_,_,h⟩:=map_some h;cases h|loop k=>have⟨_,_,h⟩:=map_some h;cases h|rangeFunc g ps assign body=>(simp only[dH]at h;split at h<;>first|(cases h;done)|(split at h<;>cases h))|_=>cases h
def TQ{i:Nat}(h:dH P a N b c=za (.block i x)):∃e,c=.block i e/\dH P a N b e=za x:=by cases c with|block id e=>have⟨_,d,h⟩:=map_some h;cases h;exact ⟨e,rfl,d⟩|scope e=>have⟨_,_,h⟩:=map_some h;cases h|region id ops draw=>(simp only[dH]at h;split at h<;>first|(cases h;done)|(split at h<;>first|(cases h;done)|(split at h<;>cases h)))|seq e f=>simp only[dH]at h;split at h<;>cases h|cond c e f=>simp only[dH]at h;split at h<;>cases h|loop e=>have⟨_,_,h⟩:=map_some h;cases h|rangeFunc g ps assign body=>(simp only[dH]at h;split at h<;>first|(cases h;done)|(split at h<;>cases h))|_=>cases h
def VN(h:dH P a N b c=za (.loop x)):∃e,c=.loop e/\dH P a N b e=za x:=by cases c with|loop e=>have⟨_,d,h⟩:=map_some h;cases h;exact ⟨e,rfl,d⟩|region id ops draw=>(simp only[dH]at h;split at h<;>first|(cases h;done)|(split at h<;>first|(cases h;done)|(split at h<;>cases h)))|seq e f=>simp only[dH]at h;split at h<;>cases h|cond c e f=>simp only[dH]at h;split at h<;>cases h|block id e=>have⟨_,_,h⟩:=map_some h;cases h|scope e=>have⟨_,_,h⟩:=map_some h;cases h|rangeFunc g ps assign body=>(simp only[dH]at h;split at h<;>first|(cases h;done)|(split at h<;>cases h))|_=>cases h
def TR(h:dH P a N b c=za (.scope x)):∃e,c=.scope e/\dH P a N b e=za x:=by cases c with|scope e=>have⟨_,d,h⟩:=map_some h;cases h;exact ⟨e,rfl,d⟩|block id e=>have⟨_,_,h⟩:=map_some h;cases h|loop e=>have⟨_,_,h⟩:=map_some h;cases h|region id ops draw=>(simp only[dH]at h;split at h<;>first|(cases h;done)|(split at h<;>first|(cases h;done)|(split at h<;>cases h)))|seq e f=>simp only[dH]at h;split at h<;>cases h|cond c e f=>simp only[dH]at h;split at h<;>cases h|rangeFunc g ps assign body=>(simp only[dH]at h;split at h<;>first|(cases h;done)|(split at h<;>cases h))|_=>cases h
variable {Q:Exit->a8->aQ->Prop}
def gN{i:IX}{y:IC}{b:Bool}(hi:i.ev E fr=.bool b)(h:RI P E N n0 (if b then x else y) fr O Q):RI P E N n0 (.cond i x y) fr O Q:=by intro pf an c hc;obtain ⟨o,a,d,rfl,g,f,e⟩:=VM hc;refine OJ g hi ?_;cases b with|true=>exact h pf an a f|false=>exact h pf an d e
def eP{i:Nat}(h:RI P E N n0 x fr O (rI i Q)):RI P E N n0 (.block i x) fr O Q:=by intro pf an c hc;obtain ⟨a,rfl,d⟩:=TQ hc;exact Nx (h pf an a d)
def Fc(I:Nat->a8->aQ->Prop)(m:Nat)(h:I m fr O)(e:∀m fr O,I m fr O->RI P E N n0 x fr O (vu I m Q)):RI P E N n0 (.loop x) fr O Q:=by intro pf an c hc;obtain ⟨a,rfl,d⟩:=VN hc;exact OL I m h λm fr O hi=>e m fr O hi pf an a d
def X9(h:RI P E N n0 x fr O (uW Q)):RI P E N n0 (.scope x) fr O Q:=by intro pf an c hc;obtain ⟨a,rfl,d⟩:=TR hc;exact Ny (h pf an a d)
end Go.Id
namespace Go.Id
open Go
variable {P:Program} {E:Nat->IV} {O O':aQ}
abbrev FE:=Nat×IC×List IR
def FOK (P:Program)(f:Nat)(e:FE):Prop:=okF P f=true/\∃pf an,ue P f e.1 pf an e.2.1 e.2.2
def FOK.mk {f N:Nat}{pf:List Nat}{an:lZ}{e:IC}{d:List IR}(h:okF P f=true)(hf:ue P f N pf an e d):FOK P f (N,e,d):=⟨h,pf,an,hf⟩
instance instIX (n:Nat):OfNat IX n:=⟨.t n⟩
def oQ (d:Nat)(q:IQ):bZ:=⟨za d,zb,.q q⟩
def oM (d:Nat)(x:IX):bZ:=⟨za d,zb,.q (.lh x)⟩
def oK (d:Nat)(k:IK):bZ:=⟨za d,zb,k⟩
def gQ (d s:Nat)(w:Bool)(q:IQ):bZ:=⟨za d,za (s,w),.q q⟩
def gK (d s:Nat)(w:Bool)(k:IK):bZ:=⟨za d,za (s,w),k⟩
def oN (k:IK):bZ:=⟨zb,zb,k⟩
def cI (n:Int):IX:=.c (.int .i64 n)
def cB (b:Bool):IX:=.c (.bool b)
def zI (n:Int):IV:=.int .i64 n
def zU (n:Int):IV:=.int .u8 n
def qL:IC->lZ|.lF id _ aT=>[(id,aT)]|.se id _ _ aT=>[(id,aT)]|.qP id _ aT=>[(id,aT)]|.seq a b=>qL a++qL b|.cond _ a b=>qL a++qL b|.block _ a=>qL a|.loop a=>qL a|.mu _ _ a b=>qL a++qL b|.scope a=>qL a|_=>[]
end Go.Id
namespace Go.Id
open Go
variable {H:Type} {enc:TypeId×Value->H} {P:Program} {w w':World} {base:Nat} {sp:Nat->Bool} {held:Bool} {ρ:bC} {E:Nat->IV}
structure VL (ρ:bC) (w:World) (ivs:List IV) (cs:List Value):Prop where
 len:ivs.length=cs.length
 get:∀i,i<ivs.length->VR ρ w (ivs.getD i .undef) (cs.getD i undef)
def lB(r:TypeId->DataW H->Option (List IV))(P:Program):List (TypeId×Nat)->List (DataW H)->Nat->Option (List IV)|[],[],_=>za []|f::fs,d::ds,off=>if f.2=off then (match r f.1 d with|some a=>if a.length=P.cellsOf f.1 then (match lB r P fs ds (off+P.cellsOf f.1)with|some b=>za (a++b)|none=>zb) else zb|none=>zb) else zb|_,_,_=>zb
def dvS(r:DataW H->Option (List IV))(c:Nat):List (DataW H)->Option (List (List IV))|[]=>za []|d::ds=>match r d with|some a=>if a.length=c then (match dvS r c ds with|some b=>za (a::b)|none=>zb) else zb|none=>zb
def dvE(r:DataW H->Option (List IV))(x:Lit×DataW H):IV×IV:=match x.1,r x.2 with|.string bs,za [v]=>(.str bs,v)|_,_=>(.undef,.undef)
def vd:List IV->Bool|[]=>true|.str a::r=>(r.all fun|.str b=>!(a==b)|_=>false)&&vd r|_::_=>false
def flat(P:Program)(e:TypeId):Bool:=match P.underlying e with|some .bool|some (.int _)|some .string|some (.slice _)|some (.pointer _)=>true|_=>false
def dv(P:Program):Nat->TypeId->DataW H->Option (List IV)|0,_,_=>zb|m+1,t,d=>match P.underlying t,d with|some .bool,.lit (.bool b)=>za [.bool b]|some (.int _),.lit (.int k n)=>za [.int k n]|some .string,.lit (.string bs)=>za [.str bs]|some (.pointer _),.nil=>za [.ee]|some (.pointer e),.ptr d=>(match dv P m e d with|some (c::cs)=>za [.bd (c::cs)]|_=>zb)|some (.slice _),.nil=>za [.aW []]|some (.slice e),.slice els _=>(if P.cellsOf e=0 then zb else match dvS (dv P m e) (P.cellsOf e) els with|some es=>za [.aW es]|none=>zb)|some (.struct fs),.agg ds=>(match lB (dv P m) P (fs.toList.map λf=>(f.type,f.offset)) ds 0 with|some ivs=>if ivs.length=P.cellsOf t then za ivs else zb|none=>zb)|some (.array n e),.agg ds=>(match lB (dv P m) P ((List.range n).map λi=>(e,i*P.cellsOf e)) ds 0 with|some ivs=>if ivs.length=P.cellsOf t then za ivs else zb|none=>zb)|some (.map k e),.map es=>(match P.underlying k with|some .string=>if flat P e&&vd (es.map λx=>(dvE (dv P m e) x).1) then za [.bY (es.map (dvE (dv P m e)))] else zb|_=>zb)|_,_=>zb
def tL{v:IV}{r:Value}(h:VR ρ w v r):VL ρ w [v] [r]:=⟨rfl,λi hi=>by have h0:i=0:=(by simpa using hi);rw[h0];exact h⟩
def O4{r:TypeId->DataW H->Option (List IV)}{rd:TypeId->List Value->DataW H->Prop}(G:∀t cs d e,rd t cs d->r t d=za e->VL ρ w e cs)(cs:List Value): ∀(j:List (TypeId×Nat))(ds:List (DataW H))(off:Nat)(e:List IV),j.length=ds.length -> (∀(i:Nat)(f:TypeId×Nat)(d:DataW H),j[i]? = za f->ds[i]? = za d->rd f.1 ((cs.drop f.2).take (P.cellsOf f.1)) d)->lB r P j ds off=za e -> ∀i,i<e.length->off+i<cs.length/\VR ρ w (e.getD i .undef) (cs.getD (off+i) undef):=by intro j;induction j with|nil=>(intro ds off e B _ h;cases ds with|nil=>cases h;intro i hi;simp at hi|cons d ds=>simp at B)|cons f j ih=>intro ds off e B o h;cases ds with|nil=>simp at B|cons d ds=>simp only[lB]at h;split at h;{rename_i p;split at h;{rename_i a ha;split at h;{rename_i L;split at h;{rename_i b J;cases h;have h0:=G _ _ _ _ (o 0 f d rfl rfl) ha;have q:=h0.len;rw[p]at h0 q;simp only[List.length_take,List.length_drop]at q;intro i hi;by_cases g:i<a.length;{have A:=h0.get i g;have D:off+i<cs.length:=om;refine ⟨D,?_⟩;have F:(a++b).getD i .undef=a.getD i .undef:=(by simp[zc,z9,g]);have S:((cs.drop off).take (P.cellsOf f.1)).getD i undef=cs.getD (off+i) undef:=(by have:i<P.cellsOf f.1:=om;simp[zc,List.getElem?_take,this,List.getElem?_drop]);rw[F,<- S];exact A};have A:=ih ds _ b (by simpa using B) (λi M U hf I=>o (i+1) M U (by simpa using hf) (by simpa using I)) J (i-a.length) (by simp at hi;omega);have T:off+P.cellsOf f.1+(i-a.length)=off+i:=om;rw[T]at A;refine ⟨A.1,?_⟩;have F:(a++b).getD i .undef=b.getD (i-a.length) .undef:=(by simp[zc,z9,g]);rw[F];exact A.2};cases h};cases h};cases h};cases h
def ju9{r:DataW H->Option (List IV)}{c:Nat}:∀(ds:List (DataW H))(es:List (List IV)),dvS r c ds=za es->es.length=ds.length/\∀i,i<es.length->(es.getD i []).length=c/\∃d,ds[i]? = za d/\r d=za (es.getD i []):=by intro ds;induction ds with|nil=>intro es h;cases h;exact ⟨rfl,λi hi=>by simp at hi⟩|cons d ds ih=>intro es h;simp only[dvS]at h;split at h;{rename_i a ha;split at h;{rename_i e;split at h;{rename_i b f;cases h;have⟨q,p⟩:=ih b f;refine ⟨by simp[q],λi hi=>?_⟩;cases i with|zero=>exact ⟨e,d,rfl,ha⟩|succ i=>have⟨o,A,j,g⟩:=p i (by simpa using hi);exact ⟨o,A,j,g⟩};cases h};cases h};cases h
def Sv{es:List (IV×IV)}(h:vd (es.map (·.1))=true):tI es:=by have:∀(l:List IV),vd l=true->l.Nodup/\∀v∈l,∃s,v=.str s:=(by intro l;induction l with|nil=>intro _;exact ⟨.nil,λ_ h=>by cases h⟩|cons v l ih=>intro h;cases v with|str a=>simp only[vd,zg]at h;have⟨g,f⟩:=ih h.2;refine ⟨List.nodup_cons.2 ⟨λi=>?_,g⟩,λv d=>?_⟩;{have:=zd.1 h.1 _ i;simp at this};rcases zw.1 d with rfl|d;{exact ⟨a,rfl⟩};exact f v d|_=>cases h);have⟨g,f⟩:=this _ h;refine ⟨g,.str,λe he=>?_⟩;have⟨s,hs⟩:=f e.1 (qj.2 ⟨e,he,rfl⟩);rw[hs];trivial
def G1{a:Addr}{v:Value}(h:w.cell? a=za v):a.spot=zb/\a.block<w.heap.size:=by unfold World.cell? at h;split at h;{rename_i c _ _ e;split at h;{cases h};rename_i hs;refine ⟨by simpa using hs,?_⟩;exact Nat.lt_of_not_le λd=>by rw[zz d]at e;cases e};cases h
def TS:∀ {l:List IV},vd l=true->∀v∈l,∃s,v=.str s:=by intro l;induction l with|nil=>intro _ _ h;cases h|cons v l ih=>intro h;cases v with|str a=>simp only[vd,zg]at h;intro v d;rcases zw.1 d with rfl|d;{exact ⟨a,rfl⟩};exact ih h.2 v d|_=>cases h
def jv1{k:TypeId}{v:Value}{d:List UInt8}(e:P.underlying k=za .string)(h:keyOf P k v=za (.string d)):v=.string ⟨d.toArray⟩:=by unfold keyOf mapKey at h;rw[e]at h;cases v with|string s=>simp only at h;split at h;{cases h;congr 1};cases h|_=>cases h
def TT{e:TypeId}{v:Value}(h:flat P e=true)(hf:v.formed P e=true):v.cells.toList=[v]:=by unfold flat at h;cases v with|agg cs=>unfold Value.formed at hf;split at h<;>simp_all|_=>rfl
def Do(hF:∀b,b<w.heap.size->FB ρ w b):∀(m n:Nat)(t:TypeId)(d:DataW H)(cs:List Value)(ps:List MemPlace)(J:List IV),DataW.trod enc P w base sp held n t cs=za (d,ps)->dv P m t d=za J->VL ρ w J cs:=by intro m;induction m with|zero=>intro n t d cs ps J _ h;cases h|succ m ih=>intro n t d cs ps J h q;unfold dv at q;split at q;{rename_i b G;obtain ⟨b',rfl,r⟩:=DataW.trod_bool G h;cases r;cases q;exact tL (.bool _)};{rename_i k0 k n0 G;obtain ⟨n',rfl,r,_⟩:=DataW.trod_int G h;cases r;cases q;exact tL (.int _ _)};{rename_i bs G;obtain ⟨s,rfl,r,_⟩:=DataW.trod_string G h;cases r;cases q;have:(⟨s.data.toList.toArray⟩:ByteArray)=s:=(by cases s;simp);exact tL (by have:=VR.str (ρ:=ρ) (w:=w) s.data.toList;simpa using this)};{rename_i G;cases q;rcases DataW.trod_pointer G h with ⟨rfl,_⟩|⟨a,ay,y,n',_,_,r,_⟩;{exact tL .ee};cases r};{rename_i e d' G;rcases DataW.trod_pointer G h with ⟨_,r⟩|⟨a,ay,y,n',rfl,rfl,r,hc,hy⟩;{cases r};cases r;split at q;{rename_i c0 bq cm;cases q;have hv:=ih n' e y.1 ay y.2 (c0::bq) hy cm;have⟨_,hl,I⟩:=World.cells?_some hc;have B:=hv.len;simp only[zr]at B;have h0:=I 0 om;rw[ze om]at h0;have⟨S,h2⟩:=G1 h0;have ea:a.add 0=a:=rfl;rw[ea]at S h2;have⟨b,o,s⟩:=a;simp only at S;subst S;refine tL (.bd (c0::bq) b o (λj=>ay.getD j undef) (hF b h2) (λj T=>?_) (λj T=>hv.get j T));simp only[zr]at T;have be:=I j om;have ej:(⟨b,o,zb⟩:Addr).add j=⟨b,o+j,zb⟩:=(by unfold Addr.add;by_cases ce:j=0<;>simp[ce]);rw[ej]at be;rw[be,zc,ze om];rfl};cases q};{rename_i e G;cases q;rcases DataW.trod_slice G h with ⟨rfl,_⟩|⟨a,len,cap,Y,ak,n',_,_,r,_⟩;{exact tL .gA};cases r};{rename_i e cw cp G;split at q;{cases q};rename_i cu;split at q;{rename_i es ck;cases q;rcases DataW.trod_slice G h with ⟨rfl,r⟩|⟨a,len,cap,Y,ak,n',rfl,rfl,r,_,cq,_,cl,I,_,_⟩;{cases r};cases r;have⟨g1,g2⟩:=ju9 _ _ ck;have B:es.length=len:=(by rw[g1,List.length_map,cl]);have aR:∀i,i<es.length->∃ci p,w.cells? base (a.add (i*P.cellsOf e)) (P.cellsOf e)=za ci/\(es.getD i []).length=P.cellsOf e/\VL ρ w (es.getD i []) ci/\p=():=(by intro i hi;have⟨g3,d',g4,g5⟩:=g2 i hi;have hc:=I i om;rw[qd]at g4;cases bl:Y[i]? with|none=>rw[bl]at g4;cases g4|some x=>rw[bl]at g4 hc;cases g4;have⟨ci,W,r⟩:=Option.bind_eq_some_iff.1 hc;exact ⟨ci,(),W,g3,ih n' e x.1 ci x.2 _ r g5,rfl⟩);have bn:es≠[]->FB ρ w a.block/\a.spot=zb:=(by intro bA;have h0:0<es.length:=List.length_pos_iff.2 bA;have⟨ci,_,W,g3,_,_⟩:=aR 0 h0;have⟨_,hl,ax⟩:=World.cells?_some W;have X:=ax 0 om;rw[ze om]at X;have ea:(a.add (0*P.cellsOf e)).add 0=a:=(by simp[Addr.add]);rw[ea]at X;have⟨S,h2⟩:=G1 X;exact ⟨hF _ h2,S⟩);have M:∀i,i<es.length->∀j,j<P.cellsOf e->∃v,w.cell? ⟨a.block,a.off+(i*P.cellsOf e+j),zb⟩=za v/\VR ρ w ((es.getD i []).getD j .undef) v:=(by intro i hi j T;have⟨ci,_,W,g3,g4,_⟩:=aR i hi;have⟨_,hl,ax⟩:=World.cells?_some W;have bm:=ax j T;have bb:=(bn (by intro h0;rw[h0]at hi;simp at hi)).2;have ea:(a.add (i*P.cellsOf e)).add j=⟨a.block,a.off+(i*P.cellsOf e+j),zb⟩:=(by have⟨b,o,s⟩:=a;simp only at bb;subst bb;unfold Addr.add;by_cases S:i*P.cellsOf e=0<;>by_cases h2:j=0<;>simp[S,h2,Nat.add_assoc]);rw[ea,ze om]at bm;refine ⟨_,bm,?_⟩;have:=g4.get j om;rw[zc (l:=ci),ze om]at this;exact this);refine tL ?_;have⟨b,o,s⟩:=a;rw[<- B];refine .aW es b o cap (P.cellsOf e) s (λi j=>(w.cell? ⟨b,o+(i*P.cellsOf e+j),zb⟩).getD undef) bn (λi hi=>(g2 i hi).1) (λi hi j T=>?_) (λi hi j T=>?_) om;{have⟨v,S,_⟩:=M i hi j T;simp only at S;rw[S];rfl};have⟨v,S,h2⟩:=M i hi j T;simp only at S;rw[S];exact h2};cases q};{rename_i fs ds G;split at q;{rename_i al av;split at q;{rename_i an;cases q;obtain ⟨xs,n',rfl,r,B,am,ap⟩:=DataW.trod_struct G h;cases r;have hg:=O4 (P:=P) (rd:=λt cs d=>∃p,DataW.trod enc P w base sp held n' t cs=za (d,p)) (λt cs d J ⟨p,hp⟩ h=>ih n' t d cs p J hp h) cs _ _ 0 _ (by simp[am]) (λi f d hf q=>by rw[qd]at hf q;cases D:fs.toList[i]? with|none=>rw[D]at hf;cases hf|some f0=>rw[D]at hf;cases hf;have:=ap i f0 (by simpa using D);cases V:xs[i]? with|none=>rw[V]at q;cases q|some x=>rw[V]at q this;cases q;exact ⟨x.2,this⟩) av;exact ⟨by rw[an,B],λi hi=>by have:=(hg i hi).2;rwa [zm]at this⟩};cases q};cases q};{rename_i k e ds G;split at q;{rename_i al av;split at q;{rename_i an;cases q;obtain ⟨xs,n',rfl,r,B,am,ap⟩:=DataW.trod_array G h;cases r;have hg:=O4 (P:=P) (rd:=λt cs d=>∃p,DataW.trod enc P w base sp held n' t cs=za (d,p)) (λt cs d J ⟨p,hp⟩ h=>ih n' t d cs p J hp h) cs _ _ 0 _ (by simp[am]) (λi f d hf q=>by rw[qd]at hf q;cases D:(List.range k)[i]? with|none=>rw[D]at hf;cases hf|some f0=>rw[D]at hf;cases hf;obtain ⟨bh,rfl⟩:=List.getElem?_eq_some_iff.1 D;simp only[List.length_range]at bh;have:=ap i bh;simp only[List.getElem_range];cases V:xs[i]? with|none=>rw[V]at q;cases q|some x=>rw[V]at q this;cases q;exact ⟨x.2,this⟩) av;exact ⟨by rw[an,B],λi hi=>by have:=(hg i hi).2;rwa [zm]at this⟩};cases q};cases q};{rename_i k e es G;split at q;{rename_i hk;split at q;{rename_i bi;cases q;simp only[zg]at bi;have⟨ch,bc⟩:=bi;rcases WideElems.open_map G h with ⟨_,r⟩|⟨b,A,ag,n',rfl,rfl,hb,_,F,r⟩;{cases r};simp only[Prod.mk.injEq,DataW.map.injEq]at r;have⟨r,_⟩:=r;have bP:b<w.heap.size:=Nat.lt_of_not_le λca=>(by rw[zz ca]at hb;cases hb);let g:Lit×DataW H->IV×IV:=dvE (dv P m e);let L:=A.toList.map (WideElems.rg P k (WideElems.elemAt enc P w base sp held n' e));have hp:L.Perm es:=(by rw[r];exact (WideShapes.sorted_perm L).symm);have bz:(L.map g).Perm (es.map g):=hp.map g;have cb:tI (es.map g):=Sv (by rw[List.map_map];exact bc);have bp:∀i,i<A.size->VR ρ w ((L.map g).getD i (.undef,.undef)).1 (A.getD i default).key/\VR ρ w ((L.map g).getD i (.undef,.undef)).2 (A.getD i default).val:=(by intro i hi;have Z:A.getD i default∈A.toList:=(by have:=eY (default:MapEntry) (l:=A.toList) (i:=i) (by simpa using hi);simpa [zc,zh] using this);have⟨y,hy⟩:=F.reads _ Z;have e1:(L.map g).getD i (.undef,.undef)=g y:=(by have:L[i]? = za y:=(by simp only[L,qd];rw[show A.toList[i]? = za (A.getD i default) by simp[zh,hi]];exact aw za (WideElems.rg_of hy));simp[zc,this]);rw[e1];have bv:y∈L:=qj.2 ⟨_,Z,WideElems.rg_of hy⟩;have U:∃s,(g y).1=.str s:=TS bc _ (qj.2 ⟨y,hp.mem_iff.1 bv,rfl⟩);have ac:=WideElems.rd_key hy;have⟨z,hz,bt⟩:=WideElems.rd_val hy;simp only[g,dvE]at U ⊢;split at U;{rename_i bs v hl hv;refine ⟨?_,?_⟩;{rw[hl]at ac;rw[jv1 hk ac];exact .str _};generalize A.getD i default=me at hz ⊢;unfold WideElems.elemAt at hz;split at hz;{rename_i ad;have aZ:=ih n' e z.1 _ z.2 [v] hz (by rw[<- bt];exact hv);have co:=TT ch ad;rw[co]at aZ;exact aZ.get 0 (by simp)};cases hz};have⟨_,U⟩:=U;cases U);have bx:(L.map g).length=A.size:=(by simp[L]);have⟨s1,s2,_⟩:=F.stamped;refine tL (.bY (es.map g) (L.map g) b A ag bz cb (hF b bP) hb bx (λi hi=>(bp i om).1) (λi hi=>(bp i om).2) ?_ ?_);{intro i hi;refine s1 _ ?_;have:=eY (default:MapEntry) (l:=A.toList) (i:=i) (by simpa using hi);simpa [zc,zh] using this};intro i j cg T he;have:=(List.pairwise_iff_getElem.1 s2) i j (by simp;omega) (by simpa using T) cg;simp only[List.getElem_map,Array.getElem_toList]at this;apply this;have hi:i<A.size:=om;simpa [zh,hi,T] using he};cases q};cases q};cases q
def B7(l:List (Nat×List IV))(g:Nat):IV:=match l.lookup g with|some cs=>.bd cs|none=>.undef
def VO{laid:List (String×DataW Unit)}(J:∀b,b<w.heap.size->FB ρ w b):∀(laid:List (String×DataW Unit))(ps:List MemPlace),DataW.LaidVars P w laid ps->∀(name:String)(d:DataW Unit),(name,d)∈laid->∀(g:Nat)(t:TypeId)(m:Nat)(c:IV)(e:List IV),P.globalNamed name=za g->(P.globals[g]?).map (·.type)=za t->dv P m t d=za (c::e)->VR ρ w (.bd (c::e)) (.pointer (za ⟨g,0,zb⟩)):=by intro laid;induction laid with|nil=>intro ps _ name d f;cases f|cons x r ih=>intro ps h name d f g t m c e G F I;have⟨V,W⟩:=x;have⟨g',X,cs,A,p,q,L,U,T,S,M,_⟩:=h;rcases zw.1 f with f|f;{cases f;obtain rfl:=za.inj (L.symm.trans G);obtain rfl:=za.inj (U.symm.trans F);have D:=Do J m A _ d _ p _ S I;have hc:=λi=>World.var?_cell L T i;have o:=D.len;simp only[zr,Array.length_toList]at o;have h0:=hc 0;rw[qi om]at h0;refine .bd (c::e) _ 0 (λj=>cs.getD j undef) (J _ (G1 h0).2) (λj B=>?_) (λj B=>?_);{simp only[zr]at B;rw[zm,hc j,qi om];simp[zh,show j<cs.size by omega]};have:=D.get j B;simpa [zc,zh] using this};exact ih _ M name d f g t m c e G F I
def nV:bC:=⟨λ_=>.no,λ_=>False⟩
def yV:∀b,b<w.heap.size->FB nV w b:=λb h=>⟨h,(λ_ _ h=>by cases h),λh=>h⟩
def QI:aQ:=⟨0,λ_=>zb⟩
def Ya{laid:List (String×DataW Unit)}(h:laidMet P laid w)(l:List (Nat×List IV))(j:∀x∈l,∃(name:String) (d:DataW Unit) (t:TypeId) (m:Nat) (c:IV) (e:List IV),x.2=c::e/\(name,d)∈laid/\P.globalNamed name=za x.1/\(P.globals[x.1]?).map (·.type)=za t/\dv P m t d=za (c::e)): ∀g,VR nV w (B7 l g) (.pointer (za ⟨g,0,zb⟩)):=by intro g;unfold B7;cases f:l.lookup g with|none=>exact .undef _|some cs=>have⟨ps,i,_,_⟩:=h;have r:(g,cs)∈l:=(by clear j;induction l with|nil=>cases f|cons x l ih=>have⟨a,b⟩:=x;simp only[List.lookup]at f;split at f;{rename_i A;cases f;have:g=a:=(by simpa using A);rw[this];exact zo ..};exact zl _ (ih f));have⟨name,d,t,m,c,e,q,D,p,o,B⟩:=j _ r;simp only at q p o;rw[q];exact VO (laid:=laid) yV laid ps i name d D g t m c e p o B
def lw7(h:∀g,VR nV w (E g) (.pointer (za ⟨g,0,zb⟩))):bF E nV w QI :=⟨(λ_ _ _ _ _ h=>by cases h),(λ_ _ _ h=>by cases h),(λ_ _ _ h=>by cases h),(λ_ h=>by cases h),(λ_ _=>rfl),(λ_ _=>rfl),h,(λ_ _ _ h=>by cases h),λ_ h=>h.elim⟩
def Yb{f:FuncId}{args:List IV}{d:Array Value}{b:Bool}(h:PC P E f args (.bool b))(he:∀g,VR nV w (E g) (.pointer (za ⟨g,0,zb⟩)))(ha:CR nV w args d): Calls P f d w λe w'=>e=.returned (.bool b)/\RowKit.Below w.heap.size w w':=by refine callsIn_wide.1 (CallsIn.mono (h QI nV w d (lw7 he) ha) ?_);rintro e w' ⟨v,r,ρ',O',rfl,⟨rfl,rfl⟩,_,j,i⟩;cases j;exact ⟨rfl,i.os,i.tape,i.output,i.size,λk o=>i.aT k (yV k o).ub⟩
def Rt{H:Type}{enc:TypeId×Value->H}{f:Func}{s:ChangeSpec}{o fresh i D:Bool}{W F:World}{args:Array Value}{v:Value}{ds J:List (DataW H)}{d pa pv:List MemPlace}(M:DataW.Whole enc P f.params.toList s.vars o W args.toList ds J d)(A:∀(b:Nat)(sp:Nat->Bool)(V:Bool),DataW.TrodAll enc P F b sp V f.resultTypes.toList (v.resultList f.resultTypes.size) (s.fn H (ds++J)).results [])(h:∀sp:Nat->Bool,(∀p∈d,sp p.block=true)->DataW.TrodAll enc P F 0 sp true f.params.toList args.toList (s.fn H (ds++J)).args pa)(e:∀sp:Nat->Bool,(∀p∈d,sp p.block=true)->DataW.TrodVars enc P F sp s.vars (s.fn H (ds++J)).vars pv)(q:d=pa++pv)(S:RowKit.Below W.heap.size W F)(L:∀(j:Nat)(t:TypeId)(r:Value),f.resultTypes[j]? = za t->(v.resultList f.resultTypes.size)[j]? = za r->Value.okWide P F .any 0 t r): s.post enc P f o fresh i D W args v F:=by have G:∀p∈d,p.block<W.heap.size:=λp g=>M.lt p g;have B:∀p∈d,(λb=>decide (b<W.heap.size)) p.block=true:=λp g=>(by simpa using G p g);refine ⟨ds,J,d,[],pa,pv,M,A _ _ _,h _ B,e _ B,World.keptBut_mono (λp g=>⟨g,?_⟩) (S.frame (·∈d)),λ_=>?_⟩;{rw[q,List.mem_append]at g;exact Or.inr g};have⟨_,_,_,_,_,T,U⟩:=M;refine ⟨L,_,_,([]++pa)++pv,⟨[]++pa,pv,ChangeShapes.trodAll_append (h _ (λ_ _=>rfl)) (A _ _ _),e _ (λ_ _=>rfl),rfl,?_,?_⟩,?_⟩;{intro b off g;have I:MemPlace.cell b off∈d:=(by rw[q];simpa using g);rw[S.frozen (G _ I)];exact T b off I};{intro ha;have:=U ha;rw[q]at this;simpa using this};intro p g _;rw[q];simpa using g
end Go.Id
namespace Go.Id
open Go
variable {P:Program} {E:Nat->IV}
def opsL:List (IV×IV):=[(.str [],.int .u8 0),(.str [60],.int .u8 1),(.str [60,61],.int .u8 3),(.str [61],.int .u8 2),(.str [62],.int .u8 4),(.str [62,61],.int .u8 6)]
def vM (op:Int):List UInt8:=if op=1 then [60] else if op=2 then [61] else if op=3 then [60,61] else if op=4 then [62] else if op=6 then [62,61] else []
def Pk(g:Nat):IC :=(.seq (.lF 0 [⟨(za 2),zb,(.q (.lh (.c (.str []))))⟩] [0]) (.seq (.seq (.lF 1 [⟨(za 5),zb,(.q (.load zb (.g g)))⟩,⟨(za 6),zb,(.ph (.t 5))⟩] [0,6]) (.block 0 (.loop (.seq (.lF 2 [⟨(za 7),zb,(.qJ (.t 6))⟩,⟨(za 8),zb,(.q (.ext 0 (.t 7)))⟩] [0,6,8]) (.seq (.cond (.t 8) .skip (.exit 0)) (.block 1 (.seq (.lF 3 [⟨(za 9),zb,(.qR (.t 6))⟩,⟨(za 10),zb,(.q (.ext 0 (.t 9)))⟩,⟨(za 11),zb,(.q (.ext 1 (.t 9)))⟩,⟨(za 3),zb,(.q (.lh (.t 10)))⟩,⟨(za 4),zb,(.q (.lh (.t 11)))⟩] [0,3,4,6]) (.seq (.lF 4 [⟨(za 12),zb,(.q (.lh (.t 4)))⟩,⟨(za 13),zb,(.q (.lh (.t 0)))⟩,⟨(za 14),zb,(.q (.bin .eql (.t 12) (.t 13)))⟩] [0,3,6,14]) (.cond (.t 14) (.seq (.lF 5 [⟨(za 15),zb,(.q (.lh (.t 3)))⟩,⟨(za 2),zb,(.q (.lh (.t 15)))⟩] [2]) .ret) .skip))))))))) (.seq (.lF 6 [⟨(za 2),zb,(.q (.lh (.c (.str []))))⟩] [2]) .ret)))
def RT{f:Type}{d:f}{e:f}:∀ {l:List f}{j:Nat},e∈l->e∈l.eraseIdx j\/e=l.getD j d:=by intro l;induction l with|nil=>intro j h;cases h|cons x l ih=>intro j h;cases j with|zero=>rcases zw.1 h with rfl|h;{exact .inr rfl};exact .inl h|succ j=>rcases zw.1 h with rfl|h;{exact .inl (zo ..)};rcases ih (j:=j) h with h|h;{exact .inl (zl _ h)};exact .inr h
structure TxI (O0:aQ) (n:Int) (id:Nat) (m:Nat) (fr:a8) (O:aQ):Prop where
 f0:fr.get 0=.int .u8 n
 f6:fr.get 6=.ptr id 0
 aP:O0.aP<=O.aP
 low:∀i,i<O0.aP->O.aR i=O0.aR i
 lt:O0.aP<=id
 aR:∃left cur,O.aR id=za (.fJ left cur)/\left.length=m/\(∀e∈left,e∈opsL)/\∀e∈opsL,e.2=.int .u8 n->e∈left
variable {n:Int}
def YP{e:IV×IV}(h:e∈opsL)(d:e.2=.int .u8 n):e.1=.str (vM n):=by simp only[opsL,zw,List.not_mem_nil,aj]at h;rcases h with rfl|rfl|rfl|rfl|rfl|rfl<;>cases d<;>rfl
def Wn(h:∀e∈opsL,e.2≠.int .u8 n):vM n=[]:=by have j:=h (.str [60],.int .u8 1) (by simp[opsL]);have i:=h (.str [61],.int .u8 2) (by simp[opsL]);have g:=h (.str [60,61],.int .u8 3) (by simp[opsL]);have f:=h (.str [62],.int .u8 4) (by simp[opsL]);have d:=h (.str [62,61],.int .u8 6) (by simp[opsL]);simp only[ne_eq,IV.int.injEq,az]at j i g f d;simp[vM,Ne.symm j,Ne.symm i,Ne.symm g,Ne.symm f,Ne.symm d]
def jx7{f g:Nat}{pf:List Nat}{an:lZ}(hf:ue P f 16 pf an (Pk g) [.t 2])(T:E g=.bd [.bY opsL]):PC P E f [.int .u8 n] (.str (vM n)):=by
 refine lj5 cd hf (Nat.le_of_ble_eq_true rfl) λO Y=>?_;simp only[Pk,zF,zG,xM,wX,zH,xN,zJ,xO,A1,Cn,AZ,A0,zK,xP,zL,xQ,xR,wY,zM,w_q,xS,A2,A3,xT,A4,xV,wZ,xU,zN,zO,zP,xW,xc,A5,zQ,A6,zR,xX,xY,zS,A7,A8,A9,Ba,Bb,Bc,Be,Bf,Bg,Bh,zT,Bi,zV,Bj,zW,xZ,zX,Ab,Bk,Cr,Cs,Bl,Bm,Bn,Bo,Bp,Bq,Br,Bs,Bt,Bu,Ac,yc,xf,wH,yd,xg,zY,zZ,Aa,ye,Co,Cp,wJ,xk,yr,yu,yv,yq,Ao,e_t,e_c,e_g,e_f,Bv,Ad,Bw,Bx,By,gk,Bz,Ae,yf,BA,yg,BC,yh,yi,BD,Af,BF,Ag,BG,BH,BI,BJ,Ah,Ai,vE,uf,tU,vD,yj,yk,Aj,Ak,yl,ym,Ct,xh,Al,Am,An,xi,yp,wI,xj,xl,yw,xm,xo,Ap,Aq,vF,vG,yx,yy,yz,yA,Ar,As,yB,xp,BK,BL,BM,BN,BO,BP,BQ,BR,BS,BU,BV,BW,vH,uY,Au,Av,Aw,Ax,Ay,Az,AA,AB,AC,uZ,xq,yC,yD,yE,AD,AE,AF,AG,BX,BY,AH,BZ,yF,yG,yH,B6,tG,ug,AO,yI,yJ,xr,my,nP,B4,vI,xu,B5,vJ,xw,xx,yK,yL,yM,yN,xy,yO,yP,xz,wK,wB,xA,yQ,xB,AI,AJ,AK,yR,xC,yS,yT,xD,wL,wC,xE,yU,xF,AL,AM,AN,zi,zf,z4,qb,z0,zn,zx,z7,z8,a8.wW,a8.get_nil,bH,aV,aC,aB,zy,zq,zt,zp,z1,z5,z6,z2,z3,qf,qe,qg,zv,zm,zu,af,ae,↓reduceIte,reduceCtorEq,az,and_true,T];refine OX cd (TxI O n O.aP) opsL.length ⟨rfl,rfl,?_,?_,qa _,opsL,zb,?_,rfl,λ_ h=>h,λ_ h _=>h⟩ ?_;{show O.aP<=O.aP+1;omega};{intro i hi;simp only[aV];rw[aa om]};{simp only[aV,af]};rintro m fr s ⟨X,W,I,G,h3,left,cur,V,Z,M,L⟩;have S:oA s (.ptr O.aP 0)=za (O.aP,left):=by simp only[oA,V]
 simp only[zF,zG,xM,wX,zH,xN,zJ,xO,A1,Cn,AZ,A0,zK,xP,zL,xQ,xR,wY,zM,w_q,xS,A2,A3,xT,A4,xV,wZ,xU,zN,zO,zP,xW,xc,A5,zQ,A6,zR,xX,xY,zS,A7,A8,A9,Ba,Bb,Bc,Be,Bf,Bg,Bh,zT,Bi,zV,Bj,zW,xZ,zX,Ab,Bk,Cr,Cs,Bl,Bm,Bn,Bo,Bp,Bq,Br,Bs,Bt,Bu,Ac,yc,xf,wH,yd,xg,zY,zZ,Aa,ye,Co,Cp,wJ,xk,yr,yu,yv,yq,Ao,e_t,e_c,e_g,e_f,Bv,Ad,Bw,Bx,By,gk,Bz,Ae,yf,BA,yg,BC,yh,yi,BD,Af,BF,Ag,BG,BH,BI,BJ,Ah,Ai,vE,uf,tU,vD,yj,yk,Aj,Ak,yl,ym,Ct,xh,Al,Am,An,xi,yp,wI,xj,xl,yw,xm,xo,Ap,Aq,vF,vG,yx,yy,yz,yA,Ar,As,yB,xp,BK,BL,BM,BN,BO,BP,BQ,BR,BS,BU,BV,BW,vH,uY,Au,Av,Aw,Ax,Ay,Az,AA,AB,AC,uZ,xq,yC,yD,yE,AD,AE,AF,AG,BX,BY,AH,BZ,yF,yG,yH,B6,tG,ug,AO,yI,yJ,xr,my,nP,B4,vI,xu,B5,vJ,xw,xx,yK,yL,yM,yN,xy,yO,yP,xz,wK,wB,xA,yQ,xB,AI,AJ,AK,yR,xC,yS,yT,xD,wL,wC,xE,yU,xF,AL,AM,AN,zi,zf,z4,qb,z0,zn,zx,z7,z8,a8.wW,a8.get_nil,bH,aV,aC,aB,zy,zq,zt,zp,z1,z5,z6,z2,z3,qf,qe,qg,zv,zm,zu,af,ae,↓reduceIte,reduceCtorEq,az,and_true,X,W,S];constructor;{intro h0;subst h0;have B:∀e∈opsL,e.2≠.int .u8 n:=λe he A=>(by have:=L e he A;cases this);refine ⟨λi hi=>G i hi,I,?_⟩;rw[Wn B];exact .aT _ (.str _)};intro j J;have p:left.getD j (.undef,.undef)∈left:=eY _ J;have o:=M _ p;have q:∀c x,nK ⟨x,(s.put O.aP (.fJ (left.eraseIdx j) (za c))).aR⟩ (.ptr O.aP 0)=za (.tuple [c.1,c.2]):=λc x=>by simp only[nK,aV,af]
 generalize hc:left.getD j (.undef,.undef)=c at p o ⊢;obtain ⟨k,D⟩:∃k,c.2=.int .u8 k:=by simp only[opsL,zw,List.not_mem_nil,aj]at o;rcases o with rfl|rfl|rfl|rfl|rfl|rfl<;>exact ⟨_,rfl⟩
 simp only[q,zF,zG,xM,wX,zH,xN,zJ,xO,A1,Cn,AZ,A0,zK,xP,zL,xQ,xR,wY,zM,w_q,xS,A2,A3,xT,A4,xV,wZ,xU,zN,zO,zP,xW,xc,A5,zQ,A6,zR,xX,xY,zS,A7,A8,A9,Ba,Bb,Bc,Be,Bf,Bg,Bh,zT,Bi,zV,Bj,zW,xZ,zX,Ab,Bk,Cr,Cs,Bl,Bm,Bn,Bo,Bp,Bq,Br,Bs,Bt,Bu,Ac,yc,xf,wH,yd,xg,zY,zZ,Aa,ye,Co,Cp,wJ,xk,yr,yu,yv,yq,Ao,e_t,e_c,e_g,e_f,Bv,Ad,Bw,Bx,By,gk,Bz,Ae,yf,BA,yg,BC,yh,yi,BD,Af,BF,Ag,BG,BH,BI,BJ,Ah,Ai,vE,uf,tU,vD,yj,yk,Aj,Ak,yl,ym,Ct,xh,Al,Am,An,xi,yp,wI,xj,xl,yw,xm,xo,Ap,Aq,vF,vG,yx,yy,yz,yA,Ar,As,yB,xp,BK,BL,BM,BN,BO,BP,BQ,BR,BS,BU,BV,BW,vH,uY,Au,Av,Aw,Ax,Ay,Az,AA,AB,AC,uZ,xq,yC,yD,yE,AD,AE,AF,AG,BX,BY,AH,BZ,yF,yG,yH,B6,tG,ug,AO,yI,yJ,xr,my,nP,B4,vI,xu,B5,vJ,xw,xx,yK,yL,yM,yN,xy,yO,yP,xz,wK,wB,xA,yQ,xB,AI,AJ,AK,yR,xC,yS,yT,xD,wL,wC,xE,yU,xF,AL,AM,AN,zi,zf,z4,qb,z0,zn,zx,z7,z8,a8.wW,a8.get_nil,bH,aV,aC,aB,zy,zq,zt,zp,z1,z5,z6,z2,z3,qf,qe,qg,zv,zm,zu,af,ae,↓reduceIte,reduceCtorEq,az,and_true,D];by_cases r:k=n;{subst r;simp only[zF,zG,xM,wX,zH,xN,zJ,xO,A1,Cn,AZ,A0,zK,xP,zL,xQ,xR,wY,zM,w_q,xS,A2,A3,xT,A4,xV,wZ,xU,zN,zO,zP,xW,xc,A5,zQ,A6,zR,xX,xY,zS,A7,A8,A9,Ba,Bb,Bc,Be,Bf,Bg,Bh,zT,Bi,zV,Bj,zW,xZ,zX,Ab,Bk,Cr,Cs,Bl,Bm,Bn,Bo,Bp,Bq,Br,Bs,Bt,Bu,Ac,yc,xf,wH,yd,xg,zY,zZ,Aa,ye,Co,Cp,wJ,xk,yr,yu,yv,yq,Ao,e_t,e_c,e_g,e_f,Bv,Ad,Bw,Bx,By,gk,Bz,Ae,yf,BA,yg,BC,yh,yi,BD,Af,BF,Ag,BG,BH,BI,BJ,Ah,Ai,vE,uf,tU,vD,yj,yk,Aj,Ak,yl,ym,Ct,xh,Al,Am,An,xi,yp,wI,xj,xl,yw,xm,xo,Ap,Aq,vF,vG,yx,yy,yz,yA,Ar,As,yB,xp,BK,BL,BM,BN,BO,BP,BQ,BR,BS,BU,BV,BW,vH,uY,Au,Av,Aw,Ax,Ay,Az,AA,AB,AC,uZ,xq,yC,yD,yE,AD,AE,AF,AG,BX,BY,AH,BZ,yF,yG,yH,B6,tG,ug,AO,yI,yJ,xr,my,nP,B4,vI,xu,B5,vJ,xw,xx,yK,yL,yM,yN,xy,yO,yP,xz,wK,wB,xA,yQ,xB,AI,AJ,AK,yR,xC,yS,yT,xD,wL,wC,xE,yU,xF,AL,AM,AN,zi,zf,z4,qb,z0,zn,zx,z7,z8,a8.wW,a8.get_nil,bH,aV,aC,aB,zy,zq,zt,zp,z1,z5,z6,z2,z3,qf,qe,qg,zv,zm,zu,af,ae,↓reduceIte,reduceCtorEq,az,and_true];refine ⟨λi hi=>by rw[aa om];exact G i hi,I,?_⟩;rw[YP o D];exact .aT _ (.str _)};simp only[zF,zG,xM,wX,zH,xN,zJ,xO,A1,Cn,AZ,A0,zK,xP,zL,xQ,xR,wY,zM,w_q,xS,A2,A3,xT,A4,xV,wZ,xU,zN,zO,zP,xW,xc,A5,zQ,A6,zR,xX,xY,zS,A7,A8,A9,Ba,Bb,Bc,Be,Bf,Bg,Bh,zT,Bi,zV,Bj,zW,xZ,zX,Ab,Bk,Cr,Cs,Bl,Bm,Bn,Bo,Bp,Bq,Br,Bs,Bt,Bu,Ac,yc,xf,wH,yd,xg,zY,zZ,Aa,ye,Co,Cp,wJ,xk,yr,yu,yv,yq,Ao,e_t,e_c,e_g,e_f,Bv,Ad,Bw,Bx,By,gk,Bz,Ae,yf,BA,yg,BC,yh,yi,BD,Af,BF,Ag,BG,BH,BI,BJ,Ah,Ai,vE,uf,tU,vD,yj,yk,Aj,Ak,yl,ym,Ct,xh,Al,Am,An,xi,yp,wI,xj,xl,yw,xm,xo,Ap,Aq,vF,vG,yx,yy,yz,yA,Ar,As,yB,xp,BK,BL,BM,BN,BO,BP,BQ,BR,BS,BU,BV,BW,vH,uY,Au,Av,Aw,Ax,Ay,Az,AA,AB,AC,uZ,xq,yC,yD,yE,AD,AE,AF,AG,BX,BY,AH,BZ,yF,yG,yH,B6,tG,ug,AO,yI,yJ,xr,my,nP,B4,vI,xu,B5,vJ,xw,xx,yK,yL,yM,yN,xy,yO,yP,xz,wK,wB,xA,yQ,xB,AI,AJ,AK,yR,xC,yS,yT,xD,wL,wC,xE,yU,xF,AL,AM,AN,zi,zf,z4,qb,z0,zn,zx,z7,z8,a8.wW,a8.get_nil,bH,aV,aC,aB,zy,zq,zt,zp,z1,z5,z6,z2,z3,qf,qe,qg,zv,zm,zu,af,ae,↓reduceIte,reduceCtorEq,az,and_true,r];refine ⟨left.length-1,om,rfl,rfl,I,λi hi=>?_,qa _,left.eraseIdx j,za c,?_,?_,λe he=>M e (List.mem_of_mem_eraseIdx he),λe he A=>?_⟩;{simp only[aV];rw[aa om];exact G i hi};{simp only[aV,af]};{rw[List.length_eraseIdx_of_lt J]};have U:=L e he A;rcases RT (d:=(IV.undef,IV.undef)) (j:=j) U with F|F;{exact F};rw[F]at A;rw[hc,D]at A;cases A;exact au rfl r
end Go.Id
namespace Go.Id
open Go
variable {P:Program} {E:Nat->IV} {O O':aQ} {N n0:Nat} {fr:a8}
def upQ(I:Nat->a8->aQ->Prop)(i n:Nat)(Q:Exit->a8->aQ->Prop):Exit->a8->aQ->Prop|.normal,fr,O=>i+1<=n/\I (i+1) fr O|e,fr,O=>Q e fr O
variable {I:Nat->a8->aQ->Prop}{n i:Nat}{Q:Exit->a8->aQ->Prop}
def ls2:upQ I n i Q .normal fr O=(n+1<=i/\I (n+1) fr O):=nr rfl
def ls3{k:Nat}:upQ I n i Q (.exit k) fr O=Q (.exit k) fr O:=nr rfl
def ls4:upQ I n i Q .ret fr O=Q .ret fr O:=nr rfl
def cy{pt:PT}{ct:CT}(g:TOK P E pt ct){x:IC}(I:Nat->a8->aQ->Prop)(n:Nat)(h:I 0 fr O)(j:∀i fr O,i<=n->I i fr O->fp pt ct P E N n0 x fr O (upQ I i n Q)):RI P E N n0 (.loop x) fr O Q:=by refine Nz (λm fr O=>∃i,i<=n/\m=n-i/\I i fr O) n ⟨0,Nat.zero_le _,rfl,h⟩ ?_;rintro m fr O ⟨i,hi,rfl,d⟩;refine C3 x fr O _ _ ?_ (wG g x fr O _ (j i fr O hi d));intro e f s q;cases e with|normal=>exact ⟨n-(i+1),by have:=q.1;omega,i+1,q.1,rfl,q.2⟩|_=>exact q
def Dz{d:Type}(es:List d)(i:Nat)(h:i<es.length):∃a,a∈es/\es[i]? = za a/\es.drop i=a::es.drop (i+1)/\(∀(f:d->List IV),(es.map f).getD i []=f a)/\es.take (i+1)=es.take i++[a]:=⟨es[i],List.getElem_mem h,ze h,List.drop_eq_getElem_cons h,λf=>by simp[zc,h],by rw[List.take_add_one,ze h];rfl⟩
def NF(s:List UInt8)(i:Nat)(h:i<s.length):((⟨s.toArray⟩:ByteArray).get! i)=s[i]:=by show (s.toArray)[i]! = s[i];simp[h]
def TJ(s:List UInt8)(i:Nat)(h:i<s.length)(d:s[i].toNat<128):Utf8.decode ⟨s.toArray⟩ i=(s[i].toNat,1):=by unfold Utf8.decode;simp only[zv,NF s i h];rw[ab d]
def decode_high(s:List UInt8)(i:Nat)(h:i<s.length)(d:¬s[i].toNat<128):128<=(Utf8.decode ⟨s.toArray⟩ i).1:=by unfold Utf8.decode;simp only[zv,NF s i h];rw[aa d];have e:Utf8.runeError=65533:=rfl;(repeat' split);all_goals first|(rw[e];omega)|(simp only[ge_iff_le,zg,ah]at *;omega)
def AX(P:Program)(E:Nat->IV)(id:Nat)(I:List (List IV)->aQ->Prop)(S:aQ->Prop):Prop :=∀a rest O,I (a::rest) O->CV P E (.yield id) a O λv s=>O.aP<=s.aP/\((v=.bool true/\I rest s)\/(v=.bool false/\S s))
end Go.Id
namespace Go.Id
open Go
attribute [go_sem] zF zG xM wX zH xN zJ xO A1 Cn AZ A0 zK xP zL xQ xR wY zM w_q xS
 A2 A3 xT A4 xV wZ xU zN zO zP xW X7 xc A5 zQ A6 zR xX xY zS A7
 A8 A9 Ba Bb Bc Be Bf Bg Bh zT Bi zV Bj zW xZ zX Ab Bk Cr Cs Bl Bm Bn Bo
 Bp Bq Br Bs Bt Bu Ac yc xf wH yd xg zY zZ Aa ye Co Cp wJ xk
 yr yu yv yq Ao e_t e_c e_g e_f Bv Ad Bw Bx By gk Bz Ae yf BA yg BC yh
 yi BD Af BF Ag BG BH BI BJ Ah Ai vE uf tU vD yj yk Aj Ak yl ym Ct
 xh Al Am An xi yp wI xj xl yw xm VK xo Ap Aq vF vG yx yy
 yz yA Ar As yB xp BK BL BM BN BO BP BQ BR BS BU BV BW vH uY Au Av
 Aw Ax Ay Az AA AB AC km6 km7 km8 km9 uZ xq yC yD yE AD AE AF AG BX BY AH BZ
 yF yG yH B6 tG ug AO yI yJ xr my nP B4 vI xu B5 vJ xw xx yK
 yL yM yN xy yO yP xz wK wB xA yQ xB AI AJ AK yR xC
 yS yT xD wL wC xE yU xF AL AM AN a8.wW a8.get_nil bH aV ls2 ls3
 ls4 vE uf tU vD lj4 km5 
attribute [go_sem] zi zf z4 qb z0 zn zx z7 z8 zy zq zt zp z1 z5 z6 z2 zv zm zu if_true if_false true_and and_true
variable {P:Program} {E:Nat->IV} {O O':aQ} {N n0:Nat} {fr:a8} {pf:List Nat}
variable {n:Nat}{g:IC}{b:List IR}{z:List IV}
def dQ{v:IV}(hf:FOK P n (N,g,b))(i:z.length<=N)(h:∀O,fp og mI P E N O.aP g (kU z 0) O (qS b λf O'=>f=v/\O'=O)):PC P E n z v:=by have⟨_,pf,an,j⟩:=hf;exact lv4 cd j i h
variable {K:IV->aQ->Prop}
def cV(hf:FOK P n (N,g,b))(i:z.length<=N)(h:fp og mI P E N O.aP g (kU z 0) O (qS b K)):C P E n z O K:=by have⟨_,pf,an,j⟩:=hf;exact C_T cd j i h
def emp:aQ:=⟨0,λ_=>zb⟩
def XM:emp.aP=0:=nr rfl
def Z2:emp.aR n=zb:=nr rfl
attribute [go_sem] XM Z2
def bI{v:IV}(hE:∀f,bM 0 (E f))(hf:FOK P n (N,g,b))(j:z.length<=N)(ha:∀a∈z,bM 0 a)(h:fp og mI P E N 0 g (kU z 0) emp (qS b λi O'=>gH O' 0 i v)):PC P E n z v :=MC hE ha (cV (O:=emp) hf j h)
def bk{e:FE}{v:IV}(hf:FOK P n e)(h:PC P E n z v)(d:K v O):qK P E zb n z O K :=mh hf.1 (lM h) λ_ _ ⟨i,g⟩=>by subst i;subst g;exact ⟨qa _,d⟩
def bJ{e:FE}{f:IV->aQ->Prop}(hf:FOK P n e)(h:C P E n z O K)(g:∀v s,K v s->O.aP<=s.aP/\f v s):qK P E zb n z O f :=mh hf.1 h g
variable {S:Nat->Prop}
def eN(b:Bool):de O S (.bool b) (.bool b):=.aT _ (.bool _)
def fu(k:IntKind)(n:Int):de O S (.int k n) (.int k n):=.aT _ (.int _ _)
def sI(s:List UInt8):de O S (.str s) (.str s):=.aT _ (.str _)
def OQ{ρ:bC}{w:World}{v:IV}{d:Array Value}(h:CR ρ w [v] d):VR ρ w v (d.getD 0 undef):=by have:=h.2 0 (Nat.zero_lt_one);simpa using this
variable {c:IV}
def FZ{ρ:bC}{w:World}{v:IV}{d:Array Value}(h:CR ρ w [c] d)(e:VR ρ w v (d.getD 0 undef)):CR ρ w [v] d :=⟨h.1,λi hi=>by have:i=0:=(by simp at hi;omega);subst this;simpa using e⟩
def CN{v:IV}(j:PC P E n [.bc] v)(i:PC P E n [.dN] v):PC P E n [.aW []] v:=by intro O ρ w d hs g;have e:=OQ g;generalize h:d.getD 0 undef=r at e;cases e with|gA=>exact j O ρ w d hs (FZ g (by rw[h];exact .bc))|aW es b o cap esz sp vs hf hsz hc e hle=>exact i O ρ w d hs (FZ g (by rw[h];exact .dN _ _))
def eJ{i:Nat}(h:i<2^62):IntKind.i64.wrap ((i:Int)+1)=((i+1:Nat):Int):=by rw[wrap64 om om];omega
def dA{g:Type}(es:List g)(i:Nat)(h:i<es.length)(j:i<2^62:=by omega):∃a,a∈es/\es[i]? = za a/\es.drop i=a::es.drop (i+1)/\(∀(f:g->List IV),(es.map f).getD i []=f a)/\es.take (i+1)=es.take i++[a]/\IntKind.i64.wrap ((i:Int)+1)=((i+1:Nat):Int):=by have⟨a,b,c,d,e,f⟩:=Dz es i h;exact ⟨a,b,c,d,e,f,eJ j⟩
attribute [go_sem] Int.natCast_nonneg Int.ofNat_lt Int.lt_irrefl Nat.lt_irrefl
def Z3 {cs:List IV}:gz cs []=za cs:=by simp only[gz]
variable {f:Nat}
def Z4{cs:List IV}{v:IV}{ps:List (Nat×Nat×IV)}:gz cs ((n,f,v)::ps)=if v.cs.length=f/\n+f<=cs.length/\v.cs.all IV.aY=true then gz (cO cs n v.cs) ps else zb:=by simp only[gz]
def kj2{cs:List IV}:cO (c::cs) 0 z=z++(c::cs).drop z.length:=by simp[cO]
def kj3{cs:List IV}:cO (c::cs) (n+1) z=c::cO cs n z:=by simp[cO,Nat.add_right_comm]
variable {d:TypeId}
def kj4{e:List (List IV)}:gg (.slice d) (.aW (z::e))=za false:=nr rfl
def kj5:gg (.slice d) .bc=za true:=nr rfl
def kj6:gg (.slice d) .dN=za false:=nr rfl
def kj7:gg (.slice d) .cw=za false:=nr rfl
def kj8{l e:Nat}:gg (.slice d) (.slice n f l e)=za false:=nr rfl
def kD:gg (.pointer d) .ee=za true:=nr rfl
def Z5{cs:List IV}:gg (.pointer d) (.bd cs)=za false:=nr rfl
def Z6:gg (.pointer d) (.ptr n f)=za false:=nr rfl
def XN{l:List IV}:chunk n 0 l=[]:=nr rfl
def XO{l:List IV}:chunk n (f+1) l=l.take n::chunk n f (l.drop n):=nr rfl
def kj9:rep z 0=[]:=nr rfl
def F1:rep z (n+1)=z++rep z n:=nr rfl
def Z7{cs:List IV}:kG zb n cs=cs[n]?:=nr rfl
def Z8{cs:List IV}:kG (za f) n cs=if n+f<=cs.length then za (.agg ((cs.drop n).take f)) else zb:=nr rfl
def kk3{d:Option Nat}{cs:List IV}:Cb d n (.agg cs)=kG d n cs:=nr rfl
variable {k:IntKind}{i:Int}
def kk4{d:Option Nat}{cs:List IV}:vP d n f (.agg cs) (.int k i)=if 0<=i/\i<n then kG d (i.toNat*f) cs else zb:=nr rfl
def XP{v:IV}:zC n f v (.int k i)=if 0<=i/\i<n then qE (i.toNat*f) v else zb:=nr rfl
variable {a:List UInt8}
def xL:tO (.str a) (.int k i)=if 0<=i then (a[i.toNat]?).map λb=>.int .u8 b.toNat else zb:=nr rfl
variable {e:Bool}
def F2{d:List Nat}{a:List IV}:sd d true e (.agg z) (.agg a)=(allEq d z a).map λb=>.bool (b ^^ e):=nr rfl
def F3:allEq [] [] []=za true:=nr rfl
def D6:Option Bool->Option Bool->Option Bool|some a,za b=>za (a&&b)|_,_=>zb
def kk6{b:Bool}:D6 (za e) (za b)=za (e&&b):=nr rfl
def F4{ts:List Nat}{y:IV}{d:List IV}:allEq (n::ts) (c::z) (y::d)=D6 (fB n c y) (allEq ts z d):=by simp only[allEq];cases fB n c y<;>cases allEq ts z d<;>rfl
def kk7{b:Int}:fB 1 (.int k i) (.int k b)=za (decide (i=b)):=by simp[fB]
def kk8{b:List UInt8}:fB 2 (.str a) (.str b)=za (decide (a=b)):=nr rfl
def zD{b:List UInt8}:dR 2 (.str a) (.str b)=za (decide (a=b)):=nr rfl
def kk9{b:Bool}:fB 0 (.bool e) (.bool b)=za (e==b):=nr rfl
attribute [go_sem] F2 F3 F4 kk6 kk9 kk7 kk8
attribute [go_sem] Z3 Z4 kj2 kj3 kj4 kj5 kj6 kj7 kj8 kD Z5 Z6 XN XO kj9 F1 Z7 Z8 kk3 kk4 XP xL
attribute [go_sem] Bool.true_or Bool.or_true Bool.false_or Bool.or_false Bool.true_and Bool.false_and Bool.and_false
attribute [go_sem] zr List.length_nil List.take_succ_cons List.take_zero List.length_map Int.toNat_natCast
end Go.Id
namespace Go.Id
open Go
variable {P:Program} {E:Nat->IV} {O O':aQ} {N n0:Nat} {fr:a8}
def vT (I:List (List IV)->aQ->Prop):Prop:=∀rest s s',I rest s->s.aP<=s'.aP->(∀i,i<s.aP->s'.aR i=s.aR i)->I rest s'
def P0 (n:Nat)(I:List (List IV)->aQ->Prop)(S:aQ->Prop):IV->aQ->Prop:=λ_ s=>n<=s.aP/\(I [] s\/S s)
def zE(P:Program)(E:Nat->IV)(fv:IV)(jP:List (List IV))(own:aQ->Prop):Prop :=∀(yid:Nat)(I:List (List IV)->aQ->Prop)(S:aQ->Prop)(O:aQ),(∀rest s,I rest s->own s)->vT I->AX P E yid I S->I jP O->CVf P E fv [.yield yid] O (P0 O.aP I S)
def QC(P:Program)(E:Nat->IV)(N n0:Nat)(id:Nat)(L:LoopState->Option JX->bU)(x:IC)(K:IV->aQ->Prop):Exit->a8->aQ->Prop|.normal,f,s=>s.aR id=za (L .ready zb)/\fp og mI P E N n0 x f (s.put id (L .busy zb)) (uX id L K)|_,_,_=>False
variable {i:Nat}{L:LoopState->Option JX->bU}{K:IV->aQ->Prop}
def le2{x:IC}:QC P E N n0 i L x K .normal fr O=(O.aR i=za (L .ready zb)/\fp og mI P E N n0 x fr (O.put i (L .busy zb)) (uX i L K)):=nr rfl
def le3:uX i L K .normal fr O=(O.aR i=za (L .busy zb)/\K (.bool true) (O.put i (L .ready zb))):=nr rfl
def le4:uX i L K .ret fr O=(O.aR i=za (L .busy zb)/\K (.bool false) (O.put i (L .done (za .ret)))):=nr rfl
variable {p:Nat}
def le5:uX i L K (.exit p) fr O=(O.aR i=za (L .busy zb)/\K (.bool false) (O.put i (L .done (za (.exit p))))):=nr rfl
def Z9:rR fr [] []=fr:=nr rfl
def js8{ps:List Nat}{v:IV}{vs:List IV}:rR fr (i::ps) (v::vs)=rR (fr.set i v) ps vs:=nr rfl
def le6{v:IV}:fr.set i v=(i,v)::fr:=nr rfl
def goQ(id n:Nat)(L:LoopState->Option JX->bU)(J:List (List IV)->aQ->Prop)(Q:Exit->a8->aQ->Prop)(fr:a8)(rest:List (List IV)):IV->aQ->Prop:=λv s=>n<=s.aP/\((v=.bool true/\s.aR id=za (L .ready zb)/\J rest s)\/(v=.bool false/\∃st pend,st≠.busy/\s.aR id=za (L st pend)/\Gs Q fr (s.kill id) pend))
variable {J:List (List IV)->aQ->Prop}{Q:Exit->a8->aQ->Prop}{d:List (List IV)}
def rP(g:p<=O.aP)(f:O.aR i=za (L .ready zb))(e:J d O):goQ i p L J Q fr d (.bool true) O:=⟨g,.inl ⟨rfl,f,e⟩⟩
def qH(g:p<=O.aP)(f:O.aR i=za (L .done (za .ret)))(e:Q .ret fr (O.kill i)):goQ i p L J Q fr d (.bool false) O:=⟨g,.inr ⟨rfl,.done,za .ret,(λh=>by cases h),f,e⟩⟩
def Fy{g:IX}{ps:List Nat}{y x:IC}{jP:List (List IV)}{own:aQ->Prop}(hT:zE P E (g.ev E fr) jP own)(J:List (List IV)->aQ->Prop)(G:∀d s,J d s->own s)(r:vT J)(M:∀a∈jP,a.length=ps.length)(A:∀o,J jP ⟨O.aP+1,(O.put O.aP o).aR⟩)(B:∀(L:LoopState->Option JX->bU)(pre:List (List IV))(a:List IV)(d:List (List IV))(s:aQ),jP=pre++a::d->J (a::d) s->s.aR O.aP=za (L .ready zb)->O.aP<s.aP -> fp og mI P E N s.aP y (rR fr ps a) s (QC P E N s.aP O.aP L x (goQ O.aP s.aP L J Q fr d)))(T:∀s o,J [] s->O.aP<s.aP->s.aR O.aP=za o->Q .normal fr (s.kill O.aP)): RI P E N n0 (.mu g ps y x) fr O Q:=by refine Mz λL hL=>?_;let I:List (List IV)->aQ->Prop:=λd s=>(∃pre,jP=pre++d)/\s.aR O.aP=za (L .ready zb)/\O.aP<s.aP/\J d s;let S:aQ->Prop:=λs=>∃Z p,Z≠.busy/\s.aR O.aP=za (L Z p)/\Gs Q fr (s.kill O.aP) p;have hI:vT I:=(by rintro d s s' ⟨F,V,U,Y⟩ j hs;exact ⟨F,by rw[hs _ U];exact V,zk U j,r d s s' Y j hs⟩);have W:AX P E O.aP I S:=(by rintro a d s ⟨⟨pre,F⟩,V,U,Y⟩;refine ⟨by rw[V];rfl,?_⟩;have hb:=B L pre a d s F Y V U;refine hL s a _ (M a (by rw[F];simp)) V ?_;refine (CM y _ _ _ (C3 y _ _ _ _ ?_ (wG cd y _ _ _ hb)));intro e f s1 q;cases e with|normal=>(refine ⟨rfl,q.1,?_⟩;refine (CM x _ _ _ (C3 x _ _ _ _ ?_ (wG cd x _ _ _ q.2)));have X:∀v D,goQ O.aP s.aP L J Q fr d v D->s.aP<=D.aP/\((v=.bool true/\I d D)\/(v=.bool false/\S D)):=(by rintro v D ⟨j,h|h⟩;{exact ⟨j,.inl ⟨h.1,⟨pre++[a],by rw[F];simp⟩,h.2.1,zk U j,h.2.2⟩⟩};exact ⟨j,.inr ⟨h.1,h.2⟩⟩);intro e f D q2;cases e with|normal=>exact ⟨q2.1,X _ _ q2.2⟩|ret=>exact ⟨q2.1,X _ _ q2.2⟩|exit i=>exact ⟨q2.1,X _ _ q2.2⟩|_=>exact q2)|_=>exact q.elim);have h:=hT O.aP I S ⟨O.aP+1,(O.put O.aP (L .ready zb)).aR⟩ (λd s h=>G d s h.2.2.2) hI W ⟨⟨[],rfl⟩,by simp only[aV,af],Nat.lt_succ_self _,A _⟩;refine h.mono ?_;rintro v s ⟨j,h|h⟩;{exact ⟨Nat.le_of_lt j,.ready,zb,(λh=>by cases h),h.2.1,T s _ h.2.2.2 h.2.2.1 h.2.1⟩};exact ⟨Nat.le_of_lt j,h⟩
def pD{S:aQ->Prop}{a:List IV}(h:AX P E i J S)(hi:J (a::d) O)(e:∀s,O.aP<=s.aP->J d s->K (.bool true) s)(g:∀s,O.aP<=s.aP->S s->K (.bool false) s):F6 mI P E (.yield i) a O K:=by refine ⟨_,h a d O hi,?_⟩;rintro v s ⟨f,⟨rfl,h⟩|⟨rfl,h⟩⟩;{exact ⟨f,e s f h⟩};exact ⟨f,g s f h⟩
def Vz:(O.kill i).aP=O.aP:=nr rfl
def wV:(O.kill i).aR p=if p=i then zb else O.aR p:=nr rfl
attribute [go_sem] Vz wV
attribute [go_sem] le2 le3 le4 le5 Z9 js8 le6
end Go.Id
namespace Go.Id
open Go
variable {P:Program} {E:Nat->IV} {O O':aQ} {N n0:Nat} {fr:a8}
def JN(O:aQ):IV->Prop|.bd _=>True|.ptr i _=>(match O.aR i with|some (.cells _)=>True|_=>False)|_=>False
def QD:Option bU->Prop|some (.cells _)=>True|_=>False
variable {x:IX}
def kl2{d:Option Nat}:gn E fr O (.q (.load d x))=JN O (x.ev E fr):=nr rfl
def b_t {cs:List IV}:JN O (.bd cs)=True:=nr rfl
variable {n e:Nat}
def b_p:JN O (.ptr n e)=QD (O.aR n):=nr rfl
def b_o {cs:List IV}:QD (za (.cells cs))=True:=nr rfl
def le8:gn E fr O (.q (.lh x))=True:=nr rfl
def js9:gn E fr O (.q (.tR n x))=True:=nr rfl
def kl3:gn E fr O (.q (.vR x))=True:=nr rfl
def le9:gn E fr O (.q (.len n x))=True:=nr rfl
variable {y:IX}
def lf1{z:IV}{b:Bool}:gn E fr O (.q (.lE n z b x y))=True:=nr rfl
variable {z:List IV}{b:List (Nat×Nat×IX)}
def lf2:gn E fr O (.q (.bld z b))=True:=nr rfl
def lf3{op:BinOp}:gn E fr O (.q (.bin op x y))=True:=nr rfl
def jt1:gn E fr O (.q (.tS n x y))=True:=nr rfl
def kl4{k:IntKind}:gn E fr O (.q (.conv k x))=True:=nr rfl
def lf4:gn E fr O (.q (.ext n x))=True:=nr rfl
def kl5{z:IX}:gn E fr O (.q (.pick x y z))=True:=nr rfl
def lf5:gn E fr O (.q (.not x))=True:=nr rfl
def jt2{xs:List IX}:gn E fr O (.jW n xs)=True:=nr rfl
def kl6:gn E fr O (.ju n e z b)=True:=nr rfl
def lf6:gn E fr O (.lA n e z b)=True:=nr rfl
def lf7:gn E fr O (.app n x y)=True:=nr rfl
def jt3:gn E fr O (.store n x y)=True:=nr rfl
def kl7{z:IX}:gn E fr O (.oP n x y z)=True:=nr rfl
def jt4:gn E fr O (.alloc z)=True:=nr rfl
def XQ{xs:List IX}:gn E fr O (.jU x xs)=True:=nr rfl
attribute [go_sem] XQ kl2 b_t b_p b_o le8 js9 kl3 le9 lf1 lf2 lf3 jt1 kl4 lf4 kl5 lf5 jt2 kl6 lf6 lf7 jt3 kl7 jt4
def Grow(O:aQ)(v:IV)(esz:Nat)(es:List (List IV)):Prop :=(v=.bc/\es=[])\/∃id,v=.slice id 0 es.length esz/\O.aR id=za (.row es.flatten)/\id<O.aP
def cW(v:IV)(O:aQ):aQ:=match v with|.slice id _ _ _=>O.kill id|_=>O
variable {a:List (List IV)}
def rB(h:∀e∈a,e.length=n):a.flatten.length=a.length*n:=by induction a with|nil=>simp|cons e a ih=>simp[ih (λx d=>h x (zl _ d)),h e (zo ..),qh];omega
def VA(h:∀e∈a,e.length=n)(i j:Nat)(hi:i<a.length)(f:j<n):a.flatten.getD (i*n+j) .undef=(a.getD i []).getD j .undef:=by induction a generalizing i with|nil=>simp at hi|cons e a ih=>have he:=h e (zo ..);cases i with|zero=>simp[zc,z9,he,f]|succ i=>have o:¬((i+1)*n+j<e.length):=(by rw[he,qh];omega);have g:(i+1)*n+j-e.length=i*n+j:=(by rw[he,qh];omega);have:=ih (λx d=>h x (zl _ d)) i (by simpa using hi);simp only[zc,qn,z9,aa o,g,zf]at this ⊢;exact this
def EK(h:∀e∈a,e.all IV.aY=true):a.flatten.all IV.aY=true:=by simp only[zd,List.mem_flatten];rintro c ⟨e,he,hc⟩;exact zd.1 (h e he) c hc
def kP{v:IV}{nid:Nat}{e:List IV}(o:Grow O v n a)(h:∀x∈a,x.length=n/\x.all IV.aY=true)(he:e.length=n/\e.all IV.aY=true)(r:a.length<2147483648): c8 O nid n v (.aW [e])=za (.slice nid 0 (a.length+1) n,(cW v O).put nid (.row (a++[e]).flatten)):=by have d:dO O n (.aW [e])=za (1,e):=(by simp[dO,he.1]);have g:e.all IV.aY=true:=he.2;rcases o with ⟨rfl,rfl⟩|⟨id,rfl,i,j⟩;{unfold c8;rw[d];simp[g,cW]};unfold c8;rw[d];have q:a.flatten.all IV.aY=true:=EK λx f=>(h x f).2;have p:a.flatten.length=a.length*n:=rB λx f=>(h x f).1;simp[g,i,cW,q,p];omega
def Grow.new{v:IV}{nid:Nat}{e:List IV}(d:nid<O'.aP)(f:O'.aR nid=za (.row (a++[e]).flatten)):Grow O' (.slice nid 0 (a.length+1) n) n (a++[e]):=.inr ⟨nid,by simp,f,d⟩
def gf (v:IV):(cW v O).aP=O.aP:=by cases v<;>rfl
def jC{v:IV}(j:Grow O v n a)(i:Nat)(o:bU)(f:O.aR i=za o)(g:∀cs,o≠.row cs):(cW v O).aR i=za o:=by rcases j with ⟨rfl,rfl⟩|⟨id,rfl,d,h⟩;{exact f};show (if i=id then zb else O.aR i)=za o;rw[aa];{exact f};intro e;subst e;rw[f]at d;cases d;exact g _ rfl
variable {S:Nat->Prop}
def Grow.dJ{v:IV}{esz:Nat}{es:List (List IV)}(o:Grow O v esz es)(h:∀x∈es,x.length=esz)(q:∀id,v=.slice id 0 es.length esz->¬S id)(p:∀e∈es,∀c∈e,Nm S c):de O S v (.aW es):=by rcases o with ⟨rfl,rfl⟩|⟨id,rfl,f,g⟩;{exact .jr};refine .slice id 0 es.length esz es.flatten es (q id rfl) (.inr f) rfl (by rw[rB h];omega) (λi hi=>h _ (eY _ hi)) (λi hi j d=>?_);rw[zm,VA h i j hi d];exact .aT _ (p _ (eY _ hi) _ (eY _ (by rw[h _ (eY _ hi)];exact d)))
def Grow.mono{v:IV}{esz:Nat}(g:Grow O v esz a)(f:O.aP<=O'.aP)(h:∀id,v=.slice id 0 a.length esz->id<O.aP->O'.aR id=O.aR id):Grow O' v esz a:=by rcases g with h0|⟨id,rfl,e,d⟩;{exact .inl h0};exact .inr ⟨id,rfl,by rw[h id rfl d];exact e,zk d f⟩
variable {i:Nat}
def Grow.ne{v:IV}{o:bU}(j:Grow O v n a)(f:v=.slice e 0 a.length n)(h:O.aR i=za o)(g:∀cs,o≠.row cs):e≠i:=by intro b;subst b;rcases j with ⟨rfl,_⟩|⟨id',rfl,d,_⟩;{cases f};cases f;rw[h]at d;cases d;exact g _ rfl
def uM(j:O.aR n=za (.row []))(b:a≠[])(h:∀x∈a,x.length=e/\x.all IV.aY=true)(o:a.length<=2147483648): c8 O i e (.slice n 0 0 e) (.aW a)=za (.slice i 0 a.length e,(O.kill n).put i (.row a.flatten)):=by have f:dO O e (.aW a)=za (a.length,a.flatten):=(by simp only[dO];rw[ab (by simpa using λx g=>(h x g).1)]);have p:a.flatten.all IV.aY=true:=EK λx g=>(h x g).2;have h0:a.length≠0:=λd=>b (List.length_eq_zero_iff.1 d);unfold c8;rw[f];simp[p,j,h0,o]
def tw{x:IV}(f:O.aR n=za (.row []))(d:dO O e x=za (0,[])):c8 O i e (.slice n 0 0 e) x=za (.slice n 0 0 e,O):=by unfold c8;rw[d];simp[f]
def EL(h:∀e∈a,e.length=n)(j:Nat)(d:j<a.length):(a.flatten.drop (j*n)).take n=a.getD j []:=by induction a generalizing j with|nil=>simp at d|cons e a ih=>have he:=h e (zo ..);cases j with|zero=>simp[he]|succ j=>have g:(j+1)*n=e.length+j*n:=(by rw[he,qh];omega);rw[qn,g,List.drop_append,List.drop_of_length_le om,zq,show e.length+j*n-e.length=j*n from by omega];exact ih (λx f=>h x (zl _ f)) j (by simpa using d)
def VB{l:List IV}(h:(l.drop n).take z.length=z)(e:n+z.length<=l.length):cO l n z=l:=by unfold cO;have d:l.drop n=z++l.drop (n+z.length):=(by rw[<- List.drop_drop];(conv=>lhs;rw[<- ql z.length (l.drop n)]);rw[h]);rw[List.append_assoc,<- d,ql]
def HY{Q:IV->aQ->Prop}(j:C P E n [.bc] O Q)(i:C P E n [.dN] O Q):C P E n [.aW []] O Q:=by intro ρ w d hs g;have e:=OQ g;generalize h:d.getD 0 undef=r at e;cases e with|gA=>exact j ρ w d hs (FZ g (by rw[h];exact .bc))|aW es b o cap esz sp vs hf hsz hc e hle=>exact i ρ w d hs (FZ g (by rw[h];exact .dN _ _))
inductive sZ(O:aQ)(S:Nat->Prop):List IV->List IV->Prop|nil:sZ O S [] []|cons {v v':IV}{vs vs':List IV}(h:de O S v v')(t:sZ O S vs vs'):sZ O S (v::vs) (v'::vs')
def sZ.at{cs:List IV}(h:sZ O S cs z):z.length=cs.length/\∀i,i<cs.length->de O S (cs.getD i .undef) (z.getD i .undef):=by induction h with|nil=>exact ⟨rfl,λi hi=>au hi (zj _)⟩|cons h _ ih=>refine ⟨by simp only[zr,ih.1],λi hi=>?_⟩;cases i with|zero=>exact h|succ i=>exact ih.2 i (by simpa using hi)
def de.ls5{cs:List IV}(h:sZ O S cs z):de O S (.agg cs) (.agg z):=.agg _ _ h.at.1 h.at.2
def de.tK{cs:List IV}(h:sZ O S cs z):de O S (.tuple cs) (.tuple z):=.tuple _ _ h.at.1 h.at.2
def ls6:((0:Nat):Int)=0:=nr rfl
def ls7:((1:Nat):Int)=1:=nr rfl
def ls8:((2:Nat):Int)=2:=nr rfl
def ls9:((3:Nat):Int)=3:=nr rfl
def lt1:((4:Nat):Int)=4:=nr rfl
def lt2:((5:Nat):Int)=5:=nr rfl
def lt3:((6:Nat):Int)=6:=nr rfl
def lt4:((7:Nat):Int)=7:=nr rfl
def lt5:((8:Nat):Int)=8:=nr rfl
def lt6:((9:Nat):Int)=9:=nr rfl
def lf8:((10:Nat):Int)=10:=nr rfl
def lf9:((11:Nat):Int)=11:=nr rfl
def lg1:((12:Nat):Int)=12:=nr rfl
def lg2:((13:Nat):Int)=13:=nr rfl
def lg3:((14:Nat):Int)=14:=nr rfl
def lg4:((15:Nat):Int)=15:=nr rfl
def lg5:((16:Nat):Int)=16:=nr rfl
attribute [go_sem] ls6 ls7 ls8 ls9 lt1 lt2 lt3 lt4 lt5 lt6 lf8 lf9 lg1 lg2 lg3 lg4 lg5 List.getD_cons_zero List.getD_cons_succ
def lt8:IntKind.i64.wrap 0=0:=nr rfl
def lt9:IntKind.i64.wrap 1=1:=nr rfl
def lu1:IntKind.i64.wrap 2=2:=nr rfl
def lu2:IntKind.i64.wrap 3=3:=nr rfl
def lu3:IntKind.i64.wrap 4=4:=nr rfl
def lu4:IntKind.i64.wrap 5=5:=nr rfl
def lu5:IntKind.i64.wrap 6=6:=nr rfl
def lu6:IntKind.i64.wrap 7=7:=nr rfl
def lu7:IntKind.i64.wrap 8=8:=nr rfl
def lu8:IntKind.i64.wrap 9=9:=nr rfl
def lg6:IntKind.i64.wrap 10=10:=nr rfl
def lg7:IntKind.i64.wrap 11=11:=nr rfl
def lg8:IntKind.i64.wrap 12=12:=nr rfl
def lg9:IntKind.i64.wrap 13=13:=nr rfl
def lh1:IntKind.i64.wrap 14=14:=nr rfl
def lh2:IntKind.i64.wrap 15=15:=nr rfl
def lh3:IntKind.i64.wrap 16=16:=nr rfl
attribute [go_sem] lt8 lt9 lu1 lu2 lu3 lu4 lu5 lu6 lu7 lu8 lg6 lg7 lg8 lg9 lh1 lh2 lh3
def kl8{d:Option Nat}{m:Nat}:lQ O fr [.cell d n,.t m]=(iI O d (fr.get n)).map λv=>[v,fr.get m]:=by simp only[lQ,irV];cases iI O d (fr.get n)<;>rfl
attribute [go_sem] kl8 gk
end Go.Id
namespace Go.Id
open Go
variable {P:Program} {E:Nat->IV}
def rQ(r:IV->IV->Bool):List IV->List IV->Bool|[],[]=>true|a::x,b::y=>r a b&&rQ r x y|_,_=>false
def uG{r:IV->IV->Bool}(d:∀a b,r a b=true->a=b):∀x y:List IV,rQ r x y=true->x=y:=by intro x;induction x with|nil=>(intro y h;cases y with|nil=>rfl|cons b y=>cases h)|cons a x ih=>intro y h;cases y with|nil=>cases h|cons b y=>simp only[rQ,zg]at h;rw[d a b h.1,ih y h.2]
def DA(r:IV->IV->Bool):List (List IV)->List (List IV)->Bool|[],[]=>true|a::x,b::y=>rQ r a b&&DA r x y|_,_=>false
def LF{r:IV->IV->Bool}(d:∀a b,r a b=true->a=b):∀x y:List (List IV),DA r x y=true->x=y:=by intro x;induction x with|nil=>(intro y h;cases y with|nil=>rfl|cons b y=>cases h)|cons a x ih=>intro y h;cases y with|nil=>cases h|cons b y=>simp only[DA,zg]at h;rw[uG d a b h.1,ih y h.2]
def Gv:List UInt8->List UInt8->Bool|[],[]=>true|a::x,b::y=>Nat.beq a.toNat b.toNat&&Gv x y|_,_=>false
def XS:∀x y:List UInt8,Gv x y=true->x=y:=by intro x;induction x with|nil=>(intro y h;cases y with|nil=>rfl|cons b y=>cases h)|cons a x ih=>intro y h;cases y with|nil=>cases h|cons b y=>simp only[Gv,zg]at h;rw[UInt8.toNat_inj.1 (qm h.1),ih y h.2]
def ud:Nat->IV->IV->Bool|0,_,_=>false|n+1,a,b=>match a with|.bool x=>(match b with|.bool y=>(match x,y with|true,true=>true|false,false=>true|_,_=>false)|_=>false)|.int k x=>(match b with|.int k' y=>decide (k=k')&&decide (x=y)|_=>false)|.str x=>(match b with|.str y=>Gv x y|_=>false)|.ee=>(match b with|.ee=>true|_=>false)|.bd x=>(match b with|.bd y=>rQ (ud n) x y|_=>false)|.aW x=>(match b with|.aW y=>DA (ud n) x y|_=>false)|.agg x=>(match b with|.agg y=>rQ (ud n) x y|_=>false)|.tuple x=>(match b with|.tuple y=>rQ (ud n) x y|_=>false)|.iface t x=>(match b with|.iface t' y=>Nat.beq t t'&&ud n x y|_=>false)|.iG=>(match b with|.iG=>true|_=>false)|.fM=>(match b with|.fM=>true|_=>false)|.gL=>(match b with|.gL=>true|_=>false)|.bc=>(match b with|.bc=>true|_=>false)|_=>false
def jt5:∀(n:Nat)(a b:IV),ud n a b=true->a=b:=by intro n;induction n with|zero=>intro a b h;cases h|succ n ih=>intro a b h;cases a<;>simp only[ud]at h<;>(try cases h)<;>split at h<;>(try cases h)<;>(try rfl);{split at h<;>(try cases h)<;>rfl};{simp only[zg,ah]at h;rw[h.1,h.2]};{rw[XS _ _ h]};{rw[uG ih _ _ h]};{rw[LF ih _ _ h]};{simp only[zg]at h;rw[qm h.1,ih _ _ h.2]};{rw[uG ih _ _ h]};rw[uG ih _ _ h]
def jt6{l:List (Nat×List IV)}(h:l.all (λx=>x.2.all (mQ 1000))=true):∀g,bM 0 (B7 l g):=by intro g;unfold B7;cases d:l.lookup g with|none=>exact .undef|some cs=>have f:∃x∈l,x.2=cs:=(by clear h;induction l with|nil=>cases d|cons x l ih=>have⟨a,b⟩:=x;simp only[List.lookup]at d;split at d;{cases d;exact ⟨_,zo ..,rfl⟩};have⟨x,e,i⟩:=ih d;exact ⟨x,zl _ e,i⟩);obtain ⟨x,e,rfl⟩:=f;exact .bd _ λc hc=>wq 1000 c (zd.1 (zd.1 h x e) c hc)
end Go.Id
