/- A function compiled,whole: its code and its results. Conditions: none; over any program. -/
import Derived.Test.YtihiokikiejcpaaGreatDoorFwI
set_option linter.all false
namespace Go.Id
open Go
variable {P:Program} {w w' w'':World} {ρ ρ' ρ'':Rho} {E:Nat->IV} {σ σ':Store} {N n n':Nat} {fr:Frm} {a:Act} {pf:List Nat}
inductive IR where
 | t (n:Nat)
 | cell (agg:Option Nat) (n:Nat)
 deriving Inhabited
def iu1 (P:Program):ResultVar->Option IR
 | .tmp t=>some (.t t)
 | .cell ad t=>match al5 P t with
  | some agg=>some (.cell agg ad)
  | none=>none
def eo8 (P:Program):List ResultVar->Option (List IR)
 | []=>some []
 | r::rs=>match iu1 P r,eo8 P rs with
  | some x,some xs=>some (x::xs)
  | _,_=>none
def irV (σ:Store)(fr:Frm):IR->Option IV
 | .t n=>some (fr.get n)
 | .cell agg n=>at5 σ agg (fr.get n)
def irL (σ:Store)(fr:Frm):List IR->Option (List IV)
 | []=>some []
 | r::rs=>match irV σ fr r,irL σ fr rs with
  | some v,some vs=>some (v::vs)
  | _,_=>none
theorem gq9:∀ (rs:List ResultVar) (irs:List IR),eo8 P rs=some irs->ge2 P σ fr rs=irL σ fr irs:=by
 intro rs
 induction rs with
 | nil=>intro irs h; cases h; rfl
 | cons r rs ih=>
  intro irs h;simp only[eo8] at h;split at h
  ·rename_i x xs hx hxs;cases h
   have h1:ij7 P σ fr r=irV σ fr x:=by
    cases r with
    | tmp t=>cases hx; rfl
    | cell ad t=>
     simp only[iu1] at hx;split at hx
     ·rename_i agg hagg;cases hx;simp[ij7,irV,hagg]
     ·cases hx
   simp only[ge2,irL,h1,ih _ hxs];cases irV σ fr x<;>cases irL σ fr xs<;>rfl
  ·cases h
def gr1 (P:Program)(f N:Nat)(pf:List Nat)(an:Ann)(ic:IC)(irs:List IR):Prop :=
 ∃ fn,P.funcs[f]? = some fn/\fn.ntmps=N/\fn.body.bind (az9 P pf N an)=some ic/\eo8 P fn.results.toList=some irs
theorem ac9 {f:Nat}{fn:Func}{an:Ann}{ic:IC}{irs:List IR}(h:P.funcs[f]? = some fn)(hN:fn.ntmps=N)(hc:fn.body.bind (az9 P pf N an)=some ic)(hr:eo8 P fn.results.toList=some irs):gr1 P f N pf an ic irs :=
 ⟨fn,h,hN,hc,hr⟩
def iu2 (irs:List IR)(Qc:IV->Store->Prop):Exit->Frm->Store->Prop
 | .normal,fr,σ|.ret,fr,σ=>∃ vs,irL σ fr irs=some vs/\Qc (eo2 vs) σ
 | _,_,_=>False
theorem iy9 {f:Nat}{an:Ann}{ic:IC}{irs:List IR}{args:List IV}{Qc:IV->Store->Prop}(hf:gr1 P f N pf an ic irs)(hl:args.length<=N)
  (h:wpI P E N σ.next ic (bd5 args 0) σ (iu2 irs Qc)):C P E f args σ Qc:=by
 obtain ⟨fn,h1,h2,h3,h4⟩:=hf
 cases hb:fn.body with
 | none=>rw[hb] at h3; cases h3
 | some c=>
  rw[hb] at h3;refine ia7 h1 hb h2 hl ((bf6 ic _ _ _ h pf an c h3).mono ?_);intro e fr' σ' q;cases e<;>first|(obtain ⟨vs,q1,q2⟩:=q; exact ⟨vs,by rw[gq9 _ _ h4]; exact q1,q2⟩)|exact q
end Go.Id
/- Frames,by what is asked of them. Conditions: none; over any program. -/
namespace Go.Id
open Go
theorem Frm.get_nil (t:Nat):Frm.get [] t=.undef:=by unfold Frm.get; simp
theorem Frm.ay4 (t s:Nat)(v:IV)(fr:Frm):Frm.get ((t,v)::fr) s=if s=t then v else Frm.get fr s:=Frm.bw2 fr t s v
end Go.Id
/- The walk by tables: what functions give,as functions; the form that is rewritten. Conditions: none; over any program. -/
namespace Go.Id
open Go
universe u
variable {P:Program} {E:Nat->IV} {σ σ':Store} {N n n0:Nat} {fr:Frm} {a:Act} {pf:List Nat}
abbrev PT:=Nat->List IV->Option IV
abbrev CT:=Nat->List IV->Store->Option (IV->Store->Prop)
structure TOK (P:Program) (E:Nat->IV) (pt:PT) (ct:CT):Prop where
 p:∀ f args v,pt f args=some v->PC P E f args v
 c:∀ f args σ Q,ct f args σ=some Q->okF P f=true/\C P E f args σ Q
def noP:PT:=fun _ _=>none
def noC:CT:=fun _ _ _=>none
theorem noT:TOK P E noP noC:=⟨(fun _ _ _ h=>by cases h),(fun _ _ _ _ h=>by cases h)⟩
theorem eo9 {f:Nat}{args:List IV}:noP f args=none:=by unfold noP; exact Eq.trans rfl rfl
theorem ep1 {f:Nat}{args:List IV}:noC f args σ=none:=by unfold noC; exact Eq.trans rfl rfl
def bs8 {α:Type}:Option α->(α->Prop)->Prop
 | some v,K=>K v
 | none,_=>False
def ha5:IV->(Bool->Prop)->Prop
 | .bool b,K=>K b
 | _,_=>False
def fx6 (v:IV)(want:Bool)(A B:Prop):Prop :=
 match gd8 v want with
 | some true=>A
 | some false=>B
 | none=>False
theorem do6 {v:IV}{want:Bool}{A B:Prop}(h:fx6 v want A B):∃ act,gd8 v want=some act/\if act=true then A else B:=by
 unfold fx6 at h;split at h
 ·rename_i ha; exact ⟨true,ha,h⟩
 ·rename_i ha; exact ⟨false,ha,h⟩
 ·exact h.elim
theorem aj9 {α:Type}{o:Option α}{K:α->Prop}(h:bs8 o K):∃ v,o=some v/\K v:=by
 cases o with
 | none=>exact h.elim
 | some v=>exact ⟨v,rfl,h⟩
theorem ep2 {o:IV}{K:Bool->Prop}(h:ha5 o K):∃ b,o=.bool b/\K b:=by
 cases o<;>first|exact ⟨_,rfl,h⟩|exact h.elim
def cn6 (P:Program)(E:Nat->IV)(o:Option (IV->Store->Prop))(f:Nat)(args:List IV)(σ:Store)(K:IV->Store->Prop):Prop :=
 match o with
 | some Q=>∀ v s,Q v s->σ.next<=s.next/\K v s
 | none=>∃ Q,(okF P f=true/\C P E f args σ Q)/\∀ v s,Q v s->σ.next<=s.next/\K v s
def gf3 (P:Program)(E:Nat->IV)(o:Option IV)(f:Nat)(args:List IV)(σ:Store)(K:IV->Store->Prop):Prop :=
 match o with
 | some v=>K v σ
 | none=>∃ v,PC P E f args v/\K v σ
def opT (pt:PT)(ct:CT)(P:Program)(E:Nat->IV)(op:IK)(id:Nat)(fr:Frm)(σ:Store)(K:IV->Store->Prop):Prop :=
 match op with
 | .q q=>bs8 (evq E fr σ q) fun v=>K v σ
 | .alloc z=>K (.ptr id 0) (σ.put id (.cells z))
 | .box x=>(x.ev E fr).cs.all IV.leaf=true/\K (.ptr id 0) (σ.put id (.cells (x.ev E fr).cs))
 | .bsl esz n z parts=>bs8 (ap6 (rep z n) (parts.map fun p=>(p.1,p.2.1,p.2.2.ev E fr))) fun out=>K (.slice id 0 n esz) (σ.put id (.row out))
 | .store sz x y=>bs8 (an2 σ sz (x.ev E fr) (y.ev E fr)) fun σ'=>K .undef σ'
 | .be3 x=>match x.ev E fr with
  | .str s=>K (.ptr id 0) (σ.put id (.az2 s 0))
  | _=>False
 | .cn4 x=>bs8 (bf5 σ (x.ev E fr)) fun r=>K r.1 r.2
 | .bg3=>K (.map id) (σ.put id (.map []))
 | .cr3 tag x k v=>bs8 (al7 σ tag (x.ev E fr) (k.ev E fr) (v.ev E fr)) fun σ'=>K .undef σ'
 | .app esz s x=>bs8 (an5 σ id esz (s.ev E fr) (x.ev E fr)) fun r=>K r.1 r.2
 | .call f args=>cn6 P E (ct f (args.map (·.ev E fr)) σ) f (args.map (·.ev E fr)) σ K
 | .ah5 f args=>gf3 P E (pt f (args.map (·.ev E fr))) f (args.map (·.ev E fr)) σ K
 | .aj3 x args=>match x.ev E fr with
  | .func (.func f) first cap=>cn6 P E (ct f (first++args.map (·.ev E fr)++cap) σ) f (first++args.map (·.ev E fr)++cap) σ K
  | .yield i=>∃ Q,CV P E (.yield i) (args.map (·.ev E fr)) σ Q/\∀ v σ',Q v σ'->σ.next<=σ'.next/\K v σ'
  | _=>False
 | .aw2 esz n z parts=>bs8 (ap6 (rep z n) (parts.map fun p=>(p.1,p.2.1,p.2.2.ev E fr))) fun out=>K (.aa3 (chunk esz n out)) σ
 | .ak7 x=>(x.ev E fr).cs.all IV.leaf=true/\K (.ad4 (x.ev E fr).cs) σ
 | .ba7 x=>match x.ev E fr with
  | .al4 es=>K (.ptr id 0) (σ.put id (.av4 es none))
  | _=>False
 | .ch6 x=>bs8 (br6 σ (x.ev E fr)) fun r=>(r.2=[]->K (.tuple [.bool false]) σ) /\
   ∀ j,j<r.2.length->K (.tuple [.bool true,(r.2.getD j (.undef,.undef)).1,(r.2.getD j (.undef,.undef)).2]) (σ.put r.1 (.av4 (r.2.eraseIdx j) (some (r.2.getD j (.undef,.undef)))))
 | .fc9 x=>bs8 (dd7 σ (x.ev E fr)) fun v=>K v σ
 | .dk4 esz z x=>bs8 (dv7 (x.ev E fr)) fun n=>K (.slice id 0 n esz) (σ.put id (.row (rep z n)))
 | .clr esz z x=>bs8 (fh6 σ esz z (x.ev E fr)) fun σ'=>σ'.next=σ.next/\K .undef σ'
 | .st k xs=>bs8 (stI k id σ (xs.map (·.ev E fr))) fun r=>K r.1 r.2
theorem ct6 {pt:PT}{ct:CT}(hT:TOK P E pt ct){f:Nat}{args:List IV}{K:IV->Store->Prop}(h:cn6 P E (ct f args σ) f args σ K):∃ Q,(okF P f=true/\C P E f args σ Q)/\∀ v s,Q v s->σ.next<=s.next/\K v s:=by
 cases ho:ct f args σ with
 | none=>rw[ho] at h; exact h
 | some Q=>rw[ho] at h; exact ⟨Q,hT.c _ _ _ Q ho,h⟩
theorem ba8 {pt:PT}{ct:CT}(hT:TOK P E pt ct){op:IK}{id:Nat}{K:IV->Store->Prop}(h:opT pt ct P E op id fr σ K):opR P E op id fr σ K:=by
 cases op with
 | q q=>exact aj9 h
 | alloc z=>exact h
 | box x=>exact h
 | bsl e n z ps=>exact aj9 h
 | store e x y=>exact aj9 h
 | app e s x=>exact aj9 h
 | bg3=>exact h
 | be3 x=>
  simp only[opT] at h;split at h
  ·rename_i s he; exact ⟨s,he,h⟩
  ·exact h.elim
 | cn4 x=>exact aj9 h
 | cr3 t x y z=>exact aj9 h
 | call f xs=>
  obtain ⟨Q,h1,h2⟩:=ct6 hT h
  exact ⟨Q,h1.2,h2⟩
 | ah5 f xs=>
  simp only[opT] at h
  cases ho:pt f (xs.map (·.ev E fr)) with
  | none=>rw[ho] at h; exact h
  | some v=>rw[ho] at h; exact ⟨v,hT.p _ _ _ ho,h⟩
 | aj3 x xs=>
  simp only[opT] at h;split at h
  ·rename_i f first cap he
   obtain ⟨Q,h1,h2⟩:=ct6 hT h;refine ⟨Q,?_,h2⟩;rw[he];exact h1
  ·rename_i i he;rw[<- he] at h;exact h
  ·exact h.elim
 | aw2 e n z ps=>exact aj9 h
 | ak7 x=>exact h
 | ba7 x=>
  simp only[opT] at h;split at h
  ·rename_i s he; exact ⟨s,he,h⟩
  ·exact h.elim
 | ch6 x=>
  obtain ⟨⟨i,l⟩,h1,h2⟩:=aj9 h
  exact ⟨i,l,h1,h2⟩
 | fc9 x=>exact aj9 h
 | dk4 e z x=>exact aj9 h
 | clr e z x=>exact aj9 h
 | st k xs=>exact aj9 h
def bs9 (pt:PT) (ct:CT) (P:Program) (E:Nat->IV):List ad9->Nat->Frm->Store->(Frm->Store->Prop)->Prop
 | [],_,fr,σ,K=>K fr σ
 | o::rest,id,fr,σ,K=>
  match o.guard with
  | none=>opT pt ct P E o.op id fr σ fun v σ'=>bs9 pt ct P E rest (if o.op.lays then id+1 else id) (fr.ak3 o.dst v) σ' K
  | some (s,want)=>fx6 (fr.get s) want (opT pt ct P E o.op id fr σ fun v σ'=>bs9 pt ct P E rest (if o.op.lays then id+1 else id) (fr.ak3 o.dst v) σ' K)
    (bs9 pt ct P E rest (if o.op.lays then id+1 else id) (fr.ak3 o.dst skV) σ K)
theorem dx3 {pt:PT}{ct:CT}(hT:TOK P E pt ct):∀ (ops:List ad9) (id:Nat) (fr:Frm) (σ:Store) (K:Frm->Store->Prop),bs9 pt ct P E ops id fr σ K->bs2 P E ops id fr σ K:=by
 intro ops
 induction ops with
 | nil=>intro id fr σ K h; exact h
 | cons o os ih=>
  intro id fr σ K h;obtain ⟨d,g,op⟩:=o
  cases g with
  | none=>
   simp only[bs9,bs2] at h ⊢
   exact ⟨true,rfl,ai7 (fun v s k=>ih _ _ _ _ k) (ba8 hT h)⟩
  | some p=>
   obtain ⟨s,want⟩:=p;simp only[bs9,bs2] at h ⊢;obtain ⟨act,ha,h⟩:=do6 h;refine ⟨act,ha,?_⟩
   cases act with
   | true=>
    rw[if_pos rfl] at h ⊢
    exact ai7 (fun v s k=>ih _ _ _ _ k) (ba8 hT h)
   | false=>
    rw[if_neg (by simp)] at h ⊢;exact ih _ _ _ _ h
def bo1 (E:Nat->IV)(fr:Frm)(σ:Store):IK->Prop
 | .q (.load _ x)=>match x.ev E fr with
  | .ad4 _=>True
  | .ptr i _=>match σ.obj i with
   | some (.cells _)=>True
   | _=>False
  | _=>False
 | _=>True
theorem ct7 {op:IK}(h:bo1 E fr σ op):az5 E fr σ op:=by
 cases op with
 | q q=>
  cases q with
  | load ag x=>
   simp only[bo1,az5] at h ⊢;cases he:x.ev E fr<;>rw[he] at h<;>simp only at h ⊢;rename_i i off
   cases ho:σ.obj i with
   | none=>rw[ho] at h; exact h.elim
   | some ob=>
    rw[ho] at h
    cases ob<;>first|exact ⟨_,rfl⟩|exact h.elim
  | _=>trivial
 | _=>trivial
def bg5 (pt:PT) (ct:CT) (P:Program) (E:Nat->IV) (B:Bool):List ad9->Nat->Frm->Store->(Frm->Store->Prop)->Prop
 | [],_,fr,σ,K=>K fr σ
 | o::rest,id,fr,σ,K=>
  match o.guard with
  | none=>(B=true->bo1 E fr σ o.op)/\opT pt ct P E o.op id fr σ fun v σ'=>bg5 pt ct P E B rest (id+1) (fr.ak3 o.dst v) σ' K
  | some (s,want)=>fx6 (fr.get s) want ((B=true->bo1 E fr σ o.op)/\opT pt ct P E o.op id fr σ fun v σ'=>bg5 pt ct P E B rest (id+1) (fr.ak3 o.dst v) σ' K)
    (bg5 pt ct P E B rest (id+1) (fr.ak3 o.dst skV) σ K)
theorem dx4 {pt:PT}{ct:CT}(hT:TOK P E pt ct){B:Bool}{base:Nat}:∀ (ops:List ad9) (i:Nat) (fr:Frm) (σ:Store) (K:Frm->Store->Prop),bg5 pt ct P E B ops (base+i) fr σ K->bp2 P E B (ed7 base i ops) fr σ K:=by
 intro ops
 induction ops with
 | nil=>intro i fr σ K h; exact h
 | cons o os ih=>
  intro i fr σ K h;obtain ⟨d,g,op⟩:=o
  cases g with
  | none=>
   simp only[bg5] at h
   exact ⟨true,rfl,ai7 (fun v s k=>ih _ _ _ _ k) (ba8 hT h.2),fun hb=>ct7 (h.1 hb)⟩
  | some p=>
   obtain ⟨s,want⟩:=p;simp only[bg5] at h;obtain ⟨act,ha,h⟩:=do6 h;refine ⟨act,ha,?_⟩
   cases act with
   | true=>exact ⟨ai7 (fun v s k=>ih _ _ _ _ k) (ba8 hT h.2),fun hb=>ct7 (h.1 hb)⟩
   | false=>exact ih _ _ _ _ h
def wpT (pt:PT)(ct:CT)(P:Program)(E:Nat->IV)(N n0:Nat):IC->Frm->Store->(Exit->Frm->Store->Prop)->Prop
 | .skip,fr,σ,Q=>Q .normal fr σ
 | .reg _ ops keep,fr,σ,Q=>bs9 pt ct P E ops σ.next fr ⟨σ.next+bs3 ops,σ.obj⟩ (fun fr' σ'=>Q .normal (fr'.keep keep) σ')
 | .an7 _ ops B keep,fr,σ,Q=>bg5 pt ct P E B ops σ.next fr ⟨σ.next+ops.length,σ.obj⟩ (fun fr' σ'=>Q .normal (fr'.keep keep) σ')
 | .en3 _ ops keep,fr,σ,Q=>aq9 P E (gc4 σ.next ops) [] fr { σ with next:=σ.next+ops.length } (fun fr' σ'=>Q .normal (fr'.keep keep) σ')
 | .seq a b,fr,σ,Q=>wpT pt ct P E N n0 a fr σ (fun e fr' σ'=>match e with|.normal=>wpT pt ct P E N n0 b fr' σ' Q|e=>Q e fr' σ')
 | .cond x a b,fr,σ,Q=>ha5 (x.ev E fr) fun t=>if t=true then wpT pt ct P E N n0 a fr σ Q else wpT pt ct P E N n0 b fr σ Q
 | .block id a,fr,σ,Q=>wpT pt ct P E N n0 a fr σ (bn9 id Q)
 | .loop a,fr,σ,Q=>RI P E N n0 (.loop a) fr σ Q
 | .exit id,fr,σ,Q=>Q (.exit id) fr σ
 | .ret,fr,σ,Q=>Q .ret fr σ
 | .be8 g ps y a,fr,σ,Q=>RI P E N n0 (.be8 g ps y a) fr σ Q
 | .scope a,fr,σ,Q=>wpT pt ct P E N n0 a fr σ (fi2 Q)
theorem bt1:∀ (ic:IC) (fr:Frm) (σ:Store) (Q Q':Exit->Frm->Store->Prop),(∀ e f s,Q e f s->Q' e f s)->wpI P E N n0 ic fr σ Q->wpI P E N n0 ic fr σ Q':=by
 have hrops:∀ (ops:List ad9) (id:Nat) (fr:Frm) (σ:Store) (K K':Frm->Store->Prop),(∀ f s,K f s->K' f s)->bs2 P E ops id fr σ K->bs2 P E ops id fr σ K':=by
  intro ops
  induction ops with
  | nil=>intro id fr σ K K' hk h; exact hk _ _ h
  | cons o os ih=>
   intro id fr σ K K' hk h;simp only[bs2] at h ⊢;obtain ⟨act,ha,h⟩:=h;refine ⟨act,ha,?_⟩
   cases act with
   | true=>
    rw[if_pos rfl] at h ⊢
    exact ai7 (fun v s k=>ih _ _ _ _ _ hk k) h
   | false=>
    rw[if_neg (by simp)] at h ⊢;exact ih _ _ _ _ _ hk h
 have htree:∀ (its:List Item) (B:Bool) (fr:Frm) (σ:Store) (K K':Frm->Store->Prop),(∀ f s,K f s->K' f s)->bp2 P E B its fr σ K->bp2 P E B its fr σ K':=by
  intro its
  induction its with
  | nil=>intro B fr σ K K' hk h; exact hk _ _ h
  | cons it its ih=>
   intro B fr σ K K' hk h;obtain ⟨i,o,id⟩:=it;obtain ⟨act,ha,hh⟩:=h;refine ⟨act,ha,?_⟩
   cases act with
   | true=>exact ⟨ai7 (fun v s k=>ih _ _ _ _ _ hk k) hh.1,hh.2⟩
   | false=>exact ih _ _ _ _ _ hk hh
 intro ic
 induction ic with
 | skip=>intro fr σ Q Q' hq h; exact hq _ _ _ h
 | reg id ops keep=>intro fr σ Q Q' hq h; exact hrops _ _ _ _ _ _ (fun f s k=>hq _ _ _ k) h
 | an7 id ops B keep=>intro fr σ Q Q' hq h; exact htree _ _ _ _ _ _ (fun f s k=>hq _ _ _ k) h
 | en3 id ops keep=>intro fr σ Q Q' hq h; exact en8 _ _ _ _ (fun f s k=>hq _ _ _ k) h
 | seq x y ihx ihy=>
  intro fr σ Q Q' hq h;refine ihx _ _ _ _ ?_ h;intro e f s k
  cases e with
  | normal=>exact ihy _ _ _ _ hq k
  | _=>exact hq _ _ _ k
 | cond x a b iha ihb=>
  intro fr σ Q Q' hq h;obtain ⟨t,ht,h⟩:=h;refine ⟨t,ht,?_⟩
  cases t with
  | true=>exact iha _ _ _ _ hq h
  | false=>exact ihb _ _ _ _ hq h
 | block id x ih=>
  intro fr σ Q Q' hq h;refine ih _ _ _ _ ?_ h;intro e f s k
  cases e with
  | exit i=>simp only[bn9] at k ⊢; split<;>rename_i hi<;>simp only[hi,if_true,if_false] at k<;>exact hq _ _ _ k
  | _=>exact hq _ _ _ k
 | scope x ih=>
  intro fr σ Q Q' hq h;refine ih _ _ _ _ ?_ h;intro e f s k
  cases e with
  | goto l=>exact k
  | _=>exact hq _ _ _ k
 | loop x ih=>intro fr σ Q Q' hq h; exact az4 h hq
 | exit id=>intro fr σ Q Q' hq h; exact hq _ _ _ h
 | be8 g ps y x ihy ih=>intro fr σ Q Q' hq h; exact az4 h hq
 | ret=>intro fr σ Q Q' hq h; exact hq _ _ _ h
theorem ba9 {pt:PT}{ct:CT}(hT:TOK P E pt ct):∀ (ic:IC) (fr:Frm) (σ:Store) (Q:Exit->Frm->Store->Prop),wpT pt ct P E N n0 ic fr σ Q->wpI P E N n0 ic fr σ Q:=by
 intro ic
 induction ic with
 | skip=>intro fr σ Q h; exact h
 | reg id ops keep=>intro fr σ Q h; exact dx3 hT _ _ _ _ _ h
 | an7 id ops B keep=>intro fr σ Q h; exact dx4 hT _ 0 _ _ _ h
 | en3 id ops keep=>intro fr σ Q h; exact h
 | seq x y ihx ihy=>
  intro fr σ Q h;have h1:=ihx _ _ _ (show wpT pt ct P E N n0 x fr σ _ from h);refine bt1 x fr σ _ (fun e fr' σ'=>match e with|.normal=>wpI P E N n0 y fr' σ' Q|e=>Q e fr' σ') ?_ h1;intro e f s k
  cases e with
  | normal=>exact ihy _ _ _ k
  | _=>exact k
 | cond x a b iha ihb=>
  intro fr σ Q h;obtain ⟨t,ht,h⟩:=ep2 h;refine ⟨t,ht,?_⟩
  cases t with
  | true=>exact iha _ _ _ h
  | false=>exact ihb _ _ _ h
 | block id x ih=>intro fr σ Q h; exact ih _ _ _ h
 | scope x ih=>intro fr σ Q h; exact ih _ _ _ h
 | loop x ih=>intro fr σ Q h; exact h
 | exit id=>intro fr σ Q h; exact h
 | ret=>intro fr σ Q h; exact h
 | be8 g ps y x ihy ih=>intro fr σ Q h; exact h
def fm9 (irs:List IR)(Qc:IV->Store->Prop):Exit->Frm->Store->Prop
 | .normal,fr,σ|.ret,fr,σ=>bs8 (irL σ fr irs) fun vs=>Qc (eo2 vs) σ
 | _,_,_=>False
theorem ct8 {irs:List IR}{Qc:IV->Store->Prop}{e:Exit}(h:fm9 irs Qc e fr σ):iu2 irs Qc e fr σ:=by
 cases e<;>first|exact aj9 h|exact h
theorem C_T {pt:PT}{ct:CT}(hT:TOK P E pt ct){f:Nat}{an:Ann}{ic:IC}{irs:List IR}{args:List IV}{Qc:IV->Store->Prop}(hf:gr1 P f N pf an ic irs)(hl:args.length<=N)
  (h:wpT pt ct P E N σ.next ic (bd5 args 0) σ (fm9 irs Qc)):C P E f args σ Qc :=
 iy9 hf hl (bt1 _ _ _ _ _ (fun _ _ _ k=>ct8 k) (ba9 hT _ _ _ _ h))
theorem iz1 {pt:PT}{ct:CT}(hT:TOK P E pt ct){f:Nat}{an:Ann}{ic:IC}{irs:List IR}{args:List IV}{v:IV}(hf:gr1 P f N pf an ic irs)(hl:args.length<=N)
  (h:∀ σ,wpT pt ct P E N σ.next ic (bd5 args 0) σ (fm9 irs fun v' σ'=>v'=v/\σ'=σ)):PC P E f args v :=
 fun σ=>C_T hT hf hl (h σ)
theorem gr2 {pt:PT}{ct:CT}(hT:TOK P E pt ct){x:IC}{Q:Exit->Frm->Store->Prop}(I:Nat->Frm->Store->Prop)(m:Nat)(h:I m fr σ)(hI:∀ m fr σ,I m fr σ->wpT pt ct P E N n0 x fr σ (dv9 I m Q)):RI P E N n0 (.loop x) fr σ Q :=
 fi3 I m h fun m fr σ hi=>ba9 hT _ _ _ _ (hI m fr σ hi)
theorem nr {α:Sort u}{a b:α}(h:a=b):a=b:=h
def ha6 (o:Option IV)(σ:Store)(K:IV->Store->Prop):Prop:=bs8 o fun v=>K v σ
def ib2 (o:Option Store)(K:IV->Store->Prop):Prop:=bs8 o fun s=>K .undef s
def ib3 (o:Option (IV×Store))(K:IV->Store->Prop):Prop:=bs8 o fun r=>K r.1 r.2
def ib4 (v:IV)(σ:Store):IV->Store->Prop:=fun v' σ'=>v'=v/\σ'=σ
def iu3 (o:Option (List IV))(id n esz:Nat)(σ:Store)(K:IV->Store->Prop):Prop:=bs8 o fun out=>K (.slice id 0 n esz) (σ.put id (.row out))
def fn1 (ct:CT)(P:Program)(E:Nat->IV)(x:IV)(args:List IV)(σ:Store)(K:IV->Store->Prop):Prop:=match x with
 | .func (.func f) first cap=>cn6 P E (ct f (first++args++cap) σ) f (first++args++cap) σ K
 | .yield i=>∃ Q,CV P E (.yield i) args σ Q/\∀ v σ',Q v σ'->σ.next<=σ'.next/\K v σ'
 | _=>False
def gf4 (pt:PT)(ct:CT)(P:Program)(E:Nat->IV)(rest:List ad9)(id:Nat)(d:Option Nat)(fr:Frm)(K:Frm->Store->Prop):IV->Store->Prop:=fun v σ'=>bs9 pt ct P E rest id (fr.ak3 d v) σ' K
def dx5 (pt:PT)(ct:CT)(P:Program)(E:Nat->IV)(B:Bool)(rest:List ad9)(id:Nat)(d:Option Nat)(fr:Frm)(K:Frm->Store->Prop):IV->Store->Prop:=fun v σ'=>bg5 pt ct P E B rest id (fr.ak3 d v) σ' K
def fn2 (ks:List Nat)(Q:Exit->Frm->Store->Prop):Frm->Store->Prop:=fun fr σ=>Q .normal (fr.keep ks) σ
def hn9 (pt:PT)(ct:CT)(P:Program)(E:Nat->IV)(v:IV)(want:Bool)(op:IK)(id:Nat)(fr:Frm)(σ:Store)(K:IV->Store->Prop):Prop:=fx6 v want (opT pt ct P E op id fr σ K) (K skV σ)
def fd2 (pt:PT)(ct:CT)(P:Program)(E:Nat->IV)(B:Bool)(v:IV)(want:Bool)(op:IK)(id:Nat)(fr:Frm)(σ:Store)(K:IV->Store->Prop):Prop:=fx6 v want ((B=true->bo1 E fr σ op)/\opT pt ct P E op id fr σ K) (K skV σ)
def ha7 (pt:PT)(ct:CT)(P:Program)(E:Nat->IV)(N n0:Nat)(v:IV)(a b:IC)(fr:Frm)(σ:Store)(Q:Exit->Frm->Store->Prop):Prop:=ha5 v fun t=>if t=true then wpT pt ct P E N n0 a fr σ Q else wpT pt ct P E N n0 b fr σ Q
def ij8 (pt:PT)(ct:CT)(P:Program)(E:Nat->IV)(N n0:Nat)(b:IC)(Q:Exit->Frm->Store->Prop):Exit->Frm->Store->Prop:=fun e fr' σ'=>match e with
 | .normal=>wpT pt ct P E N n0 b fr' σ' Q
 | e=>Q e fr' σ'
variable {pt:PT} {ct:CT} {id want:Nat} {K:IV->Store->Prop} {Kf:Frm->Store->Prop} {Q:Exit->Frm->Store->Prop} {v:IV} {c:Prop} [Decidable c]
theorem ct9 {α:Type}(v:α)(K:α->Prop):bs8 (some v) K=K v:=nr rfl
theorem cu1 (v:IV):ha6 (some v) σ K=K v σ:=nr rfl
theorem bx7 (v:IV):ha6 (if c then some v else none) σ K=(c/\K v σ):=by by_cases h:c<;>simp[h,ha6,bs8]
theorem bj1 (v:IV):ha6 (if c then none else some v) σ K=(¬ c/\K v σ):=by by_cases h:c<;>simp[h,ha6,bs8]
theorem cu2:ib2 (some σ) K=K .undef σ:=nr rfl
theorem bx8:ib2 (if c then some σ else none) K=(c/\K .undef σ):=by by_cases h:c<;>simp[h,ib2,bs8]
theorem cu3 (v:IV):ib3 (some (v,σ)) K=K v σ:=nr rfl
theorem bx9 (v:IV):ib3 (if c then some (v,σ) else none) K=(c/\K v σ):=by by_cases h:c<;>simp[h,ib3,bs8]
theorem ep3 {f:Nat}{args:List IV}(v:IV):cn6 P E (some (ib4 v σ')) f args σ K=(σ.next<=σ'.next/\K v σ'):=propext ⟨fun h=>h v σ' ⟨rfl,rfl⟩,fun h v' s' ⟨e1,e2⟩=>by subst e1; subst e2; exact h⟩
theorem ho4 {f:Nat}{args:List IV}(v:IV):gf3 P E (some v) f args σ K=K v σ:=nr rfl
theorem aa8 {f:Nat}{args:List IV}{v:IV}(h:PC P E f args v)(hk:K v σ):gf3 P E none f args σ K:=⟨v,h,hk⟩
theorem as5 {f:Nat}{args:List IV}{Qc:IV->Store->Prop}(ho:okF P f=true)(h:C P E f args σ Qc)(hk:∀ v s,Qc v s->σ.next<=s.next/\K v s):cn6 P E none f args σ K:=⟨Qc,⟨ho,h⟩,hk⟩
theorem cu4 {n esz:Nat}(out:List IV):iu3 (some out) id n esz σ K=K (.slice id 0 n esz) (σ.put id (.row out)):=nr rfl
theorem by1 (f:Nat)(first cap args:List IV):fn1 ct P E (.func (.func f) first cap) args σ K=cn6 P E (ct f (first++args++cap) σ) f (first++args++cap) σ K:=nr rfl
theorem cu5 {rest:List ad9}{d:Nat}(v:IV):gf4 pt ct P E rest id (some d) fr Kf v σ=bs9 pt ct P E rest id ((d,v)::fr) σ Kf:=nr rfl
theorem by2 {rest:List ad9}(v:IV):gf4 pt ct P E rest id none fr Kf v σ=bs9 pt ct P E rest id fr σ Kf:=nr rfl
theorem by3 {B:Bool}{rest:List ad9}{d:Nat}(v:IV):dx5 pt ct P E B rest id (some d) fr Kf v σ=bg5 pt ct P E B rest id ((d,v)::fr) σ Kf:=nr rfl
theorem bj2 {B:Bool}{rest:List ad9}(v:IV):dx5 pt ct P E B rest id none fr Kf v σ=bg5 pt ct P E B rest id fr σ Kf:=nr rfl
theorem cu6 {ks:List Nat}:fn2 ks Q fr σ=Q .normal (fr.keep ks) σ:=nr rfl
theorem w_q {q:IQ}:opT pt ct P E (.q q) id fr σ K=ha6 (evq E fr σ q) σ K:=nr rfl
theorem by4 {z:List IV}:opT pt ct P E (.alloc z) id fr σ K=K (.ptr id 0) (σ.put id (.cells z)):=nr rfl
theorem ep4 {x:IX}:opT pt ct P E (.box x) id fr σ K=((x.ev E fr).cs.all IV.leaf=true/\K (.ptr id 0) (σ.put id (.cells (x.ev E fr).cs))):=nr rfl
theorem ep5 {esz n:Nat}{z:List IV}{ps:List (Nat×Nat×IX)}:opT pt ct P E (.bsl esz n z ps) id fr σ K=iu3 (ap6 (rep z n) (ps.map fun p=>(p.1,p.2.1,p.2.2.ev E fr))) id n esz σ K:=nr rfl
theorem by5 {sz:Nat}{x y:IX}:opT pt ct P E (.store sz x y) id fr σ K=ib2 (an2 σ sz (x.ev E fr) (y.ev E fr)) K:=nr rfl
def iu4 (v:IV)(id:Nat)(σ:Store)(K:IV->Store->Prop):Prop:=match v with
 | .str s=>K (.ptr id 0) (σ.put id (.az2 s 0))
 | _=>False
theorem cu7 {s:List UInt8}:iu4 (.str s) id σ K=K (.ptr id 0) (σ.put id (.az2 s 0)):=nr rfl
theorem bj3 {x:IX}:opT pt ct P E (.be3 x) id fr σ K=iu4 (x.ev E fr) id σ K:=nr rfl
theorem by6 {x:IX}:opT pt ct P E (.cn4 x) id fr σ K=ib3 (bf5 σ (x.ev E fr)) K:=nr rfl
theorem by7:opT pt ct P E .bg3 id fr σ K=K (.map id) (σ.put id (.map [])):=nr rfl
theorem cu8 {tag:Nat}{x k y:IX}:opT pt ct P E (.cr3 tag x k y) id fr σ K=ib2 (al7 σ tag (x.ev E fr) (k.ev E fr) (y.ev E fr)) K:=nr rfl
theorem ep6 {esz:Nat}{s x:IX}:opT pt ct P E (.app esz s x) id fr σ K=ib3 (an5 σ id esz (s.ev E fr) (x.ev E fr)) K:=nr rfl
theorem cu9 {f:Nat}{args:List IX}:opT pt ct P E (.call f args) id fr σ K=cn6 P E (ct f (args.map (·.ev E fr)) σ) f (args.map (·.ev E fr)) σ K:=nr rfl
theorem by8 {f:Nat}{args:List IX}:opT pt ct P E (.ah5 f args) id fr σ K=gf3 P E (pt f (args.map (·.ev E fr))) f (args.map (·.ev E fr)) σ K:=nr rfl
theorem bj4 {x:IX}{args:List IX}:opT pt ct P E (.aj3 x args) id fr σ K=fn1 ct P E (x.ev E fr) (args.map (·.ev E fr)) σ K:=nr rfl
theorem ep7:bs9 pt ct P E [] id fr σ Kf=Kf fr σ:=nr rfl
theorem cv2 {d:Option Nat}{op:IK}{rest:List ad9}:bs9 pt ct P E (⟨d,none,op⟩::rest) id fr σ Kf=opT pt ct P E op id fr σ (gf4 pt ct P E rest (if op.lays then id+1 else id) d fr Kf):=nr rfl
theorem ep8 {d:Option Nat}{op:IK}{rest:List ad9}{s:Nat}{want:Bool}:bs9 pt ct P E (⟨d,some (s,want),op⟩::rest) id fr σ Kf=hn9 pt ct P E (fr.get s) want op id fr σ (gf4 pt ct P E rest (if op.lays then id+1 else id) d fr Kf):=nr rfl
theorem cv3 {B:Bool}:bg5 pt ct P E B [] id fr σ Kf=Kf fr σ:=nr rfl
theorem by9 {d:Option Nat}{op:IK}{rest:List ad9}:bg5 pt ct P E false (⟨d,none,op⟩::rest) id fr σ Kf=opT pt ct P E op id fr σ (dx5 pt ct P E false rest (id+1) d fr Kf):=by
 have:bg5 pt ct P E false (⟨d,none,op⟩::rest) id fr σ Kf=((false=true->bo1 E fr σ op)/\opT pt ct P E op id fr σ (dx5 pt ct P E false rest (id+1) d fr Kf)):=nr rfl;rw[this]; simp
theorem bz1 {d:Option Nat}{op:IK}{rest:List ad9}:bg5 pt ct P E true (⟨d,none,op⟩::rest) id fr σ Kf=(bo1 E fr σ op/\opT pt ct P E op id fr σ (dx5 pt ct P E true rest (id+1) d fr Kf)):=by
 have:bg5 pt ct P E true (⟨d,none,op⟩::rest) id fr σ Kf=((true=true->bo1 E fr σ op)/\opT pt ct P E op id fr σ (dx5 pt ct P E true rest (id+1) d fr Kf)):=nr rfl;rw[this]; simp
theorem cv4 {B:Bool}{d:Option Nat}{op:IK}{rest:List ad9}{s:Nat}{want:Bool}:bg5 pt ct P E B (⟨d,some (s,want),op⟩::rest) id fr σ Kf=fd2 pt ct P E B (fr.get s) want op id fr σ (dx5 pt ct P E B rest (id+1) d fr Kf):=nr rfl
theorem ep9 {op:IK}:hn9 pt ct P E (.bool true) true op id fr σ K=opT pt ct P E op id fr σ K:=nr rfl
theorem eq1 {op:IK}:hn9 pt ct P E (.bool false) false op id fr σ K=opT pt ct P E op id fr σ K:=nr rfl
theorem eq2 {op:IK}:hn9 pt ct P E (.bool true) false op id fr σ K=K skV σ:=nr rfl
theorem eq3 {op:IK}:hn9 pt ct P E (.bool false) true op id fr σ K=K skV σ:=nr rfl
theorem eq4 {op:IK}:fd2 pt ct P E false (.bool true) true op id fr σ K=opT pt ct P E op id fr σ K:=by simp[fd2,fx6,gd8]
theorem eq5 {op:IK}:fd2 pt ct P E false (.bool false) false op id fr σ K=opT pt ct P E op id fr σ K:=by simp[fd2,fx6,gd8]
theorem eq6 {B:Bool}{op:IK}:fd2 pt ct P E B (.bool true) false op id fr σ K=K skV σ:=nr rfl
theorem eq7 {B:Bool}{op:IK}:fd2 pt ct P E B (.bool false) true op id fr σ K=K skV σ:=nr rfl
theorem eq8 {op:IK}:fd2 pt ct P E true (.bool true) true op id fr σ K=(bo1 E fr σ op/\opT pt ct P E op id fr σ K):=by simp[fd2,fx6,gd8]
theorem eq9 {op:IK}:fd2 pt ct P E true (.bool false) false op id fr σ K=(bo1 E fr σ op/\opT pt ct P E op id fr σ K):=by simp[fd2,fx6,gd8]
theorem ho5 {op:IK}{want:Bool}:hn9 pt ct P E skV want op id fr σ K=K skV σ:=nr rfl
theorem ho6 {B want:Bool}{op:IK}:fd2 pt ct P E B skV want op id fr σ K=K skV σ:=nr rfl
theorem cv5:wpT pt ct P E N n0 .skip fr σ Q=Q .normal fr σ:=nr rfl
theorem er1 {i:Nat}{ops:List ad9}{ks:List Nat}:wpT pt ct P E N n0 (.reg i ops ks) fr σ Q=bs9 pt ct P E ops σ.next fr ⟨σ.next+bs3 ops,σ.obj⟩ (fn2 ks Q):=nr rfl
theorem cv6 {i:Nat}{ops:List ad9}{B:Bool}{ks:List Nat}:wpT pt ct P E N n0 (.an7 i ops B ks) fr σ Q=bg5 pt ct P E B ops σ.next fr ⟨σ.next+ops.length,σ.obj⟩ (fn2 ks Q):=nr rfl
theorem er2 {x y:IC}:wpT pt ct P E N n0 (.seq x y) fr σ Q=wpT pt ct P E N n0 x fr σ (ij8 pt ct P E N n0 y Q):=nr rfl
theorem cv7 {i:IX}{x y:IC}:wpT pt ct P E N n0 (.cond i x y) fr σ Q=ha7 pt ct P E N n0 (i.ev E fr) x y fr σ Q:=nr rfl
theorem bz2 {i:Nat}{x:IC}:wpT pt ct P E N n0 (.block i x) fr σ Q=wpT pt ct P E N n0 x fr σ (bn9 i Q):=nr rfl
theorem cv8 {x:IC}:wpT pt ct P E N n0 (.loop x) fr σ Q=RI P E N n0 (.loop x) fr σ Q:=nr rfl
theorem bz3 {g:IX}{ps:List Nat}{x y:IC}:wpT pt ct P E N n0 (.be8 g ps y x) fr σ Q=RI P E N n0 (.be8 g ps y x) fr σ Q:=nr rfl
def fn3 (v:IV)(id:Nat)(σ:Store)(K:IV->Store->Prop):Prop:=match v with
 | .al4 es=>K (.ptr id 0) (σ.put id (.av4 es none))
 | _=>False
def gr3 (o:Option (Nat×List (IV×IV)))(σ:Store)(K:IV->Store->Prop):Prop:=bs8 o fun r=>(r.2=[]->K (.tuple [.bool false]) σ) /\
   ∀ j,j<r.2.length->K (.tuple [.bool true,(r.2.getD j (.undef,.undef)).1,(r.2.getD j (.undef,.undef)).2]) (σ.put r.1 (.av4 (r.2.eraseIdx j) (some (r.2.getD j (.undef,.undef)))))
theorem bj5 {x:IX}:opT pt ct P E (.ba7 x) id fr σ K=fn3 (x.ev E fr) id σ K:=nr rfl
theorem bb1 {es:List (IV×IV)}:fn3 (.al4 es) id σ K=K (.ptr id 0) (σ.put id (.av4 es none)):=nr rfl
theorem bz4 {x:IX}:opT pt ct P E (.ch6 x) id fr σ K=gr3 (br6 σ (x.ev E fr)) σ K:=nr rfl
theorem bj6 {i:Nat}{l:List (IV×IV)}:gr3 (some (i,l)) σ K=((l=[]->K (.tuple [.bool false]) σ) /\
   ∀ j,j<l.length->K (.tuple [.bool true,(l.getD j (.undef,.undef)).1,(l.getD j (.undef,.undef)).2]) (σ.put i (.av4 (l.eraseIdx j) (some (l.getD j (.undef,.undef)))))):=nr rfl
theorem cv9 {x:IX}:opT pt ct P E (.fc9 x) id fr σ K=ha6 (dd7 σ (x.ev E fr)) σ K:=nr rfl
theorem cw1 {x:IX}:opT pt ct P E (.ak7 x) id fr σ K=((x.ev E fr).cs.all IV.leaf=true/\K (.ad4 (x.ev E fr).cs) σ):=nr rfl
def ib5 (o:Option (List IV))(esz n:Nat)(σ:Store)(K:IV->Store->Prop):Prop:=bs8 o fun out=>K (.aa3 (chunk esz n out)) σ
theorem cw2 {esz n:Nat}{z:List IV}{ps:List (Nat×Nat×IX)}:opT pt ct P E (.aw2 esz n z ps) id fr σ K=ib5 (ap6 (rep z n) (ps.map fun p=>(p.1,p.2.1,p.2.2.ev E fr))) esz n σ K:=nr rfl
theorem bz5 {esz n:Nat}{out:List IV}:ib5 (some out) esz n σ K=K (.aa3 (chunk esz n out)) σ:=nr rfl
theorem cw3 {i:Nat}:wpT pt ct P E N n0 (.exit i) fr σ Q=Q (.exit i) fr σ:=nr rfl
theorem er3:wpT pt ct P E N n0 .ret fr σ Q=Q .ret fr σ:=nr rfl
theorem ho7 {x y:IC}:ha7 pt ct P E N n0 (.bool true) x y fr σ Q=wpT pt ct P E N n0 x fr σ Q:=nr rfl
theorem ho8 {x y:IC}:ha7 pt ct P E N n0 (.bool false) x y fr σ Q=wpT pt ct P E N n0 y fr σ Q:=nr rfl
theorem er4 {y:IC}:ij8 pt ct P E N n0 y Q .normal fr σ=wpT pt ct P E N n0 y fr σ Q:=nr rfl
theorem er5 {y:IC}{i:Nat}:ij8 pt ct P E N n0 y Q (.exit i) fr σ=Q (.exit i) fr σ:=nr rfl
theorem er6 {y:IC}:ij8 pt ct P E N n0 y Q .ret fr σ=Q .ret fr σ:=nr rfl
theorem er7 {i:Nat}:bn9 i Q .normal fr σ=Q .normal fr σ:=nr rfl
theorem er8 {i:Nat}:bn9 i Q .ret fr σ=Q .ret fr σ:=nr rfl
theorem er9 {i j:Nat}:bn9 i Q (.exit j) fr σ=if j=i then Q .normal fr σ else Q (.exit j) fr σ:=nr rfl
theorem es3 {I:Nat->Frm->Store->Prop}{m:Nat}:dv9 I m Q .normal fr σ=∃ m',m'<m/\I m' fr σ:=nr rfl
theorem es4 {I:Nat->Frm->Store->Prop}{m i:Nat}:dv9 I m Q (.exit i) fr σ=Q (.exit i) fr σ:=nr rfl
theorem es5 {I:Nat->Frm->Store->Prop}{m:Nat}:dv9 I m Q .ret fr σ=Q .ret fr σ:=nr rfl
theorem es6 {irs:List IR}{Qc:IV->Store->Prop}:fm9 irs Qc .ret fr σ=bs8 (irL σ fr irs) fun vs=>Qc (eo2 vs) σ:=nr rfl
theorem cw4 {irs:List IR}{Qc:IV->Store->Prop}:fm9 irs Qc .normal fr σ=bs8 (irL σ fr irs) fun vs=>Qc (eo2 vs) σ:=nr rfl
end Go.Id
/- What the walk of a compiled code is rewritten by: the operations. Conditions: none; over any program. -/
namespace Go.Id
open Go
variable {P:Program} {E:Nat->IV} {σ σ':Store} {fr:Frm} {x y z:IX} {k k':IntKind} {a b:Int} {s t:List UInt8} {n m off esz len:Nat} {v u:IV}
theorem aa6 {i:Nat}{o:ak4}:(σ.put i o).next=σ.next:=nr rfl
theorem aa2 {i j:Nat}{o:ak4}:(σ.put i o).obj j=if j=i then some o else σ.obj j:=nr rfl
theorem e_t:(IX.t n).ev E fr=fr.get n:=nr rfl
theorem e_c:(IX.c v).ev E fr=v:=nr rfl
theorem e_g:(IX.g n).ev E fr=E n:=nr rfl
theorem e_f:(IX.f n).ev E fr=.func (.func n) [] []:=nr rfl
theorem es7:evq E fr σ (.mov x)=some (x.ev E fr):=nr rfl
theorem cw5:evq E fr σ (.pick x y z)=du6 (x.ev E fr) (y.ev E fr) (z.ev E fr):=nr rfl
theorem es8:evq E fr σ (.not x)=hr5 (x.ev E fr):=nr rfl
theorem es9:evq E fr σ (.neg x)=hr6 (x.ev E fr):=nr rfl
theorem et1 {op:BinOp}:evq E fr σ (.bin op x y)=ap9 op (x.ev E fr) (y.ev E fr):=nr rfl
theorem ao1 {d:TypeDesc}{g:Bool}:evq E fr σ (.cl4 d g x)=(dj9 d (x.ev E fr)).map fun b=>.bool (b ^^ g):=nr rfl
theorem et2 {tags:List Nat}{g h:Bool}:evq E fr σ (.eqs tags g h x y)=gp4 tags g h (x.ev E fr) (y.ev E fr):=nr rfl
theorem cw6:evq E fr σ (.conv k x)=fe8 k (x.ev E fr):=nr rfl
theorem bz6:evq E fr σ (.fz6 x)=dl4 (x.ev E fr):=nr rfl
theorem et3:evq E fr σ (.len n x)=cq3 n σ (x.ev E fr):=nr rfl
theorem bz7:evq E fr σ (.ab1 off x)=ck8 off (x.ev E fr):=nr rfl
theorem et4 {ag:Option Nat}:evq E fr σ (.fld ag off x)=hn5 ag off (x.ev E fr):=nr rfl
theorem bz8:evq E fr σ (.ab6 esz x y)=aq2 esz (x.ev E fr) (y.ev E fr):=nr rfl
theorem bz9:evq E fr σ (.az3 n esz x y)=cs7 n esz (x.ev E fr) (y.ev E fr):=nr rfl
theorem et5 {ag:Option Nat}:evq E fr σ (.idx ag n esz x y)=gv1 ag n esz (x.ev E fr) (y.ev E fr):=nr rfl
theorem cw7:evq E fr σ (.dv1 x y)=dc9 (x.ev E fr) (y.ev E fr):=nr rfl
theorem et6 {lo hi:Option IX}:evq E fr σ (.slc esz x lo hi)=bh9 esz (lo.map (·.ev E fr)) (hi.map (·.ev E fr)) (x.ev E fr):=nr rfl
theorem cw8 {lo hi:Option IX}:evq E fr σ (.fz7 x lo hi)=ch4 (lo.map (·.ev E fr)) (hi.map (·.ev E fr)) (x.ev E fr):=nr rfl
theorem et7:evq E fr σ (.slz x)=fx5 (x.ev E fr):=nr rfl
theorem et8:evq E fr σ (.ext n x)=gv3 n (x.ev E fr):=nr rfl
theorem et9 {fs cs:List IX}:evq E fr σ (.mkf n fs cs)=some (.func (.func n) (fs.map (·.ev E fr)) (cs.map (·.ev E fr))):=nr rfl
theorem eu1 {zs:List IV}{ps:List (Nat×Nat×IX)}:evq E fr σ (.bld zs ps)=(ap6 zs (ps.map fun p=>(p.1,p.2.1,p.2.2.ev E fr))).map .agg:=nr rfl
theorem cw9 {ag:Option Nat}:evq E fr σ (.load ag x)=at5 σ ag (x.ev E fr):=nr rfl
theorem cx1:evq E fr σ (.bq9 x)=dl5 (x.ev E fr):=nr rfl
theorem gr4 {mx:Bool}:evq E fr σ (.mm mx x y)=mmI mx (x.ev E fr) (y.ev E fr):=nr rfl
theorem do7:mmI true (.int k a) (.int k' b)=some (.int k (if b>a then b else a)):=by simp[mmI]
theorem dx6:mmI false (.int k a) (.int k' b)=some (.int k (if b<a then b else a)):=by simp[mmI]
theorem dx7 {zero:IV}{ok:Bool}:evq E fr σ (.lkp n zero ok x y)=cl2 σ n zero ok (x.ev E fr) (y.ev E fr):=nr rfl
theorem ca1:Frm.keep fr []=[]:=nr rfl
theorem ca2 {ks:List Nat}:Frm.keep fr (n::ks)=(n,fr.get n)::Frm.keep fr ks:=nr rfl
theorem cx2:bd5 [] n=[]:=nr rfl
theorem cx3 {vs:List IV}:bd5 (v::vs) n=(n,v)::bd5 vs (n+1):=nr rfl
theorem ca3:bs3 []=0:=nr rfl
theorem ca4 {d:Option Nat}{g:Option (Nat×Bool)}{op:IK}{os:List ad9}:bs3 (⟨d,g,op⟩::os)=(if op.lays=true then 1 else 0)+bs3 os:=nr (bx6 _ _)
theorem ho9 {q:IQ}:(IK.q q).lays=false:=nr rfl
theorem bj7 {zs:List IV}:(IK.alloc zs).lays=true:=nr rfl
theorem cx4:(IK.box x).lays=true:=nr rfl
theorem cx5 {zs:List IV}{ps:List (Nat×Nat×IX)}:(IK.bsl esz n zs ps).lays=true:=nr rfl
theorem cx6:(IK.app esz x y).lays=true:=nr rfl
theorem bj8:IK.bg3.lays=true:=nr rfl
theorem ca5:(IK.cr3 n x y z).lays=false:=nr rfl
theorem bb2:(IK.be3 x).lays=true:=nr rfl
theorem bj9:(IK.cn4 x).lays=false:=nr rfl
theorem bb3:(IK.ba7 x).lays=true:=nr rfl
theorem ca6 {zs:List IV}:(IK.dk4 esz zs x).lays=true:=nr rfl
theorem cx7 {zs:List IV}:(IK.clr esz zs x).lays=false:=nr rfl
theorem ca7:(IK.fc9 x).lays=false:=nr rfl
theorem bk1:(IK.ch6 x).lays=false:=nr rfl
theorem ca8:(IK.ak7 x).lays=false:=nr rfl
theorem ca9 {zs:List IV}{ps:List (Nat×Nat×IX)}:(IK.aw2 esz n zs ps).lays=false:=nr rfl
theorem iq8:evq E fr σ (.ibs x y)=hr7 (x.ev E fr) (y.ev E fr):=nr rfl
theorem ib6:hr7 (.str s) (.int .u8 a)=if 0<=a/\a<256 then some (.int .i64 (dt6 a.toNat s 0)) else none:=nr rfl
theorem bk2:(IK.store n x y).lays=false:=nr rfl
theorem cb1 {xs:List IX}:(IK.call n xs).lays=false:=nr rfl
theorem bk3 {xs:List IX}:(IK.ah5 n xs).lays=false:=nr rfl
theorem bk4 {xs:List IX}:(IK.aj3 x xs).lays=false:=nr rfl
theorem cx8 {α β:Type}{f:α->β}:List.map f []=[]:=nr rfl
theorem cx9 {α β:Type}{f:α->β}{c:α}{cs:List α}:List.map f (c::cs)=f c::List.map f cs:=nr rfl
theorem dx8 {α β:Type}{f:α->β}:Option.map f none=none:=nr rfl
theorem dx9 {α β:Type}{f:α->β}{c:α}:Option.map f (some c)=some (f c):=nr rfl
theorem cb2:du6 (.bool true) v u=some v:=nr rfl
theorem cb3:du6 (.bool false) v u=some u:=nr rfl
theorem cb4 {c d:Bool}:du6 (.bool c) (.bool true) (.bool d)=some (.bool (c||d)):=by cases c<;>rfl
theorem cb5 {c d:Bool}:du6 (.bool c) (.bool d) (.bool false)=some (.bool (c&&d)):=by cases c<;>rfl
theorem cy1 {c:Bool}:hr5 (.bool c)=some (.bool !c):=nr rfl
theorem cy2:hr6 (.int k a)=some (.int k (k.wrap (0-a))):=nr rfl
theorem cb6:fe8 k (.int k' a)=some (.int k (k.wrap a)):=nr rfl
theorem bk5:dl4 (.str s)=some (.str s):=nr rfl
theorem eu2:ap9 .add (.int k a) (.int k b)=some (.int k (k.wrap (a+b))):=by simp[ap9,dc8]
theorem eu3:ap9 .sub (.int k a) (.int k b)=some (.int k (k.wrap (a-b))):=by simp[ap9,dc8]
theorem eu4:ap9 .mul (.int k a) (.int k b)=some (.int k (k.wrap (a*b))):=by simp[ap9,dc8]
theorem eu5:ap9 .quo (.int k a) (.int k b)=if b=0 then none else some (.int k (k.wrap (a.tdiv b))):=by simp[ap9,dc8]
theorem eu6:ap9 .rem (.int k a) (.int k b)=if b=0 then none else some (.int k (a.tmod b)):=by simp[ap9,dc8]
theorem eu7:ap9 .eql (.int k a) (.int k b)=some (.bool (decide (a=b))):=by simp[ap9,dc8]
theorem eu8:ap9 .neq (.int k a) (.int k b)=some (.bool (!decide (a=b))):=by simp[ap9,dc8]
theorem eu9:ap9 .lss (.int k a) (.int k b)=some (.bool (decide (a<b))):=by simp[ap9,dc8]
theorem ev1:ap9 .leq (.int k a) (.int k b)=some (.bool (decide (a<=b))):=by simp[ap9,dc8]
theorem ev2:ap9 .gtr (.int k a) (.int k b)=some (.bool (decide (b<a))):=by simp[ap9,dc8]
theorem ev3:ap9 .geq (.int k a) (.int k b)=some (.bool (decide (b<=a))):=by simp[ap9,dc8]
theorem do8:ap9 .shl (.int k a) (.int k' b)=if 0<=b then some (.int k (k.wrap (a*2^(min b.toNat k.bits)))) else none:=by simp[ap9]
theorem dy1:ap9 .shr (.int k a) (.int k' b)=if 0<=b then some (.int k (a.fdiv (2^(min b.toNat k.bits)))) else none:=by simp[ap9]
theorem cy3:ap9 .add (.str s) (.str t)=if s.length+t.length<2^62 then some (.str (s++t)) else none:=by simp[ap9,fy1]
theorem cy4:ap9 .eql (.str s) (.str t)=some (.bool (decide (s=t))):=by simp[ap9,fy1]
theorem cy5:ap9 .neq (.str s) (.str t)=some (.bool (!decide (s=t))):=by simp[ap9,fy1]
theorem cy6:ap9 .lss (.str s) (.str t)=some (.bool (Op.bytesLess s t)):=by simp[ap9,fy1]
theorem cy7:ap9 .leq (.str s) (.str t)=some (.bool (Op.bytesLess s t||decide (s=t))):=by simp[ap9,fy1]
theorem cy8:ap9 .gtr (.str s) (.str t)=some (.bool (!(Op.bytesLess s t||decide (s=t)))):=by simp[ap9,fy1]
theorem cy9:ap9 .geq (.str s) (.str t)=some (.bool (!Op.bytesLess s t)):=by simp[ap9,fy1]
theorem cz1 {es:List (List IV)}:cq3 0 σ (.aa3 es)=some (.int .i64 es.length):=nr rfl
theorem cz2:cq3 0 σ .aa1=some (.int .i64 0):=nr rfl
theorem cz3:cq3 0 σ .ac2=some (.int .i64 0):=nr rfl
theorem ib7:cq3 0 σ .ae5=some (.int .i64 0):=nr rfl
theorem bb4:cq3 0 σ (.slice n off len esz)=some (.int .i64 len):=nr rfl
theorem bk6:cq3 1 σ (.str s)=some (.int .i64 s.length):=nr rfl
theorem cb7:dl5 (.ptr n off)=some (.ptr n off):=nr rfl
theorem cb8 {cs:List IV}:dl5 (.ad4 cs)=some (.ad4 cs):=nr rfl
theorem cb9 {f:FuncId}{p q:List IV}:dl5 (.func (.func f) p q)=some (.func (.func f) p q):=nr rfl
theorem cz4:fx5 .aa1=some .aa1:=nr rfl
theorem cz5:fx5 .ac2=some .ac2:=nr rfl
theorem ib8:fx5 .ae5=some .ac2:=nr rfl
theorem cz6 {es:List (List IV)}:fx5 (.aa3 es)=if es=[] then some (.aa3 []) else some .ac2:=nr rfl
theorem cz7:fx5 (.slice n off len esz)=some .ac2:=nr rfl
theorem ev4:irL σ fr []=some []:=nr rfl
theorem ev5:irL σ fr [.t n]=some [fr.get n]:=nr rfl
theorem cz8:irL σ fr [.t n,.t m]=some [fr.get n,fr.get m]:=nr rfl
theorem ev6 {ag:Option Nat}:irL σ fr [.cell ag n]=(at5 σ ag (fr.get n)).map fun v=>[v]:=by
 simp only[irL,irV]; cases at5 σ ag (fr.get n)<;>rfl
theorem cc1:eo2 [v]=v:=nr rfl
theorem cc2:eo2 [v,u]=.tuple [v,u]:=nr rfl
theorem cc3:eo2 []=.tuple []:=nr rfl
def cr4 (ag:Option Nat)(off:Nat):Option ak4->Option IV
 | some (.cells cs)|some (.row cs)=>match ag with
  | none=>(cs.drop off).head?
  | some n=>if n<=(cs.drop off).length then some (.agg ((cs.drop off).take n)) else none
 | _=>none
theorem cc4 {ag:Option Nat}:at5 σ ag (.ptr n off)=cr4 ag off (σ.obj n):=by
 cases h:σ.obj n with
 | none=>simp[at5,am8,cr4,h]
 | some o=>cases o<;>cases ag<;>simp[at5,am8,cr4,h]
theorem cc5 {cs:List IV}:at5 σ none (.ad4 cs)=cs.head?:=nr rfl
theorem bk7 {cs:List IV}:at5 σ (some n) (.ad4 cs)=if n<=cs.length then some (.agg (cs.take n)) else none:=nr rfl
theorem bg6 {cs:List IV}:cr4 none off (some (.cells cs))=(cs.drop off).head?:=nr rfl
theorem bt2 {cs:List IV}:cr4 (some n) off (some (.cells cs))=if n<=(cs.drop off).length then some (.agg ((cs.drop off).take n)) else none:=nr rfl
theorem ev7 {cs:List IV}:cr4 none off (some (.row cs))=(cs.drop off).head?:=nr rfl
theorem ch7 {cs:List IV}:cr4 (some n) off (some (.row cs))=if n<=(cs.drop off).length then some (.agg ((cs.drop off).take n)) else none:=nr rfl
def do9 (σ:Store)(id off n:Nat)(vs:List IV):Option ak4->Option Store
 | some (.cells cs)=>if vs.length=n/\off+n<=cs.length/\vs.all IV.leaf=true then some (σ.put id (.cells (ap5 cs off vs))) else none
 | some (.row cs)=>if vs.length=n/\off+n<=cs.length/\vs.all IV.leaf=true then some (σ.put id (.row (ap5 cs off vs))) else none
 | _=>none
theorem bk8:an2 σ n (.ptr m off) v=do9 σ m off n v.cs (σ.obj m):=by
 cases h:σ.obj m with
 | none=>simp[an2,do9,h]
 | some o=>cases o<;>simp[an2,do9,h]
theorem ev8 {cs vs:List IV}:do9 σ m off n vs (some (.cells cs))=if vs.length=n/\off+n<=cs.length/\vs.all IV.leaf=true then some (σ.put m (.cells (ap5 cs off vs))) else none:=nr rfl
theorem ch8 {cs vs:List IV}:do9 σ m off n vs (some (.row cs))=if vs.length=n/\off+n<=cs.length/\vs.all IV.leaf=true then some (σ.put m (.row (ap5 cs off vs))) else none:=nr rfl
theorem bk9 {es:List (List IV)}:aq2 esz (.aa3 es) (.int k a)=if 0<=a/\a<es.length/\(es.getD a.toNat []).length=esz then some (.ad4 (es.getD a.toNat [])) else none:=nr rfl
theorem bl4:aq2 esz (.slice n off len m) (.int k a)=if 0<=a/\a<len/\m=esz then some (.ptr n (off+a.toNat*esz)) else none:=nr rfl
theorem cc6 {cs:List IV}:ck8 n (.ad4 cs)=some (.ad4 (cs.drop n)):=nr rfl
theorem cc7:ck8 n (.ptr m off)=some (.ptr m (off+n)):=nr rfl
theorem cc8 {cs:List IV}:IV.cs (.agg cs)=cs:=nr rfl
theorem cc9:IV.cs (.int k a)=[.int k a]:=nr rfl
theorem bl5 {c:Bool}:IV.cs (.bool c)=[.bool c]:=nr rfl
theorem cd1:IV.cs (.str s)=[.str s]:=nr rfl
theorem cd2:IV.cs (.ptr n off)=[.ptr n off]:=nr rfl
theorem bl6 {cs:List IV}:IV.cs (.ad4 cs)=[.ad4 cs]:=nr rfl
theorem bb5:IV.cs (.slice n off len esz)=[.slice n off len esz]:=nr rfl
theorem aw3 {es:List (List IV)}:IV.cs (.aa3 es)=[.aa3 es]:=nr rfl
theorem bl7 {f:Fn}{p q:List IV}:IV.cs (.func f p q)=[.func f p q]:=nr rfl
theorem cd3:IV.cs (.map n)=[.map n]:=nr rfl
theorem bl8 {es:List (IV×IV)}:IV.cs (.al4 es)=[.al4 es]:=nr rfl
theorem cz9:IV.cs .aa1=[.aa1]:=nr rfl
theorem da1:IV.cs .ac2=[.ac2]:=nr rfl
theorem ib9:IV.cs .ae5=[.ae5]:=nr rfl
theorem da2:IV.cs .af2=[.af2]:=nr rfl
theorem cd4:IV.leaf (.int k a)=true:=nr rfl
theorem bl9 {c:Bool}:IV.leaf (.bool c)=true:=nr rfl
theorem cd5:IV.leaf (.str s)=true:=nr rfl
theorem cd6:IV.leaf (.ptr n off)=true:=nr rfl
theorem bm1 {cs:List IV}:IV.leaf (.ad4 cs)=true:=nr rfl
theorem bb6:IV.leaf (.slice n off len esz)=true:=nr rfl
theorem aw4 {es:List (List IV)}:IV.leaf (.aa3 es)=true:=nr rfl
theorem bm2 {f:Fn}{p q:List IV}:IV.leaf (.func f p q)=true:=nr rfl
theorem cd7:IV.leaf (.map n)=true:=nr rfl
theorem bm3 {es:List (IV×IV)}:IV.leaf (.al4 es)=true:=nr rfl
theorem da3:IV.leaf .aa1=true:=nr rfl
theorem da4:IV.leaf .ac2=true:=nr rfl
theorem ic1:IV.leaf .ae5=true:=nr rfl
theorem da5:IV.leaf .af2=true:=nr rfl
def ee7 (σ:Store)(id:Nat):Option ak4->Option (IV×Store)
 | some (.az2 s pos)=>if pos<s.length then some (.tuple [.bool true,.int .i64 pos,.int .i32 (Utf8.decode ⟨s.toArray⟩ pos).1],σ.put id (.az2 s (pos+(Utf8.decode ⟨s.toArray⟩ pos).2))) else some (.tuple [.bool false],σ)
 | _=>none
theorem bg7:bf5 σ (.ptr n 0)=ee7 σ n (σ.obj n):=by
 cases h:σ.obj n with
 | none=>simp[bf5,ee7,h]
 | some o=>cases o<;>simp[bf5,ee7,h]
theorem gr5 {pos:Nat}:ee7 σ n (some (.az2 s pos))=if pos<s.length then some (.tuple [.bool true,.int .i64 pos,.int .i32 (Utf8.decode ⟨s.toArray⟩ pos).1],σ.put n (.az2 s (pos+(Utf8.decode ⟨s.toArray⟩ pos).2))) else some (.tuple [.bool false],σ):=nr rfl
theorem da6 {cs:List IV}:gv3 n (.tuple cs)=cs[n]?:=by cases h:cs[n]?<;>simp[gv3,h]
theorem ev9:(Store.mk σ.next σ.obj)=σ:=nr rfl
theorem wrap64 {x:Int}(h1:-9223372036854775808<=x)(h2:x<9223372036854775808):IntKind.i64.wrap x=x:=by
 simp[IntKind.wrap,IntKind.bits,IntKind.signed];omega
end Go.Id
/- Memory that is done with becomes a tree: from the contract of a function that lays blocks to a pure one. Conditions: none; over any program. -/
namespace Go.Id
open Go
variable {P:Program} {w w' w'':World} {ρ ρ' ρ'':Rho} {E:Nat->IV} {σ σ':Store} {N n n':Nat}
abbrev Bnd (n:Nat)(v:IV):Prop:=Nm (fun i=>i<n) v
abbrev dk5 (σ:Store)(n:Nat)(v v':IV):Prop:=Frz σ (fun i=>i<n) v v'
def Rho.cut (ρ:Rho)(n:Nat):Rho:=⟨fun i=>if i<n then ρ i else .no,ρ.X⟩
theorem gr6 (ρ:Rho)(n:Nat):bw8 (fun i=>i<n) ρ (ρ.cut n):=
 ⟨fun i h=>by show (if i<n then ρ i else dj8.no)=_; rw[if_pos h],fun i h=>by show (if i<n then ρ i else dj8.no)=_; rw[if_neg h],fun _ h=>.inl h⟩
theorem ew1 (hf:∀ i,n<=i->ρ i=.no):∀ i,ρ i≠.no->i<n:=fun i h=>by
 rcases Nat.lt_or_ge i n with h'|h'
 ·exact h'
 ·exact absurd (hf i h') h
theorem iq9 {f:Nat}{args:List IV}{v:IV}
  (h:(∀ a∈args,Bnd σ.next a)->C P E f args σ fun v' σ'=>(∀ i,i<σ.next->σ'.obj i=σ.obj i)/\σ.next<=σ'.next/\dk5 σ' σ.next v' v):C P E f args σ (ib4 v σ):=by
 intro ρ w rargs hs ha;have hlv:=ew1 hs.fresh;have hba:∀ a∈args,Bnd σ.next a:=fun a hm=>let ⟨i,hi,he⟩:=ag2 (d:=.undef) hm; he▸(ha.2 i hi).nm hlv
 refine CallsIn.mono (h hba ρ w rargs hs ha) ?_;rintro e w' ⟨v',r,ρ',σ',rfl,⟨hob,hle,hfrz⟩,hs',hv',hx⟩;have hno:∀ i,σ.next<=i->σ.obj i=none:=fun i hi=>hs.ao5 i (hs.fresh i hi)
 have hk:=gr6 ρ' σ.next;refine ⟨v,r,ρ'.cut σ.next,σ,rfl,⟨rfl,rfl⟩,hs'.ij1 hk hob (fun i hi=>hno i (by omega)) (fun i o _ ho=>hs.nmO hlv i o ho) (fun i hi=>hk.off i (by omega)) (fun g=>(hs.env g).nm hlv),hfrz.vr hk rfl hs' r hv',?_⟩;exact ⟨hx.size,hx.keep,hx.shape,fun i B d hi=>hx.img i B d (hk.at hi).2,fun i B d hi h=>by rw[hk.on i hi]; exact hx.at_ i B d hi h,fun i hi h=>by rw[hk.on i hi]; exact hx.dead i hi h,fun i hi h=>by rw[hk.on i hi]; exact hx.no i hi h,hx.output,hx.os,hx.tape,hx.loops,hx.X⟩
theorem gf5 {f:Nat}{args:List IV}{v:IV}(h:PC P E f args v):C P E f args σ (ib4 v σ):=h σ
theorem ic2 {f:Nat}{args:List IV}{v:IV}
  (h:∀ σ,(∀ a∈args,Bnd σ.next a)->C P E f args σ fun v' σ'=>(∀ i,i<σ.next->σ'.obj i=σ.obj i)/\σ.next<=σ'.next/\dk5 σ' σ.next v' v):PC P E f args v :=
 fun σ=>iq9 (h σ)
theorem ir1 {pt:PT}{ct:CT}{pf:List Nat}(hT:TOK P E pt ct){f:Nat}{an:Ann}{ic:IC}{irs:List IR}{args:List IV}{v:IV}(hf:gr1 P f N pf an ic irs)(hl:args.length<=N)
  (h:∀ σ,(∀ a∈args,Bnd σ.next a)->wpT pt ct P E N σ.next ic (bd5 args 0) σ (fm9 irs fun v' σ'=>(∀ i,i<σ.next->σ'.obj i=σ.obj i)/\σ.next<=σ'.next/\dk5 σ' σ.next v' v)):PC P E f args v :=
 ic2 fun σ hb=>C_T hT hf hl (h σ hb)
def IV.plain:IV->Bool
 | .bool _|.int _ _|.str _=>true
 | .tuple vs=>vs.attach.all fun ⟨v,_⟩=>v.plain
 | .agg vs=>vs.attach.all fun ⟨v,_⟩=>v.plain
 | _=>false
theorem gf6 {v:IV}{r:Value}(h:v.plain=true)(hv:VR ρ w v r):VR ρ' w' v r:=by
 induction hv with
 | bool b=>exact .bool _
 | int k n=>exact .int _ _
 | str s=>exact .str _
 | agg cs rs hl hv ih=>
  refine .agg cs rs hl fun i hi=>ih i hi ?_
  unfold IV.plain at h
  exact List.all_eq_true.1 h ⟨_,ad6 .undef hi⟩ (List.mem_attach _ _)
 | tuple cs rs hl hv ih=>
  refine .tuple cs rs hl fun i hi=>ih i hi ?_
  unfold IV.plain at h
  exact List.all_eq_true.1 h ⟨_,ad6 .undef hi⟩ (List.mem_attach _ _)
 | _=>simp[IV.plain] at h
theorem dy2 (S:Nat->Prop)(ρ:Rho):∃ ρ':Rho,bw8 S ρ ρ'/\∀ b,ρ'.X b↔ρ.X b\/∃ i d,¬ S i/\ρ i=.at b d:=by
 refine ⟨⟨fun i=>if Classical.propDecidable (S i) |>.decide then ρ i else .no,fun b=>ρ.X b\/∃ i d,¬ S i/\ρ i=.at b d⟩,⟨fun i h=>?_,fun i h=>?_,fun b h=>h⟩,fun b=>Iff.rfl⟩
 ·show (if (Classical.propDecidable (S i)).decide=true then ρ i else dj8.no)=_;rw[if_pos (by simpa using h)]
 ·show (if (Classical.propDecidable (S i)).decide=true then ρ i else dj8.no)=_;rw[if_neg (by simpa using h)]
def Store.only (σ:Store)(S:Nat->Bool):Store:=⟨σ.next,fun i=>if S i then σ.obj i else none⟩
theorem ee8 {f:Nat}{args:List IV}{v:IV}(hE:∀ g,Bnd 0 (E g))(ha:∀ a∈args,Bnd 0 a)(h:C P E f args ⟨0,fun _=>none⟩ fun v' σ'=>dk5 σ' 0 v' v):PC P E f args v:=by
 intro σ ρ w rargs hs hr;obtain ⟨ρ0,hk,hX⟩:=dy2 (fun _=>False) ρ;have hs0:Sim E ρ0 w ⟨0,fun _=>none⟩:=hs.ij1 hk (fun i h=>h.elim) (fun _ _=>rfl) (fun i o h=>h.elim) (fun i _=>hk.off i (fun h=>h)) (fun g=>(hE g).weak fun i h=>absurd h (Nat.not_lt_zero _));have hr0:CR ρ0 w args rargs:=⟨hr.1,fun i hi=>(hr.2 i hi).cut hk ((ha _ (ad6 _ hi)).weak fun i h=>absurd h (Nat.not_lt_zero _))⟩;refine CallsIn.mono (h ρ0 w rargs hs0 hr0) ?_;rintro e w' ⟨v',r,ρ',σ',rfl,hfz,hs',hv',hx⟩;have hno0:∀ i,ρ0 i=.no:=fun i=>hk.off i (fun h=>h)
 have hkeep:∀ b,b<w.heap.size->w'.heap[b]? = w.heap[b]?:=fun b hb=>hx.keep b ⟨hb,fun i d h=>by rw[hno0 i] at h; cases h⟩
 have hlt:∀ (b:Nat) (o:Obj),w.heap[b]? = some o->b<w.heap.size:=fun b o h=>by
  rcases Nat.lt_or_ge b w.heap.size with h'|h'
  ·exact h'
  ·rw[Array.getElem?_eq_none h'] at h; cases h
 have hext:∀ n,Ext n ρ w ρ w':=fun n=>
  ⟨hx.size,fun b hb=>hkeep b hb.1,fun b rcs el fz h=>⟨rcs,by rw[hkeep b (hlt b _ h)]; exact h,rfl⟩,fun i B d h=>.inl ⟨i,d,h⟩,fun i B d h=>.inl h,fun i h=>h,fun i _ h=>h,hx.output,hx.os,hx.tape,fun l L h=>⟨L,by rw[hkeep l (hlt l _ h)]; exact h⟩,rfl⟩
 -- the tree lies on no block that is in use
 let ρ1:Rho:=⟨fun _=>.no,ρ'.X⟩;have hk1:bw8 (fun i=>i<0) ρ' ρ1:=⟨fun i h=>absurd h (Nat.not_lt_zero _),fun i _=>rfl,fun b h=>.inl h⟩;have hv1:VR ρ1 w' v r:=hfz.vr hk1 rfl hs' r hv'
 have hv2:VR ρ w' v r:=hv1.refs (fun i h=>absurd rfl h) fun b hb=>⟨hb.1,fun i d hi=>hb.3 (by
   show ρ'.X b;rw[hx.X];exact (hX b).2 (.inr ⟨i,d,fun h=>h,hi⟩)),fun hxb=>hb.3 (by
   show ρ'.X b;rw[hx.X];exact (hX b).2 (.inl hxb))⟩
 refine ⟨v,r,ρ,σ,rfl,⟨rfl,rfl⟩,⟨hs.inj,fun i B d h=>Nat.lt_of_lt_of_le (hs.lt i B d h) hx.size,fun i B d h=>?_,hs.dead,hs.fresh,hs.ao5,fun g=>(hs.env g).mono (hext 0),hs.nx,fun b h=>Nat.lt_of_lt_of_le (hs.xlt b h) hx.size⟩,hv2,(hext σ.next).weak (Nat.le_refl _)⟩;obtain ⟨o,h1,h2⟩:=hs.obj i B d h;exact ⟨o,h1,h2.mono (hext 0) (hkeep B (hs.lt i B d h))⟩
def Store.kills (σ:Store)(S:Nat->Bool):Store:=⟨σ.next,fun i=>if S i then σ.obj i else none⟩
theorem bp4 {S:Nat->Bool}(hs:Sim E ρ w σ):∃ ρd:Rho,Sim E ρd w (σ.kills S)/\(∀ n,Ext n ρ w ρd w)/\∀ v v' r,Frz σ (fun i=>S i=true) v v'->VR ρ w v r->VR ρd w v' r:=by
 let ρc:Rho:=⟨fun i=>if S i then ρ i else .no,ρ.X⟩;let ρd:Rho:=⟨fun i=>if S i then ρ i else match ρ i with|.no=>.no|_=>.dead,ρ.X⟩;have con:∀ i,S i=true->ρc i=ρ i:=fun i h=>by show (if S i=true then ρ i else .no)=_; rw[if_pos h]
 have coff:∀ i,S i=false->ρc i=.no:=fun i h=>by show (if S i=true then ρ i else .no)=_; rw[if_neg (by simp[h])]
 have don:∀ i,S i=true->ρd i=ρ i:=fun i h=>by show (if S i=true then ρ i else _)=_; rw[if_pos h]
 have doff:∀ i,S i=false->ρd i=(match ρ i with|.no=>.no|_=>.dead):=fun i h=>by show (if S i=true then ρ i else _)=_; rw[if_neg (by simp[h])]
 have hdat:∀ i B d,ρd i=.at B d->S i=true/\ρ i=.at B d:=fun i B d h=>by
  cases hsi:S i with
  | true=>rw[don i hsi] at h; exact ⟨rfl,h⟩
  | false=>rw[doff i hsi] at h; cases hri:ρ i<;>rw[hri] at h<;>cases h
 have hk:bw8 (fun i=>S i=true) ρ ρc:=⟨con,fun i h=>coff i (by simpa using h),fun b h=>.inl h⟩
 have hxd:∀ n,Ext n ρ w ρd w:=fun n=>dd4 (fun i B d h=>by
   cases hsi:S i with
   | true=>rw[don i hsi]; exact .inl h
   | false=>rw[doff i hsi,h]; exact .inr rfl) (fun i h=>by
   cases hsi:S i with
   | true=>rw[don i hsi]; exact h
   | false=>rw[doff i hsi,h]) (fun i _ h=>by
   cases hsi:S i with
   | true=>rw[don i hsi]; exact h
   | false=>rw[doff i hsi,h]) (fun i B d h=>⟨i,d,(hdat i B d h).2⟩) rfl
 have hxc:Ext 0 ρc w ρd w:=dd4 (fun i B d h=>by
   obtain ⟨h1,h2⟩:=hk.at h;exact .inl (by rw[don i h1]; exact h2)) (fun i h=>by
   cases hsi:S i with
   | true=>rw[con i hsi] at h; rw[don i hsi]; exact h
   | false=>rw[coff i hsi] at h; cases h) (fun i hi _=>absurd hi (Nat.not_lt_zero _)) (fun i B d h=>⟨i,d,by rw[con i (hdat i B d h).1]; exact (hdat i B d h).2⟩) rfl
 refine ⟨ρd,?_,hxd,fun v v' r hf hv=>(hf.vr hk rfl hs r hv).mono hxc⟩;refine ⟨fun i j B d d' hi hj=>hs.inj i j B d d' (hdat _ _ _ hi).2 (hdat _ _ _ hj).2,fun i B d hi=>hs.lt i B d (hdat _ _ _ hi).2,fun i B d hi=>?_,fun i hi=>?_,fun i hi=>?_,fun i hi=>?_,fun g=>(hs.env g).mono (hxd 0),fun i B d hi=>hs.nx i B d (hdat _ _ _ hi).2,hs.xlt⟩
 ·obtain ⟨h1,h2⟩:=hdat _ _ _ hi;obtain ⟨o,g1,g2⟩:=hs.obj i B d h2;exact ⟨o,by simp[Store.kills,h1,g1],g2.mono (hxd 0) rfl⟩
 ·cases hsi:S i with
  | true=>rw[don i hsi] at hi; simp[Store.kills,hsi,hs.dead i hi]
  | false=>simp[Store.kills,hsi]
 ·have hn:σ.next<=i:=hi;have:=hs.fresh i hn
  cases hsi:S i with
  | true=>rw[don i hsi]; exact this
  | false=>rw[doff i hsi,this]
 ·cases hsi:S i with
  | true=>rw[don i hsi] at hi; simp[Store.kills,hsi,hs.ao5 i hi]
  | false=>simp[Store.kills,hsi]
theorem id3 {S:Nat->Bool}{f:Nat}{args args':List IV}{Q:IV->Store->Prop}(hl:args'.length=args.length)(ha:∀ i,i<args.length->Frz σ (fun i=>S i=true) (args.getD i .undef) (args'.getD i .undef))
  (h:C P E f args' (σ.kills S) Q):C P E f args σ Q:=by
 intro ρ w rargs hs hr;obtain ⟨ρd,hs0,hxd,hvd⟩:=bp4 (S:=S) hs;have hr0:CR ρd w args' rargs:=⟨by rw[hl]; exact hr.1,fun i hi=>hvd _ _ _ (ha i (by omega)) (hr.2 i (by omega))⟩;refine CallsIn.mono (h ρd w rargs hs0 hr0) ?_;rintro e w' ⟨v,r,ρ',σ',rfl,hq,hs',hv',hx⟩;exact ⟨v,r,ρ',σ',rfl,hq,hs',hv',((hxd σ.next).weak (Nat.le_refl _)).trans hx⟩
theorem gr7 {S:Nat->Bool}{ic:IC}{n0:Nat}{fr fr':Frm}{Q:Exit->Frm->Store->Prop}(hf:∀ t,fr'.get t=fr.get t\/Frz σ (fun i=>S i=true) (fr.get t) (fr'.get t))
  (h:RI P E N n0 ic fr' (σ.kills S) Q):RI P E N n0 ic fr σ Q:=by
 intro pf an c hc hn ro h0 ρ w a hs hfr hd hr;obtain ⟨ρd,hs0,hxd,hvd⟩:=bp4 (S:=S) hs
 have hfr':FR ρd w N fr' a.tmps:=⟨hfr.size,fun t=>by
  rcases hf t with e|e
  ·rw[e]; exact (hfr.get t).mono (hxd 0)
  ·exact hvd _ _ _ e (hfr.get t)⟩
 have hxw:=(hxd n0).weak (Nat.le_refl n0);refine wpIn_mono (h pf an c hc hn ro h0 ρd w a hs0 hfr' (hd.mono hxw) (hr.mono hxw)) ?_;rintro e a' w' ⟨fr2,σ2,ρ2,hn2,q,hs2,hf2,hd2,hr2,hx2⟩;exact ⟨fr2,σ2,ρ2,hn2,q,hs2,hf2,hd2,hr2,hxw.trans hx2⟩
theorem cn7 {f:Nat}{args args':List IV}{v:IV}(hE:∀ g,Bnd 0 (E g))(hl:args'.length=args.length)(ha:∀ i,i<args.length->dk5 σ 0 (args.getD i .undef) (args'.getD i .undef))(hp:v.plain=true)(h:PC P E f args' v):C P E f args σ (ib4 v σ):=by
 intro ρ w rargs hs hr;have hk:=gr6 ρ 0;have hs0:Sim E (ρ.cut 0) w ⟨0,fun _=>none⟩:=hs.ij1 hk (fun i h=>absurd h (Nat.not_lt_zero _)) (fun _ _=>rfl) (fun i o h=>absurd h (Nat.not_lt_zero _)) (fun i _=>hk.off i (Nat.not_lt_zero _)) hE;have hr0:CR (ρ.cut 0) w args' rargs:=⟨by rw[hl]; exact hr.1,fun i hi=>(ha i (by omega)).vr hk rfl hs _ (hr.2 i (by omega))⟩;refine CallsIn.mono (h ⟨0,fun _=>none⟩ (ρ.cut 0) w rargs hs0 hr0) ?_;rintro e w' ⟨v',r,ρ',σ',rfl,⟨rfl,rfl⟩,hs',hv',hx⟩;have hkeep:∀ b,b<w.heap.size->w'.heap[b]? = w.heap[b]?:=fun b hb=>hx.keep b ⟨hb,fun i d h=>absurd (hk.at h).1 (Nat.not_lt_zero _)⟩
 have hlt:∀ (b:Nat) (o:Obj),w.heap[b]? = some o->b<w.heap.size:=fun b o h=>by
  rcases Nat.lt_or_ge b w.heap.size with h'|h'
  ·exact h'
  ·rw[Array.getElem?_eq_none h'] at h; cases h
 have hext:∀ n,Ext n ρ w ρ w':=fun n=>
  ⟨hx.size,fun b hb=>hkeep b hb.1,fun b rcs el fz h=>⟨rcs,by rw[hkeep b (hlt b _ h)]; exact h,rfl⟩,fun i B d h=>.inl ⟨i,d,h⟩,fun i B d h=>.inl h,fun i h=>h,fun i _ h=>h,hx.output,hx.os,hx.tape,fun l L h=>⟨L,by rw[hkeep l (hlt l _ h)]; exact h⟩,rfl⟩
 refine ⟨_,r,ρ,σ,rfl,⟨rfl,rfl⟩,⟨hs.inj,fun i B d h=>Nat.lt_of_lt_of_le (hs.lt i B d h) hx.size,fun i B d h=>?_,hs.dead,hs.fresh,hs.ao5,fun g=>(hs.env g).mono (hext 0),hs.nx,fun b h=>Nat.lt_of_lt_of_le (hs.xlt b h) hx.size⟩,gf6 hp hv',(hext σ.next).weak (Nat.le_refl _)⟩;obtain ⟨o,h1,h2⟩:=hs.obj i B d h;exact ⟨o,h1,h2.mono (hext 0) (hkeep B (hs.lt i B d h))⟩
end Go.Id
