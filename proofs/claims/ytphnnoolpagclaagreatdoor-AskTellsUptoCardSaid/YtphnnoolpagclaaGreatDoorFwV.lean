/- A function compiled,whole: its code and its results. Conditions: none; over any program. -/
import Derived.Test.YtphnnoolpagclaaGreatDoorFwI
set_option linter.all false
namespace Go.Id
open Go
variable {P:Program} {w w' w'':World} {ρ ρ' ρ'':Rho} {E:Nat->IV} {σ σ':Store} {N n n':Nat} {fr:Frm} {a:Act} {pf:List Nat}
inductive IR where
 | t (n:Nat)
 | cell (agg:Option Nat) (n:Nat)
 deriving Inhabited
def ij3 (P:Program):ResultVar->Option IR
 | .tmp t=>some (.t t)
 | .cell ad t=>match am7 P t with
  | some agg=>some (.cell agg ad)
  | none=>none
def eo7 (P:Program):List ResultVar->Option (List IR)
 | []=>some []
 | r::rs=>match ij3 P r,eo7 P rs with
  | some x,some xs=>some (x::xs)
  | _,_=>none
def irV (σ:Store)(fr:Frm):IR->Option IV
 | .t n=>some (fr.get n)
 | .cell agg n=>au4 σ agg (fr.get n)
def irL (σ:Store)(fr:Frm):List IR->Option (List IV)
 | []=>some []
 | r::rs=>match irV σ fr r,irL σ fr rs with
  | some v,some vs=>some (v::vs)
  | _,_=>none
theorem hj9:∀ (rs:List ResultVar) (irs:List IR),eo7 P rs=some irs->fz1 P σ fr rs=irL σ fr irs:=by
 intro rs
 induction rs with
 | nil=>intro irs h; cases h; rfl
 | cons r rs ih=>
  intro irs h;simp only[eo7] at h;split at h
  ·rename_i x xs hx hxs;cases h
   have h1:hx9 P σ fr r=irV σ fr x:=by
    cases r with
    | tmp t=>cases hx; rfl
    | cell ad t=>
     simp only[ij3] at hx;split at hx
     ·rename_i agg hagg;cases hx;simp[hx9,irV,hagg]
     ·cases hx
   simp only[fz1,irL,h1,ih _ hxs];cases irV σ fr x<;>cases irL σ fr xs<;>rfl
  ·cases h
def fz9 (P:Program)(f N:Nat)(pf:List Nat)(an:Ann)(ic:IC)(irs:List IR):Prop :=
 ∃ fn,P.funcs[f]? = some fn/\fn.ntmps=N/\fn.body.bind (ce4 P pf N an)=some ic/\eo7 P fn.results.toList=some irs
theorem ac3 {f:Nat}{fn:Func}{an:Ann}{ic:IC}{irs:List IR}(h:P.funcs[f]? = some fn)(hN:fn.ntmps=N)(hc:fn.body.bind (ce4 P pf N an)=some ic)(hr:eo7 P fn.results.toList=some irs):fz9 P f N pf an ic irs :=
 ⟨fn,h,hN,hc,hr⟩
def ij4 (irs:List IR)(Qc:IV->Store->Prop):Exit->Frm->Store->Prop
 | .normal,fr,σ|.ret,fr,σ=>∃ vs,irL σ fr irs=some vs/\Qc (eo1 vs) σ
 | _,_,_=>False
theorem in6 {f:Nat}{an:Ann}{ic:IC}{irs:List IR}{args:List IV}{Qc:IV->Store->Prop}(hf:fz9 P f N pf an ic irs)(hl:args.length<=N)
  (h:wpI P E N σ.next ic (bg3 args 0) σ (ij4 irs Qc)):C P E f args σ Qc:=by
 obtain ⟨fn,h1,h2,h3,h4⟩:=hf
 cases hb:fn.body with
 | none=>rw[hb] at h3; cases h3
 | some c=>
  rw[hb] at h3;refine if6 h1 hb h2 hl ((br1 ic _ _ _ h pf an c h3).mono ?_);intro e fr' σ' q;cases e<;>first|(obtain ⟨vs,q1,q2⟩:=q; exact ⟨vs,by rw[hj9 _ _ h4]; exact q1,q2⟩)|exact q
end Go.Id
/- Frames,by what is asked of them. Conditions: none; over any program. -/
namespace Go.Id
open Go
theorem Frm.get_nil (t:Nat):Frm.get [] t=.undef:=by unfold Frm.get; simp
theorem Frm.bi8 (t s:Nat)(v:IV)(fr:Frm):Frm.get ((t,v)::fr) s=if s=t then v else Frm.get fr s:=Frm.bv7 fr t s v
end Go.Id
/- The walk by tables: what functions give,as functions; the form that is rewritten. Conditions: none; over any program. -/
namespace Go.Id
open Go
universe u
variable {P:Program} {E:Nat->IV} {σ σ':Store} {N n n0:Nat} {fr:Frm} {a:Act} {pf:List Nat}
abbrev PT:=Nat->List IV->Option IV
abbrev CT:=Nat->List IV->Store->Option (IV->Store->Prop)
structure TOK (P:Program) (E:Nat->IV) (pt:PT) (ct:CT):Prop where
 p:∀ f args v,pt f args=some v->PC P E f args v
 c:∀ f args σ Q,ct f args σ=some Q->okF P f=true/\C P E f args σ Q
def noP:PT:=fun _ _=>none
def noC:CT:=fun _ _ _=>none
theorem noT:TOK P E noP noC:=⟨(fun _ _ _ h=>by cases h),(fun _ _ _ _ h=>by cases h)⟩
theorem eo8 {f:Nat}{args:List IV}:noP f args=none:=by unfold noP; exact Eq.trans rfl rfl
theorem eo9 {f:Nat}{args:List IV}:noC f args σ=none:=by unfold noC; exact Eq.trans rfl rfl
def bv5 {α:Type}:Option α->(α->Prop)->Prop
 | some v,K=>K v
 | none,_=>False
def gs2:IV->(Bool->Prop)->Prop
 | .bool b,K=>K b
 | _,_=>False
def ft6 (v:IV)(want:Bool)(A B:Prop):Prop :=
 match fy7 v want with
 | some true=>A
 | some false=>B
 | none=>False
theorem dn7 {v:IV}{want:Bool}{A B:Prop}(h:ft6 v want A B):∃ act,fy7 v want=some act/\if act=true then A else B:=by
 unfold ft6 at h;split at h
 ·rename_i ha; exact ⟨true,ha,h⟩
 ·rename_i ha; exact ⟨false,ha,h⟩
 ·exact h.elim
theorem al6 {α:Type}{o:Option α}{K:α->Prop}(h:bv5 o K):∃ v,o=some v/\K v:=by
 cases o with
 | none=>exact h.elim
 | some v=>exact ⟨v,rfl,h⟩
theorem ep1 {o:IV}{K:Bool->Prop}(h:gs2 o K):∃ b,o=.bool b/\K b:=by
 cases o<;>first|exact ⟨_,rfl,h⟩|exact h.elim
def ck8 (P:Program)(E:Nat->IV)(o:Option (IV->Store->Prop))(f:Nat)(args:List IV)(σ:Store)(K:IV->Store->Prop):Prop :=
 match o with
 | some Q=>∀ v s,Q v s->σ.next<=s.next/\K v s
 | none=>∃ Q,(okF P f=true/\C P E f args σ Q)/\∀ v s,Q v s->σ.next<=s.next/\K v s
def ga1 (P:Program)(E:Nat->IV)(o:Option IV)(f:Nat)(args:List IV)(σ:Store)(K:IV->Store->Prop):Prop :=
 match o with
 | some v=>K v σ
 | none=>∃ v,PC P E f args v/\K v σ
def opT (pt:PT)(ct:CT)(P:Program)(E:Nat->IV)(op:IK)(id:Nat)(fr:Frm)(σ:Store)(K:IV->Store->Prop):Prop :=
 match op with
 | .q q=>bv5 (evq E fr σ q) fun v=>K v σ
 | .alloc z=>K (.ptr id 0) (σ.put id (.cells z))
 | .box x=>(x.ev E fr).cs.all IV.leaf=true/\K (.ptr id 0) (σ.put id (.cells (x.ev E fr).cs))
 | .bsl esz n z parts=>bv5 (as5 (rep z n) (parts.map fun p=>(p.1,p.2.1,p.2.2.ev E fr))) fun out=>K (.slice id 0 n esz) (σ.put id (.row out))
 | .store sz x y=>bv5 (an7 σ sz (x.ev E fr) (y.ev E fr)) fun σ'=>K .undef σ'
 | .bg4 x=>match x.ev E fr with
  | .str s=>K (.ptr id 0) (σ.put id (.ba6 s 0))
  | _=>False
 | .cp8 x=>bv5 (bf9 σ (x.ev E fr)) fun r=>K r.1 r.2
 | .bp2=>K (.map id) (σ.put id (.map []))
 | .di9 tag x k v=>bv5 (as7 σ tag (x.ev E fr) (k.ev E fr) (v.ev E fr)) fun σ'=>K .undef σ'
 | .app esz s x=>bv5 (ba7 σ id esz (s.ev E fr) (x.ev E fr)) fun r=>K r.1 r.2
 | .call f args=>ck8 P E (ct f (args.map (·.ev E fr)) σ) f (args.map (·.ev E fr)) σ K
 | .af1 f args=>ga1 P E (pt f (args.map (·.ev E fr))) f (args.map (·.ev E fr)) σ K
 | .an1 x args=>match x.ev E fr with
  | .func (.func f) first cap=>ck8 P E (ct f (first++args.map (·.ev E fr)++cap) σ) f (first++args.map (·.ev E fr)++cap) σ K
  | .yield i=>∃ Q,CV P E (.yield i) (args.map (·.ev E fr)) σ Q/\∀ v σ',Q v σ'->σ.next<=σ'.next/\K v σ'
  | _=>False
 | .bb4 esz n z parts=>bv5 (as5 (rep z n) (parts.map fun p=>(p.1,p.2.1,p.2.2.ev E fr))) fun out=>K (.aa5 (chunk esz n out)) σ
 | .ai8 x=>(x.ev E fr).cs.all IV.leaf=true/\K (.ab7 (x.ev E fr).cs) σ
 | .bc2 x=>match x.ev E fr with
  | .ak1 es=>K (.ptr id 0) (σ.put id (.ap4 es none))
  | _=>False
 | .cg5 x=>bv5 (bg1 σ (x.ev E fr)) fun r=>(r.2=[]->K (.tuple [.bool false]) σ) /\
   ∀ j,j<r.2.length->K (.tuple [.bool true,(r.2.getD j (.undef,.undef)).1,(r.2.getD j (.undef,.undef)).2]) (σ.put r.1 (.ap4 (r.2.eraseIdx j) (some (r.2.getD j (.undef,.undef)))))
 | .fc1 x=>bv5 (cg1 σ (x.ev E fr)) fun v=>K v σ
 | .dn5 esz z x=>bv5 (du8 (x.ev E fr)) fun n=>K (.slice id 0 n esz) (σ.put id (.row (rep z n)))
 | .clr esz z x=>bv5 (fg3 σ esz z (x.ev E fr)) fun σ'=>σ'.next=σ.next/\K .undef σ'
 | .st k xs=>bv5 (stI k id σ (xs.map (·.ev E fr))) fun r=>K r.1 r.2
theorem cs7 {pt:PT}{ct:CT}(hT:TOK P E pt ct){f:Nat}{args:List IV}{K:IV->Store->Prop}(h:ck8 P E (ct f args σ) f args σ K):∃ Q,(okF P f=true/\C P E f args σ Q)/\∀ v s,Q v s->σ.next<=s.next/\K v s:=by
 cases ho:ct f args σ with
 | none=>rw[ho] at h; exact h
 | some Q=>rw[ho] at h; exact ⟨Q,hT.c _ _ _ Q ho,h⟩
theorem bs5 {pt:PT}{ct:CT}(hT:TOK P E pt ct){op:IK}{id:Nat}{K:IV->Store->Prop}(h:opT pt ct P E op id fr σ K):opR P E op id fr σ K:=by
 cases op with
 | q q=>exact al6 h
 | alloc z=>exact h
 | box x=>exact h
 | bsl e n z ps=>exact al6 h
 | store e x y=>exact al6 h
 | app e s x=>exact al6 h
 | bp2=>exact h
 | bg4 x=>
  simp only[opT] at h;split at h
  ·rename_i s he; exact ⟨s,he,h⟩
  ·exact h.elim
 | cp8 x=>exact al6 h
 | di9 t x y z=>exact al6 h
 | call f xs=>
  obtain ⟨Q,h1,h2⟩:=cs7 hT h
  exact ⟨Q,h1.2,h2⟩
 | af1 f xs=>
  simp only[opT] at h
  cases ho:pt f (xs.map (·.ev E fr)) with
  | none=>rw[ho] at h; exact h
  | some v=>rw[ho] at h; exact ⟨v,hT.p _ _ _ ho,h⟩
 | an1 x xs=>
  simp only[opT] at h;split at h
  ·rename_i f first cap he
   obtain ⟨Q,h1,h2⟩:=cs7 hT h;refine ⟨Q,?_,h2⟩;rw[he];exact h1
  ·rename_i i he;rw[<- he] at h;exact h
  ·exact h.elim
 | bb4 e n z ps=>exact al6 h
 | ai8 x=>exact h
 | bc2 x=>
  simp only[opT] at h;split at h
  ·rename_i s he; exact ⟨s,he,h⟩
  ·exact h.elim
 | cg5 x=>
  obtain ⟨⟨i,l⟩,h1,h2⟩:=al6 h
  exact ⟨i,l,h1,h2⟩
 | fc1 x=>exact al6 h
 | dn5 e z x=>exact al6 h
 | clr e z x=>exact al6 h
 | st k xs=>exact al6 h
def bs6 (pt:PT) (ct:CT) (P:Program) (E:Nat->IV):List ae9->Nat->Frm->Store->(Frm->Store->Prop)->Prop
 | [],_,fr,σ,K=>K fr σ
 | o::rest,id,fr,σ,K=>
  match o.guard with
  | none=>opT pt ct P E o.op id fr σ fun v σ'=>bs6 pt ct P E rest (if o.op.lays then id+1 else id) (fr.ba9 o.dst v) σ' K
  | some (s,want)=>ft6 (fr.get s) want (opT pt ct P E o.op id fr σ fun v σ'=>bs6 pt ct P E rest (if o.op.lays then id+1 else id) (fr.ba9 o.dst v) σ' K)
    (bs6 pt ct P E rest (if o.op.lays then id+1 else id) (fr.ba9 o.dst skV) σ K)
theorem dw4 {pt:PT}{ct:CT}(hT:TOK P E pt ct):∀ (ops:List ae9) (id:Nat) (fr:Frm) (σ:Store) (K:Frm->Store->Prop),bs6 pt ct P E ops id fr σ K->bs1 P E ops id fr σ K:=by
 intro ops
 induction ops with
 | nil=>intro id fr σ K h; exact h
 | cons o os ih=>
  intro id fr σ K h;obtain ⟨d,g,op⟩:=o
  cases g with
  | none=>
   simp only[bs6,bs1] at h ⊢
   exact ⟨true,rfl,az6 (fun v s k=>ih _ _ _ _ k) (bs5 hT h)⟩
  | some p=>
   obtain ⟨s,want⟩:=p;simp only[bs6,bs1] at h ⊢;obtain ⟨act,ha,h⟩:=dn7 h;refine ⟨act,ha,?_⟩
   cases act with
   | true=>
    rw[if_pos rfl] at h ⊢
    exact az6 (fun v s k=>ih _ _ _ _ k) (bs5 hT h)
   | false=>
    rw[if_neg (by simp)] at h ⊢;exact ih _ _ _ _ h
def bq3 (E:Nat->IV)(fr:Frm)(σ:Store):IK->Prop
 | .q (.load _ x)=>match x.ev E fr with
  | .ab7 _=>True
  | .ptr i _=>match σ.obj i with
   | some (.cells _)=>True
   | _=>False
  | _=>False
 | _=>True
theorem cs8 {op:IK}(h:bq3 E fr σ op):ba8 E fr σ op:=by
 cases op with
 | q q=>
  cases q with
  | load ag x=>
   simp only[bq3,ba8] at h ⊢;cases he:x.ev E fr<;>rw[he] at h<;>simp only at h ⊢;rename_i i off
   cases ho:σ.obj i with
   | none=>rw[ho] at h; exact h.elim
   | some ob=>
    rw[ho] at h
    cases ob<;>first|exact ⟨_,rfl⟩|exact h.elim
  | _=>trivial
 | _=>trivial
def bg5 (pt:PT) (ct:CT) (P:Program) (E:Nat->IV) (B:Bool):List ae9->Nat->Frm->Store->(Frm->Store->Prop)->Prop
 | [],_,fr,σ,K=>K fr σ
 | o::rest,id,fr,σ,K=>
  match o.guard with
  | none=>(B=true->bq3 E fr σ o.op)/\opT pt ct P E o.op id fr σ fun v σ'=>bg5 pt ct P E B rest (id+1) (fr.ba9 o.dst v) σ' K
  | some (s,want)=>ft6 (fr.get s) want ((B=true->bq3 E fr σ o.op)/\opT pt ct P E o.op id fr σ fun v σ'=>bg5 pt ct P E B rest (id+1) (fr.ba9 o.dst v) σ' K)
    (bg5 pt ct P E B rest (id+1) (fr.ba9 o.dst skV) σ K)
theorem dw5 {pt:PT}{ct:CT}(hT:TOK P E pt ct){B:Bool}{base:Nat}:∀ (ops:List ae9) (i:Nat) (fr:Frm) (σ:Store) (K:Frm->Store->Prop),bg5 pt ct P E B ops (base+i) fr σ K->bp1 P E B (en4 base i ops) fr σ K:=by
 intro ops
 induction ops with
 | nil=>intro i fr σ K h; exact h
 | cons o os ih=>
  intro i fr σ K h;obtain ⟨d,g,op⟩:=o
  cases g with
  | none=>
   simp only[bg5] at h
   exact ⟨true,rfl,az6 (fun v s k=>ih _ _ _ _ k) (bs5 hT h.2),fun hb=>cs8 (h.1 hb)⟩
  | some p=>
   obtain ⟨s,want⟩:=p;simp only[bg5] at h;obtain ⟨act,ha,h⟩:=dn7 h;refine ⟨act,ha,?_⟩
   cases act with
   | true=>exact ⟨az6 (fun v s k=>ih _ _ _ _ k) (bs5 hT h.2),fun hb=>cs8 (h.1 hb)⟩
   | false=>exact ih _ _ _ _ h
def wpT (pt:PT)(ct:CT)(P:Program)(E:Nat->IV)(N n0:Nat):IC->Frm->Store->(Exit->Frm->Store->Prop)->Prop
 | .skip,fr,σ,Q=>Q .normal fr σ
 | .reg _ ops keep,fr,σ,Q=>bs6 pt ct P E ops σ.next fr ⟨σ.next+bs2 ops,σ.obj⟩ (fun fr' σ'=>Q .normal (fr'.keep keep) σ')
 | .ar4 _ ops B keep,fr,σ,Q=>bg5 pt ct P E B ops σ.next fr ⟨σ.next+ops.length,σ.obj⟩ (fun fr' σ'=>Q .normal (fr'.keep keep) σ')
 | .hc5 _ ops keep,fr,σ,Q=>en7 P E (ii9 σ.next ops) [] fr { σ with next:=σ.next+ops.length } (fun fr' σ'=>Q .normal (fr'.keep keep) σ')
 | .seq a b,fr,σ,Q=>wpT pt ct P E N n0 a fr σ (fun e fr' σ'=>match e with|.normal=>wpT pt ct P E N n0 b fr' σ' Q|e=>Q e fr' σ')
 | .cond x a b,fr,σ,Q=>gs2 (x.ev E fr) fun t=>if t=true then wpT pt ct P E N n0 a fr σ Q else wpT pt ct P E N n0 b fr σ Q
 | .block id a,fr,σ,Q=>wpT pt ct P E N n0 a fr σ (bq9 id Q)
 | .loop a,fr,σ,Q=>RI P E N n0 (.loop a) fr σ Q
 | .exit id,fr,σ,Q=>Q (.exit id) fr σ
 | .ret,fr,σ,Q=>Q .ret fr σ
 | .bn4 g ps y a,fr,σ,Q=>RI P E N n0 (.bn4 g ps y a) fr σ Q
 | .scope a,fr,σ,Q=>wpT pt ct P E N n0 a fr σ (fg5 Q)
theorem bs7:∀ (ic:IC) (fr:Frm) (σ:Store) (Q Q':Exit->Frm->Store->Prop),(∀ e f s,Q e f s->Q' e f s)->wpI P E N n0 ic fr σ Q->wpI P E N n0 ic fr σ Q':=by
 have hrops:∀ (ops:List ae9) (id:Nat) (fr:Frm) (σ:Store) (K K':Frm->Store->Prop),(∀ f s,K f s->K' f s)->bs1 P E ops id fr σ K->bs1 P E ops id fr σ K':=by
  intro ops
  induction ops with
  | nil=>intro id fr σ K K' hk h; exact hk _ _ h
  | cons o os ih=>
   intro id fr σ K K' hk h;simp only[bs1] at h ⊢;obtain ⟨act,ha,h⟩:=h;refine ⟨act,ha,?_⟩
   cases act with
   | true=>
    rw[if_pos rfl] at h ⊢
    exact az6 (fun v s k=>ih _ _ _ _ _ hk k) h
   | false=>
    rw[if_neg (by simp)] at h ⊢;exact ih _ _ _ _ _ hk h
 have htree:∀ (its:List Item) (B:Bool) (fr:Frm) (σ:Store) (K K':Frm->Store->Prop),(∀ f s,K f s->K' f s)->bp1 P E B its fr σ K->bp1 P E B its fr σ K':=by
  intro its
  induction its with
  | nil=>intro B fr σ K K' hk h; exact hk _ _ h
  | cons it its ih=>
   intro B fr σ K K' hk h;obtain ⟨i,o,id⟩:=it;obtain ⟨act,ha,hh⟩:=h;refine ⟨act,ha,?_⟩
   cases act with
   | true=>exact ⟨az6 (fun v s k=>ih _ _ _ _ _ hk k) hh.1,hh.2⟩
   | false=>exact ih _ _ _ _ _ hk hh
 intro ic
 induction ic with
 | skip=>intro fr σ Q Q' hq h; exact hq _ _ _ h
 | reg id ops keep=>intro fr σ Q Q' hq h; exact hrops _ _ _ _ _ _ (fun f s k=>hq _ _ _ k) h
 | ar4 id ops B keep=>intro fr σ Q Q' hq h; exact htree _ _ _ _ _ _ (fun f s k=>hq _ _ _ k) h
 | hc5 id ops keep=>intro fr σ Q Q' hq h; exact en8 _ _ _ _ (fun f s k=>hq _ _ _ k) h
 | seq x y ihx ihy=>
  intro fr σ Q Q' hq h;refine ihx _ _ _ _ ?_ h;intro e f s k
  cases e with
  | normal=>exact ihy _ _ _ _ hq k
  | _=>exact hq _ _ _ k
 | cond x a b iha ihb=>
  intro fr σ Q Q' hq h;obtain ⟨t,ht,h⟩:=h;refine ⟨t,ht,?_⟩
  cases t with
  | true=>exact iha _ _ _ _ hq h
  | false=>exact ihb _ _ _ _ hq h
 | block id x ih=>
  intro fr σ Q Q' hq h;refine ih _ _ _ _ ?_ h;intro e f s k
  cases e with
  | exit i=>simp only[bq9] at k ⊢; split<;>rename_i hi<;>simp only[hi,if_true,if_false] at k<;>exact hq _ _ _ k
  | _=>exact hq _ _ _ k
 | scope x ih=>
  intro fr σ Q Q' hq h;refine ih _ _ _ _ ?_ h;intro e f s k
  cases e with
  | goto l=>exact k
  | _=>exact hq _ _ _ k
 | loop x ih=>intro fr σ Q Q' hq h; exact fg7 h hq
 | exit id=>intro fr σ Q Q' hq h; exact hq _ _ _ h
 | bn4 g ps y x ihy ih=>intro fr σ Q Q' hq h; exact fg7 h hq
 | ret=>intro fr σ Q Q' hq h; exact hq _ _ _ h
theorem bg6 {pt:PT}{ct:CT}(hT:TOK P E pt ct):∀ (ic:IC) (fr:Frm) (σ:Store) (Q:Exit->Frm->Store->Prop),wpT pt ct P E N n0 ic fr σ Q->wpI P E N n0 ic fr σ Q:=by
 intro ic
 induction ic with
 | skip=>intro fr σ Q h; exact h
 | reg id ops keep=>intro fr σ Q h; exact dw4 hT _ _ _ _ _ h
 | ar4 id ops B keep=>intro fr σ Q h; exact dw5 hT _ 0 _ _ _ h
 | hc5 id ops keep=>intro fr σ Q h; exact h
 | seq x y ihx ihy=>
  intro fr σ Q h;have h1:=ihx _ _ _ (show wpT pt ct P E N n0 x fr σ _ from h);refine bs7 x fr σ _ (fun e fr' σ'=>match e with|.normal=>wpI P E N n0 y fr' σ' Q|e=>Q e fr' σ') ?_ h1;intro e f s k
  cases e with
  | normal=>exact ihy _ _ _ k
  | _=>exact k
 | cond x a b iha ihb=>
  intro fr σ Q h;obtain ⟨t,ht,h⟩:=ep1 h;refine ⟨t,ht,?_⟩
  cases t with
  | true=>exact iha _ _ _ h
  | false=>exact ihb _ _ _ h
 | block id x ih=>intro fr σ Q h; exact ih _ _ _ h
 | scope x ih=>intro fr σ Q h; exact ih _ _ _ h
 | loop x ih=>intro fr σ Q h; exact h
 | exit id=>intro fr σ Q h; exact h
 | ret=>intro fr σ Q h; exact h
 | bn4 g ps y x ihy ih=>intro fr σ Q h; exact h
def ga2 (irs:List IR)(Qc:IV->Store->Prop):Exit->Frm->Store->Prop
 | .normal,fr,σ|.ret,fr,σ=>bv5 (irL σ fr irs) fun vs=>Qc (eo1 vs) σ
 | _,_,_=>False
theorem ep2 {irs:List IR}{Qc:IV->Store->Prop}{e:Exit}(h:ga2 irs Qc e fr σ):ij4 irs Qc e fr σ:=by
 cases e<;>first|exact al6 h|exact h
theorem C_T {pt:PT}{ct:CT}(hT:TOK P E pt ct){f:Nat}{an:Ann}{ic:IC}{irs:List IR}{args:List IV}{Qc:IV->Store->Prop}(hf:fz9 P f N pf an ic irs)(hl:args.length<=N)
  (h:wpT pt ct P E N σ.next ic (bg3 args 0) σ (ga2 irs Qc)):C P E f args σ Qc :=
 in6 hf hl (bs7 _ _ _ _ _ (fun _ _ _ k=>ep2 k) (bg6 hT _ _ _ _ h))
theorem in7 {pt:PT}{ct:CT}(hT:TOK P E pt ct){f:Nat}{an:Ann}{ic:IC}{irs:List IR}{args:List IV}{v:IV}(hf:fz9 P f N pf an ic irs)(hl:args.length<=N)
  (h:∀ σ,wpT pt ct P E N σ.next ic (bg3 args 0) σ (ga2 irs fun v' σ'=>v'=v/\σ'=σ)):PC P E f args v :=
 fun σ=>C_T hT hf hl (h σ)
theorem gk1 {pt:PT}{ct:CT}(hT:TOK P E pt ct){x:IC}{Q:Exit->Frm->Store->Prop}(I:Nat->Frm->Store->Prop)(m:Nat)(h:I m fr σ)(hI:∀ m fr σ,I m fr σ->wpT pt ct P E N n0 x fr σ (em8 I m Q)):RI P E N n0 (.loop x) fr σ Q :=
 fg6 I m h fun m fr σ hi=>bg6 hT _ _ _ _ (hI m fr σ hi)
theorem nr {α:Sort u}{a b:α}(h:a=b):a=b:=h
def gs3 (o:Option IV)(σ:Store)(K:IV->Store->Prop):Prop:=bv5 o fun v=>K v σ
def hk6 (o:Option Store)(K:IV->Store->Prop):Prop:=bv5 o fun s=>K .undef s
def hk7 (o:Option (IV×Store))(K:IV->Store->Prop):Prop:=bv5 o fun r=>K r.1 r.2
def hk8 (v:IV)(σ:Store):IV->Store->Prop:=fun v' σ'=>v'=v/\σ'=σ
def ij5 (o:Option (List IV))(id n esz:Nat)(σ:Store)(K:IV->Store->Prop):Prop:=bv5 o fun out=>K (.slice id 0 n esz) (σ.put id (.row out))
def fk1 (ct:CT)(P:Program)(E:Nat->IV)(x:IV)(args:List IV)(σ:Store)(K:IV->Store->Prop):Prop:=match x with
 | .func (.func f) first cap=>ck8 P E (ct f (first++args++cap) σ) f (first++args++cap) σ K
 | .yield i=>∃ Q,CV P E (.yield i) args σ Q/\∀ v σ',Q v σ'->σ.next<=σ'.next/\K v σ'
 | _=>False
def ga3 (pt:PT)(ct:CT)(P:Program)(E:Nat->IV)(rest:List ae9)(id:Nat)(d:Option Nat)(fr:Frm)(K:Frm->Store->Prop):IV->Store->Prop:=fun v σ'=>bs6 pt ct P E rest id (fr.ba9 d v) σ' K
def dw6 (pt:PT)(ct:CT)(P:Program)(E:Nat->IV)(B:Bool)(rest:List ae9)(id:Nat)(d:Option Nat)(fr:Frm)(K:Frm->Store->Prop):IV->Store->Prop:=fun v σ'=>bg5 pt ct P E B rest id (fr.ba9 d v) σ' K
def gs4 (ks:List Nat)(Q:Exit->Frm->Store->Prop):Frm->Store->Prop:=fun fr σ=>Q .normal (fr.keep ks) σ
def gy9 (pt:PT)(ct:CT)(P:Program)(E:Nat->IV)(v:IV)(want:Bool)(op:IK)(id:Nat)(fr:Frm)(σ:Store)(K:IV->Store->Prop):Prop:=ft6 v want (opT pt ct P E op id fr σ K) (K skV σ)
def fc2 (pt:PT)(ct:CT)(P:Program)(E:Nat->IV)(B:Bool)(v:IV)(want:Bool)(op:IK)(id:Nat)(fr:Frm)(σ:Store)(K:IV->Store->Prop):Prop:=ft6 v want ((B=true->bq3 E fr σ op)/\opT pt ct P E op id fr σ K) (K skV σ)
def gs5 (pt:PT)(ct:CT)(P:Program)(E:Nat->IV)(N n0:Nat)(v:IV)(a b:IC)(fr:Frm)(σ:Store)(Q:Exit->Frm->Store->Prop):Prop:=gs2 v fun t=>if t=true then wpT pt ct P E N n0 a fr σ Q else wpT pt ct P E N n0 b fr σ Q
def hy6 (pt:PT)(ct:CT)(P:Program)(E:Nat->IV)(N n0:Nat)(b:IC)(Q:Exit->Frm->Store->Prop):Exit->Frm->Store->Prop:=fun e fr' σ'=>match e with
 | .normal=>wpT pt ct P E N n0 b fr' σ' Q
 | e=>Q e fr' σ'
variable {pt:PT} {ct:CT} {id want:Nat} {K:IV->Store->Prop} {Kf:Frm->Store->Prop} {Q:Exit->Frm->Store->Prop} {v:IV} {c:Prop} [Decidable c]
theorem cs9 {α:Type}(v:α)(K:α->Prop):bv5 (some v) K=K v:=nr rfl
theorem ct1 (v:IV):gs3 (some v) σ K=K v σ:=nr rfl
theorem bw7 (v:IV):gs3 (if c then some v else none) σ K=(c/\K v σ):=by by_cases h:c<;>simp[h,gs3,bv5]
theorem bi9 (v:IV):gs3 (if c then none else some v) σ K=(¬ c/\K v σ):=by by_cases h:c<;>simp[h,gs3,bv5]
theorem ct2:hk6 (some σ) K=K .undef σ:=nr rfl
theorem bw8:hk6 (if c then some σ else none) K=(c/\K .undef σ):=by by_cases h:c<;>simp[h,hk6,bv5]
theorem ct3 (v:IV):hk7 (some (v,σ)) K=K v σ:=nr rfl
theorem bw9 (v:IV):hk7 (if c then some (v,σ) else none) K=(c/\K v σ):=by by_cases h:c<;>simp[h,hk7,bv5]
theorem ep3 {f:Nat}{args:List IV}(v:IV):ck8 P E (some (hk8 v σ')) f args σ K=(σ.next<=σ'.next/\K v σ'):=propext ⟨fun h=>h v σ' ⟨rfl,rfl⟩,fun h v' s' ⟨e1,e2⟩=>by subst e1; subst e2; exact h⟩
theorem gz1 {f:Nat}{args:List IV}(v:IV):ga1 P E (some v) f args σ K=K v σ:=nr rfl
theorem aa2 {f:Nat}{args:List IV}{v:IV}(h:PC P E f args v)(hk:K v σ):ga1 P E none f args σ K:=⟨v,h,hk⟩
theorem an2 {f:Nat}{args:List IV}{Qc:IV->Store->Prop}(ho:okF P f=true)(h:C P E f args σ Qc)(hk:∀ v s,Qc v s->σ.next<=s.next/\K v s):ck8 P E none f args σ K:=⟨Qc,⟨ho,h⟩,hk⟩
theorem ct4 {n esz:Nat}(out:List IV):ij5 (some out) id n esz σ K=K (.slice id 0 n esz) (σ.put id (.row out)):=nr rfl
theorem bx2 (f:Nat)(first cap args:List IV):fk1 ct P E (.func (.func f) first cap) args σ K=ck8 P E (ct f (first++args++cap) σ) f (first++args++cap) σ K:=nr rfl
theorem ct5 {rest:List ae9}{d:Nat}(v:IV):ga3 pt ct P E rest id (some d) fr Kf v σ=bs6 pt ct P E rest id ((d,v)::fr) σ Kf:=nr rfl
theorem bx3 {rest:List ae9}(v:IV):ga3 pt ct P E rest id none fr Kf v σ=bs6 pt ct P E rest id fr σ Kf:=nr rfl
theorem bx4 {B:Bool}{rest:List ae9}{d:Nat}(v:IV):dw6 pt ct P E B rest id (some d) fr Kf v σ=bg5 pt ct P E B rest id ((d,v)::fr) σ Kf:=nr rfl
theorem bj1 {B:Bool}{rest:List ae9}(v:IV):dw6 pt ct P E B rest id none fr Kf v σ=bg5 pt ct P E B rest id fr σ Kf:=nr rfl
theorem ct6 {ks:List Nat}:gs4 ks Q fr σ=Q .normal (fr.keep ks) σ:=nr rfl
theorem w_q {q:IQ}:opT pt ct P E (.q q) id fr σ K=gs3 (evq E fr σ q) σ K:=nr rfl
theorem bx5 {z:List IV}:opT pt ct P E (.alloc z) id fr σ K=K (.ptr id 0) (σ.put id (.cells z)):=nr rfl
theorem ep4 {x:IX}:opT pt ct P E (.box x) id fr σ K=((x.ev E fr).cs.all IV.leaf=true/\K (.ptr id 0) (σ.put id (.cells (x.ev E fr).cs))):=nr rfl
theorem ep5 {esz n:Nat}{z:List IV}{ps:List (Nat×Nat×IX)}:opT pt ct P E (.bsl esz n z ps) id fr σ K=ij5 (as5 (rep z n) (ps.map fun p=>(p.1,p.2.1,p.2.2.ev E fr))) id n esz σ K:=nr rfl
theorem bx6 {sz:Nat}{x y:IX}:opT pt ct P E (.store sz x y) id fr σ K=hk6 (an7 σ sz (x.ev E fr) (y.ev E fr)) K:=nr rfl
def ij6 (v:IV)(id:Nat)(σ:Store)(K:IV->Store->Prop):Prop:=match v with
 | .str s=>K (.ptr id 0) (σ.put id (.ba6 s 0))
 | _=>False
theorem ct7 {s:List UInt8}:ij6 (.str s) id σ K=K (.ptr id 0) (σ.put id (.ba6 s 0)):=nr rfl
theorem bj2 {x:IX}:opT pt ct P E (.bg4 x) id fr σ K=ij6 (x.ev E fr) id σ K:=nr rfl
theorem bx7 {x:IX}:opT pt ct P E (.cp8 x) id fr σ K=hk7 (bf9 σ (x.ev E fr)) K:=nr rfl
theorem bx8:opT pt ct P E .bp2 id fr σ K=K (.map id) (σ.put id (.map [])):=nr rfl
theorem ct8 {tag:Nat}{x k y:IX}:opT pt ct P E (.di9 tag x k y) id fr σ K=hk6 (as7 σ tag (x.ev E fr) (k.ev E fr) (y.ev E fr)) K:=nr rfl
theorem ep6 {esz:Nat}{s x:IX}:opT pt ct P E (.app esz s x) id fr σ K=hk7 (ba7 σ id esz (s.ev E fr) (x.ev E fr)) K:=nr rfl
theorem ct9 {f:Nat}{args:List IX}:opT pt ct P E (.call f args) id fr σ K=ck8 P E (ct f (args.map (·.ev E fr)) σ) f (args.map (·.ev E fr)) σ K:=nr rfl
theorem bx9 {f:Nat}{args:List IX}:opT pt ct P E (.af1 f args) id fr σ K=ga1 P E (pt f (args.map (·.ev E fr))) f (args.map (·.ev E fr)) σ K:=nr rfl
theorem bj3 {x:IX}{args:List IX}:opT pt ct P E (.an1 x args) id fr σ K=fk1 ct P E (x.ev E fr) (args.map (·.ev E fr)) σ K:=nr rfl
theorem ep7:bs6 pt ct P E [] id fr σ Kf=Kf fr σ:=nr rfl
theorem cu1 {d:Option Nat}{op:IK}{rest:List ae9}:bs6 pt ct P E (⟨d,none,op⟩::rest) id fr σ Kf=opT pt ct P E op id fr σ (ga3 pt ct P E rest (if op.lays then id+1 else id) d fr Kf):=nr rfl
theorem ep8 {d:Option Nat}{op:IK}{rest:List ae9}{s:Nat}{want:Bool}:bs6 pt ct P E (⟨d,some (s,want),op⟩::rest) id fr σ Kf=gy9 pt ct P E (fr.get s) want op id fr σ (ga3 pt ct P E rest (if op.lays then id+1 else id) d fr Kf):=nr rfl
theorem cu2 {B:Bool}:bg5 pt ct P E B [] id fr σ Kf=Kf fr σ:=nr rfl
theorem by1 {d:Option Nat}{op:IK}{rest:List ae9}:bg5 pt ct P E false (⟨d,none,op⟩::rest) id fr σ Kf=opT pt ct P E op id fr σ (dw6 pt ct P E false rest (id+1) d fr Kf):=by
 have:bg5 pt ct P E false (⟨d,none,op⟩::rest) id fr σ Kf=((false=true->bq3 E fr σ op)/\opT pt ct P E op id fr σ (dw6 pt ct P E false rest (id+1) d fr Kf)):=nr rfl;rw[this]; simp
theorem by2 {d:Option Nat}{op:IK}{rest:List ae9}:bg5 pt ct P E true (⟨d,none,op⟩::rest) id fr σ Kf=(bq3 E fr σ op/\opT pt ct P E op id fr σ (dw6 pt ct P E true rest (id+1) d fr Kf)):=by
 have:bg5 pt ct P E true (⟨d,none,op⟩::rest) id fr σ Kf=((true=true->bq3 E fr σ op)/\opT pt ct P E op id fr σ (dw6 pt ct P E true rest (id+1) d fr Kf)):=nr rfl;rw[this]; simp
theorem cu3 {B:Bool}{d:Option Nat}{op:IK}{rest:List ae9}{s:Nat}{want:Bool}:bg5 pt ct P E B (⟨d,some (s,want),op⟩::rest) id fr σ Kf=fc2 pt ct P E B (fr.get s) want op id fr σ (dw6 pt ct P E B rest (id+1) d fr Kf):=nr rfl
theorem ep9 {op:IK}:gy9 pt ct P E (.bool true) true op id fr σ K=opT pt ct P E op id fr σ K:=nr rfl
theorem eq1 {op:IK}:gy9 pt ct P E (.bool false) false op id fr σ K=opT pt ct P E op id fr σ K:=nr rfl
theorem eq2 {op:IK}:gy9 pt ct P E (.bool true) false op id fr σ K=K skV σ:=nr rfl
theorem eq3 {op:IK}:gy9 pt ct P E (.bool false) true op id fr σ K=K skV σ:=nr rfl
theorem eq4 {op:IK}:fc2 pt ct P E false (.bool true) true op id fr σ K=opT pt ct P E op id fr σ K:=by simp[fc2,ft6,fy7]
theorem eq5 {op:IK}:fc2 pt ct P E false (.bool false) false op id fr σ K=opT pt ct P E op id fr σ K:=by simp[fc2,ft6,fy7]
theorem eq6 {B:Bool}{op:IK}:fc2 pt ct P E B (.bool true) false op id fr σ K=K skV σ:=nr rfl
theorem eq7 {B:Bool}{op:IK}:fc2 pt ct P E B (.bool false) true op id fr σ K=K skV σ:=nr rfl
theorem eq8 {op:IK}:fc2 pt ct P E true (.bool true) true op id fr σ K=(bq3 E fr σ op/\opT pt ct P E op id fr σ K):=by simp[fc2,ft6,fy7]
theorem eq9 {op:IK}:fc2 pt ct P E true (.bool false) false op id fr σ K=(bq3 E fr σ op/\opT pt ct P E op id fr σ K):=by simp[fc2,ft6,fy7]
theorem gz2 {op:IK}{want:Bool}:gy9 pt ct P E skV want op id fr σ K=K skV σ:=nr rfl
theorem gz3 {B want:Bool}{op:IK}:fc2 pt ct P E B skV want op id fr σ K=K skV σ:=nr rfl
theorem cu4:wpT pt ct P E N n0 .skip fr σ Q=Q .normal fr σ:=nr rfl
theorem er1 {i:Nat}{ops:List ae9}{ks:List Nat}:wpT pt ct P E N n0 (.reg i ops ks) fr σ Q=bs6 pt ct P E ops σ.next fr ⟨σ.next+bs2 ops,σ.obj⟩ (gs4 ks Q):=nr rfl
theorem cu5 {i:Nat}{ops:List ae9}{B:Bool}{ks:List Nat}:wpT pt ct P E N n0 (.ar4 i ops B ks) fr σ Q=bg5 pt ct P E B ops σ.next fr ⟨σ.next+ops.length,σ.obj⟩ (gs4 ks Q):=nr rfl
theorem er2 {x y:IC}:wpT pt ct P E N n0 (.seq x y) fr σ Q=wpT pt ct P E N n0 x fr σ (hy6 pt ct P E N n0 y Q):=nr rfl
theorem cu6 {i:IX}{x y:IC}:wpT pt ct P E N n0 (.cond i x y) fr σ Q=gs5 pt ct P E N n0 (i.ev E fr) x y fr σ Q:=nr rfl
theorem by3 {i:Nat}{x:IC}:wpT pt ct P E N n0 (.block i x) fr σ Q=wpT pt ct P E N n0 x fr σ (bq9 i Q):=nr rfl
theorem cu7 {x:IC}:wpT pt ct P E N n0 (.loop x) fr σ Q=RI P E N n0 (.loop x) fr σ Q:=nr rfl
theorem by4 {g:IX}{ps:List Nat}{x y:IC}:wpT pt ct P E N n0 (.bn4 g ps y x) fr σ Q=RI P E N n0 (.bn4 g ps y x) fr σ Q:=nr rfl
def fk2 (v:IV)(id:Nat)(σ:Store)(K:IV->Store->Prop):Prop:=match v with
 | .ak1 es=>K (.ptr id 0) (σ.put id (.ap4 es none))
 | _=>False
def gk2 (o:Option (Nat×List (IV×IV)))(σ:Store)(K:IV->Store->Prop):Prop:=bv5 o fun r=>(r.2=[]->K (.tuple [.bool false]) σ) /\
   ∀ j,j<r.2.length->K (.tuple [.bool true,(r.2.getD j (.undef,.undef)).1,(r.2.getD j (.undef,.undef)).2]) (σ.put r.1 (.ap4 (r.2.eraseIdx j) (some (r.2.getD j (.undef,.undef)))))
theorem bj4 {x:IX}:opT pt ct P E (.bc2 x) id fr σ K=fk2 (x.ev E fr) id σ K:=nr rfl
theorem bc3 {es:List (IV×IV)}:fk2 (.ak1 es) id σ K=K (.ptr id 0) (σ.put id (.ap4 es none)):=nr rfl
theorem by5 {x:IX}:opT pt ct P E (.cg5 x) id fr σ K=gk2 (bg1 σ (x.ev E fr)) σ K:=nr rfl
theorem bj5 {i:Nat}{l:List (IV×IV)}:gk2 (some (i,l)) σ K=((l=[]->K (.tuple [.bool false]) σ) /\
   ∀ j,j<l.length->K (.tuple [.bool true,(l.getD j (.undef,.undef)).1,(l.getD j (.undef,.undef)).2]) (σ.put i (.ap4 (l.eraseIdx j) (some (l.getD j (.undef,.undef)))))):=nr rfl
theorem cu8 {x:IX}:opT pt ct P E (.fc1 x) id fr σ K=gs3 (cg1 σ (x.ev E fr)) σ K:=nr rfl
theorem cu9 {x:IX}:opT pt ct P E (.ai8 x) id fr σ K=((x.ev E fr).cs.all IV.leaf=true/\K (.ab7 (x.ev E fr).cs) σ):=nr rfl
def hk9 (o:Option (List IV))(esz n:Nat)(σ:Store)(K:IV->Store->Prop):Prop:=bv5 o fun out=>K (.aa5 (chunk esz n out)) σ
theorem cv2 {esz n:Nat}{z:List IV}{ps:List (Nat×Nat×IX)}:opT pt ct P E (.bb4 esz n z ps) id fr σ K=hk9 (as5 (rep z n) (ps.map fun p=>(p.1,p.2.1,p.2.2.ev E fr))) esz n σ K:=nr rfl
theorem by6 {esz n:Nat}{out:List IV}:hk9 (some out) esz n σ K=K (.aa5 (chunk esz n out)) σ:=nr rfl
theorem cv3 {i:Nat}:wpT pt ct P E N n0 (.exit i) fr σ Q=Q (.exit i) fr σ:=nr rfl
theorem er3:wpT pt ct P E N n0 .ret fr σ Q=Q .ret fr σ:=nr rfl
theorem gz4 {x y:IC}:gs5 pt ct P E N n0 (.bool true) x y fr σ Q=wpT pt ct P E N n0 x fr σ Q:=nr rfl
theorem gz5 {x y:IC}:gs5 pt ct P E N n0 (.bool false) x y fr σ Q=wpT pt ct P E N n0 y fr σ Q:=nr rfl
theorem er4 {y:IC}:hy6 pt ct P E N n0 y Q .normal fr σ=wpT pt ct P E N n0 y fr σ Q:=nr rfl
theorem er5 {y:IC}{i:Nat}:hy6 pt ct P E N n0 y Q (.exit i) fr σ=Q (.exit i) fr σ:=nr rfl
theorem er6 {y:IC}:hy6 pt ct P E N n0 y Q .ret fr σ=Q .ret fr σ:=nr rfl
theorem er7 {i:Nat}:bq9 i Q .normal fr σ=Q .normal fr σ:=nr rfl
theorem er8 {i:Nat}:bq9 i Q .ret fr σ=Q .ret fr σ:=nr rfl
theorem er9 {i j:Nat}:bq9 i Q (.exit j) fr σ=if j=i then Q .normal fr σ else Q (.exit j) fr σ:=nr rfl
theorem es3 {I:Nat->Frm->Store->Prop}{m:Nat}:em8 I m Q .normal fr σ=∃ m',m'<m/\I m' fr σ:=nr rfl
theorem es4 {I:Nat->Frm->Store->Prop}{m i:Nat}:em8 I m Q (.exit i) fr σ=Q (.exit i) fr σ:=nr rfl
theorem es5 {I:Nat->Frm->Store->Prop}{m:Nat}:em8 I m Q .ret fr σ=Q .ret fr σ:=nr rfl
theorem es6 {irs:List IR}{Qc:IV->Store->Prop}:ga2 irs Qc .ret fr σ=bv5 (irL σ fr irs) fun vs=>Qc (eo1 vs) σ:=nr rfl
theorem cv4 {irs:List IR}{Qc:IV->Store->Prop}:ga2 irs Qc .normal fr σ=bv5 (irL σ fr irs) fun vs=>Qc (eo1 vs) σ:=nr rfl
end Go.Id
/- What the walk of a compiled code is rewritten by: the operations. Conditions: none; over any program. -/
namespace Go.Id
open Go
variable {P:Program} {E:Nat->IV} {σ σ':Store} {fr:Frm} {x y z:IX} {k k':IntKind} {a b:Int} {s t:List UInt8} {n m off esz len:Nat} {v u:IV}
theorem ab4 {i:Nat}{o:al1}:(σ.put i o).next=σ.next:=nr rfl
theorem aa7 {i j:Nat}{o:al1}:(σ.put i o).obj j=if j=i then some o else σ.obj j:=nr rfl
theorem e_t:(IX.t n).ev E fr=fr.get n:=nr rfl
theorem e_c:(IX.c v).ev E fr=v:=nr rfl
theorem e_g:(IX.g n).ev E fr=E n:=nr rfl
theorem e_f:(IX.f n).ev E fr=.func (.func n) [] []:=nr rfl
theorem es7:evq E fr σ (.mov x)=some (x.ev E fr):=nr rfl
theorem cv5:evq E fr σ (.pick x y z)=dt7 (x.ev E fr) (y.ev E fr) (z.ev E fr):=nr rfl
theorem es8:evq E fr σ (.not x)=ha5 (x.ev E fr):=nr rfl
theorem es9:evq E fr σ (.neg x)=ha6 (x.ev E fr):=nr rfl
theorem et1 {op:BinOp}:evq E fr σ (.bin op x y)=av9 op (x.ev E fr) (y.ev E fr):=nr rfl
theorem ak2 {d:TypeDesc}{g:Bool}:evq E fr σ (.aw3 d g x)=(co9 d (x.ev E fr)).map fun b=>.bool (b ^^ g):=nr rfl
theorem et2 {tags:List Nat}{g h:Bool}:evq E fr σ (.eqs tags g h x y)=ft5 tags g h (x.ev E fr) (y.ev E fr):=nr rfl
theorem cv6:evq E fr σ (.conv k x)=fd8 k (x.ev E fr):=nr rfl
theorem by7:evq E fr σ (.fv5 x)=dj9 (x.ev E fr):=nr rfl
theorem et3:evq E fr σ (.len n x)=cp5 n σ (x.ev E fr):=nr rfl
theorem by8:evq E fr σ (.aa6 off x)=ci8 off (x.ev E fr):=nr rfl
theorem et4 {ag:Option Nat}:evq E fr σ (.fld ag off x)=gy5 ag off (x.ev E fr):=nr rfl
theorem by9:evq E fr σ (.ac8 esz x y)=aq6 esz (x.ev E fr) (y.ev E fr):=nr rfl
theorem bz1:evq E fr σ (.du2 n esz x y)=cr4 n esz (x.ev E fr) (y.ev E fr):=nr rfl
theorem et5 {ag:Option Nat}:evq E fr σ (.idx ag n esz x y)=gn4 ag n esz (x.ev E fr) (y.ev E fr):=nr rfl
theorem cv7:evq E fr σ (.dl2 x y)=dj3 (x.ev E fr) (y.ev E fr):=nr rfl
theorem et6 {lo hi:Option IX}:evq E fr σ (.slc esz x lo hi)=cr5 esz (lo.map (·.ev E fr)) (hi.map (·.ev E fr)) (x.ev E fr):=nr rfl
theorem cv8 {lo hi:Option IX}:evq E fr σ (.fv6 x lo hi)=cf7 (lo.map (·.ev E fr)) (hi.map (·.ev E fr)) (x.ev E fr):=nr rfl
theorem et7:evq E fr σ (.slz x)=ft3 (x.ev E fr):=nr rfl
theorem et8:evq E fr σ (.ext n x)=gn5 n (x.ev E fr):=nr rfl
theorem et9 {fs cs:List IX}:evq E fr σ (.mkf n fs cs)=some (.func (.func n) (fs.map (·.ev E fr)) (cs.map (·.ev E fr))):=nr rfl
theorem eu1 {zs:List IV}{ps:List (Nat×Nat×IX)}:evq E fr σ (.bld zs ps)=(as5 zs (ps.map fun p=>(p.1,p.2.1,p.2.2.ev E fr))).map .agg:=nr rfl
theorem cv9 {ag:Option Nat}:evq E fr σ (.load ag x)=au4 σ ag (x.ev E fr):=nr rfl
theorem cw1:evq E fr σ (.ak4 x)=dk4 (x.ev E fr):=nr rfl
theorem gk3 {mx:Bool}:evq E fr σ (.mm mx x y)=mmI mx (x.ev E fr) (y.ev E fr):=nr rfl
theorem dn8:mmI true (.int k a) (.int k' b)=some (.int k (if b>a then b else a)):=by simp[mmI]
theorem dw7:mmI false (.int k a) (.int k' b)=some (.int k (if b<a then b else a)):=by simp[mmI]
theorem dw8 {zero:IV}{ok:Bool}:evq E fr σ (.lkp n zero ok x y)=co8 σ n zero ok (x.ev E fr) (y.ev E fr):=nr rfl
theorem bz2:Frm.keep fr []=[]:=nr rfl
theorem bz3 {ks:List Nat}:Frm.keep fr (n::ks)=(n,fr.get n)::Frm.keep fr ks:=nr rfl
theorem cw2:bg3 [] n=[]:=nr rfl
theorem cw3 {vs:List IV}:bg3 (v::vs) n=(n,v)::bg3 vs (n+1):=nr rfl
theorem bz4:bs2 []=0:=nr rfl
theorem bz5 {d:Option Nat}{g:Option (Nat×Bool)}{op:IK}{os:List ae9}:bs2 (⟨d,g,op⟩::os)=(if op.lays=true then 1 else 0)+bs2 os:=nr (bw6 _ _)
theorem gz6 {q:IQ}:(IK.q q).lays=false:=nr rfl
theorem bj6 {zs:List IV}:(IK.alloc zs).lays=true:=nr rfl
theorem cw4:(IK.box x).lays=true:=nr rfl
theorem cw5 {zs:List IV}{ps:List (Nat×Nat×IX)}:(IK.bsl esz n zs ps).lays=true:=nr rfl
theorem cw6:(IK.app esz x y).lays=true:=nr rfl
theorem bj7:IK.bp2.lays=true:=nr rfl
theorem bz6:(IK.di9 n x y z).lays=false:=nr rfl
theorem bc4:(IK.bg4 x).lays=true:=nr rfl
theorem bj8:(IK.cp8 x).lays=false:=nr rfl
theorem bc5:(IK.bc2 x).lays=true:=nr rfl
theorem bz7 {zs:List IV}:(IK.dn5 esz zs x).lays=true:=nr rfl
theorem cw7 {zs:List IV}:(IK.clr esz zs x).lays=false:=nr rfl
theorem bz8:(IK.fc1 x).lays=false:=nr rfl
theorem bj9:(IK.cg5 x).lays=false:=nr rfl
theorem bz9:(IK.ai8 x).lays=false:=nr rfl
theorem ca1 {zs:List IV}{ps:List (Nat×Nat×IX)}:(IK.bb4 esz n zs ps).lays=false:=nr rfl
theorem ig2:evq E fr σ (.ibs x y)=ha7 (x.ev E fr) (y.ev E fr):=nr rfl
theorem hl7:ha7 (.str s) (.int .u8 a)=if 0<=a/\a<256 then some (.int .i64 (ds7 a.toNat s 0)) else none:=nr rfl
theorem bk1:(IK.store n x y).lays=false:=nr rfl
theorem ca2 {xs:List IX}:(IK.call n xs).lays=false:=nr rfl
theorem bk2 {xs:List IX}:(IK.af1 n xs).lays=false:=nr rfl
theorem bk3 {xs:List IX}:(IK.an1 x xs).lays=false:=nr rfl
theorem cw8 {α β:Type}{f:α->β}:List.map f []=[]:=nr rfl
theorem cw9 {α β:Type}{f:α->β}{c:α}{cs:List α}:List.map f (c::cs)=f c::List.map f cs:=nr rfl
theorem dw9 {α β:Type}{f:α->β}:Option.map f none=none:=nr rfl
theorem dx1 {α β:Type}{f:α->β}{c:α}:Option.map f (some c)=some (f c):=nr rfl
theorem ca3:dt7 (.bool true) v u=some v:=nr rfl
theorem ca4:dt7 (.bool false) v u=some u:=nr rfl
theorem ca5 {c d:Bool}:dt7 (.bool c) (.bool true) (.bool d)=some (.bool (c||d)):=by cases c<;>rfl
theorem ca6 {c d:Bool}:dt7 (.bool c) (.bool d) (.bool false)=some (.bool (c&&d)):=by cases c<;>rfl
theorem cx1 {c:Bool}:ha5 (.bool c)=some (.bool !c):=nr rfl
theorem cx2:ha6 (.int k a)=some (.int k (k.wrap (0-a))):=nr rfl
theorem ca7:fd8 k (.int k' a)=some (.int k (k.wrap a)):=nr rfl
theorem bk4:dj9 (.str s)=some (.str s):=nr rfl
theorem eu2:av9 .add (.int k a) (.int k b)=some (.int k (k.wrap (a+b))):=by simp[av9,ds8]
theorem eu3:av9 .sub (.int k a) (.int k b)=some (.int k (k.wrap (a-b))):=by simp[av9,ds8]
theorem eu4:av9 .mul (.int k a) (.int k b)=some (.int k (k.wrap (a*b))):=by simp[av9,ds8]
theorem eu5:av9 .quo (.int k a) (.int k b)=if b=0 then none else some (.int k (k.wrap (a.tdiv b))):=by simp[av9,ds8]
theorem eu6:av9 .rem (.int k a) (.int k b)=if b=0 then none else some (.int k (a.tmod b)):=by simp[av9,ds8]
theorem eu7:av9 .eql (.int k a) (.int k b)=some (.bool (decide (a=b))):=by simp[av9,ds8]
theorem eu8:av9 .neq (.int k a) (.int k b)=some (.bool (!decide (a=b))):=by simp[av9,ds8]
theorem eu9:av9 .lss (.int k a) (.int k b)=some (.bool (decide (a<b))):=by simp[av9,ds8]
theorem ev1:av9 .leq (.int k a) (.int k b)=some (.bool (decide (a<=b))):=by simp[av9,ds8]
theorem ev2:av9 .gtr (.int k a) (.int k b)=some (.bool (decide (b<a))):=by simp[av9,ds8]
theorem ev3:av9 .geq (.int k a) (.int k b)=some (.bool (decide (b<=a))):=by simp[av9,ds8]
theorem ev4:av9 .shl (.int k a) (.int k' b)=if 0<=b then some (.int k (k.wrap (a*2^(min b.toNat k.bits)))) else none:=by simp[av9]
theorem ev5:av9 .shr (.int k a) (.int k' b)=if 0<=b then some (.int k (a.fdiv (2^(min b.toNat k.bits)))) else none:=by simp[av9]
theorem cx3:av9 .add (.str s) (.str t)=if s.length+t.length<2^62 then some (.str (s++t)) else none:=by simp[av9,fu1]
theorem cx4:av9 .eql (.str s) (.str t)=some (.bool (decide (s=t))):=by simp[av9,fu1]
theorem cx5:av9 .neq (.str s) (.str t)=some (.bool (!decide (s=t))):=by simp[av9,fu1]
theorem cx6:av9 .lss (.str s) (.str t)=some (.bool (Op.bytesLess s t)):=by simp[av9,fu1]
theorem cx7:av9 .leq (.str s) (.str t)=some (.bool (Op.bytesLess s t||decide (s=t))):=by simp[av9,fu1]
theorem cx8:av9 .gtr (.str s) (.str t)=some (.bool (!(Op.bytesLess s t||decide (s=t)))):=by simp[av9,fu1]
theorem cx9:av9 .geq (.str s) (.str t)=some (.bool (!Op.bytesLess s t)):=by simp[av9,fu1]
theorem cy1 {es:List (List IV)}:cp5 0 σ (.aa5 es)=some (.int .i64 es.length):=nr rfl
theorem cy2:cp5 0 σ .aa1=some (.int .i64 0):=nr rfl
theorem cy3:cp5 0 σ .ac5=some (.int .i64 0):=nr rfl
theorem hl8:cp5 0 σ .ae7=some (.int .i64 0):=nr rfl
theorem bf2:cp5 0 σ (.slice n off len esz)=some (.int .i64 len):=nr rfl
theorem bk5:cp5 1 σ (.str s)=some (.int .i64 s.length):=nr rfl
theorem ca8:dk4 (.ptr n off)=some (.ptr n off):=nr rfl
theorem ca9 {cs:List IV}:dk4 (.ab7 cs)=some (.ab7 cs):=nr rfl
theorem cb1 {f:FuncId}{p q:List IV}:dk4 (.func (.func f) p q)=some (.func (.func f) p q):=nr rfl
theorem cy4:ft3 .aa1=some .aa1:=nr rfl
theorem cy5:ft3 .ac5=some .ac5:=nr rfl
theorem hl9:ft3 .ae7=some .ac5:=nr rfl
theorem cy6 {es:List (List IV)}:ft3 (.aa5 es)=if es=[] then some (.aa5 []) else some .ac5:=nr rfl
theorem cy7:ft3 (.slice n off len esz)=some .ac5:=nr rfl
theorem ev6:irL σ fr []=some []:=nr rfl
theorem ev7:irL σ fr [.t n]=some [fr.get n]:=nr rfl
theorem cy8:irL σ fr [.t n,.t m]=some [fr.get n,fr.get m]:=nr rfl
theorem ev8 {ag:Option Nat}:irL σ fr [.cell ag n]=(au4 σ ag (fr.get n)).map fun v=>[v]:=by
 simp only[irL,irV]; cases au4 σ ag (fr.get n)<;>rfl
theorem cb2:eo1 [v]=v:=nr rfl
theorem cb3:eo1 [v,u]=.tuple [v,u]:=nr rfl
theorem cb4:eo1 []=.tuple []:=nr rfl
def de8 (ag:Option Nat)(off:Nat):Option al1->Option IV
 | some (.cells cs)|some (.row cs)=>match ag with
  | none=>(cs.drop off).head?
  | some n=>if n<=(cs.drop off).length then some (.agg ((cs.drop off).take n)) else none
 | _=>none
theorem cb5 {ag:Option Nat}:au4 σ ag (.ptr n off)=de8 ag off (σ.obj n):=by
 cases h:σ.obj n with
 | none=>simp[au4,an6,de8,h]
 | some o=>cases o<;>cases ag<;>simp[au4,an6,de8,h]
theorem cb6 {cs:List IV}:au4 σ none (.ab7 cs)=cs.head?:=nr rfl
theorem bk6 {cs:List IV}:au4 σ (some n) (.ab7 cs)=if n<=cs.length then some (.agg (cs.take n)) else none:=nr rfl
theorem be5 {cs:List IV}:de8 none off (some (.cells cs))=(cs.drop off).head?:=nr rfl
theorem bs8 {cs:List IV}:de8 (some n) off (some (.cells cs))=if n<=(cs.drop off).length then some (.agg ((cs.drop off).take n)) else none:=nr rfl
theorem ev9 {cs:List IV}:de8 none off (some (.row cs))=(cs.drop off).head?:=nr rfl
theorem cg6 {cs:List IV}:de8 (some n) off (some (.row cs))=if n<=(cs.drop off).length then some (.agg ((cs.drop off).take n)) else none:=nr rfl
def dn9 (σ:Store)(id off n:Nat)(vs:List IV):Option al1->Option Store
 | some (.cells cs)=>if vs.length=n/\off+n<=cs.length/\vs.all IV.leaf=true then some (σ.put id (.cells (az3 cs off vs))) else none
 | some (.row cs)=>if vs.length=n/\off+n<=cs.length/\vs.all IV.leaf=true then some (σ.put id (.row (az3 cs off vs))) else none
 | _=>none
theorem bk7:an7 σ n (.ptr m off) v=dn9 σ m off n v.cs (σ.obj m):=by
 cases h:σ.obj m with
 | none=>simp[an7,dn9,h]
 | some o=>cases o<;>simp[an7,dn9,h]
theorem ew1 {cs vs:List IV}:dn9 σ m off n vs (some (.cells cs))=if vs.length=n/\off+n<=cs.length/\vs.all IV.leaf=true then some (σ.put m (.cells (az3 cs off vs))) else none:=nr rfl
theorem cg7 {cs vs:List IV}:dn9 σ m off n vs (some (.row cs))=if vs.length=n/\off+n<=cs.length/\vs.all IV.leaf=true then some (σ.put m (.row (az3 cs off vs))) else none:=nr rfl
theorem bk8 {es:List (List IV)}:aq6 esz (.aa5 es) (.int k a)=if 0<=a/\a<es.length/\(es.getD a.toNat []).length=esz then some (.ab7 (es.getD a.toNat [])) else none:=nr rfl
theorem bk9:aq6 esz (.slice n off len m) (.int k a)=if 0<=a/\a<len/\m=esz then some (.ptr n (off+a.toNat*esz)) else none:=nr rfl
theorem cb7 {cs:List IV}:ci8 n (.ab7 cs)=some (.ab7 (cs.drop n)):=nr rfl
theorem cb8:ci8 n (.ptr m off)=some (.ptr m (off+n)):=nr rfl
theorem cb9 {cs:List IV}:IV.cs (.agg cs)=cs:=nr rfl
theorem cc1:IV.cs (.int k a)=[.int k a]:=nr rfl
theorem bl4 {c:Bool}:IV.cs (.bool c)=[.bool c]:=nr rfl
theorem cc2:IV.cs (.str s)=[.str s]:=nr rfl
theorem cc3:IV.cs (.ptr n off)=[.ptr n off]:=nr rfl
theorem bl5 {cs:List IV}:IV.cs (.ab7 cs)=[.ab7 cs]:=nr rfl
theorem bc6:IV.cs (.slice n off len esz)=[.slice n off len esz]:=nr rfl
theorem aw7 {es:List (List IV)}:IV.cs (.aa5 es)=[.aa5 es]:=nr rfl
theorem bl6 {f:Fn}{p q:List IV}:IV.cs (.func f p q)=[.func f p q]:=nr rfl
theorem cc4:IV.cs (.map n)=[.map n]:=nr rfl
theorem bl7 {es:List (IV×IV)}:IV.cs (.ak1 es)=[.ak1 es]:=nr rfl
theorem cy9:IV.cs .aa1=[.aa1]:=nr rfl
theorem cz1:IV.cs .ac5=[.ac5]:=nr rfl
theorem hm3:IV.cs .ae7=[.ae7]:=nr rfl
theorem cz2:IV.cs .ac2=[.ac2]:=nr rfl
theorem cc5:IV.leaf (.int k a)=true:=nr rfl
theorem bl8 {c:Bool}:IV.leaf (.bool c)=true:=nr rfl
theorem cc6:IV.leaf (.str s)=true:=nr rfl
theorem cc7:IV.leaf (.ptr n off)=true:=nr rfl
theorem bl9 {cs:List IV}:IV.leaf (.ab7 cs)=true:=nr rfl
theorem bc7:IV.leaf (.slice n off len esz)=true:=nr rfl
theorem aw8 {es:List (List IV)}:IV.leaf (.aa5 es)=true:=nr rfl
theorem bm1 {f:Fn}{p q:List IV}:IV.leaf (.func f p q)=true:=nr rfl
theorem cc8:IV.leaf (.map n)=true:=nr rfl
theorem bm2 {es:List (IV×IV)}:IV.leaf (.ak1 es)=true:=nr rfl
theorem cz3:IV.leaf .aa1=true:=nr rfl
theorem cz4:IV.leaf .ac5=true:=nr rfl
theorem hm4:IV.leaf .ae7=true:=nr rfl
theorem cz5:IV.leaf .ac2=true:=nr rfl
def ee7 (σ:Store)(id:Nat):Option al1->Option (IV×Store)
 | some (.ba6 s pos)=>if pos<s.length then some (.tuple [.bool true,.int .i64 pos,.int .i32 (Utf8.decode ⟨s.toArray⟩ pos).1],σ.put id (.ba6 s (pos+(Utf8.decode ⟨s.toArray⟩ pos).2))) else some (.tuple [.bool false],σ)
 | _=>none
theorem bg7:bf9 σ (.ptr n 0)=ee7 σ n (σ.obj n):=by
 cases h:σ.obj n with
 | none=>simp[bf9,ee7,h]
 | some o=>cases o<;>simp[bf9,ee7,h]
theorem gk4 {pos:Nat}:ee7 σ n (some (.ba6 s pos))=if pos<s.length then some (.tuple [.bool true,.int .i64 pos,.int .i32 (Utf8.decode ⟨s.toArray⟩ pos).1],σ.put n (.ba6 s (pos+(Utf8.decode ⟨s.toArray⟩ pos).2))) else some (.tuple [.bool false],σ):=nr rfl
theorem cz6 {cs:List IV}:gn5 n (.tuple cs)=cs[n]?:=by cases h:cs[n]?<;>simp[gn5,h]
theorem ew2:(Store.mk σ.next σ.obj)=σ:=nr rfl
theorem wrap64 {x:Int}(h1:-9223372036854775808<=x)(h2:x<9223372036854775808):IntKind.i64.wrap x=x:=by
 simp[IntKind.wrap,IntKind.bits,IntKind.signed];omega
end Go.Id
/- Memory that is done with becomes a tree: from the contract of a function that lays blocks to a pure one. Conditions: none; over any program. -/
namespace Go.Id
open Go
variable {P:Program} {w w' w'':World} {ρ ρ' ρ'':Rho} {E:Nat->IV} {σ σ':Store} {N n n':Nat}
abbrev Bnd (n:Nat)(v:IV):Prop:=Nm (fun i=>i<n) v
abbrev dj1 (σ:Store)(n:Nat)(v v':IV):Prop:=Frz σ (fun i=>i<n) v v'
def Rho.cut (ρ:Rho)(n:Nat):Rho:=⟨fun i=>if i<n then ρ i else .no,ρ.X⟩
theorem gk5 (ρ:Rho)(n:Nat):bw2 (fun i=>i<n) ρ (ρ.cut n):=
 ⟨fun i h=>by show (if i<n then ρ i else di8.no)=_; rw[if_pos h],fun i h=>by show (if i<n then ρ i else di8.no)=_; rw[if_neg h],fun _ h=>.inl h⟩
theorem ew3 (hf:∀ i,n<=i->ρ i=.no):∀ i,ρ i≠.no->i<n:=fun i h=>by
 rcases Nat.lt_or_ge i n with h'|h'
 ·exact h'
 ·exact absurd (hf i h') h
theorem ig3 {f:Nat}{args:List IV}{v:IV}
  (h:(∀ a∈args,Bnd σ.next a)->C P E f args σ fun v' σ'=>(∀ i,i<σ.next->σ'.obj i=σ.obj i)/\σ.next<=σ'.next/\dj1 σ' σ.next v' v):C P E f args σ (hk8 v σ):=by
 intro ρ w rargs hs ha;have hlv:=ew3 hs.fresh;have hba:∀ a∈args,Bnd σ.next a:=fun a hm=>let ⟨i,hi,he⟩:=ah2 (d:=.undef) hm; he▸(ha.2 i hi).nm hlv
 refine CallsIn.mono (h hba ρ w rargs hs ha) ?_;rintro e w' ⟨v',r,ρ',σ',rfl,⟨hob,hle,hfrz⟩,hs',hv',hx⟩;have hno:∀ i,σ.next<=i->σ.obj i=none:=fun i hi=>hs.as1 i (hs.fresh i hi)
 have hk:=gk5 ρ' σ.next;refine ⟨v,r,ρ'.cut σ.next,σ,rfl,⟨rfl,rfl⟩,hs'.hv8 hk hob (fun i hi=>hno i (by omega)) (fun i o _ ho=>hs.nmO hlv i o ho) (fun i hi=>hk.off i (by omega)) (fun g=>(hs.env g).nm hlv),hfrz.vr hk rfl hs' r hv',?_⟩;exact ⟨hx.size,hx.keep,hx.shape,fun i B d hi=>hx.img i B d (hk.at hi).2,fun i B d hi h=>by rw[hk.on i hi]; exact hx.at_ i B d hi h,fun i hi h=>by rw[hk.on i hi]; exact hx.dead i hi h,fun i hi h=>by rw[hk.on i hi]; exact hx.no i hi h,hx.output,hx.os,hx.tape,hx.loops,hx.X⟩
theorem ew4 {f:Nat}{args:List IV}{v:IV}(h:PC P E f args v):C P E f args σ (hk8 v σ):=h σ
theorem gk6 {f:Nat}{args:List IV}{v:IV}
  (h:∀ σ,(∀ a∈args,Bnd σ.next a)->C P E f args σ fun v' σ'=>(∀ i,i<σ.next->σ'.obj i=σ.obj i)/\σ.next<=σ'.next/\dj1 σ' σ.next v' v):PC P E f args v :=
 fun σ=>ig3 (h σ)
theorem ig4 {pt:PT}{ct:CT}{pf:List Nat}(hT:TOK P E pt ct){f:Nat}{an:Ann}{ic:IC}{irs:List IR}{args:List IV}{v:IV}(hf:fz9 P f N pf an ic irs)(hl:args.length<=N)
  (h:∀ σ,(∀ a∈args,Bnd σ.next a)->wpT pt ct P E N σ.next ic (bg3 args 0) σ (ga2 irs fun v' σ'=>(∀ i,i<σ.next->σ'.obj i=σ.obj i)/\σ.next<=σ'.next/\dj1 σ' σ.next v' v)):PC P E f args v :=
 gk6 fun σ hb=>C_T hT hf hl (h σ hb)
def IV.plain:IV->Bool
 | .bool _|.int _ _|.str _=>true
 | .tuple vs=>vs.attach.all fun ⟨v,_⟩=>v.plain
 | .agg vs=>vs.attach.all fun ⟨v,_⟩=>v.plain
 | _=>false
theorem ga4 {v:IV}{r:Value}(h:v.plain=true)(hv:VR ρ w v r):VR ρ' w' v r:=by
 induction hv with
 | bool b=>exact .bool _
 | int k n=>exact .int _ _
 | str s=>exact .str _
 | agg cs rs hl hv ih=>
  refine .agg cs rs hl fun i hi=>ih i hi ?_
  unfold IV.plain at h
  exact List.all_eq_true.1 h ⟨_,ac9 .undef hi⟩ (List.mem_attach _ _)
 | tuple cs rs hl hv ih=>
  refine .tuple cs rs hl fun i hi=>ih i hi ?_
  unfold IV.plain at h
  exact List.all_eq_true.1 h ⟨_,ac9 .undef hi⟩ (List.mem_attach _ _)
 | _=>simp[IV.plain] at h
theorem dx2 (S:Nat->Prop)(ρ:Rho):∃ ρ':Rho,bw2 S ρ ρ'/\∀ b,ρ'.X b↔ρ.X b\/∃ i d,¬ S i/\ρ i=.at b d:=by
 refine ⟨⟨fun i=>if Classical.propDecidable (S i) |>.decide then ρ i else .no,fun b=>ρ.X b\/∃ i d,¬ S i/\ρ i=.at b d⟩,⟨fun i h=>?_,fun i h=>?_,fun b h=>h⟩,fun b=>Iff.rfl⟩
 ·show (if (Classical.propDecidable (S i)).decide=true then ρ i else di8.no)=_;rw[if_pos (by simpa using h)]
 ·show (if (Classical.propDecidable (S i)).decide=true then ρ i else di8.no)=_;rw[if_neg (by simpa using h)]
def Store.only (σ:Store)(S:Nat->Bool):Store:=⟨σ.next,fun i=>if S i then σ.obj i else none⟩
theorem ga5 {f:Nat}{args:List IV}{v:IV}(hE:∀ g,Bnd 0 (E g))(ha:∀ a∈args,Bnd 0 a)(h:C P E f args ⟨0,fun _=>none⟩ fun v' σ'=>dj1 σ' 0 v' v):PC P E f args v:=by
 intro σ ρ w rargs hs hr;obtain ⟨ρ0,hk,hX⟩:=dx2 (fun _=>False) ρ;have hs0:Sim E ρ0 w ⟨0,fun _=>none⟩:=hs.hv8 hk (fun i h=>h.elim) (fun _ _=>rfl) (fun i o h=>h.elim) (fun i _=>hk.off i (fun h=>h)) (fun g=>(hE g).weak fun i h=>absurd h (Nat.not_lt_zero _));have hr0:CR ρ0 w args rargs:=⟨hr.1,fun i hi=>(hr.2 i hi).cut hk ((ha _ (ac9 _ hi)).weak fun i h=>absurd h (Nat.not_lt_zero _))⟩;refine CallsIn.mono (h ρ0 w rargs hs0 hr0) ?_;rintro e w' ⟨v',r,ρ',σ',rfl,hfz,hs',hv',hx⟩;have hno0:∀ i,ρ0 i=.no:=fun i=>hk.off i (fun h=>h)
 have hkeep:∀ b,b<w.heap.size->w'.heap[b]? = w.heap[b]?:=fun b hb=>hx.keep b ⟨hb,fun i d h=>by rw[hno0 i] at h; cases h⟩
 have hlt:∀ (b:Nat) (o:Obj),w.heap[b]? = some o->b<w.heap.size:=fun b o h=>by
  rcases Nat.lt_or_ge b w.heap.size with h'|h'
  ·exact h'
  ·rw[Array.getElem?_eq_none h'] at h; cases h
 have hext:∀ n,Ext n ρ w ρ w':=fun n=>
  ⟨hx.size,fun b hb=>hkeep b hb.1,fun b rcs el fz h=>⟨rcs,by rw[hkeep b (hlt b _ h)]; exact h,rfl⟩,fun i B d h=>.inl ⟨i,d,h⟩,fun i B d h=>.inl h,fun i h=>h,fun i _ h=>h,hx.output,hx.os,hx.tape,fun l L h=>⟨L,by rw[hkeep l (hlt l _ h)]; exact h⟩,rfl⟩
 -- the tree lies on no block that is in use
 let ρ1:Rho:=⟨fun _=>.no,ρ'.X⟩;have hk1:bw2 (fun i=>i<0) ρ' ρ1:=⟨fun i h=>absurd h (Nat.not_lt_zero _),fun i _=>rfl,fun b h=>.inl h⟩;have hv1:VR ρ1 w' v r:=hfz.vr hk1 rfl hs' r hv'
 have hv2:VR ρ w' v r:=hv1.refs (fun i h=>absurd rfl h) fun b hb=>⟨hb.1,fun i d hi=>hb.3 (by
   show ρ'.X b;rw[hx.X];exact (hX b).2 (.inr ⟨i,d,fun h=>h,hi⟩)),fun hxb=>hb.3 (by
   show ρ'.X b;rw[hx.X];exact (hX b).2 (.inl hxb))⟩
 refine ⟨v,r,ρ,σ,rfl,⟨rfl,rfl⟩,⟨hs.inj,fun i B d h=>Nat.lt_of_lt_of_le (hs.lt i B d h) hx.size,fun i B d h=>?_,hs.dead,hs.fresh,hs.as1,fun g=>(hs.env g).mono (hext 0),hs.nx,fun b h=>Nat.lt_of_lt_of_le (hs.xlt b h) hx.size⟩,hv2,(hext σ.next).weak (Nat.le_refl _)⟩;obtain ⟨o,h1,h2⟩:=hs.obj i B d h;exact ⟨o,h1,h2.mono (hext 0) (hkeep B (hs.lt i B d h))⟩
def Store.kills (σ:Store)(S:Nat->Bool):Store:=⟨σ.next,fun i=>if S i then σ.obj i else none⟩
theorem ck9 {S:Nat->Bool}(hs:Sim E ρ w σ):∃ ρd:Rho,Sim E ρd w (σ.kills S)/\(∀ n,Ext n ρ w ρd w)/\∀ v v' r,Frz σ (fun i=>S i=true) v v'->VR ρ w v r->VR ρd w v' r:=by
 let ρc:Rho:=⟨fun i=>if S i then ρ i else .no,ρ.X⟩;let ρd:Rho:=⟨fun i=>if S i then ρ i else match ρ i with|.no=>.no|_=>.dead,ρ.X⟩;have con:∀ i,S i=true->ρc i=ρ i:=fun i h=>by show (if S i=true then ρ i else .no)=_; rw[if_pos h]
 have coff:∀ i,S i=false->ρc i=.no:=fun i h=>by show (if S i=true then ρ i else .no)=_; rw[if_neg (by simp[h])]
 have don:∀ i,S i=true->ρd i=ρ i:=fun i h=>by show (if S i=true then ρ i else _)=_; rw[if_pos h]
 have doff:∀ i,S i=false->ρd i=(match ρ i with|.no=>.no|_=>.dead):=fun i h=>by show (if S i=true then ρ i else _)=_; rw[if_neg (by simp[h])]
 have hdat:∀ i B d,ρd i=.at B d->S i=true/\ρ i=.at B d:=fun i B d h=>by
  cases hsi:S i with
  | true=>rw[don i hsi] at h; exact ⟨rfl,h⟩
  | false=>rw[doff i hsi] at h; cases hri:ρ i<;>rw[hri] at h<;>cases h
 have hk:bw2 (fun i=>S i=true) ρ ρc:=⟨con,fun i h=>coff i (by simpa using h),fun b h=>.inl h⟩
 have hxd:∀ n,Ext n ρ w ρd w:=fun n=>dc5 (fun i B d h=>by
   cases hsi:S i with
   | true=>rw[don i hsi]; exact .inl h
   | false=>rw[doff i hsi,h]; exact .inr rfl) (fun i h=>by
   cases hsi:S i with
   | true=>rw[don i hsi]; exact h
   | false=>rw[doff i hsi,h]) (fun i _ h=>by
   cases hsi:S i with
   | true=>rw[don i hsi]; exact h
   | false=>rw[doff i hsi,h]) (fun i B d h=>⟨i,d,(hdat i B d h).2⟩) rfl
 have hxc:Ext 0 ρc w ρd w:=dc5 (fun i B d h=>by
   obtain ⟨h1,h2⟩:=hk.at h;exact .inl (by rw[don i h1]; exact h2)) (fun i h=>by
   cases hsi:S i with
   | true=>rw[con i hsi] at h; rw[don i hsi]; exact h
   | false=>rw[coff i hsi] at h; cases h) (fun i hi _=>absurd hi (Nat.not_lt_zero _)) (fun i B d h=>⟨i,d,by rw[con i (hdat i B d h).1]; exact (hdat i B d h).2⟩) rfl
 refine ⟨ρd,?_,hxd,fun v v' r hf hv=>(hf.vr hk rfl hs r hv).mono hxc⟩;refine ⟨fun i j B d d' hi hj=>hs.inj i j B d d' (hdat _ _ _ hi).2 (hdat _ _ _ hj).2,fun i B d hi=>hs.lt i B d (hdat _ _ _ hi).2,fun i B d hi=>?_,fun i hi=>?_,fun i hi=>?_,fun i hi=>?_,fun g=>(hs.env g).mono (hxd 0),fun i B d hi=>hs.nx i B d (hdat _ _ _ hi).2,hs.xlt⟩
 ·obtain ⟨h1,h2⟩:=hdat _ _ _ hi;obtain ⟨o,g1,g2⟩:=hs.obj i B d h2;exact ⟨o,by simp[Store.kills,h1,g1],g2.mono (hxd 0) rfl⟩
 ·cases hsi:S i with
  | true=>rw[don i hsi] at hi; simp[Store.kills,hsi,hs.dead i hi]
  | false=>simp[Store.kills,hsi]
 ·have hn:σ.next<=i:=hi;have:=hs.fresh i hn
  cases hsi:S i with
  | true=>rw[don i hsi]; exact this
  | false=>rw[doff i hsi,this]
 ·cases hsi:S i with
  | true=>rw[don i hsi] at hi; simp[Store.kills,hsi,hs.as1 i hi]
  | false=>simp[Store.kills,hsi]
theorem gk7 {S:Nat->Bool}{f:Nat}{args args':List IV}{Q:IV->Store->Prop}(hl:args'.length=args.length)(ha:∀ i,i<args.length->Frz σ (fun i=>S i=true) (args.getD i .undef) (args'.getD i .undef))
  (h:C P E f args' (σ.kills S) Q):C P E f args σ Q:=by
 intro ρ w rargs hs hr;obtain ⟨ρd,hs0,hxd,hvd⟩:=ck9 (S:=S) hs;have hr0:CR ρd w args' rargs:=⟨by rw[hl]; exact hr.1,fun i hi=>hvd _ _ _ (ha i (by omega)) (hr.2 i (by omega))⟩;refine CallsIn.mono (h ρd w rargs hs0 hr0) ?_;rintro e w' ⟨v,r,ρ',σ',rfl,hq,hs',hv',hx⟩;exact ⟨v,r,ρ',σ',rfl,hq,hs',hv',((hxd σ.next).weak (Nat.le_refl _)).trans hx⟩
theorem de9 {f:Nat}{args args':List IV}{v:IV}(hE:∀ g,Bnd 0 (E g))(hl:args'.length=args.length)(ha:∀ i,i<args.length->dj1 σ 0 (args.getD i .undef) (args'.getD i .undef))(hp:v.plain=true)(h:PC P E f args' v):C P E f args σ (hk8 v σ):=by
 intro ρ w rargs hs hr;have hk:=gk5 ρ 0;have hs0:Sim E (ρ.cut 0) w ⟨0,fun _=>none⟩:=hs.hv8 hk (fun i h=>absurd h (Nat.not_lt_zero _)) (fun _ _=>rfl) (fun i o h=>absurd h (Nat.not_lt_zero _)) (fun i _=>hk.off i (Nat.not_lt_zero _)) hE;have hr0:CR (ρ.cut 0) w args' rargs:=⟨by rw[hl]; exact hr.1,fun i hi=>(ha i (by omega)).vr hk rfl hs _ (hr.2 i (by omega))⟩;refine CallsIn.mono (h ⟨0,fun _=>none⟩ (ρ.cut 0) w rargs hs0 hr0) ?_;rintro e w' ⟨v',r,ρ',σ',rfl,⟨rfl,rfl⟩,hs',hv',hx⟩;have hkeep:∀ b,b<w.heap.size->w'.heap[b]? = w.heap[b]?:=fun b hb=>hx.keep b ⟨hb,fun i d h=>absurd (hk.at h).1 (Nat.not_lt_zero _)⟩
 have hlt:∀ (b:Nat) (o:Obj),w.heap[b]? = some o->b<w.heap.size:=fun b o h=>by
  rcases Nat.lt_or_ge b w.heap.size with h'|h'
  ·exact h'
  ·rw[Array.getElem?_eq_none h'] at h; cases h
 have hext:∀ n,Ext n ρ w ρ w':=fun n=>
  ⟨hx.size,fun b hb=>hkeep b hb.1,fun b rcs el fz h=>⟨rcs,by rw[hkeep b (hlt b _ h)]; exact h,rfl⟩,fun i B d h=>.inl ⟨i,d,h⟩,fun i B d h=>.inl h,fun i h=>h,fun i _ h=>h,hx.output,hx.os,hx.tape,fun l L h=>⟨L,by rw[hkeep l (hlt l _ h)]; exact h⟩,rfl⟩
 refine ⟨_,r,ρ,σ,rfl,⟨rfl,rfl⟩,⟨hs.inj,fun i B d h=>Nat.lt_of_lt_of_le (hs.lt i B d h) hx.size,fun i B d h=>?_,hs.dead,hs.fresh,hs.as1,fun g=>(hs.env g).mono (hext 0),hs.nx,fun b h=>Nat.lt_of_lt_of_le (hs.xlt b h) hx.size⟩,ga4 hp hv',(hext σ.next).weak (Nat.le_refl _)⟩;obtain ⟨o,h1,h2⟩:=hs.obj i B d h;exact ⟨o,h1,h2.mono (hext 0) (hkeep B (hs.lt i B d h))⟩
end Go.Id
