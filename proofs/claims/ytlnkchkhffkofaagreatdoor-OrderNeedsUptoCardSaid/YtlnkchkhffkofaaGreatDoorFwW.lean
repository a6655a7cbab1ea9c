/- A function compiled,whole: its code and its results. Conditions: none; over any program. -/
import Derived.Test.YtlnkchkhffkofaaGreatDoorFwI
set_option linter.all false
namespace Go.Id
open Go
variable {P:Program} {w w' w'':World} {ρ ρ' ρ'':Rho} {E:Nat→IV} {σ σ':Store} {N n n':Nat} {fr:Frm} {a:Act} {pf:List Nat}
inductive IR where
 | t (n:Nat)
 | cell (agg:Option Nat) (n:Nat)
 deriving Inhabited
def iv4 (P:Program):ResultVar→Option IR
 | .tmp t=>some (.t t)
 | .cell ad t=>match al5 P t with
  | some agg=>some (.cell agg ad)
  | none=>none
def eq4 (P:Program):List ResultVar→Option (List IR)
 | []=>some []
 | r::rs=>match iv4 P r,eq4 P rs with
  | some x,some xs=>some (x::xs)
  | _,_=>none
def irV (σ:Store)(fr:Frm):IR→Option IV
 | .t n=>some (fr.get n)
 | .cell agg n=>as4 σ agg (fr.get n)
def irL (σ:Store)(fr:Frm):List IR→Option (List IV)
 | []=>some []
 | r::rs=>match irV σ fr r,irL σ fr rs with
  | some v,some vs=>some (v::vs)
  | _,_=>none
theorem gs4:∀ (rs:List ResultVar) (irs:List IR),eq4 P rs=some irs→gg3 P σ fr rs=irL σ fr irs:=by
 intro rs
 induction rs with
 | nil=>intro irs h; cases h; rfl
 | cons r rs ih=>
  intro irs h;simp only[eq4] at h;split at h
  ·rename_i x xs hx hxs;cases h
   have h1:ik9 P σ fr r=irV σ fr x:=by
    cases r with
    | tmp t=>cases hx; rfl
    | cell ad t=>
     simp only[iv4] at hx;split at hx
     ·rename_i agg hagg;cases hx;simp[ik9,irV,hagg]
     ·cases hx
   simp only[gg3,irL,h1,ih _ hxs];cases irV σ fr x<;>cases irL σ fr xs<;>rfl
  ·cases h
def gs5 (P:Program)(f N:Nat)(pf:List Nat)(an:Ann)(ic:IC)(irs:List IR):Prop :=
 ∃ fn,P.funcs[f]? = some fn∧fn.ntmps=N∧fn.body.bind (az6 P pf N an)=some ic∧eq4 P fn.results.toList=some irs
theorem ac3 {f:Nat}{fn:Func}{an:Ann}{ic:IC}{irs:List IR}(h:P.funcs[f]? = some fn)(hN:fn.ntmps=N)(hc:fn.body.bind (az6 P pf N an)=some ic)(hr:eq4 P fn.results.toList=some irs):gs5 P f N pf an ic irs :=
 ⟨fn,h,hN,hc,hr⟩
def iv5 (irs:List IR)(Qc:IV→Store→Prop):Exit→Frm→Store→Prop
 | .normal,fr,σ|.ret,fr,σ=>∃ vs,irL σ fr irs=some vs∧Qc (ep6 vs) σ
 | _,_,_=>False
theorem ja4 {f:Nat}{an:Ann}{ic:IC}{irs:List IR}{args:List IV}{Qc:IV→Store→Prop}(hf:gs5 P f N pf an ic irs)(hl:args.length≤N)
  (h:wpI P E N σ.next ic (bd1 args 0) σ (iv5 irs Qc)):C P E f args σ Qc:=by
 obtain ⟨fn,h1,h2,h3,h4⟩:=hf
 cases hb:fn.body with
 | none=>rw[hb] at h3; cases h3
 | some c=>
  rw[hb] at h3;refine ib7 h1 hb h2 hl ((bf6 ic _ _ _ h pf an c h3).mono ?_);intro e fr' σ' q;cases e<;>first|(obtain ⟨vs,q1,q2⟩:=q; exact ⟨vs,by rw[gs4 _ _ h4]; exact q1,q2⟩)|exact q
end Go.Id
/- Frames,by what is asked of them. Conditions: none; over any program. -/
namespace Go.Id
open Go
theorem Frm.get_nil (t:Nat):Frm.get [] t=.undef:=by unfold Frm.get; simp
theorem Frm.ay2 (t s:Nat)(v:IV)(fr:Frm):Frm.get ((t,v)::fr) s=if s=t then v else Frm.get fr s:=Frm.bw2 fr t s v
end Go.Id
/- The walk by tables: what functions give,aZ functions; the form that is rewritten. Conditions: none; over any program. -/
namespace Go.Id
open Go
universe u
variable {P:Program} {E:Nat→IV} {σ σ':Store} {N n n0:Nat} {fr:Frm} {a:Act} {pf:List Nat}
abbrev PT:=Nat→List IV→Option IV
abbrev CT:=Nat→List IV→Store→Option (IV→Store→Prop)
structure TOK (P:Program) (E:Nat→IV) (pt:PT) (ct:CT):Prop where
 p:∀ f args v,pt f args=some v→PC P E f args v
 c:∀ f args σ Q,ct f args σ=some Q→okF P f=true∧C P E f args σ Q
def noP:PT:=fun _ _=>none
def noC:CT:=fun _ _ _=>none
theorem noT:TOK P E noP noC:=⟨(fun _ _ _ h=>by cases h),(fun _ _ _ _ h=>by cases h)⟩
theorem eq5 {f:Nat}{args:List IV}:noP f args=none:=by unfold noP; exact Eq.trans rfl rfl
theorem eq6 {f:Nat}{args:List IV}:noC f args σ=none:=by unfold noC; exact Eq.trans rfl rfl
def bo2 {α:Type}:Option α→(α→Prop)→Prop
 | some v,K=>K v
 | none,_=>False
def hc7:IV→(Bool→Prop)→Prop
 | .bool b,K=>K b
 | _,_=>False
def fz7 (v:IV)(want:Bool)(A B:Prop):Prop :=
 match gf7 v want with
 | some true=>A
 | some false=>B
 | none=>False
theorem dq9 {v:IV}{want:Bool}{A B:Prop}(h:fz7 v want A B):∃ act,gf7 v want=some act∧if act=true then A else B:=by
 unfold fz7 at h;split at h
 ·rename_i ha; exact ⟨true,ha,h⟩
 ·rename_i ha; exact ⟨false,ha,h⟩
 ·exact h.elim
theorem ak5 {α:Type}{o:Option α}{K:α→Prop}(h:bo2 o K):∃ v,o=some v∧K v:=by
 cases o with
 | none=>exact h.elim
 | some v=>exact ⟨v,rfl,h⟩
theorem eq7 {o:IV}{K:Bool→Prop}(h:hc7 o K):∃ b,o=.bool b∧K b:=by
 cases o<;>first|exact ⟨_,rfl,h⟩|exact h.elim
def cn9 (P:Program)(E:Nat→IV)(o:Option (IV→Store→Prop))(f:Nat)(args:List IV)(σ:Store)(K:IV→Store→Prop):Prop :=
 match o with
 | some Q=>∀ v s,Q v s→σ.next≤s.next∧K v s
 | none=>∃ Q,(okF P f=true∧C P E f args σ Q)∧∀ v s,Q v s→σ.next≤s.next∧K v s
def gh3 (P:Program)(E:Nat→IV)(o:Option IV)(f:Nat)(args:List IV)(σ:Store)(K:IV→Store→Prop):Prop :=
 match o with
 | some v=>K v σ
 | none=>∃ v,PC P E f args v∧K v σ
def opT (pt:PT)(ct:CT)(P:Program)(E:Nat→IV)(op:IK)(id:Nat)(fr:Frm)(σ:Store)(K:IV→Store→Prop):Prop :=
 match op with
 | .q q=>bo2 (evq E fr σ q) fun v=>K v σ
 | .alloc z=>K (.ptr id 0) (σ.put id (.cells z))
 | .box x=>(x.ev E fr).cs.all IV.leaf=true∧K (.ptr id 0) (σ.put id (.cells (x.ev E fr).cs))
 | .bsl esz n z parts=>bo2 (aq8 (rep z n) (parts.map fun p=>(p.1,p.2.1,p.2.2.ev E fr))) fun out=>K (.slice id 0 n esz) (σ.put id (.row out))
 | .store sz x y=>bo2 (am7 σ sz (x.ev E fr) (y.ev E fr)) fun σ'=>K .undef σ'
 | .bd8 x=>match x.ev E fr with
  | .str s=>K (.ptr id 0) (σ.put id (.ay7 s 0))
  | _=>False
 | .cn6 x=>bo2 (bf4 σ (x.ev E fr)) fun r=>K r.1 r.2
 | .az2=>K (.map id) (σ.put id (.map []))
 | .bx7 tag x k v=>bo2 (ak4 σ tag (x.ev E fr) (k.ev E fr) (v.ev E fr)) fun σ'=>K .undef σ'
 | .app esz s x=>bo2 (bp4 σ id esz (s.ev E fr) (x.ev E fr)) fun r=>K r.1 r.2
 | .call f args=>cn9 P E (ct f (args.map (·.ev E fr)) σ) f (args.map (·.ev E fr)) σ K
 | .ag4 f args=>gh3 P E (pt f (args.map (·.ev E fr))) f (args.map (·.ev E fr)) σ K
 | .aj2 x args=>match x.ev E fr with
  | .func (.func f) first cap=>cn9 P E (ct f (first++args.map (·.ev E fr)++cap) σ) f (first++args.map (·.ev E fr)++cap) σ K
  | .yield i=>∃ Q,CV P E (.yield i) (args.map (·.ev E fr)) σ Q∧∀ v σ',Q v σ'→σ.next≤σ'.next∧K v σ'
  | _=>False
 | .ap7 esz n z parts=>bo2 (aq8 (rep z n) (parts.map fun p=>(p.1,p.2.1,p.2.2.ev E fr))) fun out=>K (.aa3 (chunk esz n out)) σ
 | .ao2 x=>(x.ev E fr).cs.all IV.leaf=true∧K (.ac5 (x.ev E fr).cs) σ
 | .ax9 x=>match x.ev E fr with
  | .al2 es=>K (.ptr id 0) (σ.put id (.an8 es none))
  | _=>False
 | .bx8 x=>bo2 (bf5 σ (x.ev E fr)) fun r=>(r.2=[]→K (.tuple [.bool false]) σ) ∧
   ∀ j,j<r.2.length→K (.tuple [.bool true,(r.2.getD j (.undef,.undef)).1,(r.2.getD j (.undef,.undef)).2]) (σ.put r.1 (.an8 (r.2.eraseIdx j) (some (r.2.getD j (.undef,.undef)))))
 | .eq2 x=>bo2 (ch3 σ (x.ev E fr)) fun v=>K v σ
 | .cs9 esz z x=>bo2 (df5 (x.ev E fr)) fun n=>K (.slice id 0 n esz) (σ.put id (.row (rep z n)))
 | .clr esz z x=>bo2 (fi9 σ esz z (x.ev E fr)) fun σ'=>σ'.next=σ.next∧K .undef σ'
 | .st k xs=>bo2 (stI k id σ (xs.map (·.ev E fr))) fun r=>K r.1 r.2
theorem cu9 {pt:PT}{ct:CT}(hT:TOK P E pt ct){f:Nat}{args:List IV}{K:IV→Store→Prop}(h:cn9 P E (ct f args σ) f args σ K):∃ Q,(okF P f=true∧C P E f args σ Q)∧∀ v s,Q v s→σ.next≤s.next∧K v s:=by
 cases ho:ct f args σ with
 | none=>rw[ho] at h; exact h
 | some Q=>rw[ho] at h; exact ⟨Q,hT.c _ _ _ Q ho,h⟩
theorem ba5 {pt:PT}{ct:CT}(hT:TOK P E pt ct){op:IK}{id:Nat}{K:IV→Store→Prop}(h:opT pt ct P E op id fr σ K):opR P E op id fr σ K:=by
 cases op with
 | q q=>exact ak5 h
 | alloc z=>exact h
 | box x=>exact h
 | bsl e n z ps=>exact ak5 h
 | store e x y=>exact ak5 h
 | app e s x=>exact ak5 h
 | az2=>exact h
 | bd8 x=>
  simp only[opT] at h;split at h
  ·rename_i s he; exact ⟨s,he,h⟩
  ·exact h.elim
 | cn6 x=>exact ak5 h
 | bx7 t x y z=>exact ak5 h
 | call f xs=>
  obtain ⟨Q,h1,h2⟩:=cu9 hT h
  exact ⟨Q,h1.2,h2⟩
 | ag4 f xs=>
  simp only[opT] at h
  cases ho:pt f (xs.map (·.ev E fr)) with
  | none=>rw[ho] at h; exact h
  | some v=>rw[ho] at h; exact ⟨v,hT.p _ _ _ ho,h⟩
 | aj2 x xs=>
  simp only[opT] at h;split at h
  ·rename_i f first cap he
   obtain ⟨Q,h1,h2⟩:=cu9 hT h;refine ⟨Q,?_,h2⟩;rw[he];exact h1
  ·rename_i i he;rw[← he] at h;exact h
  ·exact h.elim
 | ap7 e n z ps=>exact ak5 h
 | ao2 x=>exact h
 | ax9 x=>
  simp only[opT] at h;split at h
  ·rename_i s he; exact ⟨s,he,h⟩
  ·exact h.elim
 | bx8 x=>
  obtain ⟨⟨i,l⟩,h1,h2⟩:=ak5 h
  exact ⟨i,l,h1,h2⟩
 | eq2 x=>exact ak5 h
 | cs9 e z x=>exact ak5 h
 | clr e z x=>exact ak5 h
 | st k xs=>exact ak5 h
def bs7 (pt:PT) (ct:CT) (P:Program) (E:Nat→IV):List ad6→Nat→Frm→Store→(Frm→Store→Prop)→Prop
 | [],_,fr,σ,K=>K fr σ
 | o::rest,id,fr,σ,K=>
  match o.guard with
  | none=>opT pt ct P E o.op id fr σ fun v σ'=>bs7 pt ct P E rest (if o.op.lays then id+1 else id) (fr.ak7 o.dst v) σ' K
  | some (s,want)=>fz7 (fr.get s) want (opT pt ct P E o.op id fr σ fun v σ'=>bs7 pt ct P E rest (if o.op.lays then id+1 else id) (fr.ak7 o.dst v) σ' K)
    (bs7 pt ct P E rest (if o.op.lays then id+1 else id) (fr.ak7 o.dst skV) σ K)
theorem dz4 {pt:PT}{ct:CT}(hT:TOK P E pt ct):∀ (ops:List ad6) (id:Nat) (fr:Frm) (σ:Store) (K:Frm→Store→Prop),bs7 pt ct P E ops id fr σ K→bs1 P E ops id fr σ K:=by
 intro ops
 induction ops with
 | nil=>intro id fr σ K h; exact h
 | cons o os ih=>
  intro id fr σ K h;obtain ⟨d,g,op⟩:=o
  cases g with
  | none=>
   simp only[bs7,bs1] at h ⊢
   exact ⟨true,rfl,ai9 (fun v s k=>ih _ _ _ _ k) (ba5 hT h)⟩
  | some p=>
   obtain ⟨s,want⟩:=p;simp only[bs7,bs1] at h ⊢;obtain ⟨act,ha,h⟩:=dq9 h;refine ⟨act,ha,?_⟩
   cases act with
   | true=>
    rw[if_pos rfl] at h ⊢
    exact ai9 (fun v s k=>ih _ _ _ _ k) (ba5 hT h)
   | false=>
    rw[if_neg (by simp)] at h ⊢;exact ih _ _ _ _ h
def bp8 (E:Nat→IV)(fr:Frm)(σ:Store):IK→Prop
 | .q (.load _ x)=>match x.ev E fr with
  | .ac5 _=>True
  | .ptr i _=>match σ.obj i with
   | some (.cells _)=>True
   | _=>False
  | _=>False
 | _=>True
theorem cv2 {op:IK}(h:bp8 E fr σ op):az1 E fr σ op:=by
 cases op with
 | q q=>
  cases q with
  | load ag x=>
   simp only[bp8,az1] at h ⊢;cases he:x.ev E fr<;>rw[he] at h<;>simp only at h ⊢;rename_i i off
   cases ho:σ.obj i with
   | none=>rw[ho] at h; exact h.elim
   | some ob=>
    rw[ho] at h
    cases ob<;>first|exact ⟨_,rfl⟩|exact h.elim
  | _=>trivial
 | _=>trivial
def bg1 (pt:PT) (ct:CT) (P:Program) (E:Nat→IV) (B:Bool):List ad6→Nat→Frm→Store→(Frm→Store→Prop)→Prop
 | [],_,fr,σ,K=>K fr σ
 | o::rest,id,fr,σ,K=>
  match o.guard with
  | none=>(B=true→bp8 E fr σ o.op)∧opT pt ct P E o.op id fr σ fun v σ'=>bg1 pt ct P E B rest (id+1) (fr.ak7 o.dst v) σ' K
  | some (s,want)=>fz7 (fr.get s) want ((B=true→bp8 E fr σ o.op)∧opT pt ct P E o.op id fr σ fun v σ'=>bg1 pt ct P E B rest (id+1) (fr.ak7 o.dst v) σ' K)
    (bg1 pt ct P E B rest (id+1) (fr.ak7 o.dst skV) σ K)
theorem dz5 {pt:PT}{ct:CT}(hT:TOK P E pt ct){B:Bool}{base:Nat}:∀ (ops:List ad6) (i:Nat) (fr:Frm) (σ:Store) (K:Frm→Store→Prop),bg1 pt ct P E B ops (base+i) fr σ K→bp6 P E B (eg2 base i ops) fr σ K:=by
 intro ops
 induction ops with
 | nil=>intro i fr σ K h; exact h
 | cons o os ih=>
  intro i fr σ K h;obtain ⟨d,g,op⟩:=o
  cases g with
  | none=>
   simp only[bg1] at h
   exact ⟨true,rfl,ai9 (fun v s k=>ih _ _ _ _ k) (ba5 hT h.2),fun hb=>cv2 (h.1 hb)⟩
  | some p=>
   obtain ⟨s,want⟩:=p;simp only[bg1] at h;obtain ⟨act,ha,h⟩:=dq9 h;refine ⟨act,ha,?_⟩
   cases act with
   | true=>exact ⟨ai9 (fun v s k=>ih _ _ _ _ k) (ba5 hT h.2),fun hb=>cv2 (h.1 hb)⟩
   | false=>exact ih _ _ _ _ h
def wpT (pt:PT)(ct:CT)(P:Program)(E:Nat→IV)(N n0:Nat):IC→Frm→Store→(Exit→Frm→Store→Prop)→Prop
 | .skip,fr,σ,Q=>Q .normal fr σ
 | .reg _ ops keep,fr,σ,Q=>bs7 pt ct P E ops σ.next fr ⟨σ.next+bs2 ops,σ.obj⟩ (fun fr' σ'=>Q .normal (fr'.keep keep) σ')
 | .an5 _ ops B keep,fr,σ,Q=>bg1 pt ct P E B ops σ.next fr ⟨σ.next+ops.length,σ.obj⟩ (fun fr' σ'=>Q .normal (fr'.keep keep) σ')
 | .eo7 _ ops keep,fr,σ,Q=>aq3 P E (ge3 σ.next ops) [] fr { σ with next:=σ.next+ops.length } (fun fr' σ'=>Q .normal (fr'.keep keep) σ')
 | .seq a b,fr,σ,Q=>wpT pt ct P E N n0 a fr σ (fun e fr' σ'=>match e with|.normal=>wpT pt ct P E N n0 b fr' σ' Q|e=>Q e fr' σ')
 | .cond x a b,fr,σ,Q=>hc7 (x.ev E fr) fun t=>if t=true then wpT pt ct P E N n0 a fr σ Q else wpT pt ct P E N n0 b fr σ Q
 | .block id a,fr,σ,Q=>wpT pt ct P E N n0 a fr σ (bo1 id Q)
 | .loop a,fr,σ,Q=>RI P E N n0 (.loop a) fr σ Q
 | .exit id,fr,σ,Q=>Q (.exit id) fr σ
 | .ret,fr,σ,Q=>Q .ret fr σ
 | .be5 g ps y a,fr,σ,Q=>RI P E N n0 (.be5 g ps y a) fr σ Q
 | .scope a,fr,σ,Q=>wpT pt ct P E N n0 a fr σ (fj6 Q)
theorem bs8:∀ (ic:IC) (fr:Frm) (σ:Store) (Q Q':Exit→Frm→Store→Prop),(∀ e f s,Q e f s→Q' e f s)→wpI P E N n0 ic fr σ Q→wpI P E N n0 ic fr σ Q':=by
 have hrops:∀ (ops:List ad6) (id:Nat) (fr:Frm) (σ:Store) (K K':Frm→Store→Prop),(∀ f s,K f s→K' f s)→bs1 P E ops id fr σ K→bs1 P E ops id fr σ K':=by
  intro ops
  induction ops with
  | nil=>intro id fr σ K K' hk h; exact hk _ _ h
  | cons o os ih=>
   intro id fr σ K K' hk h;simp only[bs1] at h ⊢;obtain ⟨act,ha,h⟩:=h;refine ⟨act,ha,?_⟩
   cases act with
   | true=>
    rw[if_pos rfl] at h ⊢
    exact ai9 (fun v s k=>ih _ _ _ _ _ hk k) h
   | false=>
    rw[if_neg (by simp)] at h ⊢;exact ih _ _ _ _ _ hk h
 have htree:∀ (its:List Item) (B:Bool) (fr:Frm) (σ:Store) (K K':Frm→Store→Prop),(∀ f s,K f s→K' f s)→bp6 P E B its fr σ K→bp6 P E B its fr σ K':=by
  intro its
  induction its with
  | nil=>intro B fr σ K K' hk h; exact hk _ _ h
  | cons it its ih=>
   intro B fr σ K K' hk h;obtain ⟨i,o,id⟩:=it;obtain ⟨act,ha,hh⟩:=h;refine ⟨act,ha,?_⟩
   cases act with
   | true=>exact ⟨ai9 (fun v s k=>ih _ _ _ _ _ hk k) hh.1,hh.2⟩
   | false=>exact ih _ _ _ _ _ hk hh
 intro ic
 induction ic with
 | skip=>intro fr σ Q Q' hq h; exact hq _ _ _ h
 | reg id ops keep=>intro fr σ Q Q' hq h; exact hrops _ _ _ _ _ _ (fun f s k=>hq _ _ _ k) h
 | an5 id ops B keep=>intro fr σ Q Q' hq h; exact htree _ _ _ _ _ _ (fun f s k=>hq _ _ _ k) h
 | eo7 id ops keep=>intro fr σ Q Q' hq h; exact ep3 _ _ _ _ (fun f s k=>hq _ _ _ k) h
 | seq x y ihx ihy=>
  intro fr σ Q Q' hq h;refine ihx _ _ _ _ ?_ h;intro e f s k
  cases e with
  | normal=>exact ihy _ _ _ _ hq k
  | _=>exact hq _ _ _ k
 | cond x a b iha ihb=>
  intro fr σ Q Q' hq h;obtain ⟨t,ht,h⟩:=h;refine ⟨t,ht,?_⟩
  cases t with
  | true=>exact iha _ _ _ _ hq h
  | false=>exact ihb _ _ _ _ hq h
 | block id x ih=>
  intro fr σ Q Q' hq h;refine ih _ _ _ _ ?_ h;intro e f s k
  cases e with
  | exit i=>simp only[bo1] at k ⊢; split<;>rename_i hi<;>simp only[hi,if_true,if_false] at k<;>exact hq _ _ _ k
  | _=>exact hq _ _ _ k
 | scope x ih=>
  intro fr σ Q Q' hq h;refine ih _ _ _ _ ?_ h;intro e f s k
  cases e with
  | goto l=>exact k
  | _=>exact hq _ _ _ k
 | loop x ih=>intro fr σ Q Q' hq h; exact ay9 h hq
 | exit id=>intro fr σ Q Q' hq h; exact hq _ _ _ h
 | be5 g ps y x ihy ih=>intro fr σ Q Q' hq h; exact ay9 h hq
 | ret=>intro fr σ Q Q' hq h; exact hq _ _ _ h
theorem ba6 {pt:PT}{ct:CT}(hT:TOK P E pt ct):∀ (ic:IC) (fr:Frm) (σ:Store) (Q:Exit→Frm→Store→Prop),wpT pt ct P E N n0 ic fr σ Q→wpI P E N n0 ic fr σ Q:=by
 intro ic
 induction ic with
 | skip=>intro fr σ Q h; exact h
 | reg id ops keep=>intro fr σ Q h; exact dz4 hT _ _ _ _ _ h
 | an5 id ops B keep=>intro fr σ Q h; exact dz5 hT _ 0 _ _ _ h
 | eo7 id ops keep=>intro fr σ Q h; exact h
 | seq x y ihx ihy=>
  intro fr σ Q h;have h1:=ihx _ _ _ (show wpT pt ct P E N n0 x fr σ _ from h);refine bs8 x fr σ _ (fun e fr' σ'=>match e with|.normal=>wpI P E N n0 y fr' σ' Q|e=>Q e fr' σ') ?_ h1;intro e f s k
  cases e with
  | normal=>exact ihy _ _ _ k
  | _=>exact k
 | cond x a b iha ihb=>
  intro fr σ Q h;obtain ⟨t,ht,h⟩:=eq7 h;refine ⟨t,ht,?_⟩
  cases t with
  | true=>exact iha _ _ _ h
  | false=>exact ihb _ _ _ h
 | block id x ih=>intro fr σ Q h; exact ih _ _ _ h
 | scope x ih=>intro fr σ Q h; exact ih _ _ _ h
 | loop x ih=>intro fr σ Q h; exact h
 | exit id=>intro fr σ Q h; exact h
 | ret=>intro fr σ Q h; exact h
 | be5 g ps y x ihy ih=>intro fr σ Q h; exact h
def fo4 (irs:List IR)(Qc:IV→Store→Prop):Exit→Frm→Store→Prop
 | .normal,fr,σ|.ret,fr,σ=>bo2 (irL σ fr irs) fun vs=>Qc (ep6 vs) σ
 | _,_,_=>False
theorem cv3 {irs:List IR}{Qc:IV→Store→Prop}{e:Exit}(h:fo4 irs Qc e fr σ):iv5 irs Qc e fr σ:=by
 cases e<;>first|exact ak5 h|exact h
theorem C_T {pt:PT}{ct:CT}(hT:TOK P E pt ct){f:Nat}{an:Ann}{ic:IC}{irs:List IR}{args:List IV}{Qc:IV→Store→Prop}(hf:gs5 P f N pf an ic irs)(hl:args.length≤N)
  (h:wpT pt ct P E N σ.next ic (bd1 args 0) σ (fo4 irs Qc)):C P E f args σ Qc :=
 ja4 hf hl (bs8 _ _ _ _ _ (fun _ _ _ k=>cv3 k) (ba6 hT _ _ _ _ h))
theorem ja5 {pt:PT}{ct:CT}(hT:TOK P E pt ct){f:Nat}{an:Ann}{ic:IC}{irs:List IR}{args:List IV}{v:IV}(hf:gs5 P f N pf an ic irs)(hl:args.length≤N)
  (h:∀ σ,wpT pt ct P E N σ.next ic (bd1 args 0) σ (fo4 irs fun v' σ'=>v'=v∧σ'=σ)):PC P E f args v :=
 fun σ=>C_T hT hf hl (h σ)
theorem gs6 {pt:PT}{ct:CT}(hT:TOK P E pt ct){x:IC}{Q:Exit→Frm→Store→Prop}(I:Nat→Frm→Store→Prop)(m:Nat)(h:I m fr σ)(hI:∀ m fr σ,I m fr σ→wpT pt ct P E N n0 x fr σ (dy1 I m Q)):RI P E N n0 (.loop x) fr σ Q :=
 fj7 I m h fun m fr σ hi=>ba6 hT _ _ _ _ (hI m fr σ hi)
theorem nr {α:Sort u}{a b:α}(h:a=b):a=b:=h
/-! ### The rewriting: no continuation that is a 'fun' stands in a goal -/
def hc9 (o:Option IV)(σ:Store)(K:IV→Store→Prop):Prop:=bo2 o fun v=>K v σ
def ic1 (o:Option Store)(K:IV→Store→Prop):Prop:=bo2 o fun s=>K .undef s
def ic2 (o:Option (IV×Store))(K:IV→Store→Prop):Prop:=bo2 o fun r=>K r.1 r.2
def ic4 (v:IV)(σ:Store):IV→Store→Prop:=fun v' σ'=>v'=v∧σ'=σ
def iv6 (o:Option (List IV))(id n esz:Nat)(σ:Store)(K:IV→Store→Prop):Prop:=bo2 o fun out=>K (.slice id 0 n esz) (σ.put id (.row out))
def fo5 (ct:CT)(P:Program)(E:Nat→IV)(x:IV)(args:List IV)(σ:Store)(K:IV→Store→Prop):Prop:=match x with
 | .func (.func f) first cap=>cn9 P E (ct f (first++args++cap) σ) f (first++args++cap) σ K
 | .yield i=>∃ Q,CV P E (.yield i) args σ Q∧∀ v σ',Q v σ'→σ.next≤σ'.next∧K v σ'
 | _=>False
def gh4 (pt:PT)(ct:CT)(P:Program)(E:Nat→IV)(rest:List ad6)(id:Nat)(d:Option Nat)(fr:Frm)(K:Frm→Store→Prop):IV→Store→Prop:=fun v σ'=>bs7 pt ct P E rest id (fr.ak7 d v) σ' K
def dz6 (pt:PT)(ct:CT)(P:Program)(E:Nat→IV)(B:Bool)(rest:List ad6)(id:Nat)(d:Option Nat)(fr:Frm)(K:Frm→Store→Prop):IV→Store→Prop:=fun v σ'=>bg1 pt ct P E B rest id (fr.ak7 d v) σ' K
def fo6 (ks:List Nat)(Q:Exit→Frm→Store→Prop):Frm→Store→Prop:=fun fr σ=>Q .normal (fr.keep ks) σ
def hp4 (pt:PT)(ct:CT)(P:Program)(E:Nat→IV)(v:IV)(want:Bool)(op:IK)(id:Nat)(fr:Frm)(σ:Store)(K:IV→Store→Prop):Prop:=fz7 v want (opT pt ct P E op id fr σ K) (K skV σ)
def fe9 (pt:PT)(ct:CT)(P:Program)(E:Nat→IV)(B:Bool)(v:IV)(want:Bool)(op:IK)(id:Nat)(fr:Frm)(σ:Store)(K:IV→Store→Prop):Prop:=fz7 v want ((B=true→bp8 E fr σ op)∧opT pt ct P E op id fr σ K) (K skV σ)
def hd8 (pt:PT)(ct:CT)(P:Program)(E:Nat→IV)(N n0:Nat)(v:IV)(a b:IC)(fr:Frm)(σ:Store)(Q:Exit→Frm→Store→Prop):Prop:=hc7 v fun t=>if t=true then wpT pt ct P E N n0 a fr σ Q else wpT pt ct P E N n0 b fr σ Q
def il1 (pt:PT)(ct:CT)(P:Program)(E:Nat→IV)(N n0:Nat)(b:IC)(Q:Exit→Frm→Store→Prop):Exit→Frm→Store→Prop:=fun e fr' σ'=>match e with
 | .normal=>wpT pt ct P E N n0 b fr' σ' Q
 | e=>Q e fr' σ'
variable {pt:PT} {ct:CT} {id want:Nat} {K:IV→Store→Prop} {Kf:Frm→Store→Prop} {Q:Exit→Frm→Store→Prop} {v:IV} {c:Prop} [Decidable c]
theorem cv4 {α:Type}(v:α)(K:α→Prop):bo2 (some v) K=K v:=nr rfl
theorem cv5 (v:IV):hc9 (some v) σ K=K v σ:=nr rfl
theorem bx9 (v:IV):hc9 (if c then some v else none) σ K=(c∧K v σ):=by by_cases h:c<;>simp[h,hc9,bo2]
theorem bi7 (v:IV):hc9 (if c then none else some v) σ K=(¬ c∧K v σ):=by by_cases h:c<;>simp[h,hc9,bo2]
theorem cv6:ic1 (some σ) K=K .undef σ:=nr rfl
theorem by1:ic1 (if c then some σ else none) K=(c∧K .undef σ):=by by_cases h:c<;>simp[h,ic1,bo2]
theorem cv7 (v:IV):ic2 (some (v,σ)) K=K v σ:=nr rfl
theorem by2 (v:IV):ic2 (if c then some (v,σ) else none) K=(c∧K v σ):=by by_cases h:c<;>simp[h,ic2,bo2]
theorem eq8 {f:Nat}{args:List IV}(v:IV):cn9 P E (some (ic4 v σ')) f args σ K=(σ.next≤σ'.next∧K v σ'):=propext ⟨fun h=>h v σ' ⟨rfl,rfl⟩,fun h v' s' ⟨e1,e2⟩=>by subst e1; subst e2; exact h⟩
theorem hp5 {f:Nat}{args:List IV}(v:IV):gh3 P E (some v) f args σ K=K v σ:=nr rfl
theorem aa7 {f:Nat}{args:List IV}{v:IV}(h:PC P E f args v)(hk:K v σ):gh3 P E none f args σ K:=⟨v,h,hk⟩
theorem ar6 {f:Nat}{args:List IV}{Qc:IV→Store→Prop}(ho:okF P f=true)(h:C P E f args σ Qc)(hk:∀ v s,Qc v s→σ.next≤s.next∧K v s):cn9 P E none f args σ K:=⟨Qc,⟨ho,h⟩,hk⟩
theorem cv8 {n esz:Nat}(out:List IV):iv6 (some out) id n esz σ K=K (.slice id 0 n esz) (σ.put id (.row out)):=nr rfl
theorem by3 (f:Nat)(first cap args:List IV):fo5 ct P E (.func (.func f) first cap) args σ K=cn9 P E (ct f (first++args++cap) σ) f (first++args++cap) σ K:=nr rfl
theorem cv9 {rest:List ad6}{d:Nat}(v:IV):gh4 pt ct P E rest id (some d) fr Kf v σ=bs7 pt ct P E rest id ((d,v)::fr) σ Kf:=nr rfl
theorem by4 {rest:List ad6}(v:IV):gh4 pt ct P E rest id none fr Kf v σ=bs7 pt ct P E rest id fr σ Kf:=nr rfl
theorem by5 {B:Bool}{rest:List ad6}{d:Nat}(v:IV):dz6 pt ct P E B rest id (some d) fr Kf v σ=bg1 pt ct P E B rest id ((d,v)::fr) σ Kf:=nr rfl
theorem bi8 {B:Bool}{rest:List ad6}(v:IV):dz6 pt ct P E B rest id none fr Kf v σ=bg1 pt ct P E B rest id fr σ Kf:=nr rfl
theorem cw1 {ks:List Nat}:fo6 ks Q fr σ=Q .normal (fr.keep ks) σ:=nr rfl
theorem w_q {q:IQ}:opT pt ct P E (.q q) id fr σ K=hc9 (evq E fr σ q) σ K:=nr rfl
theorem by6 {z:List IV}:opT pt ct P E (.alloc z) id fr σ K=K (.ptr id 0) (σ.put id (.cells z)):=nr rfl
theorem eq9 {x:IX}:opT pt ct P E (.box x) id fr σ K=((x.ev E fr).cs.all IV.leaf=true∧K (.ptr id 0) (σ.put id (.cells (x.ev E fr).cs))):=nr rfl
theorem er1 {esz n:Nat}{z:List IV}{ps:List (Nat×Nat×IX)}:opT pt ct P E (.bsl esz n z ps) id fr σ K=iv6 (aq8 (rep z n) (ps.map fun p=>(p.1,p.2.1,p.2.2.ev E fr))) id n esz σ K:=nr rfl
theorem by7 {sz:Nat}{x y:IX}:opT pt ct P E (.store sz x y) id fr σ K=ic1 (am7 σ sz (x.ev E fr) (y.ev E fr)) K:=nr rfl
def iv7 (v:IV)(id:Nat)(σ:Store)(K:IV→Store→Prop):Prop:=match v with
 | .str s=>K (.ptr id 0) (σ.put id (.ay7 s 0))
 | _=>False
theorem cw2 {s:List UInt8}:iv7 (.str s) id σ K=K (.ptr id 0) (σ.put id (.ay7 s 0)):=nr rfl
theorem bi9 {x:IX}:opT pt ct P E (.bd8 x) id fr σ K=iv7 (x.ev E fr) id σ K:=nr rfl
theorem by8 {x:IX}:opT pt ct P E (.cn6 x) id fr σ K=ic2 (bf4 σ (x.ev E fr)) K:=nr rfl
theorem by9:opT pt ct P E .az2 id fr σ K=K (.map id) (σ.put id (.map [])):=nr rfl
theorem cw3 {tag:Nat}{x k y:IX}:opT pt ct P E (.bx7 tag x k y) id fr σ K=ic1 (ak4 σ tag (x.ev E fr) (k.ev E fr) (y.ev E fr)) K:=nr rfl
theorem er2 {esz:Nat}{s x:IX}:opT pt ct P E (.app esz s x) id fr σ K=ic2 (bp4 σ id esz (s.ev E fr) (x.ev E fr)) K:=nr rfl
theorem cw4 {f:Nat}{args:List IX}:opT pt ct P E (.call f args) id fr σ K=cn9 P E (ct f (args.map (·.ev E fr)) σ) f (args.map (·.ev E fr)) σ K:=nr rfl
theorem bz1 {f:Nat}{args:List IX}:opT pt ct P E (.ag4 f args) id fr σ K=gh3 P E (pt f (args.map (·.ev E fr))) f (args.map (·.ev E fr)) σ K:=nr rfl
theorem bj1 {x:IX}{args:List IX}:opT pt ct P E (.aj2 x args) id fr σ K=fo5 ct P E (x.ev E fr) (args.map (·.ev E fr)) σ K:=nr rfl
theorem er3:bs7 pt ct P E [] id fr σ Kf=Kf fr σ:=nr rfl
theorem cw5 {d:Option Nat}{op:IK}{rest:List ad6}:bs7 pt ct P E (⟨d,none,op⟩::rest) id fr σ Kf=opT pt ct P E op id fr σ (gh4 pt ct P E rest (if op.lays then id+1 else id) d fr Kf):=nr rfl
theorem er4 {d:Option Nat}{op:IK}{rest:List ad6}{s:Nat}{want:Bool}:bs7 pt ct P E (⟨d,some (s,want),op⟩::rest) id fr σ Kf=hp4 pt ct P E (fr.get s) want op id fr σ (gh4 pt ct P E rest (if op.lays then id+1 else id) d fr Kf):=nr rfl
theorem cw6 {B:Bool}:bg1 pt ct P E B [] id fr σ Kf=Kf fr σ:=nr rfl
theorem bz2 {d:Option Nat}{op:IK}{rest:List ad6}:bg1 pt ct P E false (⟨d,none,op⟩::rest) id fr σ Kf=opT pt ct P E op id fr σ (dz6 pt ct P E false rest (id+1) d fr Kf):=by
 have:bg1 pt ct P E false (⟨d,none,op⟩::rest) id fr σ Kf=((false=true→bp8 E fr σ op)∧opT pt ct P E op id fr σ (dz6 pt ct P E false rest (id+1) d fr Kf)):=nr rfl;rw[this]; simp
theorem bz3 {d:Option Nat}{op:IK}{rest:List ad6}:bg1 pt ct P E true (⟨d,none,op⟩::rest) id fr σ Kf=(bp8 E fr σ op∧opT pt ct P E op id fr σ (dz6 pt ct P E true rest (id+1) d fr Kf)):=by
 have:bg1 pt ct P E true (⟨d,none,op⟩::rest) id fr σ Kf=((true=true→bp8 E fr σ op)∧opT pt ct P E op id fr σ (dz6 pt ct P E true rest (id+1) d fr Kf)):=nr rfl;rw[this]; simp
theorem cw7 {B:Bool}{d:Option Nat}{op:IK}{rest:List ad6}{s:Nat}{want:Bool}:bg1 pt ct P E B (⟨d,some (s,want),op⟩::rest) id fr σ Kf=fe9 pt ct P E B (fr.get s) want op id fr σ (dz6 pt ct P E B rest (id+1) d fr Kf):=nr rfl
theorem er5 {op:IK}:hp4 pt ct P E (.bool true) true op id fr σ K=opT pt ct P E op id fr σ K:=nr rfl
theorem er6 {op:IK}:hp4 pt ct P E (.bool false) false op id fr σ K=opT pt ct P E op id fr σ K:=nr rfl
theorem er7 {op:IK}:hp4 pt ct P E (.bool true) false op id fr σ K=K skV σ:=nr rfl
theorem er8 {op:IK}:hp4 pt ct P E (.bool false) true op id fr σ K=K skV σ:=nr rfl
theorem er9 {op:IK}:fe9 pt ct P E false (.bool true) true op id fr σ K=opT pt ct P E op id fr σ K:=by simp[fe9,fz7,gf7]
theorem es3 {op:IK}:fe9 pt ct P E false (.bool false) false op id fr σ K=opT pt ct P E op id fr σ K:=by simp[fe9,fz7,gf7]
theorem es4 {B:Bool}{op:IK}:fe9 pt ct P E B (.bool true) false op id fr σ K=K skV σ:=nr rfl
theorem es5 {B:Bool}{op:IK}:fe9 pt ct P E B (.bool false) true op id fr σ K=K skV σ:=nr rfl
theorem es6 {op:IK}:fe9 pt ct P E true (.bool true) true op id fr σ K=(bp8 E fr σ op∧opT pt ct P E op id fr σ K):=by simp[fe9,fz7,gf7]
theorem es7 {op:IK}:fe9 pt ct P E true (.bool false) false op id fr σ K=(bp8 E fr σ op∧opT pt ct P E op id fr σ K):=by simp[fe9,fz7,gf7]
theorem hp9 {op:IK}{want:Bool}:hp4 pt ct P E skV want op id fr σ K=K skV σ:=nr rfl
theorem hq5 {B want:Bool}{op:IK}:fe9 pt ct P E B skV want op id fr σ K=K skV σ:=nr rfl
theorem cw8:wpT pt ct P E N n0 .skip fr σ Q=Q .normal fr σ:=nr rfl
theorem es8 {i:Nat}{ops:List ad6}{ks:List Nat}:wpT pt ct P E N n0 (.reg i ops ks) fr σ Q=bs7 pt ct P E ops σ.next fr ⟨σ.next+bs2 ops,σ.obj⟩ (fo6 ks Q):=nr rfl
theorem cw9 {i:Nat}{ops:List ad6}{B:Bool}{ks:List Nat}:wpT pt ct P E N n0 (.an5 i ops B ks) fr σ Q=bg1 pt ct P E B ops σ.next fr ⟨σ.next+ops.length,σ.obj⟩ (fo6 ks Q):=nr rfl
theorem es9 {x y:IC}:wpT pt ct P E N n0 (.seq x y) fr σ Q=wpT pt ct P E N n0 x fr σ (il1 pt ct P E N n0 y Q):=nr rfl
theorem cx1 {i:IX}{x y:IC}:wpT pt ct P E N n0 (.cond i x y) fr σ Q=hd8 pt ct P E N n0 (i.ev E fr) x y fr σ Q:=nr rfl
theorem bz4 {i:Nat}{x:IC}:wpT pt ct P E N n0 (.block i x) fr σ Q=wpT pt ct P E N n0 x fr σ (bo1 i Q):=nr rfl
theorem cx2 {x:IC}:wpT pt ct P E N n0 (.loop x) fr σ Q=RI P E N n0 (.loop x) fr σ Q:=nr rfl
theorem bz5 {g:IX}{ps:List Nat}{x y:IC}:wpT pt ct P E N n0 (.be5 g ps y x) fr σ Q=RI P E N n0 (.be5 g ps y x) fr σ Q:=nr rfl
def fo7 (v:IV)(id:Nat)(σ:Store)(K:IV→Store→Prop):Prop:=match v with
 | .al2 es=>K (.ptr id 0) (σ.put id (.an8 es none))
 | _=>False
def gs7 (o:Option (Nat×List (IV×IV)))(σ:Store)(K:IV→Store→Prop):Prop:=bo2 o fun r=>(r.2=[]→K (.tuple [.bool false]) σ) ∧
   ∀ j,j<r.2.length→K (.tuple [.bool true,(r.2.getD j (.undef,.undef)).1,(r.2.getD j (.undef,.undef)).2]) (σ.put r.1 (.an8 (r.2.eraseIdx j) (some (r.2.getD j (.undef,.undef)))))
theorem bj2 {x:IX}:opT pt ct P E (.ax9 x) id fr σ K=fo7 (x.ev E fr) id σ K:=nr rfl
theorem ba7 {es:List (IV×IV)}:fo7 (.al2 es) id σ K=K (.ptr id 0) (σ.put id (.an8 es none)):=nr rfl
theorem bz6 {x:IX}:opT pt ct P E (.bx8 x) id fr σ K=gs7 (bf5 σ (x.ev E fr)) σ K:=nr rfl
theorem bj3 {i:Nat}{l:List (IV×IV)}:gs7 (some (i,l)) σ K=((l=[]→K (.tuple [.bool false]) σ) ∧
   ∀ j,j<l.length→K (.tuple [.bool true,(l.getD j (.undef,.undef)).1,(l.getD j (.undef,.undef)).2]) (σ.put i (.an8 (l.eraseIdx j) (some (l.getD j (.undef,.undef)))))):=nr rfl
theorem cx3 {x:IX}:opT pt ct P E (.eq2 x) id fr σ K=hc9 (ch3 σ (x.ev E fr)) σ K:=nr rfl
theorem cx4 {x:IX}:opT pt ct P E (.ao2 x) id fr σ K=((x.ev E fr).cs.all IV.leaf=true∧K (.ac5 (x.ev E fr).cs) σ):=nr rfl
def id3 (o:Option (List IV))(esz n:Nat)(σ:Store)(K:IV→Store→Prop):Prop:=bo2 o fun out=>K (.aa3 (chunk esz n out)) σ
theorem cx5 {esz n:Nat}{z:List IV}{ps:List (Nat×Nat×IX)}:opT pt ct P E (.ap7 esz n z ps) id fr σ K=id3 (aq8 (rep z n) (ps.map fun p=>(p.1,p.2.1,p.2.2.ev E fr))) esz n σ K:=nr rfl
theorem bz7 {esz n:Nat}{out:List IV}:id3 (some out) esz n σ K=K (.aa3 (chunk esz n out)) σ:=nr rfl
theorem cx6 {i:Nat}:wpT pt ct P E N n0 (.exit i) fr σ Q=Q (.exit i) fr σ:=nr rfl
theorem et1:wpT pt ct P E N n0 .ret fr σ Q=Q .ret fr σ:=nr rfl
theorem hq6 {x y:IC}:hd8 pt ct P E N n0 (.bool true) x y fr σ Q=wpT pt ct P E N n0 x fr σ Q:=nr rfl
theorem hq7 {x y:IC}:hd8 pt ct P E N n0 (.bool false) x y fr σ Q=wpT pt ct P E N n0 y fr σ Q:=nr rfl
theorem et2 {y:IC}:il1 pt ct P E N n0 y Q .normal fr σ=wpT pt ct P E N n0 y fr σ Q:=nr rfl
theorem et3 {y:IC}{i:Nat}:il1 pt ct P E N n0 y Q (.exit i) fr σ=Q (.exit i) fr σ:=nr rfl
theorem et4 {y:IC}:il1 pt ct P E N n0 y Q .ret fr σ=Q .ret fr σ:=nr rfl
theorem et5 {i:Nat}:bo1 i Q .normal fr σ=Q .normal fr σ:=nr rfl
theorem et6 {i:Nat}:bo1 i Q .ret fr σ=Q .ret fr σ:=nr rfl
theorem et7 {i j:Nat}:bo1 i Q (.exit j) fr σ=if j=i then Q .normal fr σ else Q (.exit j) fr σ:=nr rfl
theorem et8 {I:Nat→Frm→Store→Prop}{m:Nat}:dy1 I m Q .normal fr σ=∃ m',m'<m∧I m' fr σ:=nr rfl
theorem et9 {I:Nat→Frm→Store→Prop}{m i:Nat}:dy1 I m Q (.exit i) fr σ=Q (.exit i) fr σ:=nr rfl
theorem eu1 {I:Nat→Frm→Store→Prop}{m:Nat}:dy1 I m Q .ret fr σ=Q .ret fr σ:=nr rfl
theorem eu2 {irs:List IR}{Qc:IV→Store→Prop}:fo4 irs Qc .ret fr σ=bo2 (irL σ fr irs) fun vs=>Qc (ep6 vs) σ:=nr rfl
theorem cx7 {irs:List IR}{Qc:IV→Store→Prop}:fo4 irs Qc .normal fr σ=bo2 (irL σ fr irs) fun vs=>Qc (ep6 vs) σ:=nr rfl
end Go.Id
/- What the walk of a compiled code is rewritten by: the operations. Conditions: none; over any program. -/
namespace Go.Id
open Go
variable {P:Program} {E:Nat→IV} {σ σ':Store} {fr:Frm} {x y z:IX} {k k':IntKind} {a b:Int} {s t:List UInt8} {n m off esz len:Nat} {v u:IV}
theorem aa8 {i:Nat}{o:aj5}:(σ.put i o).next=σ.next:=nr rfl
theorem aa2 {i j:Nat}{o:aj5}:(σ.put i o).obj j=if j=i then some o else σ.obj j:=nr rfl
theorem e_t:(IX.t n).ev E fr=fr.get n:=nr rfl
theorem e_c:(IX.c v).ev E fr=v:=nr rfl
theorem e_g:(IX.g n).ev E fr=E n:=nr rfl
theorem e_f:(IX.f n).ev E fr=.func (.func n) [] []:=nr rfl
theorem eu3:evq E fr σ (.mov x)=some (x.ev E fr):=nr rfl
theorem cx8:evq E fr σ (.pick x y z)=dw9 (x.ev E fr) (y.ev E fr) (z.ev E fr):=nr rfl
theorem eu4:evq E fr σ (.not x)=hs8 (x.ev E fr):=nr rfl
theorem eu5:evq E fr σ (.neg x)=hs9 (x.ev E fr):=nr rfl
theorem eu6 {op:BinOp}:evq E fr σ (.bin op x y)=ao9 op (x.ev E fr) (y.ev E fr):=nr rfl
theorem an6 {d:TypeDesc}{g:Bool}:evq E fr σ (.ch2 d g x)=(dm7 d (x.ev E fr)).map fun b=>.bool (b ^^ g):=nr rfl
theorem eu7 {tags:List Nat}{g h:Bool}:evq E fr σ (.eqs tags g h x y)=gw4 tags g h (x.ev E fr) (y.ev E fr):=nr rfl
theorem cx9:evq E fr σ (.conv k x)=fg3 k (x.ev E fr):=nr rfl
theorem bz8:evq E fr σ (.gb7 x)=dn7 (x.ev E fr):=nr rfl
theorem eu8:evq E fr σ (.len n x)=cr9 n σ (x.ev E fr):=nr rfl
theorem bz9:evq E fr σ (.ab3 off x)=ck9 off (x.ev E fr):=nr rfl
theorem eu9 {ag:Option Nat}:evq E fr σ (.fld ag off x)=ho6 ag off (x.ev E fr):=nr rfl
theorem ca1:evq E fr σ (.ab5 esz x y)=ap4 esz (x.ev E fr) (y.ev E fr):=nr rfl
theorem ca2:evq E fr σ (.ay8 n esz x y)=ct9 n esz (x.ev E fr) (y.ev E fr):=nr rfl
theorem ev1 {ag:Option Nat}:evq E fr σ (.idx ag n esz x y)=gw1 ag n esz (x.ev E fr) (y.ev E fr):=nr rfl
theorem cy1:evq E fr σ (.fe8 x y)=de6 (x.ev E fr) (y.ev E fr):=nr rfl
theorem ev2 {lo hi:Option IX}:evq E fr σ (.slc esz x lo hi)=dm6 esz (lo.map (·.ev E fr)) (hi.map (·.ev E fr)) (x.ev E fr):=nr rfl
theorem cy2 {lo hi:Option IX}:evq E fr σ (.gq9 x lo hi)=cr5 (lo.map (·.ev E fr)) (hi.map (·.ev E fr)) (x.ev E fr):=nr rfl
theorem ev3:evq E fr σ (.slz x)=fz5 (x.ev E fr):=nr rfl
theorem ev4:evq E fr σ (.ext n x)=gw2 n (x.ev E fr):=nr rfl
theorem ev5 {fs cs:List IX}:evq E fr σ (.mkf n fs cs)=some (.func (.func n) (fs.map (·.ev E fr)) (cs.map (·.ev E fr))):=nr rfl
theorem ev6 {zs:List IV}{ps:List (Nat×Nat×IX)}:evq E fr σ (.bld zs ps)=(aq8 zs (ps.map fun p=>(p.1,p.2.1,p.2.2.ev E fr))).map .agg:=nr rfl
theorem cy3 {ag:Option Nat}:evq E fr σ (.load ag x)=as4 σ ag (x.ev E fr):=nr rfl
theorem cy4:evq E fr σ (.bd7 x)=dn8 (x.ev E fr):=nr rfl
theorem gs8 {mx:Bool}:evq E fr σ (.mm mx x y)=mmI mx (x.ev E fr) (y.ev E fr):=nr rfl
theorem dr1:mmI true (.int k a) (.int k' b)=some (.int k (if b>a then b else a)):=by simp[mmI]
theorem dz7:mmI false (.int k a) (.int k' b)=some (.int k (if b<a then b else a)):=by simp[mmI]
theorem dz8 {zero:IV}{ok:Bool}:evq E fr σ (.lkp n zero ok x y)=cf6 σ n zero ok (x.ev E fr) (y.ev E fr):=nr rfl
theorem ca3:Frm.keep fr []=[]:=nr rfl
theorem ca4 {ks:List Nat}:Frm.keep fr (n::ks)=(n,fr.get n)::Frm.keep fr ks:=nr rfl
theorem cy5:bd1 [] n=[]:=nr rfl
theorem cy6 {vs:List IV}:bd1 (v::vs) n=(n,v)::bd1 vs (n+1):=nr rfl
theorem ca5:bs2 []=0:=nr rfl
theorem ca6 {d:Option Nat}{g:Option (Nat×Bool)}{op:IK}{os:List ad6}:bs2 (⟨d,g,op⟩::os)=(if op.lays=true then 1 else 0)+bs2 os:=nr (bx6 _ _)
theorem hq9 {q:IQ}:(IK.q q).lays=false:=nr rfl
theorem bj4 {zs:List IV}:(IK.alloc zs).lays=true:=nr rfl
theorem cy7:(IK.box x).lays=true:=nr rfl
theorem cy8 {zs:List IV}{ps:List (Nat×Nat×IX)}:(IK.bsl esz n zs ps).lays=true:=nr rfl
theorem cy9:(IK.app esz x y).lays=true:=nr rfl
theorem bj5:IK.az2.lays=true:=nr rfl
theorem ca7:(IK.bx7 n x y z).lays=false:=nr rfl
theorem ba8:(IK.bd8 x).lays=true:=nr rfl
theorem bj6:(IK.cn6 x).lays=false:=nr rfl
theorem ba9:(IK.ax9 x).lays=true:=nr rfl
theorem ca8 {zs:List IV}:(IK.cs9 esz zs x).lays=true:=nr rfl
theorem cz1 {zs:List IV}:(IK.clr esz zs x).lays=false:=nr rfl
theorem ca9:(IK.eq2 x).lays=false:=nr rfl
theorem bj7:(IK.bx8 x).lays=false:=nr rfl
theorem cb1:(IK.ao2 x).lays=false:=nr rfl
theorem cb2 {zs:List IV}{ps:List (Nat×Nat×IX)}:(IK.ap7 esz n zs ps).lays=false:=nr rfl
theorem ir8:evq E fr σ (.ibs x y)=ht4 (x.ev E fr) (y.ev E fr):=nr rfl
theorem id4:ht4 (.str s) (.int .u8 a)=if 0≤a∧a<256 then some (.int .i64 (dv9 a.toNat s 0)) else none:=nr rfl
theorem bj8:(IK.store n x y).lays=false:=nr rfl
theorem cb3 {xs:List IX}:(IK.call n xs).lays=false:=nr rfl
theorem bj9 {xs:List IX}:(IK.ag4 n xs).lays=false:=nr rfl
theorem bk1 {xs:List IX}:(IK.aj2 x xs).lays=false:=nr rfl
theorem cz2 {α β:Type}{f:α→β}:List.map f []=[]:=nr rfl
theorem cz3 {α β:Type}{f:α→β}{c:α}{cs:List α}:List.map f (c::cs)=f c::List.map f cs:=nr rfl
theorem dz9 {α β:Type}{f:α→β}:Option.map f none=none:=nr rfl
theorem ea1 {α β:Type}{f:α→β}{c:α}:Option.map f (some c)=some (f c):=nr rfl
theorem cb4:dw9 (.bool true) v u=some v:=nr rfl
theorem cb5:dw9 (.bool false) v u=some u:=nr rfl
theorem cb6 {c d:Bool}:dw9 (.bool c) (.bool true) (.bool d)=some (.bool (c||d)):=by cases c<;>rfl
theorem cb7 {c d:Bool}:dw9 (.bool c) (.bool d) (.bool false)=some (.bool (c&&d)):=by cases c<;>rfl
theorem cz4 {c:Bool}:hs8 (.bool c)=some (.bool !c):=nr rfl
theorem cz5:hs9 (.int k a)=some (.int k (k.wrap (0-a))):=nr rfl
theorem cb8:fg3 k (.int k' a)=some (.int k (k.wrap a)):=nr rfl
theorem bk2:dn7 (.str s)=some (.str s):=nr rfl
theorem ev7:ao9 .add (.int k a) (.int k b)=some (.int k (k.wrap (a+b))):=by simp[ao9,de5]
theorem ev8:ao9 .sub (.int k a) (.int k b)=some (.int k (k.wrap (a-b))):=by simp[ao9,de5]
theorem ev9:ao9 .mul (.int k a) (.int k b)=some (.int k (k.wrap (a*b))):=by simp[ao9,de5]
theorem ew1:ao9 .quo (.int k a) (.int k b)=if b=0 then none else some (.int k (k.wrap (a.tdiv b))):=by simp[ao9,de5]
theorem ew2:ao9 .rem (.int k a) (.int k b)=if b=0 then none else some (.int k (a.tmod b)):=by simp[ao9,de5]
theorem ew3:ao9 .eql (.int k a) (.int k b)=some (.bool (decide (a=b))):=by simp[ao9,de5]
theorem ew4:ao9 .neq (.int k a) (.int k b)=some (.bool (!decide (a=b))):=by simp[ao9,de5]
theorem ew5:ao9 .lss (.int k a) (.int k b)=some (.bool (decide (a<b))):=by simp[ao9,de5]
theorem ew6:ao9 .leq (.int k a) (.int k b)=some (.bool (decide (a≤b))):=by simp[ao9,de5]
theorem ew7:ao9 .gtr (.int k a) (.int k b)=some (.bool (decide (b<a))):=by simp[ao9,de5]
theorem ew8:ao9 .geq (.int k a) (.int k b)=some (.bool (decide (b≤a))):=by simp[ao9,de5]
theorem dr2:ao9 .shl (.int k a) (.int k' b)=if 0≤b then some (.int k (k.wrap (a*2^(min b.toNat k.bits)))) else none:=by simp[ao9]
theorem ea2:ao9 .shr (.int k a) (.int k' b)=if 0≤b then some (.int k (a.fdiv (2^(min b.toNat k.bits)))) else none:=by simp[ao9]
theorem cz6:ao9 .add (.str s) (.str t)=if s.length+t.length<2^62 then some (.str (s++t)) else none:=by simp[ao9,ga3]
theorem cz7:ao9 .eql (.str s) (.str t)=some (.bool (decide (s=t))):=by simp[ao9,ga3]
theorem cz8:ao9 .neq (.str s) (.str t)=some (.bool (!decide (s=t))):=by simp[ao9,ga3]
theorem cz9:ao9 .lss (.str s) (.str t)=some (.bool (Op.bytesLess s t)):=by simp[ao9,ga3]
theorem da1:ao9 .leq (.str s) (.str t)=some (.bool (Op.bytesLess s t||decide (s=t))):=by simp[ao9,ga3]
theorem da2:ao9 .gtr (.str s) (.str t)=some (.bool (!(Op.bytesLess s t||decide (s=t)))):=by simp[ao9,ga3]
theorem da3:ao9 .geq (.str s) (.str t)=some (.bool (!Op.bytesLess s t)):=by simp[ao9,ga3]
theorem da4 {es:List (List IV)}:cr9 0 σ (.aa3 es)=some (.int .i64 es.length):=nr rfl
theorem da5:cr9 0 σ .aa1=some (.int .i64 0):=nr rfl
theorem da6:cr9 0 σ .ac2=some (.int .i64 0):=nr rfl
theorem id5:cr9 0 σ .ae3=some (.int .i64 0):=nr rfl
theorem bd9:cr9 0 σ (.slice n off len esz)=some (.int .i64 len):=nr rfl
theorem bk3:cr9 1 σ (.str s)=some (.int .i64 s.length):=nr rfl
theorem cb9:dn8 (.ptr n off)=some (.ptr n off):=nr rfl
theorem cc1 {cs:List IV}:dn8 (.ac5 cs)=some (.ac5 cs):=nr rfl
theorem cc2 {f:FuncId}{p q:List IV}:dn8 (.func (.func f) p q)=some (.func (.func f) p q):=nr rfl
theorem da7:fz5 .aa1=some .aa1:=nr rfl
theorem da8:fz5 .ac2=some .ac2:=nr rfl
theorem id6:fz5 .ae3=some .ac2:=nr rfl
theorem da9 {es:List (List IV)}:fz5 (.aa3 es)=if es=[] then some (.aa3 []) else some .ac2:=nr rfl
theorem db1:fz5 (.slice n off len esz)=some .ac2:=nr rfl
theorem ew9:irL σ fr []=some []:=nr rfl
theorem ex1:irL σ fr [.t n]=some [fr.get n]:=nr rfl
theorem db2:irL σ fr [.t n,.t m]=some [fr.get n,fr.get m]:=nr rfl
theorem ex2 {ag:Option Nat}:irL σ fr [.cell ag n]=(as4 σ ag (fr.get n)).map fun v=>[v]:=by
 simp only[irL,irV]; cases as4 σ ag (fr.get n)<;>rfl
theorem cc3:ep6 [v]=v:=nr rfl
theorem cc4:ep6 [v,u]=.tuple [v,u]:=nr rfl
theorem cc5:ep6 []=.tuple []:=nr rfl
/-! ### Memory -/
def ct1 (ag:Option Nat)(off:Nat):Option aj5→Option IV
 | some (.cells cs)|some (.row cs)=>match ag with
  | none=>(cs.drop off).head?
  | some n=>if n≤(cs.drop off).length then some (.agg ((cs.drop off).take n)) else none
 | _=>none
theorem cc6 {ag:Option Nat}:as4 σ ag (.ptr n off)=ct1 ag off (σ.obj n):=by
 cases h:σ.obj n with
 | none=>simp[as4,am4,ct1,h]
 | some o=>cases o<;>cases ag<;>simp[as4,am4,ct1,h]
theorem cc7 {cs:List IV}:as4 σ none (.ac5 cs)=cs.head?:=nr rfl
theorem bk4 {cs:List IV}:as4 σ (some n) (.ac5 cs)=if n≤cs.length then some (.agg (cs.take n)) else none:=nr rfl
theorem bd2 {cs:List IV}:ct1 none off (some (.cells cs))=(cs.drop off).head?:=nr rfl
theorem bs9 {cs:List IV}:ct1 (some n) off (some (.cells cs))=if n≤(cs.drop off).length then some (.agg ((cs.drop off).take n)) else none:=nr rfl
theorem ex3 {cs:List IV}:ct1 none off (some (.row cs))=(cs.drop off).head?:=nr rfl
theorem ch6 {cs:List IV}:ct1 (some n) off (some (.row cs))=if n≤(cs.drop off).length then some (.agg ((cs.drop off).take n)) else none:=nr rfl
def dr3 (σ:Store)(id off n:Nat)(vs:List IV):Option aj5→Option Store
 | some (.cells cs)=>if vs.length=n∧off+n≤cs.length∧vs.all IV.leaf=true then some (σ.put id (.cells (am6 cs off vs))) else none
 | some (.row cs)=>if vs.length=n∧off+n≤cs.length∧vs.all IV.leaf=true then some (σ.put id (.row (am6 cs off vs))) else none
 | _=>none
theorem bk5:am7 σ n (.ptr m off) v=dr3 σ m off n v.cs (σ.obj m):=by
 cases h:σ.obj m with
 | none=>simp[am7,dr3,h]
 | some o=>cases o<;>simp[am7,dr3,h]
theorem ex4 {cs vs:List IV}:dr3 σ m off n vs (some (.cells cs))=if vs.length=n∧off+n≤cs.length∧vs.all IV.leaf=true then some (σ.put m (.cells (am6 cs off vs))) else none:=nr rfl
theorem ch7 {cs vs:List IV}:dr3 σ m off n vs (some (.row cs))=if vs.length=n∧off+n≤cs.length∧vs.all IV.leaf=true then some (σ.put m (.row (am6 cs off vs))) else none:=nr rfl
theorem bk6 {es:List (List IV)}:ap4 esz (.aa3 es) (.int k a)=if 0≤a∧a<es.length∧(es.getD a.toNat []).length=esz then some (.ac5 (es.getD a.toNat [])) else none:=nr rfl
theorem bk7:ap4 esz (.slice n off len m) (.int k a)=if 0≤a∧a<len∧m=esz then some (.ptr n (off+a.toNat*esz)) else none:=nr rfl
theorem cc8 {cs:List IV}:ck9 n (.ac5 cs)=some (.ac5 (cs.drop n)):=nr rfl
theorem cc9:ck9 n (.ptr m off)=some (.ptr m (off+n)):=nr rfl
theorem cd1 {cs:List IV}:IV.cs (.agg cs)=cs:=nr rfl
theorem cd2:IV.cs (.int k a)=[.int k a]:=nr rfl
theorem bk8 {c:Bool}:IV.cs (.bool c)=[.bool c]:=nr rfl
theorem cd3:IV.cs (.str s)=[.str s]:=nr rfl
theorem cd4:IV.cs (.ptr n off)=[.ptr n off]:=nr rfl
theorem bk9 {cs:List IV}:IV.cs (.ac5 cs)=[.ac5 cs]:=nr rfl
theorem bb1:IV.cs (.slice n off len esz)=[.slice n off len esz]:=nr rfl
theorem av5 {es:List (List IV)}:IV.cs (.aa3 es)=[.aa3 es]:=nr rfl
theorem bl4 {f:Fn}{p q:List IV}:IV.cs (.func f p q)=[.func f p q]:=nr rfl
theorem cd5:IV.cs (.map n)=[.map n]:=nr rfl
theorem bl5 {es:List (IV×IV)}:IV.cs (.al2 es)=[.al2 es]:=nr rfl
theorem db3:IV.cs .aa1=[.aa1]:=nr rfl
theorem db4:IV.cs .ac2=[.ac2]:=nr rfl
theorem id7:IV.cs .ae3=[.ae3]:=nr rfl
theorem db5:IV.cs .ae4=[.ae4]:=nr rfl
theorem cd6:IV.leaf (.int k a)=true:=nr rfl
theorem bl6 {c:Bool}:IV.leaf (.bool c)=true:=nr rfl
theorem cd7:IV.leaf (.str s)=true:=nr rfl
theorem cd8:IV.leaf (.ptr n off)=true:=nr rfl
theorem bl7 {cs:List IV}:IV.leaf (.ac5 cs)=true:=nr rfl
theorem bb2:IV.leaf (.slice n off len esz)=true:=nr rfl
theorem av6 {es:List (List IV)}:IV.leaf (.aa3 es)=true:=nr rfl
theorem bl8 {f:Fn}{p q:List IV}:IV.leaf (.func f p q)=true:=nr rfl
theorem cd9:IV.leaf (.map n)=true:=nr rfl
theorem bl9 {es:List (IV×IV)}:IV.leaf (.al2 es)=true:=nr rfl
theorem db6:IV.leaf .aa1=true:=nr rfl
theorem db7:IV.leaf .ac2=true:=nr rfl
theorem id8:IV.leaf .ae3=true:=nr rfl
theorem db8:IV.leaf .ae4=true:=nr rfl
def eh2 (σ:Store)(id:Nat):Option aj5→Option (IV×Store)
 | some (.ay7 s pos)=>if pos<s.length then some (.tuple [.bool true,.int .i64 pos,.int .i32 (Utf8.decode ⟨s.toArray⟩ pos).1],σ.put id (.ay7 s (pos+(Utf8.decode ⟨s.toArray⟩ pos).2))) else some (.tuple [.bool false],σ)
 | _=>none
theorem bg2:bf4 σ (.ptr n 0)=eh2 σ n (σ.obj n):=by
 cases h:σ.obj n with
 | none=>simp[bf4,eh2,h]
 | some o=>cases o<;>simp[bf4,eh2,h]
theorem gs9 {pos:Nat}:eh2 σ n (some (.ay7 s pos))=if pos<s.length then some (.tuple [.bool true,.int .i64 pos,.int .i32 (Utf8.decode ⟨s.toArray⟩ pos).1],σ.put n (.ay7 s (pos+(Utf8.decode ⟨s.toArray⟩ pos).2))) else some (.tuple [.bool false],σ):=nr rfl
theorem db9 {cs:List IV}:gw2 n (.tuple cs)=cs[n]?:=by cases h:cs[n]?<;>simp[gw2,h]
theorem ex5:(Store.mk σ.next σ.obj)=σ:=nr rfl
theorem wrap64 {x:Int}(h1:-9223372036854775808≤x)(h2:x<9223372036854775808):IntKind.i64.wrap x=x:=by
 simp[IntKind.wrap,IntKind.bits,IntKind.signed];omega
end Go.Id
/- Memory that is done with becomes a tree: from the contract of a function that lays blocks to a pure one. Conditions: none; over any program. -/
namespace Go.Id
open Go
variable {P:Program} {w w' w'':World} {ρ ρ' ρ'':Rho} {E:Nat→IV} {σ σ':Store} {N n n':Nat}
abbrev Bnd (n:Nat)(v:IV):Prop:=Nm (fun i=>i<n) v
abbrev dc1 (σ:Store)(n:Nat)(v v':IV):Prop:=Frz σ (fun i=>i<n) v v'
def Rho.cut (ρ:Rho)(n:Nat):Rho:=⟨fun i=>if i<n then ρ i else .no,ρ.X⟩
theorem gt1 (ρ:Rho)(n:Nat):bw6 (fun i=>i<n) ρ (ρ.cut n):=
 ⟨fun i h=>by show (if i<n then ρ i else dm5.no)=_; rw[if_pos h],fun i h=>by show (if i<n then ρ i else dm5.no)=_; rw[if_neg h],fun _ h=>.inl h⟩
theorem ex6 (hf:∀ i,n≤i→ρ i=.no):∀ i,ρ i≠.no→i<n:=fun i h=>by
 rcases Nat.lt_or_ge i n with h'|h'
 ·exact h'
 ·exact absurd (hf i h') h
theorem ir9 {f:Nat}{args:List IV}{v:IV}
  (h:(∀ a∈args,Bnd σ.next a)→C P E f args σ fun v' σ'=>(∀ i,i<σ.next→σ'.obj i=σ.obj i)∧σ.next≤σ'.next∧dc1 σ' σ.next v' v):C P E f args σ (ic4 v σ):=by
 intro ρ w rargs hs ha;have hlv:=ex6 hs.fresh;have hba:∀ a∈args,Bnd σ.next a:=fun a hm=>let ⟨i,hi,he⟩:=ag5 (d:=.undef) hm; he▸(ha.2 i hi).nm hlv
 refine CallsIn.mono (h hba ρ w rargs hs ha) ?_;rintro e w' ⟨v',r,ρ',σ',rfl,⟨hob,hle,hfrz⟩,hs',hv',hx⟩;have hno:∀ i,σ.next≤i→σ.obj i=none:=fun i hi=>hs.an9 i (hs.fresh i hi)
 have hk:=gt1 ρ' σ.next;refine ⟨v,r,ρ'.cut σ.next,σ,rfl,⟨rfl,rfl⟩,hs'.ik2 hk hob (fun i hi=>hno i (by omega)) (fun i o _ ho=>hs.nmO hlv i o ho) (fun i hi=>hk.off i (by omega)) (fun g=>(hs.env g).nm hlv),hfrz.vr hk rfl hs' r hv',?_⟩;exact ⟨hx.size,hx.keep,hx.shape,fun i B d hi=>hx.img i B d (hk.at hi).2,fun i B d hi h=>by rw[hk.on i hi]; exact hx.at_ i B d hi h,fun i hi h=>by rw[hk.on i hi]; exact hx.dead i hi h,fun i hi h=>by rw[hk.on i hi]; exact hx.no i hi h,hx.output,hx.os,hx.tape,hx.loops,hx.X⟩
theorem gh5 {f:Nat}{args:List IV}{v:IV}(h:PC P E f args v):C P E f args σ (ic4 v σ):=h σ
theorem id9 {f:Nat}{args:List IV}{v:IV}
  (h:∀ σ,(∀ a∈args,Bnd σ.next a)→C P E f args σ fun v' σ'=>(∀ i,i<σ.next→σ'.obj i=σ.obj i)∧σ.next≤σ'.next∧dc1 σ' σ.next v' v):PC P E f args v :=
 fun σ=>ir9 (h σ)
theorem is1 {pt:PT}{ct:CT}{pf:List Nat}(hT:TOK P E pt ct){f:Nat}{an:Ann}{ic:IC}{irs:List IR}{args:List IV}{v:IV}(hf:gs5 P f N pf an ic irs)(hl:args.length≤N)
  (h:∀ σ,(∀ a∈args,Bnd σ.next a)→wpT pt ct P E N σ.next ic (bd1 args 0) σ (fo4 irs fun v' σ'=>(∀ i,i<σ.next→σ'.obj i=σ.obj i)∧σ.next≤σ'.next∧dc1 σ' σ.next v' v)):PC P E f args v :=
 id9 fun σ hb=>C_T hT hf hl (h σ hb)
/-! ### A pure function,on what is one's own -/
def IV.plain:IV→Bool
 | .bool _|.int _ _|.str _=>true
 | .tuple vs=>vs.attach.all fun ⟨v,_⟩=>v.plain
 | .agg vs=>vs.attach.all fun ⟨v,_⟩=>v.plain
 | _=>false
theorem gh6 {v:IV}{r:Value}(h:v.plain=true)(hv:VR ρ w v r):VR ρ' w' v r:=by
 induction hv with
 | bool b=>exact .bool _
 | int k n=>exact .int _ _
 | str s=>exact .str _
 | agg cs rs hl hv ih=>
  refine .agg cs rs hl fun i hi=>ih i hi ?_
  unfold IV.plain at h
  exact List.all_eq_true.1 h ⟨_,ac7 .undef hi⟩ (List.mem_attach _ _)
 | tuple cs rs hl hv ih=>
  refine .tuple cs rs hl fun i hi=>ih i hi ?_
  unfold IV.plain at h
  exact List.all_eq_true.1 h ⟨_,ac7 .undef hi⟩ (List.mem_attach _ _)
 | _=>simp[IV.plain] at h
theorem ea3 (S:Nat→Prop)(ρ:Rho):∃ ρ':Rho,bw6 S ρ ρ'∧∀ b,ρ'.X b↔ρ.X b∨∃ i d,¬ S i∧ρ i=.at b d:=by
 refine ⟨⟨fun i=>if Classical.propDecidable (S i) |>.decide then ρ i else .no,fun b=>ρ.X b∨∃ i d,¬ S i∧ρ i=.at b d⟩,⟨fun i h=>?_,fun i h=>?_,fun b h=>h⟩,fun b=>Iff.rfl⟩
 ·show (if (Classical.propDecidable (S i)).decide=true then ρ i else dm5.no)=_;rw[if_pos (by simpa using h)]
 ·show (if (Classical.propDecidable (S i)).decide=true then ρ i else dm5.no)=_;rw[if_neg (by simpa using h)]
def Store.only (σ:Store)(S:Nat→Bool):Store:=⟨σ.next,fun i=>if S i then σ.obj i else none⟩
theorem eh3 {f:Nat}{args:List IV}{v:IV}(hE:∀ g,Bnd 0 (E g))(ha:∀ a∈args,Bnd 0 a)(h:C P E f args ⟨0,fun _=>none⟩ fun v' σ'=>dc1 σ' 0 v' v):PC P E f args v:=by
 intro σ ρ w rargs hs hr;obtain ⟨ρ0,hk,hX⟩:=ea3 (fun _=>False) ρ;have hs0:Sim E ρ0 w ⟨0,fun _=>none⟩:=hs.ik2 hk (fun i h=>h.elim) (fun _ _=>rfl) (fun i o h=>h.elim) (fun i _=>hk.off i (fun h=>h)) (fun g=>(hE g).weak fun i h=>absurd h (Nat.not_lt_zero _));have hr0:CR ρ0 w args rargs:=⟨hr.1,fun i hi=>(hr.2 i hi).cut hk ((ha _ (ac7 _ hi)).weak fun i h=>absurd h (Nat.not_lt_zero _))⟩;refine CallsIn.mono (h ρ0 w rargs hs0 hr0) ?_;rintro e w' ⟨v',r,ρ',σ',rfl,hfz,hs',hv',hx⟩;have hno0:∀ i,ρ0 i=.no:=fun i=>hk.off i (fun h=>h)
 have hkeep:∀ b,b<w.heap.size→w'.heap[b]? = w.heap[b]?:=fun b hb=>hx.keep b ⟨hb,fun i d h=>by rw[hno0 i] at h; cases h⟩
 have hlt:∀ (b:Nat) (o:Obj),w.heap[b]? = some o→b<w.heap.size:=fun b o h=>by
  rcases Nat.lt_or_ge b w.heap.size with h'|h'
  ·exact h'
  ·rw[Array.getElem?_eq_none h'] at h; cases h
 have hext:∀ n,Ext n ρ w ρ w':=fun n=>
  ⟨hx.size,fun b hb=>hkeep b hb.1,fun b rcs el fz h=>⟨rcs,by rw[hkeep b (hlt b _ h)]; exact h,rfl⟩,fun i B d h=>.inl ⟨i,d,h⟩,fun i B d h=>.inl h,fun i h=>h,fun i _ h=>h,hx.output,hx.os,hx.tape,fun l L h=>⟨L,by rw[hkeep l (hlt l _ h)]; exact h⟩,rfl⟩
 -- the tree lies on no block that is in use
 let ρ1:Rho:=⟨fun _=>.no,ρ'.X⟩;have hk1:bw6 (fun i=>i<0) ρ' ρ1:=⟨fun i h=>absurd h (Nat.not_lt_zero _),fun i _=>rfl,fun b h=>.inl h⟩;have hv1:VR ρ1 w' v r:=hfz.vr hk1 rfl hs' r hv'
 have hv2:VR ρ w' v r:=hv1.refs (fun i h=>absurd rfl h) fun b hb=>⟨hb.1,fun i d hi=>hb.3 (by
   show ρ'.X b;rw[hx.X];exact (hX b).2 (.inr ⟨i,d,fun h=>h,hi⟩)),fun hxb=>hb.3 (by
   show ρ'.X b;rw[hx.X];exact (hX b).2 (.inl hxb))⟩
 refine ⟨v,r,ρ,σ,rfl,⟨rfl,rfl⟩,⟨hs.inj,fun i B d h=>Nat.lt_of_lt_of_le (hs.lt i B d h) hx.size,fun i B d h=>?_,hs.dead,hs.fresh,hs.an9,fun g=>(hs.env g).mono (hext 0),hs.nx,fun b h=>Nat.lt_of_lt_of_le (hs.xlt b h) hx.size⟩,hv2,(hext σ.next).weak (Nat.le_refl _)⟩;obtain ⟨o,h1,h2⟩:=hs.obj i B d h;exact ⟨o,h1,h2.mono (hext 0) (hkeep B (hs.lt i B d h))⟩
def Store.kills (σ:Store)(S:Nat→Bool):Store:=⟨σ.next,fun i=>if S i then σ.obj i else none⟩
theorem bp9 {S:Nat→Bool}(hs:Sim E ρ w σ):∃ ρd:Rho,Sim E ρd w (σ.kills S)∧(∀ n,Ext n ρ w ρd w)∧∀ v v' r,Frz σ (fun i=>S i=true) v v'→VR ρ w v r→VR ρd w v' r:=by
 let ρc:Rho:=⟨fun i=>if S i then ρ i else .no,ρ.X⟩;let ρd:Rho:=⟨fun i=>if S i then ρ i else match ρ i with|.no=>.no|_=>.dead,ρ.X⟩;have con:∀ i,S i=true→ρc i=ρ i:=fun i h=>by show (if S i=true then ρ i else .no)=_; rw[if_pos h]
 have coff:∀ i,S i=false→ρc i=.no:=fun i h=>by show (if S i=true then ρ i else .no)=_; rw[if_neg (by simp[h])]
 have don:∀ i,S i=true→ρd i=ρ i:=fun i h=>by show (if S i=true then ρ i else _)=_; rw[if_pos h]
 have doff:∀ i,S i=false→ρd i=(match ρ i with|.no=>.no|_=>.dead):=fun i h=>by show (if S i=true then ρ i else _)=_; rw[if_neg (by simp[h])]
 have hdat:∀ i B d,ρd i=.at B d→S i=true∧ρ i=.at B d:=fun i B d h=>by
  cases hsi:S i with
  | true=>rw[don i hsi] at h; exact ⟨rfl,h⟩
  | false=>rw[doff i hsi] at h; cases hri:ρ i<;>rw[hri] at h<;>cases h
 have hk:bw6 (fun i=>S i=true) ρ ρc:=⟨con,fun i h=>coff i (by simpa using h),fun b h=>.inl h⟩
 have hxd:∀ n,Ext n ρ w ρd w:=fun n=>df1 (fun i B d h=>by
   cases hsi:S i with
   | true=>rw[don i hsi]; exact .inl h
   | false=>rw[doff i hsi,h]; exact .inr rfl) (fun i h=>by
   cases hsi:S i with
   | true=>rw[don i hsi]; exact h
   | false=>rw[doff i hsi,h]) (fun i _ h=>by
   cases hsi:S i with
   | true=>rw[don i hsi]; exact h
   | false=>rw[doff i hsi,h]) (fun i B d h=>⟨i,d,(hdat i B d h).2⟩) rfl
 have hxc:Ext 0 ρc w ρd w:=df1 (fun i B d h=>by
   obtain ⟨h1,h2⟩:=hk.at h;exact .inl (by rw[don i h1]; exact h2)) (fun i h=>by
   cases hsi:S i with
   | true=>rw[con i hsi] at h; rw[don i hsi]; exact h
   | false=>rw[coff i hsi] at h; cases h) (fun i hi _=>absurd hi (Nat.not_lt_zero _)) (fun i B d h=>⟨i,d,by rw[con i (hdat i B d h).1]; exact (hdat i B d h).2⟩) rfl
 refine ⟨ρd,?_,hxd,fun v v' r hf hv=>(hf.vr hk rfl hs r hv).mono hxc⟩;refine ⟨fun i j B d d' hi hj=>hs.inj i j B d d' (hdat _ _ _ hi).2 (hdat _ _ _ hj).2,fun i B d hi=>hs.lt i B d (hdat _ _ _ hi).2,fun i B d hi=>?_,fun i hi=>?_,fun i hi=>?_,fun i hi=>?_,fun g=>(hs.env g).mono (hxd 0),fun i B d hi=>hs.nx i B d (hdat _ _ _ hi).2,hs.xlt⟩
 ·obtain ⟨h1,h2⟩:=hdat _ _ _ hi;obtain ⟨o,g1,g2⟩:=hs.obj i B d h2;exact ⟨o,by simp[Store.kills,h1,g1],g2.mono (hxd 0) rfl⟩
 ·cases hsi:S i with
  | true=>rw[don i hsi] at hi; simp[Store.kills,hsi,hs.dead i hi]
  | false=>simp[Store.kills,hsi]
 ·have hn:σ.next≤i:=hi;have:=hs.fresh i hn
  cases hsi:S i with
  | true=>rw[don i hsi]; exact this
  | false=>rw[doff i hsi,this]
 ·cases hsi:S i with
  | true=>rw[don i hsi] at hi; simp[Store.kills,hsi,hs.an9 i hi]
  | false=>simp[Store.kills,hsi]
theorem ie1 {S:Nat→Bool}{f:Nat}{args args':List IV}{Q:IV→Store→Prop}(hl:args'.length=args.length)(ha:∀ i,i<args.length→Frz σ (fun i=>S i=true) (args.getD i .undef) (args'.getD i .undef))
  (h:C P E f args' (σ.kills S) Q):C P E f args σ Q:=by
 intro ρ w rargs hs hr;obtain ⟨ρd,hs0,hxd,hvd⟩:=bp9 (S:=S) hs;have hr0:CR ρd w args' rargs:=⟨by rw[hl]; exact hr.1,fun i hi=>hvd _ _ _ (ha i (by omega)) (hr.2 i (by omega))⟩;refine CallsIn.mono (h ρd w rargs hs0 hr0) ?_;rintro e w' ⟨v,r,ρ',σ',rfl,hq,hs',hv',hx⟩;exact ⟨v,r,ρ',σ',rfl,hq,hs',hv',((hxd σ.next).weak (Nat.le_refl _)).trans hx⟩
theorem gt2 {S:Nat→Bool}{ic:IC}{n0:Nat}{fr fr':Frm}{Q:Exit→Frm→Store→Prop}(hf:∀ t,fr'.get t=fr.get t∨Frz σ (fun i=>S i=true) (fr.get t) (fr'.get t))
  (h:RI P E N n0 ic fr' (σ.kills S) Q):RI P E N n0 ic fr σ Q:=by
 intro pf an c hc hn ro h0 ρ w a hs hfr hd hr;obtain ⟨ρd,hs0,hxd,hvd⟩:=bp9 (S:=S) hs
 have hfr':FR ρd w N fr' a.tmps:=⟨hfr.size,fun t=>by
  rcases hf t with e|e
  ·rw[e]; exact (hfr.get t).mono (hxd 0)
  ·exact hvd _ _ _ e (hfr.get t)⟩
 have hxw:=(hxd n0).weak (Nat.le_refl n0);refine wpIn_mono (h pf an c hc hn ro h0 ρd w a hs0 hfr' (hd.mono hxw) (hr.mono hxw)) ?_;rintro e a' w' ⟨fr2,σ2,ρ2,hn2,q,hs2,hf2,hd2,hr2,hx2⟩;exact ⟨fr2,σ2,ρ2,hn2,q,hs2,hf2,hd2,hr2,hxw.trans hx2⟩
theorem dh2 {f:Nat}{args args':List IV}{v:IV}(hE:∀ g,Bnd 0 (E g))(hl:args'.length=args.length)(ha:∀ i,i<args.length→dc1 σ 0 (args.getD i .undef) (args'.getD i .undef))(hp:v.plain=true)(h:PC P E f args' v):C P E f args σ (ic4 v σ):=by
 intro ρ w rargs hs hr;have hk:=gt1 ρ 0;have hs0:Sim E (ρ.cut 0) w ⟨0,fun _=>none⟩:=hs.ik2 hk (fun i h=>absurd h (Nat.not_lt_zero _)) (fun _ _=>rfl) (fun i o h=>absurd h (Nat.not_lt_zero _)) (fun i _=>hk.off i (Nat.not_lt_zero _)) hE;have hr0:CR (ρ.cut 0) w args' rargs:=⟨by rw[hl]; exact hr.1,fun i hi=>(ha i (by omega)).vr hk rfl hs _ (hr.2 i (by omega))⟩;refine CallsIn.mono (h ⟨0,fun _=>none⟩ (ρ.cut 0) w rargs hs0 hr0) ?_;rintro e w' ⟨v',r,ρ',σ',rfl,⟨rfl,rfl⟩,hs',hv',hx⟩;have hkeep:∀ b,b<w.heap.size→w'.heap[b]? = w.heap[b]?:=fun b hb=>hx.keep b ⟨hb,fun i d h=>absurd (hk.at h).1 (Nat.not_lt_zero _)⟩
 have hlt:∀ (b:Nat) (o:Obj),w.heap[b]? = some o→b<w.heap.size:=fun b o h=>by
  rcases Nat.lt_or_ge b w.heap.size with h'|h'
  ·exact h'
  ·rw[Array.getElem?_eq_none h'] at h; cases h
 have hext:∀ n,Ext n ρ w ρ w':=fun n=>
  ⟨hx.size,fun b hb=>hkeep b hb.1,fun b rcs el fz h=>⟨rcs,by rw[hkeep b (hlt b _ h)]; exact h,rfl⟩,fun i B d h=>.inl ⟨i,d,h⟩,fun i B d h=>.inl h,fun i h=>h,fun i _ h=>h,hx.output,hx.os,hx.tape,fun l L h=>⟨L,by rw[hkeep l (hlt l _ h)]; exact h⟩,rfl⟩
 refine ⟨_,r,ρ,σ,rfl,⟨rfl,rfl⟩,⟨hs.inj,fun i B d h=>Nat.lt_of_lt_of_le (hs.lt i B d h) hx.size,fun i B d h=>?_,hs.dead,hs.fresh,hs.an9,fun g=>(hs.env g).mono (hext 0),hs.nx,fun b h=>Nat.lt_of_lt_of_le (hs.xlt b h) hx.size⟩,gh6 hp hv',(hext σ.next).weak (Nat.le_refl _)⟩;obtain ⟨o,h1,h2⟩:=hs.obj i B d h;exact ⟨o,h1,h2.mono (hext 0) (hkeep B (hs.lt i B d h))⟩
end Go.Id
set_option linter.all false
namespace Go.Id
open Go
variable {P:Program} {E:Nat→IV} {σ σ':Store} {N n n0:Nat} {fr:Frm}
/-! ### A store that is looked up by halves -/
inductive ea4 where
 | o (x:aj5)
 | loop (N:Nat) (fr:Frm) (ps:List Nat) (asg body:IC) (st:LoopState) (pend:Option JX)
 /-- A row that grows: its parts,the last one ahead. -/
 | app (rev:List (List IV)) (n:Nat) (h:rev.reverse.flatten.length=n∧rev.reverse.flatten.all IV.leaf=true)
 deriving Inhabited
def ea4.fin:Option ea4→Option ea4
 | some (.app rev _ _)=>some (.o (.row rev.reverse.flatten))
 | x=>x
inductive Tr where
 | e
 | n (v:Option ea4) (l r:Tr)
 deriving Inhabited
def Tr.raw:Tr→Nat→Option ea4
 | .e,_=>none
 | .n v l r,i=>bif Nat.beq i 0 then v else bif Nat.beq (i%2) 1 then l.raw (i/2) else r.raw (i/2-1)
def Tr.get (t:Tr)(i:Nat):Option ea4:=ea4.fin (t.raw i)
def Tr.set (x:Option ea4):Nat→Tr→Nat→Tr
 | 0,t,_=>t
 | f+1,.e,i=>bif Nat.beq i 0 then .n x .e .e else bif Nat.beq (i%2) 1 then .n none (Tr.set x f .e (i/2)) .e else .n none .e (Tr.set x f .e (i/2-1))
 | f+1,.n v l r,i=>bif Nat.beq i 0 then .n x l r else bif Nat.beq (i%2) 1 then .n v (Tr.set x f l (i/2)) r else .n v l (Tr.set x f r (i/2-1))
theorem ay3 {α:Type}(a b:Nat)(x y:α):(bif Nat.beq a b then x else y)=if a=b then x else y:=by
 by_cases h:a=b
 ·subst h; simp
 ·have:Nat.beq a b=false:=by rw[← Bool.not_eq_true,Nat.beq_eq]; exact h
  simp[this,h]
theorem Tr.hd9 (x:Option ea4):∀ (f:Nat) (t:Tr) (i j:Nat),i+1<2^f→(Tr.set x f t i).raw j=if j=i then x else t.raw j:=by
 intro f
 induction f with
 | zero=>intro t i j h; simp at h
 | succ f ih=>
  intro t i j h;have hp:2^(f+1)=2*2^f:=by rw[Nat.pow_succ]; omega
  cases t with
  | e =>
   simp only[Tr.set,ay3];split
   ·rename_i h0; subst h0;simp only[Tr.raw,ay3];split
    ·rfl
    ·split<;>rfl
   ·rename_i h0;split
    ·rename_i h1;simp only[Tr.raw,ay3];by_cases hj:j=0
     ·subst hj; rw[if_pos rfl,if_neg (by omega)]
     ·rw[if_neg hj];split
      ·rename_i h2;rw[ih _ _ _ (by omega)];by_cases hij:j=i
       ·rw[if_pos hij,if_pos (by omega)]
       ·rw[if_neg hij,if_neg (by omega)]; rfl
      ·rw[if_neg (by omega)]
    ·rename_i h1;simp only[Tr.raw,ay3];by_cases hj:j=0
     ·subst hj; rw[if_pos rfl,if_neg (by omega)]
     ·rw[if_neg hj];split
      ·rw[if_neg (by omega)]
      ·rename_i h2;rw[ih _ _ _ (by omega)];by_cases hij:j=i
       ·rw[if_pos hij,if_pos (by omega)]
       ·rw[if_neg hij,if_neg (by omega)]; rfl
  | n v l r=>
   simp only[Tr.set,ay3];split
   ·rename_i h0; subst h0;simp only[Tr.raw,ay3];split
    ·rfl
    ·rfl
   ·rename_i h0;split
    ·rename_i h1;simp only[Tr.raw,ay3];by_cases hj:j=0
     ·subst hj; rw[if_pos rfl,if_neg (by omega)]; rfl
     ·rw[if_neg hj,if_neg hj];split
      ·rename_i h2;rw[ih _ _ _ (by omega)];by_cases hij:j=i
       ·rw[if_pos hij,if_pos (by omega)]
       ·rw[if_neg hij,if_neg (by omega)]
      ·rw[if_neg (by omega)]
    ·rename_i h1;simp only[Tr.raw,ay3];by_cases hj:j=0
     ·subst hj; rw[if_pos rfl,if_neg (by omega)]; rfl
     ·rw[if_neg hj,if_neg hj];split
      ·rw[if_neg (by omega)]
      ·rename_i h2;rw[ih _ _ _ (by omega)];by_cases hij:j=i
       ·rw[if_pos hij,if_pos (by omega)]
       ·rw[if_neg hij,if_neg (by omega)]
theorem Tr.bw2 (x:Option ea4)(f:Nat)(t:Tr)(i j:Nat)(h:i+1<2^f):(Tr.set x f t i).get j=if j=i then ea4.fin x else t.get j:=by
 unfold Tr.get;rw[Tr.hd9 x f t i j h];split<;>rfl
structure XSt where
 next:Nat
 t:Tr
 deriving Inhabited
def XSt.put (xs:XSt)(i:Nat)(x:Option ea4):Option XSt :=
 bif Nat.blt i 1152921504606846976 then some ⟨xs.next,xs.t.set x 64 i⟩ else none
def XSt.st (xs:XSt):Store:=⟨xs.next,fun i=>match xs.t.get i with|some (.o x)=>some x|_=>none⟩
theorem XSt.fo8 {xs xs':XSt}{i:Nat}{x:Option ea4}(h:xs.put i x=some xs'):xs'.next=xs.next∧∀ j,xs'.t.get j=if j=i then ea4.fin x else xs.t.get j:=by
 unfold XSt.put at h
 cases hb:Nat.blt i 1152921504606846976 with
 | false=>rw[hb] at h; cases h
 | true=>
  rw[hb] at h;cases h;have:i<1152921504606846976:=Nat.le_of_ble_eq_true hb;exact ⟨rfl,fun j=>Tr.bw2 x 64 _ i j (by omega)⟩
def YR (P:Program)(E:Nat→IV)(id N:Nat)(fr:Frm)(ps:List Nat)(asg body:IC)(L:LoopState→Option JX→aj5):Prop :=
 ∀ (σ':Store) (args:List IV) (K:IV→Store→Prop),args.length=ps.length→σ'.obj id=some (L .ready none) →
  RI P E N σ'.next asg (cs8 fr ps args) σ' (fun e f s=>e=.normal∧s.obj id=some (L .ready none)∧RI P E N σ'.next body f (s.put id (L .busy none)) (cm2 id L K))→CYd P E id args σ' K
abbrev Lam:=Nat→LoopState→Option JX→aj5
def XOR (P:Program)(E:Nat→IV)(Λ:Lam)(i:Nat):Option ea4→Option aj5→Prop
 | none,o=>o=none
 | some (.o x),o=>o=some x
 | some (.app rev _ _),o=>o=some (.row rev.reverse.flatten)
 | some (.loop N fr ps asg body st pend),o=>o=some (Λ i st pend)∧YR P E i N fr ps asg body (Λ i)
structure XR (P:Program) (E:Nat→IV) (Λ:Lam) (xs:XSt) (σ:Store):Prop where
 next:xs.next=σ.next
 obj:∀ i,XOR P E Λ i (xs.t.get i) (σ.obj i)
theorem XR.put {Λ:Lam}{xs xs':XSt}{i:Nat}{x:aj5}(h:XR P E Λ xs σ)(hp:xs.put i (some (.o x))=some xs'):XR P E Λ xs' (σ.put i x):=by
 obtain ⟨h1,h2⟩:=XSt.fo8 hp;refine ⟨by rw[h1]; exact h.next,fun j=>?_⟩;rw[h2,aa2];by_cases hj:j=i
 ·rw[if_pos hj,if_pos hj]; rfl
 ·rw[if_neg hj,if_neg hj]; exact h.obj j
theorem XR.kill {Λ:Lam}{xs xs':XSt}{i:Nat}(h:XR P E Λ xs σ)(hp:xs.put i none=some xs'):XR P E Λ xs' (σ.kill i):=by
 obtain ⟨h1,h2⟩:=XSt.fo8 hp;refine ⟨by rw[h1]; exact h.next,fun j=>?_⟩;rw[h2];show XOR P E Λ j _ (if j=i then none else σ.obj j);by_cases hj:j=i
 ·rw[if_pos hj,if_pos hj]; rfl
 ·rw[if_neg hj,if_neg hj]; exact h.obj j
theorem XR.get {Λ:Lam}{xs:XSt}{i:Nat}{x:aj5}(h:XR P E Λ xs σ)(hg:xs.t.get i=some (.o x)):σ.obj i=some x:=by
 have:=h.obj i;rw[hg] at this;exact this
def LeS (s σ:Store):Prop:=∀ i x,s.obj i=some x→σ.obj i=some x
theorem XR.le {Λ:Lam}{xs:XSt}(h:XR P E Λ xs σ):LeS xs.st σ:=by
 intro i x hx;simp only[XSt.st] at hx;split at hx
 ·rename_i y hy; cases hx; exact h.get hy
 ·cases hx
/-! ### What writes -/
/-! ### No block is named -/
def ao6:Nat→IV→Bool
 | 0,_=>false
 | n+1,v=>match v with
  | .ptr _ _|.slice _ _ _ _|.map _|.yield _|.af1 _ _ _ _|.ad7 _ _ _ _ _=>false
  | .ac5 cs=>cs.all (ao6 n)
  | .aa3 es=>es.all fun e=>e.all (ao6 n)
  | .al2 es=>es.all fun e=>ao6 n e.1&&ao6 n e.2
  | .func _ a b=>a.all (ao6 n)&&b.all (ao6 n)
  | .iface _ v=>ao6 n v
  | .agg cs=>cs.all (ao6 n)
  | .tuple cs=>cs.all (ao6 n)
  | _=>true
theorem aw3:∀ (n:Nat) (v:IV),ao6 n v=true→Bnd 0 v:=by
 intro n
 induction n with
 | zero=>intro v h; cases h
 | succ n ih=>
  intro v h;have all:∀ {cs:List IV},cs.all (ao6 n)=true→∀ c∈cs,Bnd 0 c:=fun h c hc=>ih c (List.all_eq_true.1 h c hc)
  cases v with
  | undef=>exact .undef
  | bool b=>exact .bool b
  | int k x=>exact .int k x
  | str s=>exact .str s
  | ae4=>exact .ae4
  | ptr id off=>cases h
  | ac5 cs=>exact .ac5 cs (all h)
  | aa1=>exact .aa1
  | ac2=>exact .ac2
  | ae3=>exact .ae3
  | slice a b c d=>cases h
  | aa3 es=>exact .aa3 es fun e he=>all (List.all_eq_true.1 h e he)
  | ac9=>exact .ac9
  | map id=>cases h
  | al2 es=>exact .al2 es (fun e he=>ih _ (by have:=List.all_eq_true.1 h e he; simp at this; exact this.1)) (fun e he=>ih _ (by have:=List.all_eq_true.1 h e he; simp at this; exact this.2))
  | func f a b=>
   simp only[ao6,Bool.and_eq_true] at h
   exact .func f a b (all h.1) (all h.2)
  | yield id=>cases h
  | af5=>exact .af5
  | iface t v=>exact .iface t v (ih v h)
  | af8=>exact .af8
  | agg cs=>exact .agg cs (all h)
  | tuple cs=>exact .tuple cs (all h)
  | af1 a b c d=>cases h
  | ad7 a b c d e=>cases h
/-! ### Let go -/
/-! ### Slots whose blocks are let go -/
/-! ### Of a box some cells,whose blocks are let go -/
def dr4 (E:Nat→IV)(σ:Store)(fr:Frm)(σ':Store)(fr':Frm):Prop :=
 ∀ (ρ:Rho) (w:World),Sim E ρ w σ→∃ ρd:Rho,Sim E ρd w σ'∧(∀ n,Ext n ρ w ρd w)∧∀ (N:Nat) (tmps:Array Value),FR ρ w N fr tmps→FR ρd w N fr' tmps
theorem dr4.trans {σ'':Store}{fr fr' fr'':Frm}(h:dr4 E σ fr σ' fr')(h':dr4 E σ' fr' σ'' fr''):dr4 E σ fr σ'' fr'':=fun ρ w hs=>
 let ⟨ρ1,a1,a2,a3⟩:=h ρ w hs;let ⟨ρ2,b1,b2,b3⟩:=h' ρ1 w a1
 ⟨ρ2,b1,fun n=>(a2 n).trans (b2 n) (Nat.le_refl _),fun N tmps hf=>b3 N tmps (a3 N tmps hf)⟩
theorem dr4.refl (fr:Frm):dr4 E σ fr σ fr:=fun ρ w hs=>⟨ρ,hs,fun n=>Ext.refl _ _ _,fun _ _ h=>h⟩
theorem dr4.of {S:Nat→Bool}{fr fr':Frm}(hf:∀ t,fr'.get t=fr.get t∨Frz σ (fun i=>S i=true) (fr.get t) (fr'.get t)):dr4 E σ fr (σ.kills S) fr':=fun ρ w hs=>by
 obtain ⟨ρd,hs0,hxd,hvd⟩:=bp9 (S:=S) hs;refine ⟨ρd,hs0,hxd,fun N tmps hfr=>⟨hfr.size,fun t=>?_⟩⟩;rcases hf t with e|e
 ·rw[e]; exact (hfr.get t).mono (hxd 0)
 ·exact hvd _ _ _ e (hfr.get t)
end Go.Id
