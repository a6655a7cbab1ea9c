/- A function compiled,whole: its code and its results. Conditions: none; over any program. -/
import Derived.Test.YtjpdjifjokldlaaDoorFwI
set_option linter.all false
namespace Go.Id
open Go
variable {P:Program} {w w' w'':World} {ρ ρ' ρ'':Rho} {E:Nat→IV} {σ σ':Store} {N n n':Nat} {fr:Frm} {a:Act} {pf:List Nat}
inductive IR where
 | t (n:Nat)
 | cell (agg:Option Nat) (n:Nat)
 deriving Inhabited
def ii6 (P:Program):ResultVar→Option IR
 | .tmp t=>some (.t t)
 | .cell ad t=>match aj9 P t with
  | some agg=>some (.cell agg ad)
  | none=>none
def ec2 (P:Program):List ResultVar→Option (List IR)
 | []=>some []
 | r::rs=>match ii6 P r,ec2 P rs with
  | some x,some xs=>some (x::xs)
  | _,_=>none
def irV (σ:Store)(fr:Frm):IR→Option IV
 | .t n=>some (fr.get n)
 | .cell agg n=>am9 σ agg (fr.get n)
def irL (σ:Store)(fr:Frm):List IR→Option (List IV)
 | []=>some []
 | r::rs=>match irV σ fr r,irL σ fr rs with
  | some v,some vs=>some (v::vs)
  | _,_=>none
theorem fb2:∀ (rs:List ResultVar) (irs:List IR),ec2 P rs=some irs→fq6 P σ fr rs=irL σ fr irs:=by
 intro rs
 induction rs with
 | nil=>intro irs h; cases h; rfl
 | cons r rs ih=>
  intro irs h;simp only[ec2] at h;split at h
  ·rename_i x xs hx hxs;cases h
   have h1:hn4 P σ fr r=irV σ fr x:=by
    cases r with
    | tmp t=>cases hx; rfl
    | cell ad t=>
     simp only[ii6] at hx;split at hx
     ·rename_i agg hagg;cases hx;simp[hn4,irV,hagg]
     ·cases hx
   simp only[fq6,irL,h1,ih _ hxs];cases irV σ fr x<;>cases irL σ fr xs<;>rfl
  ·cases h
def fb3 (P:Program)(f N:Nat)(pf:List Nat)(an:Ann)(ic:IC)(irs:List IR):Prop :=
 ∃ fn,P.funcs[f]? = some fn∧fn.ntmps=N∧fn.body.bind (am4 P pf N an)=some ic∧ec2 P fn.results.toList=some irs
theorem ab6 {f:Nat}{fn:Func}{an:Ann}{ic:IC}{irs:List IR}(h:P.funcs[f]? = some fn)(hN:fn.ntmps=N)(hc:fn.body.bind (am4 P pf N an)=some ic)(hr:ec2 P fn.results.toList=some irs):fb3 P f N pf an ic irs :=
 ⟨fn,h,hN,hc,hr⟩
def ib9 (irs:List IR)(Qc:IV→Store→Prop):Exit→Frm→Store→Prop
 | .normal,fr,σ|.ret,fr,σ=>∃ vs,irL σ fr irs=some vs∧Qc (cv7 vs) σ
 | _,_,_=>False
theorem io3 {f:Nat}{an:Ann}{ic:IC}{irs:List IR}{args:List IV}{Qc:IV→Store→Prop}(hf:fb3 P f N pf an ic irs)(hl:args.length≤N)
  (h:wpI P E N σ.next ic (au2 args 0) σ (ib9 irs Qc)):C P E f args σ Qc:=by
 obtain ⟨fn,h1,h2,h3,h4⟩:=hf
 cases hb:fn.body with
 | none=>rw[hb] at h3; cases h3
 | some c=>
  rw[hb] at h3;refine gk5 h1 hb h2 hl ((ap7 ic _ _ _ h pf an c h3).mono ?_);intro e fr' σ' q;cases e<;>first|(obtain ⟨vs,q1,q2⟩:=q; exact ⟨vs,by rw[fb2 _ _ h4]; exact q1,q2⟩)|exact q
end Go.Id
/- Frames,by what is asked of them. Conditions: none; over any program. -/
namespace Go.Id
open Go
theorem Frm.get_nil (t:Nat):Frm.get [] t=.undef:=by unfold Frm.get; simp
theorem Frm.ay8 (t s:Nat)(v:IV)(fr:Frm):Frm.get ((t,v)::fr) s=if s=t then v else Frm.get fr s:=Frm.bi2 fr t s v
end Go.Id
/- The walk by tables: what functions give,as functions; the form that is rewritten. Conditions: none; over any program. -/
namespace Go.Id
open Go
universe u
variable {P:Program} {E:Nat→IV} {σ σ':Store} {N n n0:Nat} {fr:Frm} {a:Act} {pf:List Nat}
abbrev PT:=Nat→List IV→Option IV
abbrev CT:=Nat→List IV→Store→Option (IV→Store→Prop)
structure TOK (P:Program) (E:Nat→IV) (pt:PT) (ct:CT):Prop where
 p:∀ f args v,pt f args=some v→PC P E f args v
 c:∀ f args σ Q,ct f args σ=some Q→okF P f=true∧C P E f args σ Q
def noP:PT:=fun _ _=>none
def noC:CT:=fun _ _ _=>none
theorem noT:TOK P E noP noC:=⟨(fun _ _ _ h=>by cases h),(fun _ _ _ _ h=>by cases h)⟩
theorem ec3 {f:Nat}{args:List IV}:noP f args=none:=by unfold noP; exact Eq.trans rfl rfl
theorem ec4 {f:Nat}{args:List IV}:noC f args σ=none:=by unfold noC; exact Eq.trans rfl rfl
def bq7 {α:Type}:Option α→(α→Prop)→Prop
 | some v,K=>K v
 | none,_=>False
def gk9:IV→(Bool→Prop)→Prop
 | .bool b,K=>K b
 | _,_=>False
def fj1 (v:IV)(want:Bool)(A B:Prop):Prop :=
 match eo5 v want with
 | some true=>A
 | some false=>B
 | none=>False
theorem de6 {v:IV}{want:Bool}{A B:Prop}(h:fj1 v want A B):∃ act,eo5 v want=some act∧if act=true then A else B:=by
 unfold fj1 at h;split at h
 ·rename_i ha; exact ⟨true,ha,h⟩
 ·rename_i ha; exact ⟨false,ha,h⟩
 ·exact h.elim
theorem aj2 {α:Type}{o:Option α}{K:α→Prop}(h:bq7 o K):∃ v,o=some v∧K v:=by
 cases o with
 | none=>exact h.elim
 | some v=>exact ⟨v,rfl,h⟩
theorem ec5 {o:IV}{K:Bool→Prop}(h:gk9 o K):∃ b,o=.bool b∧K b:=by
 cases o<;>first|exact ⟨_,rfl,h⟩|exact h.elim
def ch2 (P:Program)(E:Nat→IV)(o:Option (IV→Store→Prop))(f:Nat)(args:List IV)(σ:Store)(K:IV→Store→Prop):Prop :=
 match o with
 | some Q=>∀ v s,Q v s→σ.next≤s.next∧K v s
 | none=>∃ Q,(okF P f=true∧C P E f args σ Q)∧∀ v s,Q v s→σ.next≤s.next∧K v s
def fr6 (P:Program)(E:Nat→IV)(o:Option IV)(f:Nat)(args:List IV)(σ:Store)(K:IV→Store→Prop):Prop :=
 match o with
 | some v=>K v σ
 | none=>∃ v,PC P E f args v∧K v σ
def opT (pt:PT)(ct:CT)(P:Program)(E:Nat→IV)(op:IK)(id:Nat)(fr:Frm)(σ:Store)(K:IV→Store→Prop):Prop :=
 match op with
 | .q q=>bq7 (evq E fr σ q) fun v=>K v σ
 | .alloc z=>K (.ptr id 0) (σ.put id (.cells z))
 | .box x=>(x.ev E fr).cs.all IV.leaf=true∧K (.ptr id 0) (σ.put id (.cells (x.ev E fr).cs))
 | .bsl esz n z parts=>bq7 (ak7 (rep z n) (parts.map fun p=>(p.1,p.2.1,p.2.2.ev E fr))) fun out=>K (.slice id 0 n esz) (σ.put id (.row out))
 | .store sz x y=>bq7 (aj3 σ sz (x.ev E fr) (y.ev E fr)) fun σ'=>K .undef σ'
 | .av1 x=>match x.ev E fr with
  | .str s=>K (.ptr id 0) (σ.put id (.ap5 s 0))
  | _=>False
 | .bq6 x=>bq7 (az7 σ (x.ev E fr)) fun r=>K r.1 r.2
 | .bm5=>K (.map id) (σ.put id (.map []))
 | .de4 tag x k v=>bq7 (ao2 σ tag (x.ev E fr) (k.ev E fr) (v.ev E fr)) fun σ'=>K .undef σ'
 | .app esz s x=>bq7 (aw1 σ id esz (s.ev E fr) (x.ev E fr)) fun r=>K r.1 r.2
 | .call f args=>ch2 P E (ct f (args.map (·.ev E fr)) σ) f (args.map (·.ev E fr)) σ K
 | .aj4 f args=>fr6 P E (pt f (args.map (·.ev E fr))) f (args.map (·.ev E fr)) σ K
 | .an7 x args=>match x.ev E fr with
  | .func (.func f) first cap=>ch2 P E (ct f (first++args.map (·.ev E fr)++cap) σ) f (first++args.map (·.ev E fr)++cap) σ K
  | .yield i=>∃ Q,CV P E (.yield i) (args.map (·.ev E fr)) σ Q∧∀ v σ',Q v σ'→σ.next≤σ'.next∧K v σ'
  | _=>False
 | .av2 esz n z parts=>bq7 (ak7 (rep z n) (parts.map fun p=>(p.1,p.2.1,p.2.2.ev E fr))) fun out=>K (.aa4 (chunk esz n out)) σ
 | .ar7 x=>(x.ev E fr).cs.all IV.leaf=true∧K (.af4 (x.ev E fr).cs) σ
 | .aq9 x=>match x.ev E fr with
  | .al5 es=>K (.ptr id 0) (σ.put id (.ai8 es none))
  | _=>False
 | .bj2 x=>bq7 (aq8 σ (x.ev E fr)) fun r=>(r.2=[]→K (.tuple [.bool false]) σ) ∧
   ∀ j,j<r.2.length→K (.tuple [.bool true,(r.2.getD j (.undef,.undef)).1,(r.2.getD j (.undef,.undef)).2]) (σ.put r.1 (.ai8 (r.2.eraseIdx j) (some (r.2.getD j (.undef,.undef)))))
 | .dn5 x=>bq7 (ba5 σ (x.ev E fr)) fun v=>K v σ
 | .cj5 esz z x=>bq7 (cu2 (x.ev E fr)) fun n=>K (.slice id 0 n esz) (σ.put id (.row (rep z n)))
 | .clr esz z x=>bq7 (et1 σ esz z (x.ev E fr)) fun σ'=>σ'.next=σ.next∧K .undef σ'
 | .st k xs=>bq7 (stI k id σ (xs.map (·.ev E fr))) fun r=>K r.1 r.2
theorem cj6 {pt:PT}{ct:CT}(hT:TOK P E pt ct){f:Nat}{args:List IV}{K:IV→Store→Prop}(h:ch2 P E (ct f args σ) f args σ K):∃ Q,(okF P f=true∧C P E f args σ Q)∧∀ v s,Q v s→σ.next≤s.next∧K v s:=by
 cases ho:ct f args σ with
 | none=>rw[ho] at h; exact h
 | some Q=>rw[ho] at h; exact ⟨Q,hT.c _ _ _ Q ho,h⟩
theorem ax2 {pt:PT}{ct:CT}(hT:TOK P E pt ct){op:IK}{id:Nat}{K:IV→Store→Prop}(h:opT pt ct P E op id fr σ K):opR P E op id fr σ K:=by
 cases op with
 | q q=>exact aj2 h
 | alloc z=>exact h
 | box x=>exact h
 | bsl e n z ps=>exact aj2 h
 | store e x y=>exact aj2 h
 | app e s x=>exact aj2 h
 | bm5=>exact h
 | av1 x=>
  simp only[opT] at h;split at h
  ·rename_i s he; exact ⟨s,he,h⟩
  ·exact h.elim
 | bq6 x=>exact aj2 h
 | de4 t x y z=>exact aj2 h
 | call f xs=>
  obtain ⟨Q,h1,h2⟩:=cj6 hT h
  exact ⟨Q,h1.2,h2⟩
 | aj4 f xs=>
  simp only[opT] at h
  cases ho:pt f (xs.map (·.ev E fr)) with
  | none=>rw[ho] at h; exact h
  | some v=>rw[ho] at h; exact ⟨v,hT.p _ _ _ ho,h⟩
 | an7 x xs=>
  simp only[opT] at h;split at h
  ·rename_i f first cap he
   obtain ⟨Q,h1,h2⟩:=cj6 hT h;refine ⟨Q,?_,h2⟩;rw[he];exact h1
  ·rename_i i he;rw[← he] at h;exact h
  ·exact h.elim
 | av2 e n z ps=>exact aj2 h
 | ar7 x=>exact h
 | aq9 x=>
  simp only[opT] at h;split at h
  ·rename_i s he; exact ⟨s,he,h⟩
  ·exact h.elim
 | bj2 x=>
  obtain ⟨⟨i,l⟩,h1,h2⟩:=aj2 h
  exact ⟨i,l,h1,h2⟩
 | dn5 x=>exact aj2 h
 | cj5 e z x=>exact aj2 h
 | clr e z x=>exact aj2 h
 | st k xs=>exact aj2 h
def bm7 (pt:PT) (ct:CT) (P:Program) (E:Nat→IV):List ac6→Nat→Frm→Store→(Frm→Store→Prop)→Prop
 | [],_,fr,σ,K=>K fr σ
 | o::rest,id,fr,σ,K=>
  match o.guard with
  | none=>opT pt ct P E o.op id fr σ fun v σ'=>bm7 pt ct P E rest (if o.op.lays then id+1 else id) (fr.ah5 o.dst v) σ' K
  | some (s,want)=>fj1 (fr.get s) want (opT pt ct P E o.op id fr σ fun v σ'=>bm7 pt ct P E rest (if o.op.lays then id+1 else id) (fr.ah5 o.dst v) σ' K)
    (bm7 pt ct P E rest (if o.op.lays then id+1 else id) (fr.ah5 o.dst skV) σ K)
theorem dn6 {pt:PT}{ct:CT}(hT:TOK P E pt ct):∀ (ops:List ac6) (id:Nat) (fr:Frm) (σ:Store) (K:Frm→Store→Prop),bm7 pt ct P E ops id fr σ K→bg9 P E ops id fr σ K:=by
 intro ops
 induction ops with
 | nil=>intro id fr σ K h; exact h
 | cons o os ih=>
  intro id fr σ K h;obtain ⟨d,g,op⟩:=o
  cases g with
  | none=>
   simp only[bm7,bg9] at h ⊢
   exact ⟨true,rfl,ai1 (fun v s k=>ih _ _ _ _ k) (ax2 hT h)⟩
  | some p=>
   obtain ⟨s,want⟩:=p;simp only[bm7,bg9] at h ⊢;obtain ⟨act,ha,h⟩:=de6 h;refine ⟨act,ha,?_⟩
   cases act with
   | true=>
    rw[if_pos rfl] at h ⊢
    exact ai1 (fun v s k=>ih _ _ _ _ k) (ax2 hT h)
   | false=>
    rw[if_neg (by simp)] at h ⊢;exact ih _ _ _ _ h
def bk1 (E:Nat→IV)(fr:Frm)(σ:Store):IK→Prop
 | .q (.load _ x)=>match x.ev E fr with
  | .af4 _=>True
  | .ptr i _=>match σ.obj i with
   | some (.cells _)=>True
   | _=>False
  | _=>False
 | _=>True
theorem cj7 {op:IK}(h:bk1 E fr σ op):as9 E fr σ op:=by
 cases op with
 | q q=>
  cases q with
  | load ag x=>
   simp only[bk1,as9] at h ⊢;cases he:x.ev E fr<;>rw[he] at h<;>simp only at h ⊢;rename_i i off
   cases ho:σ.obj i with
   | none=>rw[ho] at h; exact h.elim
   | some ob=>
    rw[ho] at h
    cases ob<;>first|exact ⟨_,rfl⟩|exact h.elim
  | _=>trivial
 | _=>trivial
def ba9 (pt:PT) (ct:CT) (P:Program) (E:Nat→IV) (B:Bool):List ac6→Nat→Frm→Store→(Frm→Store→Prop)→Prop
 | [],_,fr,σ,K=>K fr σ
 | o::rest,id,fr,σ,K=>
  match o.guard with
  | none=>(B=true→bk1 E fr σ o.op)∧opT pt ct P E o.op id fr σ fun v σ'=>ba9 pt ct P E B rest (id+1) (fr.ah5 o.dst v) σ' K
  | some (s,want)=>fj1 (fr.get s) want ((B=true→bk1 E fr σ o.op)∧opT pt ct P E o.op id fr σ fun v σ'=>ba9 pt ct P E B rest (id+1) (fr.ah5 o.dst v) σ' K)
    (ba9 pt ct P E B rest (id+1) (fr.ah5 o.dst skV) σ K)
theorem dn7 {pt:PT}{ct:CT}(hT:TOK P E pt ct){B:Bool}{base:Nat}:∀ (ops:List ac6) (i:Nat) (fr:Frm) (σ:Store) (K:Frm→Store→Prop),ba9 pt ct P E B ops (base+i) fr σ K→bg8 P E B (dl5 base i ops) fr σ K:=by
 intro ops
 induction ops with
 | nil=>intro i fr σ K h; exact h
 | cons o os ih=>
  intro i fr σ K h;obtain ⟨d,g,op⟩:=o
  cases g with
  | none=>
   simp only[ba9] at h
   exact ⟨true,rfl,ai1 (fun v s k=>ih _ _ _ _ k) (ax2 hT h.2),fun hb=>cj7 (h.1 hb)⟩
  | some p=>
   obtain ⟨s,want⟩:=p;simp only[ba9] at h;obtain ⟨act,ha,h⟩:=de6 h;refine ⟨act,ha,?_⟩
   cases act with
   | true=>exact ⟨ai1 (fun v s k=>ih _ _ _ _ k) (ax2 hT h.2),fun hb=>cj7 (h.1 hb)⟩
   | false=>exact ih _ _ _ _ h
def wpT (pt:PT)(ct:CT)(P:Program)(E:Nat→IV)(N n0:Nat):IC→Frm→Store→(Exit→Frm→Store→Prop)→Prop
 | .skip,fr,σ,Q=>Q .normal fr σ
 | .reg _ ops keep,fr,σ,Q=>bm7 pt ct P E ops σ.next fr ⟨σ.next+ax1 ops,σ.obj⟩ (fun fr' σ'=>Q .normal (fr'.keep keep) σ')
 | .dreg _ ops B keep,fr,σ,Q=>ba9 pt ct P E B ops σ.next fr ⟨σ.next+ops.length,σ.obj⟩ (fun fr' σ'=>Q .normal (fr'.keep keep) σ')
 | .oreg _ ops keep,fr,σ,Q=>an3 P E (fi9 σ.next ops) [] fr { σ with next:=σ.next+ops.length } (fun fr' σ'=>Q .normal (fr'.keep keep) σ')
 | .seq a b,fr,σ,Q=>wpT pt ct P E N n0 a fr σ (fun e fr' σ'=>match e with|.normal=>wpT pt ct P E N n0 b fr' σ' Q|e=>Q e fr' σ')
 | .cond x a b,fr,σ,Q=>gk9 (x.ev E fr) fun t=>if t=true then wpT pt ct P E N n0 a fr σ Q else wpT pt ct P E N n0 b fr σ Q
 | .block id a,fr,σ,Q=>wpT pt ct P E N n0 a fr σ (ba6 id Q)
 | .loop a,fr,σ,Q=>RI P E N n0 (.loop a) fr σ Q
 | .exit id,fr,σ,Q=>Q (.exit id) fr σ
 | .ret,fr,σ,Q=>Q .ret fr σ
 | .rfunc g ps y a,fr,σ,Q=>RI P E N n0 (.rfunc g ps y a) fr σ Q
 | .scope a,fr,σ,Q=>wpT pt ct P E N n0 a fr σ (ds5 Q)
theorem ay9:∀ (ic:IC) (fr:Frm) (σ:Store) (Q Q':Exit→Frm→Store→Prop),(∀ e f s,Q e f s→Q' e f s)→wpI P E N n0 ic fr σ Q→wpI P E N n0 ic fr σ Q':=by
 have hrops:∀ (ops:List ac6) (id:Nat) (fr:Frm) (σ:Store) (K K':Frm→Store→Prop),(∀ f s,K f s→K' f s)→bg9 P E ops id fr σ K→bg9 P E ops id fr σ K':=by
  intro ops
  induction ops with
  | nil=>intro id fr σ K K' hk h; exact hk _ _ h
  | cons o os ih=>
   intro id fr σ K K' hk h;simp only[bg9] at h ⊢;obtain ⟨act,ha,h⟩:=h;refine ⟨act,ha,?_⟩
   cases act with
   | true=>
    rw[if_pos rfl] at h ⊢
    exact ai1 (fun v s k=>ih _ _ _ _ _ hk k) h
   | false=>
    rw[if_neg (by simp)] at h ⊢;exact ih _ _ _ _ _ hk h
 have htree:∀ (its:List Item) (B:Bool) (fr:Frm) (σ:Store) (K K':Frm→Store→Prop),(∀ f s,K f s→K' f s)→bg8 P E B its fr σ K→bg8 P E B its fr σ K':=by
  intro its
  induction its with
  | nil=>intro B fr σ K K' hk h; exact hk _ _ h
  | cons it its ih=>
   intro B fr σ K K' hk h;obtain ⟨i,o,id⟩:=it;obtain ⟨act,ha,hh⟩:=h;refine ⟨act,ha,?_⟩
   cases act with
   | true=>exact ⟨ai1 (fun v s k=>ih _ _ _ _ _ hk k) hh.1,hh.2⟩
   | false=>exact ih _ _ _ _ _ hk hh
 intro ic
 induction ic with
 | skip=>intro fr σ Q Q' hq h; exact hq _ _ _ h
 | reg id ops keep=>intro fr σ Q Q' hq h; exact hrops _ _ _ _ _ _ (fun f s k=>hq _ _ _ k) h
 | dreg id ops B keep=>intro fr σ Q Q' hq h; exact htree _ _ _ _ _ _ (fun f s k=>hq _ _ _ k) h
 | oreg id ops keep=>intro fr σ Q Q' hq h; exact ea9 _ _ _ _ (fun f s k=>hq _ _ _ k) h
 | seq x y ihx ihy=>
  intro fr σ Q Q' hq h;refine ihx _ _ _ _ ?_ h;intro e f s k
  cases e with
  | normal=>exact ihy _ _ _ _ hq k
  | _=>exact hq _ _ _ k
 | cond x a b iha ihb=>
  intro fr σ Q Q' hq h;obtain ⟨t,ht,h⟩:=h;refine ⟨t,ht,?_⟩
  cases t with
  | true=>exact iha _ _ _ _ hq h
  | false=>exact ihb _ _ _ _ hq h
 | block id x ih=>
  intro fr σ Q Q' hq h;refine ih _ _ _ _ ?_ h;intro e f s k
  cases e with
  | exit i=>simp only[ba6] at k ⊢; split<;>rename_i hi<;>simp only[hi,if_true,if_false] at k<;>exact hq _ _ _ k
  | _=>exact hq _ _ _ k
 | scope x ih=>
  intro fr σ Q Q' hq h;refine ih _ _ _ _ ?_ h;intro e f s k
  cases e with
  | goto l=>exact k
  | _=>exact hq _ _ _ k
 | loop x ih=>intro fr σ Q Q' hq h; exact al9 h hq
 | exit id=>intro fr σ Q Q' hq h; exact hq _ _ _ h
 | rfunc g ps y x ihy ih=>intro fr σ Q Q' hq h; exact al9 h hq
 | ret=>intro fr σ Q Q' hq h; exact hq _ _ _ h
theorem ap9 {pt:PT}{ct:CT}(hT:TOK P E pt ct):∀ (ic:IC) (fr:Frm) (σ:Store) (Q:Exit→Frm→Store→Prop),wpT pt ct P E N n0 ic fr σ Q→wpI P E N n0 ic fr σ Q:=by
 intro ic
 induction ic with
 | skip=>intro fr σ Q h; exact h
 | reg id ops keep=>intro fr σ Q h; exact dn6 hT _ _ _ _ _ h
 | dreg id ops B keep=>intro fr σ Q h; exact dn7 hT _ 0 _ _ _ h
 | oreg id ops keep=>intro fr σ Q h; exact h
 | seq x y ihx ihy=>
  intro fr σ Q h;have h1:=ihx _ _ _ (show wpT pt ct P E N n0 x fr σ _ from h);refine ay9 x fr σ _ (fun e fr' σ'=>match e with|.normal=>wpI P E N n0 y fr' σ' Q|e=>Q e fr' σ') ?_ h1;intro e f s k
  cases e with
  | normal=>exact ihy _ _ _ k
  | _=>exact k
 | cond x a b iha ihb=>
  intro fr σ Q h;obtain ⟨t,ht,h⟩:=ec5 h;refine ⟨t,ht,?_⟩
  cases t with
  | true=>exact iha _ _ _ h
  | false=>exact ihb _ _ _ h
 | block id x ih=>intro fr σ Q h; exact ih _ _ _ h
 | scope x ih=>intro fr σ Q h; exact ih _ _ _ h
 | loop x ih=>intro fr σ Q h; exact h
 | exit id=>intro fr σ Q h; exact h
 | ret=>intro fr σ Q h; exact h
 | rfunc g ps y x ihy ih=>intro fr σ Q h; exact h
def fb4 (irs:List IR)(Qc:IV→Store→Prop):Exit→Frm→Store→Prop
 | .normal,fr,σ|.ret,fr,σ=>bq7 (irL σ fr irs) fun vs=>Qc (cv7 vs) σ
 | _,_,_=>False
theorem cj8 {irs:List IR}{Qc:IV→Store→Prop}{e:Exit}(h:fb4 irs Qc e fr σ):ib9 irs Qc e fr σ:=by
 cases e<;>first|exact aj2 h|exact h
theorem C_T {pt:PT}{ct:CT}(hT:TOK P E pt ct){f:Nat}{an:Ann}{ic:IC}{irs:List IR}{args:List IV}{Qc:IV→Store→Prop}(hf:fb3 P f N pf an ic irs)(hl:args.length≤N)
  (h:wpT pt ct P E N σ.next ic (au2 args 0) σ (fb4 irs Qc)):C P E f args σ Qc :=
 io3 hf hl (ay9 _ _ _ _ _ (fun _ _ _ k=>cj8 k) (ap9 hT _ _ _ _ h))
theorem io4 {pt:PT}{ct:CT}(hT:TOK P E pt ct){f:Nat}{an:Ann}{ic:IC}{irs:List IR}{args:List IV}{v:IV}(hf:fb3 P f N pf an ic irs)(hl:args.length≤N)
  (h:∀ σ,wpT pt ct P E N σ.next ic (au2 args 0) σ (fb4 irs fun v' σ'=>v'=v∧σ'=σ)):PC P E f args v :=
 fun σ=>C_T hT hf hl (h σ)
theorem gb5 {pt:PT}{ct:CT}(hT:TOK P E pt ct){x:IC}{Q:Exit→Frm→Store→Prop}(I:Nat→Frm→Store→Prop)(m:Nat)(h:I m fr σ)(hI:∀ m fr σ,I m fr σ→wpT pt ct P E N n0 x fr σ (dl3 I m Q)):RI P E N n0 (.loop x) fr σ Q :=
 et9 I m h fun m fr σ hi=>ap9 hT _ _ _ _ (hI m fr σ hi)
theorem nr {α:Sort u}{a b:α}(h:a=b):a=b:=h
/-! ### The rewriting: no continuation that is a 'fun' stands in a goal -/
def gl1 (o:Option IV)(σ:Store)(K:IV→Store→Prop):Prop:=bq7 o fun v=>K v σ
def hc9 (o:Option Store)(K:IV→Store→Prop):Prop:=bq7 o fun s=>K .undef s
def hd8 (o:Option (IV×Store))(K:IV→Store→Prop):Prop:=bq7 o fun r=>K r.1 r.2
def gb6 (v:IV)(σ:Store):IV→Store→Prop:=fun v' σ'=>v'=v∧σ'=σ
def ii7 (o:Option (List IV))(id n esz:Nat)(σ:Store)(K:IV→Store→Prop):Prop:=bq7 o fun out=>K (.slice id 0 n esz) (σ.put id (.row out))
def fb5 (ct:CT)(P:Program)(E:Nat→IV)(x:IV)(args:List IV)(σ:Store)(K:IV→Store→Prop):Prop:=match x with
 | .func (.func f) first cap=>ch2 P E (ct f (first++args++cap) σ) f (first++args++cap) σ K
 | .yield i=>∃ Q,CV P E (.yield i) args σ Q∧∀ v σ',Q v σ'→σ.next≤σ'.next∧K v σ'
 | _=>False
def fr7 (pt:PT)(ct:CT)(P:Program)(E:Nat→IV)(rest:List ac6)(id:Nat)(d:Option Nat)(fr:Frm)(K:Frm→Store→Prop):IV→Store→Prop:=fun v σ'=>bm7 pt ct P E rest id (fr.ah5 d v) σ' K
def dn8 (pt:PT)(ct:CT)(P:Program)(E:Nat→IV)(B:Bool)(rest:List ac6)(id:Nat)(d:Option Nat)(fr:Frm)(K:Frm→Store→Prop):IV→Store→Prop:=fun v σ'=>ba9 pt ct P E B rest id (fr.ah5 d v) σ' K
def fb6 (ks:List Nat)(Q:Exit→Frm→Store→Prop):Frm→Store→Prop:=fun fr σ=>Q .normal (fr.keep ks) σ
def gq8 (pt:PT)(ct:CT)(P:Program)(E:Nat→IV)(v:IV)(want:Bool)(op:IK)(id:Nat)(fr:Frm)(σ:Store)(K:IV→Store→Prop):Prop:=fj1 v want (opT pt ct P E op id fr σ K) (K skV σ)
def eo6 (pt:PT)(ct:CT)(P:Program)(E:Nat→IV)(B:Bool)(v:IV)(want:Bool)(op:IK)(id:Nat)(fr:Frm)(σ:Store)(K:IV→Store→Prop):Prop:=fj1 v want ((B=true→bk1 E fr σ op)∧opT pt ct P E op id fr σ K) (K skV σ)
def gl2 (pt:PT)(ct:CT)(P:Program)(E:Nat→IV)(N n0:Nat)(v:IV)(a b:IC)(fr:Frm)(σ:Store)(Q:Exit→Frm→Store→Prop):Prop:=gk9 v fun t=>if t=true then wpT pt ct P E N n0 a fr σ Q else wpT pt ct P E N n0 b fr σ Q
def hn5 (pt:PT)(ct:CT)(P:Program)(E:Nat→IV)(N n0:Nat)(b:IC)(Q:Exit→Frm→Store→Prop):Exit→Frm→Store→Prop:=fun e fr' σ'=>match e with
 | .normal=>wpT pt ct P E N n0 b fr' σ' Q
 | e=>Q e fr' σ'
variable {pt:PT} {ct:CT} {id want:Nat} {K:IV→Store→Prop} {Kf:Frm→Store→Prop} {Q:Exit→Frm→Store→Prop} {v:IV} {c:Prop} [Decidable c]
theorem cj9 {α:Type}(v:α)(K:α→Prop):bq7 (some v) K=K v:=nr rfl
theorem ck3 (v:IV):gl1 (some v) σ K=K v σ:=nr rfl
theorem bq8 (v:IV):gl1 (if c then some v else none) σ K=(c∧K v σ):=by by_cases h:c<;>simp[h,gl1,bq7]
theorem bc8 (v:IV):gl1 (if c then none else some v) σ K=(¬ c∧K v σ):=by by_cases h:c<;>simp[h,gl1,bq7]
theorem ck4:hc9 (some σ) K=K .undef σ:=nr rfl
theorem bq9:hc9 (if c then some σ else none) K=(c∧K .undef σ):=by by_cases h:c<;>simp[h,hc9,bq7]
theorem ck5 (v:IV):hd8 (some (v,σ)) K=K v σ:=nr rfl
theorem br1 (v:IV):hd8 (if c then some (v,σ) else none) K=(c∧K v σ):=by by_cases h:c<;>simp[h,hd8,bq7]
theorem ec6 {f:Nat}{args:List IV}(v:IV):ch2 P E (some (gb6 v σ')) f args σ K=(σ.next≤σ'.next∧K v σ'):=propext ⟨fun h=>h v σ' ⟨rfl,rfl⟩,fun h v' s' ⟨e1,e2⟩=>by subst e1; subst e2; exact h⟩
theorem gq9 {f:Nat}{args:List IV}(v:IV):fr6 P E (some v) f args σ K=K v σ:=nr rfl
theorem af2 {f:Nat}{args:List IV}{v:IV}(h:PC P E f args v)(hk:K v σ):fr6 P E none f args σ K:=⟨v,h,hk⟩
theorem av4 {f:Nat}{args:List IV}{Qc:IV→Store→Prop}(ho:okF P f=true)(h:C P E f args σ Qc)(hk:∀ v s,Qc v s→σ.next≤s.next∧K v s):ch2 P E none f args σ K:=⟨Qc,⟨ho,h⟩,hk⟩
theorem ck6 {n esz:Nat}(out:List IV):ii7 (some out) id n esz σ K=K (.slice id 0 n esz) (σ.put id (.row out)):=nr rfl
theorem br2 (f:Nat)(first cap args:List IV):fb5 ct P E (.func (.func f) first cap) args σ K=ch2 P E (ct f (first++args++cap) σ) f (first++args++cap) σ K:=nr rfl
theorem ck7 {rest:List ac6}{d:Nat}(v:IV):fr7 pt ct P E rest id (some d) fr Kf v σ=bm7 pt ct P E rest id ((d,v)::fr) σ Kf:=nr rfl
theorem br3 {rest:List ac6}(v:IV):fr7 pt ct P E rest id none fr Kf v σ=bm7 pt ct P E rest id fr σ Kf:=nr rfl
theorem br4 {B:Bool}{rest:List ac6}{d:Nat}(v:IV):dn8 pt ct P E B rest id (some d) fr Kf v σ=ba9 pt ct P E B rest id ((d,v)::fr) σ Kf:=nr rfl
theorem bc9 {B:Bool}{rest:List ac6}(v:IV):dn8 pt ct P E B rest id none fr Kf v σ=ba9 pt ct P E B rest id fr σ Kf:=nr rfl
theorem ck8 {ks:List Nat}:fb6 ks Q fr σ=Q .normal (fr.keep ks) σ:=nr rfl
theorem w_q {q:IQ}:opT pt ct P E (.q q) id fr σ K=gl1 (evq E fr σ q) σ K:=nr rfl
theorem br5 {z:List IV}:opT pt ct P E (.alloc z) id fr σ K=K (.ptr id 0) (σ.put id (.cells z)):=nr rfl
theorem ec7 {x:IX}:opT pt ct P E (.box x) id fr σ K=((x.ev E fr).cs.all IV.leaf=true∧K (.ptr id 0) (σ.put id (.cells (x.ev E fr).cs))):=nr rfl
theorem ec8 {esz n:Nat}{z:List IV}{ps:List (Nat×Nat×IX)}:opT pt ct P E (.bsl esz n z ps) id fr σ K=ii7 (ak7 (rep z n) (ps.map fun p=>(p.1,p.2.1,p.2.2.ev E fr))) id n esz σ K:=nr rfl
theorem br6 {sz:Nat}{x y:IX}:opT pt ct P E (.store sz x y) id fr σ K=hc9 (aj3 σ sz (x.ev E fr) (y.ev E fr)) K:=nr rfl
def ii8 (v:IV)(id:Nat)(σ:Store)(K:IV→Store→Prop):Prop:=match v with
 | .str s=>K (.ptr id 0) (σ.put id (.ap5 s 0))
 | _=>False
theorem ck9 {s:List UInt8}:ii8 (.str s) id σ K=K (.ptr id 0) (σ.put id (.ap5 s 0)):=nr rfl
theorem bd1 {x:IX}:opT pt ct P E (.av1 x) id fr σ K=ii8 (x.ev E fr) id σ K:=nr rfl
theorem br7 {x:IX}:opT pt ct P E (.bq6 x) id fr σ K=hd8 (az7 σ (x.ev E fr)) K:=nr rfl
theorem br8:opT pt ct P E .bm5 id fr σ K=K (.map id) (σ.put id (.map [])):=nr rfl
theorem cl1 {tag:Nat}{x k y:IX}:opT pt ct P E (.de4 tag x k y) id fr σ K=hc9 (ao2 σ tag (x.ev E fr) (k.ev E fr) (y.ev E fr)) K:=nr rfl
theorem ec9 {esz:Nat}{s x:IX}:opT pt ct P E (.app esz s x) id fr σ K=hd8 (aw1 σ id esz (s.ev E fr) (x.ev E fr)) K:=nr rfl
theorem cl2 {f:Nat}{args:List IX}:opT pt ct P E (.call f args) id fr σ K=ch2 P E (ct f (args.map (·.ev E fr)) σ) f (args.map (·.ev E fr)) σ K:=nr rfl
theorem br9 {f:Nat}{args:List IX}:opT pt ct P E (.aj4 f args) id fr σ K=fr6 P E (pt f (args.map (·.ev E fr))) f (args.map (·.ev E fr)) σ K:=nr rfl
theorem bd2 {x:IX}{args:List IX}:opT pt ct P E (.an7 x args) id fr σ K=fb5 ct P E (x.ev E fr) (args.map (·.ev E fr)) σ K:=nr rfl
theorem ed1:bm7 pt ct P E [] id fr σ Kf=Kf fr σ:=nr rfl
theorem cl3 {d:Option Nat}{op:IK}{rest:List ac6}:bm7 pt ct P E (⟨d,none,op⟩::rest) id fr σ Kf=opT pt ct P E op id fr σ (fr7 pt ct P E rest (if op.lays then id+1 else id) d fr Kf):=nr rfl
theorem ed2 {d:Option Nat}{op:IK}{rest:List ac6}{s:Nat}{want:Bool}:bm7 pt ct P E (⟨d,some (s,want),op⟩::rest) id fr σ Kf=gq8 pt ct P E (fr.get s) want op id fr σ (fr7 pt ct P E rest (if op.lays then id+1 else id) d fr Kf):=nr rfl
theorem cl4 {B:Bool}:ba9 pt ct P E B [] id fr σ Kf=Kf fr σ:=nr rfl
theorem bs1 {d:Option Nat}{op:IK}{rest:List ac6}:ba9 pt ct P E false (⟨d,none,op⟩::rest) id fr σ Kf=opT pt ct P E op id fr σ (dn8 pt ct P E false rest (id+1) d fr Kf):=by
 have:ba9 pt ct P E false (⟨d,none,op⟩::rest) id fr σ Kf=((false=true→bk1 E fr σ op)∧opT pt ct P E op id fr σ (dn8 pt ct P E false rest (id+1) d fr Kf)):=nr rfl;rw[this]; simp
theorem bs2 {d:Option Nat}{op:IK}{rest:List ac6}:ba9 pt ct P E true (⟨d,none,op⟩::rest) id fr σ Kf=(bk1 E fr σ op∧opT pt ct P E op id fr σ (dn8 pt ct P E true rest (id+1) d fr Kf)):=by
 have:ba9 pt ct P E true (⟨d,none,op⟩::rest) id fr σ Kf=((true=true→bk1 E fr σ op)∧opT pt ct P E op id fr σ (dn8 pt ct P E true rest (id+1) d fr Kf)):=nr rfl;rw[this]; simp
theorem cl5 {B:Bool}{d:Option Nat}{op:IK}{rest:List ac6}{s:Nat}{want:Bool}:ba9 pt ct P E B (⟨d,some (s,want),op⟩::rest) id fr σ Kf=eo6 pt ct P E B (fr.get s) want op id fr σ (dn8 pt ct P E B rest (id+1) d fr Kf):=nr rfl
theorem ed3 {op:IK}:gq8 pt ct P E (.bool true) true op id fr σ K=opT pt ct P E op id fr σ K:=nr rfl
theorem ed4 {op:IK}:gq8 pt ct P E (.bool false) false op id fr σ K=opT pt ct P E op id fr σ K:=nr rfl
theorem ed5 {op:IK}:gq8 pt ct P E (.bool true) false op id fr σ K=K skV σ:=nr rfl
theorem ed6 {op:IK}:gq8 pt ct P E (.bool false) true op id fr σ K=K skV σ:=nr rfl
theorem ed7 {op:IK}:eo6 pt ct P E false (.bool true) true op id fr σ K=opT pt ct P E op id fr σ K:=by simp[eo6,fj1,eo5]
theorem ed8 {op:IK}:eo6 pt ct P E false (.bool false) false op id fr σ K=opT pt ct P E op id fr σ K:=by simp[eo6,fj1,eo5]
theorem ed9 {B:Bool}{op:IK}:eo6 pt ct P E B (.bool true) false op id fr σ K=K skV σ:=nr rfl
theorem ee1 {B:Bool}{op:IK}:eo6 pt ct P E B (.bool false) true op id fr σ K=K skV σ:=nr rfl
theorem ee2 {op:IK}:eo6 pt ct P E true (.bool true) true op id fr σ K=(bk1 E fr σ op∧opT pt ct P E op id fr σ K):=by simp[eo6,fj1,eo5]
theorem ee3 {op:IK}:eo6 pt ct P E true (.bool false) false op id fr σ K=(bk1 E fr σ op∧opT pt ct P E op id fr σ K):=by simp[eo6,fj1,eo5]
theorem gr1 {op:IK}{want:Bool}:gq8 pt ct P E skV want op id fr σ K=K skV σ:=nr rfl
theorem gr2 {B want:Bool}{op:IK}:eo6 pt ct P E B skV want op id fr σ K=K skV σ:=nr rfl
theorem cl6:wpT pt ct P E N n0 .skip fr σ Q=Q .normal fr σ:=nr rfl
theorem ee4 {i:Nat}{ops:List ac6}{ks:List Nat}:wpT pt ct P E N n0 (.reg i ops ks) fr σ Q=bm7 pt ct P E ops σ.next fr ⟨σ.next+ax1 ops,σ.obj⟩ (fb6 ks Q):=nr rfl
theorem cl7 {i:Nat}{ops:List ac6}{B:Bool}{ks:List Nat}:wpT pt ct P E N n0 (.dreg i ops B ks) fr σ Q=ba9 pt ct P E B ops σ.next fr ⟨σ.next+ops.length,σ.obj⟩ (fb6 ks Q):=nr rfl
theorem ee5 {x y:IC}:wpT pt ct P E N n0 (.seq x y) fr σ Q=wpT pt ct P E N n0 x fr σ (hn5 pt ct P E N n0 y Q):=nr rfl
theorem cl8 {i:IX}{x y:IC}:wpT pt ct P E N n0 (.cond i x y) fr σ Q=gl2 pt ct P E N n0 (i.ev E fr) x y fr σ Q:=nr rfl
theorem bs3 {i:Nat}{x:IC}:wpT pt ct P E N n0 (.block i x) fr σ Q=wpT pt ct P E N n0 x fr σ (ba6 i Q):=nr rfl
theorem cl9 {x:IC}:wpT pt ct P E N n0 (.loop x) fr σ Q=RI P E N n0 (.loop x) fr σ Q:=nr rfl
theorem bs4 {g:IX}{ps:List Nat}{x y:IC}:wpT pt ct P E N n0 (.rfunc g ps y x) fr σ Q=RI P E N n0 (.rfunc g ps y x) fr σ Q:=nr rfl
def fb7 (v:IV)(id:Nat)(σ:Store)(K:IV→Store→Prop):Prop:=match v with
 | .al5 es=>K (.ptr id 0) (σ.put id (.ai8 es none))
 | _=>False
def gb7 (o:Option (Nat×List (IV×IV)))(σ:Store)(K:IV→Store→Prop):Prop:=bq7 o fun r=>(r.2=[]→K (.tuple [.bool false]) σ) ∧
   ∀ j,j<r.2.length→K (.tuple [.bool true,(r.2.getD j (.undef,.undef)).1,(r.2.getD j (.undef,.undef)).2]) (σ.put r.1 (.ai8 (r.2.eraseIdx j) (some (r.2.getD j (.undef,.undef)))))
theorem bd3 {x:IX}:opT pt ct P E (.aq9 x) id fr σ K=fb7 (x.ev E fr) id σ K:=nr rfl
theorem ax3 {es:List (IV×IV)}:fb7 (.al5 es) id σ K=K (.ptr id 0) (σ.put id (.ai8 es none)):=nr rfl
theorem bs5 {x:IX}:opT pt ct P E (.bj2 x) id fr σ K=gb7 (aq8 σ (x.ev E fr)) σ K:=nr rfl
theorem bd4 {i:Nat}{l:List (IV×IV)}:gb7 (some (i,l)) σ K=((l=[]→K (.tuple [.bool false]) σ) ∧
   ∀ j,j<l.length→K (.tuple [.bool true,(l.getD j (.undef,.undef)).1,(l.getD j (.undef,.undef)).2]) (σ.put i (.ai8 (l.eraseIdx j) (some (l.getD j (.undef,.undef)))))):=nr rfl
theorem cm1 {x:IX}:opT pt ct P E (.dn5 x) id fr σ K=gl1 (ba5 σ (x.ev E fr)) σ K:=nr rfl
theorem cm2 {x:IX}:opT pt ct P E (.ar7 x) id fr σ K=((x.ev E fr).cs.all IV.leaf=true∧K (.af4 (x.ev E fr).cs) σ):=nr rfl
def hd9 (o:Option (List IV))(esz n:Nat)(σ:Store)(K:IV→Store→Prop):Prop:=bq7 o fun out=>K (.aa4 (chunk esz n out)) σ
theorem cm3 {esz n:Nat}{z:List IV}{ps:List (Nat×Nat×IX)}:opT pt ct P E (.av2 esz n z ps) id fr σ K=hd9 (ak7 (rep z n) (ps.map fun p=>(p.1,p.2.1,p.2.2.ev E fr))) esz n σ K:=nr rfl
theorem bs6 {esz n:Nat}{out:List IV}:hd9 (some out) esz n σ K=K (.aa4 (chunk esz n out)) σ:=nr rfl
theorem cm4 {i:Nat}:wpT pt ct P E N n0 (.exit i) fr σ Q=Q (.exit i) fr σ:=nr rfl
theorem ee6:wpT pt ct P E N n0 .ret fr σ Q=Q .ret fr σ:=nr rfl
theorem gr3 {x y:IC}:gl2 pt ct P E N n0 (.bool true) x y fr σ Q=wpT pt ct P E N n0 x fr σ Q:=nr rfl
theorem gr4 {x y:IC}:gl2 pt ct P E N n0 (.bool false) x y fr σ Q=wpT pt ct P E N n0 y fr σ Q:=nr rfl
theorem ee7 {y:IC}:hn5 pt ct P E N n0 y Q .normal fr σ=wpT pt ct P E N n0 y fr σ Q:=nr rfl
theorem ee8 {y:IC}{i:Nat}:hn5 pt ct P E N n0 y Q (.exit i) fr σ=Q (.exit i) fr σ:=nr rfl
theorem ee9 {y:IC}:hn5 pt ct P E N n0 y Q .ret fr σ=Q .ret fr σ:=nr rfl
theorem ef1 {i:Nat}:ba6 i Q .normal fr σ=Q .normal fr σ:=nr rfl
theorem ef2 {i:Nat}:ba6 i Q .ret fr σ=Q .ret fr σ:=nr rfl
theorem ef3 {i j:Nat}:ba6 i Q (.exit j) fr σ=if j=i then Q .normal fr σ else Q (.exit j) fr σ:=nr rfl
theorem ef4 {I:Nat→Frm→Store→Prop}{m:Nat}:dl3 I m Q .normal fr σ=∃ m',m'<m∧I m' fr σ:=nr rfl
theorem ef5 {I:Nat→Frm→Store→Prop}{m i:Nat}:dl3 I m Q (.exit i) fr σ=Q (.exit i) fr σ:=nr rfl
theorem ef6 {I:Nat→Frm→Store→Prop}{m:Nat}:dl3 I m Q .ret fr σ=Q .ret fr σ:=nr rfl
theorem ef7 {irs:List IR}{Qc:IV→Store→Prop}:fb4 irs Qc .ret fr σ=bq7 (irL σ fr irs) fun vs=>Qc (cv7 vs) σ:=nr rfl
theorem cm5 {irs:List IR}{Qc:IV→Store→Prop}:fb4 irs Qc .normal fr σ=bq7 (irL σ fr irs) fun vs=>Qc (cv7 vs) σ:=nr rfl
end Go.Id
/- What the walk of a compiled code is rewritten by: the operations. Conditions: none; over any program. -/
namespace Go.Id
open Go
variable {P:Program} {E:Nat→IV} {σ σ':Store} {fr:Frm} {x y z:IX} {k k':IntKind} {a b:Int} {s t:List UInt8} {n m off esz len:Nat} {v u:IV}
theorem ac4 {i:Nat}{o:ah2}:(σ.put i o).next=σ.next:=nr rfl
theorem aa2 {i j:Nat}{o:ah2}:(σ.put i o).obj j=if j=i then some o else σ.obj j:=nr rfl
theorem e_t:(IX.t n).ev E fr=fr.get n:=nr rfl
theorem e_c:(IX.c v).ev E fr=v:=nr rfl
theorem e_g:(IX.g n).ev E fr=E n:=nr rfl
theorem e_f:(IX.f n).ev E fr=.func (.func n) [] []:=nr rfl
theorem ef8:evq E fr σ (.mov x)=some (x.ev E fr):=nr rfl
theorem cm6:evq E fr σ (.pick x y z)=db7 (x.ev E fr) (y.ev E fr) (z.ev E fr):=nr rfl
theorem ef9:evq E fr σ (.not x)=gq1 (x.ev E fr):=nr rfl
theorem eg1:evq E fr σ (.neg x)=gq2 (x.ev E fr):=nr rfl
theorem eg2 {op:BinOp}:evq E fr σ (.bin op x y)=aq7 op (x.ev E fr) (y.ev E fr):=nr rfl
theorem ae8 {d:TypeDesc}{g:Bool}:evq E fr σ (.bg7 d g x)=(bk5 d (x.ev E fr)).map fun b=>.bool (b ^^ g):=nr rfl
theorem eg3 {tags:List Nat}{g h:Bool}:evq E fr σ (.eqs tags g h x y)=fy1 tags g h (x.ev E fr) (y.ev E fr):=nr rfl
theorem cm7:evq E fr σ (.conv k x)=dy5 k (x.ev E fr):=nr rfl
theorem bs7:evq E fr σ (.fl1 x)=ci3 (x.ev E fr):=nr rfl
theorem eg4:evq E fr σ (.len n x)=bh7 n σ (x.ev E fr):=nr rfl
theorem bs8:evq E fr σ (.aa9 off x)=by9 off (x.ev E fr):=nr rfl
theorem eg5 {ag:Option Nat}:evq E fr σ (.fld ag off x)=ge2 ag off (x.ev E fr):=nr rfl
theorem bs9:evq E fr σ (.ab5 esz x y)=al6 esz (x.ev E fr) (y.ev E fr):=nr rfl
theorem bt1:evq E fr σ (.dz5 n esz x y)=cc1 n esz (x.ev E fr) (y.ev E fr):=nr rfl
theorem eg6 {ag:Option Nat}:evq E fr σ (.idx ag n esz x y)=fx6 ag n esz (x.ev E fr) (y.ev E fr):=nr rfl
theorem cm8:evq E fr σ (.fy2 x y)=da5 (x.ev E fr) (y.ev E fr):=nr rfl
theorem eg7 {lo hi:Option IX}:evq E fr σ (.slc esz x lo hi)=dj4 esz (lo.map (·.ev E fr)) (hi.map (·.ev E fr)) (x.ev E fr):=nr rfl
theorem cm9 {lo hi:Option IX}:evq E fr σ (.gq5 x lo hi)=dj3 (lo.map (·.ev E fr)) (hi.map (·.ev E fr)) (x.ev E fr):=nr rfl
theorem eg8:evq E fr σ (.slz x)=ep6 (x.ev E fr):=nr rfl
theorem eg9:evq E fr σ (.ext n x)=fx7 n (x.ev E fr):=nr rfl
theorem eh1 {fs cs:List IX}:evq E fr σ (.mkf n fs cs)=some (.func (.func n) (fs.map (·.ev E fr)) (cs.map (·.ev E fr))):=nr rfl
theorem eh2 {zs:List IV}{ps:List (Nat×Nat×IX)}:evq E fr σ (.bld zs ps)=(ak7 zs (ps.map fun p=>(p.1,p.2.1,p.2.2.ev E fr))).map .agg:=nr rfl
theorem cn1 {ag:Option Nat}:evq E fr σ (.load ag x)=am9 σ ag (x.ev E fr):=nr rfl
theorem cn2:evq E fr σ (.au1 x)=ct5 (x.ev E fr):=nr rfl
theorem gb8 {mx:Bool}:evq E fr σ (.mm mx x y)=mmI mx (x.ev E fr) (y.ev E fr):=nr rfl
theorem de7:mmI true (.int k a) (.int k' b)=some (.int k (if b>a then b else a)):=by simp[mmI]
theorem dn9:mmI false (.int k a) (.int k' b)=some (.int k (if b<a then b else a)):=by simp[mmI]
theorem do1 {zero:IV}{ok:Bool}:evq E fr σ (.lkp n zero ok x y)=ct7 σ n zero ok (x.ev E fr) (y.ev E fr):=nr rfl
theorem bt2:Frm.keep fr []=[]:=nr rfl
theorem bt3 {ks:List Nat}:Frm.keep fr (n::ks)=(n,fr.get n)::Frm.keep fr ks:=nr rfl
theorem cn3:au2 [] n=[]:=nr rfl
theorem cn4 {vs:List IV}:au2 (v::vs) n=(n,v)::au2 vs (n+1):=nr rfl
theorem bt4:ax1 []=0:=nr rfl
theorem bt5 {d:Option Nat}{g:Option (Nat×Bool)}{op:IK}{os:List ac6}:ax1 (⟨d,g,op⟩::os)=(if op.lays=true then 1 else 0)+ax1 os:=nr (bq4 _ _)
theorem gr5 {q:IQ}:(IK.q q).lays=false:=nr rfl
theorem bd5 {zs:List IV}:(IK.alloc zs).lays=true:=nr rfl
theorem cn5:(IK.box x).lays=true:=nr rfl
theorem cn6 {zs:List IV}{ps:List (Nat×Nat×IX)}:(IK.bsl esz n zs ps).lays=true:=nr rfl
theorem cn7:(IK.app esz x y).lays=true:=nr rfl
theorem bd6:IK.bm5.lays=true:=nr rfl
theorem bt6:(IK.de4 n x y z).lays=false:=nr rfl
theorem ax4:(IK.av1 x).lays=true:=nr rfl
theorem bd7:(IK.bq6 x).lays=false:=nr rfl
theorem ax5:(IK.aq9 x).lays=true:=nr rfl
theorem bt7 {zs:List IV}:(IK.cj5 esz zs x).lays=true:=nr rfl
theorem cn8 {zs:List IV}:(IK.clr esz zs x).lays=false:=nr rfl
theorem bt8:(IK.dn5 x).lays=false:=nr rfl
theorem bd8:(IK.bj2 x).lays=false:=nr rfl
theorem bt9:(IK.ar7 x).lays=false:=nr rfl
theorem bu1 {zs:List IV}{ps:List (Nat×Nat×IX)}:(IK.av2 esz n zs ps).lays=false:=nr rfl
theorem ic1:evq E fr σ (.ibs x y)=gq3 (x.ev E fr) (y.ev E fr):=nr rfl
theorem he3:gq3 (.str s) (.int .u8 a)=if 0≤a∧a<256 then some (.int .i64 (di7 a.toNat s 0)) else none:=nr rfl
theorem bd9:(IK.store n x y).lays=false:=nr rfl
theorem bu2 {xs:List IX}:(IK.call n xs).lays=false:=nr rfl
theorem be1 {xs:List IX}:(IK.aj4 n xs).lays=false:=nr rfl
theorem be2 {xs:List IX}:(IK.an7 x xs).lays=false:=nr rfl
theorem cn9 {α β:Type}{f:α→β}:List.map f []=[]:=nr rfl
theorem co1 {α β:Type}{f:α→β}{c:α}{cs:List α}:List.map f (c::cs)=f c::List.map f cs:=nr rfl
theorem do2 {α β:Type}{f:α→β}:Option.map f none=none:=nr rfl
theorem do3 {α β:Type}{f:α→β}{c:α}:Option.map f (some c)=some (f c):=nr rfl
theorem bu3:db7 (.bool true) v u=some v:=nr rfl
theorem bu4:db7 (.bool false) v u=some u:=nr rfl
theorem bu5 {c d:Bool}:db7 (.bool c) (.bool true) (.bool d)=some (.bool (c||d)):=by cases c<;>rfl
theorem bu6 {c d:Bool}:db7 (.bool c) (.bool d) (.bool false)=some (.bool (c&&d)):=by cases c<;>rfl
theorem co2 {c:Bool}:gq1 (.bool c)=some (.bool !c):=nr rfl
theorem co3:gq2 (.int k a)=some (.int k (k.wrap (0-a))):=nr rfl
theorem bu7:dy5 k (.int k' a)=some (.int k (k.wrap a)):=nr rfl
theorem be3:ci3 (.str s)=some (.str s):=nr rfl
theorem eh3:aq7 .add (.int k a) (.int k b)=some (.int k (k.wrap (a+b))):=by simp[aq7,di8]
theorem eh4:aq7 .sub (.int k a) (.int k b)=some (.int k (k.wrap (a-b))):=by simp[aq7,di8]
theorem eh5:aq7 .mul (.int k a) (.int k b)=some (.int k (k.wrap (a*b))):=by simp[aq7,di8]
theorem eh6:aq7 .quo (.int k a) (.int k b)=if b=0 then none else some (.int k (k.wrap (a.tdiv b))):=by simp[aq7,di8]
theorem eh7:aq7 .rem (.int k a) (.int k b)=if b=0 then none else some (.int k (a.tmod b)):=by simp[aq7,di8]
theorem eh8:aq7 .eql (.int k a) (.int k b)=some (.bool (decide (a=b))):=by simp[aq7,di8]
theorem eh9:aq7 .neq (.int k a) (.int k b)=some (.bool (!decide (a=b))):=by simp[aq7,di8]
theorem ei1:aq7 .lss (.int k a) (.int k b)=some (.bool (decide (a<b))):=by simp[aq7,di8]
theorem ei2:aq7 .leq (.int k a) (.int k b)=some (.bool (decide (a≤b))):=by simp[aq7,di8]
theorem ei3:aq7 .gtr (.int k a) (.int k b)=some (.bool (decide (b<a))):=by simp[aq7,di8]
theorem ei4:aq7 .geq (.int k a) (.int k b)=some (.bool (decide (b≤a))):=by simp[aq7,di8]
theorem ei5:aq7 .shl (.int k a) (.int k' b)=if 0≤b then some (.int k (k.wrap (a*2^(min b.toNat k.bits)))) else none:=by simp[aq7]
theorem ei6:aq7 .shr (.int k a) (.int k' b)=if 0≤b then some (.int k (a.fdiv (2^(min b.toNat k.bits)))) else none:=by simp[aq7]
theorem co4:aq7 .add (.str s) (.str t)=if s.length+t.length<2^62 then some (.str (s++t)) else none:=by simp[aq7,fj6]
theorem co5:aq7 .eql (.str s) (.str t)=some (.bool (decide (s=t))):=by simp[aq7,fj6]
theorem co6:aq7 .neq (.str s) (.str t)=some (.bool (!decide (s=t))):=by simp[aq7,fj6]
theorem co7:aq7 .lss (.str s) (.str t)=some (.bool (Op.bytesLess s t)):=by simp[aq7,fj6]
theorem co8:aq7 .leq (.str s) (.str t)=some (.bool (Op.bytesLess s t||decide (s=t))):=by simp[aq7,fj6]
theorem co9:aq7 .gtr (.str s) (.str t)=some (.bool (!(Op.bytesLess s t||decide (s=t)))):=by simp[aq7,fj6]
theorem cp1:aq7 .geq (.str s) (.str t)=some (.bool (!Op.bytesLess s t)):=by simp[aq7,fj6]
theorem cp3 {es:List (List IV)}:bh7 0 σ (.aa4 es)=some (.int .i64 es.length):=nr rfl
theorem cp4:bh7 0 σ .aa1=some (.int .i64 0):=nr rfl
theorem cp5:bh7 0 σ .ab4=some (.int .i64 0):=nr rfl
theorem he4:bh7 0 σ .ad4=some (.int .i64 0):=nr rfl
theorem al8:bh7 0 σ (.slice n off len esz)=some (.int .i64 len):=nr rfl
theorem az1:bh7 1 σ (.str s)=some (.int .i64 s.length):=nr rfl
theorem bu8:ct5 (.ptr n off)=some (.ptr n off):=nr rfl
theorem bu9 {cs:List IV}:ct5 (.af4 cs)=some (.af4 cs):=nr rfl
theorem bv1 {f:FuncId}{p q:List IV}:ct5 (.func (.func f) p q)=some (.func (.func f) p q):=nr rfl
theorem cp6:ep6 .aa1=some .aa1:=nr rfl
theorem cp7:ep6 .ab4=some .ab4:=nr rfl
theorem he5:ep6 .ad4=some .ab4:=nr rfl
theorem cp8 {es:List (List IV)}:ep6 (.aa4 es)=if es=[] then some (.aa4 []) else some .ab4:=nr rfl
theorem cp9:ep6 (.slice n off len esz)=some .ab4:=nr rfl
theorem ei7:irL σ fr []=some []:=nr rfl
theorem ei8:irL σ fr [.t n]=some [fr.get n]:=nr rfl
theorem cq1:irL σ fr [.t n,.t m]=some [fr.get n,fr.get m]:=nr rfl
theorem ei9 {ag:Option Nat}:irL σ fr [.cell ag n]=(am9 σ ag (fr.get n)).map fun v=>[v]:=by
 simp only[irL,irV]; cases am9 σ ag (fr.get n)<;>rfl
theorem bv2:cv7 [v]=v:=nr rfl
theorem bv3:cv7 [v,u]=.tuple [v,u]:=nr rfl
theorem bv4:cv7 []=.tuple []:=nr rfl
/-! ### Memory -/
def do4 (ag:Option Nat)(off:Nat):Option ah2→Option IV
 | some (.cells cs)|some (.row cs)=>match ag with
  | none=>(cs.drop off).head?
  | some n=>if n≤(cs.drop off).length then some (.agg ((cs.drop off).take n)) else none
 | _=>none
theorem bv5 {ag:Option Nat}:am9 σ ag (.ptr n off)=do4 ag off (σ.obj n):=by
 cases h:σ.obj n with
 | none=>simp[am9,ai6,do4,h]
 | some o=>cases o<;>cases ag<;>simp[am9,ai6,do4,h]
theorem bv6 {cs:List IV}:am9 σ none (.af4 cs)=cs.head?:=nr rfl
theorem be4 {cs:List IV}:am9 σ (some n) (.af4 cs)=if n≤cs.length then some (.agg (cs.take n)) else none:=nr rfl
theorem bh3 {cs:List IV}:do4 none off (some (.cells cs))=(cs.drop off).head?:=nr rfl
theorem bm8 {cs:List IV}:do4 (some n) off (some (.cells cs))=if n≤(cs.drop off).length then some (.agg ((cs.drop off).take n)) else none:=nr rfl
theorem ej1 {cs:List IV}:do4 none off (some (.row cs))=(cs.drop off).head?:=nr rfl
theorem bz3 {cs:List IV}:do4 (some n) off (some (.row cs))=if n≤(cs.drop off).length then some (.agg ((cs.drop off).take n)) else none:=nr rfl
def de8 (σ:Store)(id off n:Nat)(vs:List IV):Option ah2→Option Store
 | some (.cells cs)=>if vs.length=n∧off+n≤cs.length∧vs.all IV.leaf=true then some (σ.put id (.cells (ao8 cs off vs))) else none
 | some (.row cs)=>if vs.length=n∧off+n≤cs.length∧vs.all IV.leaf=true then some (σ.put id (.row (ao8 cs off vs))) else none
 | _=>none
theorem be5:aj3 σ n (.ptr m off) v=de8 σ m off n v.cs (σ.obj m):=by
 cases h:σ.obj m with
 | none=>simp[aj3,de8,h]
 | some o=>cases o<;>simp[aj3,de8,h]
theorem ej2 {cs vs:List IV}:de8 σ m off n vs (some (.cells cs))=if vs.length=n∧off+n≤cs.length∧vs.all IV.leaf=true then some (σ.put m (.cells (ao8 cs off vs))) else none:=nr rfl
theorem bz4 {cs vs:List IV}:de8 σ m off n vs (some (.row cs))=if vs.length=n∧off+n≤cs.length∧vs.all IV.leaf=true then some (σ.put m (.row (ao8 cs off vs))) else none:=nr rfl
theorem be6 {es:List (List IV)}:al6 esz (.aa4 es) (.int k a)=if 0≤a∧a<es.length∧(es.getD a.toNat []).length=esz then some (.af4 (es.getD a.toNat [])) else none:=nr rfl
theorem be7:al6 esz (.slice n off len m) (.int k a)=if 0≤a∧a<len∧m=esz then some (.ptr n (off+a.toNat*esz)) else none:=nr rfl
theorem bv7 {cs:List IV}:by9 n (.af4 cs)=some (.af4 (cs.drop n)):=nr rfl
theorem bv8:by9 n (.ptr m off)=some (.ptr m (off+n)):=nr rfl
theorem bv9 {cs:List IV}:IV.cs (.agg cs)=cs:=nr rfl
theorem bw1:IV.cs (.int k a)=[.int k a]:=nr rfl
theorem be8 {c:Bool}:IV.cs (.bool c)=[.bool c]:=nr rfl
theorem bw2:IV.cs (.str s)=[.str s]:=nr rfl
theorem bw3:IV.cs (.ptr n off)=[.ptr n off]:=nr rfl
theorem be9 {cs:List IV}:IV.cs (.af4 cs)=[.af4 cs]:=nr rfl
theorem ax6:IV.cs (.slice n off len esz)=[.slice n off len esz]:=nr rfl
theorem as5 {es:List (List IV)}:IV.cs (.aa4 es)=[.aa4 es]:=nr rfl
theorem bf1 {f:Fn}{p q:List IV}:IV.cs (.func f p q)=[.func f p q]:=nr rfl
theorem bw4:IV.cs (.map n)=[.map n]:=nr rfl
theorem bf2 {es:List (IV×IV)}:IV.cs (.al5 es)=[.al5 es]:=nr rfl
theorem cq2:IV.cs .aa1=[.aa1]:=nr rfl
theorem cq3:IV.cs .ab4=[.ab4]:=nr rfl
theorem he6:IV.cs .ad4=[.ad4]:=nr rfl
theorem cq4:IV.cs .ad3=[.ad3]:=nr rfl
theorem bw5:IV.leaf (.int k a)=true:=nr rfl
theorem bf3 {c:Bool}:IV.leaf (.bool c)=true:=nr rfl
theorem bw6:IV.leaf (.str s)=true:=nr rfl
theorem bw7:IV.leaf (.ptr n off)=true:=nr rfl
theorem bf4 {cs:List IV}:IV.leaf (.af4 cs)=true:=nr rfl
theorem ax7:IV.leaf (.slice n off len esz)=true:=nr rfl
theorem as6 {es:List (List IV)}:IV.leaf (.aa4 es)=true:=nr rfl
theorem bf5 {f:Fn}{p q:List IV}:IV.leaf (.func f p q)=true:=nr rfl
theorem bw8:IV.leaf (.map n)=true:=nr rfl
theorem bf6 {es:List (IV×IV)}:IV.leaf (.al5 es)=true:=nr rfl
theorem cq5:IV.leaf .aa1=true:=nr rfl
theorem cq6:IV.leaf .ab4=true:=nr rfl
theorem he7:IV.leaf .ad4=true:=nr rfl
theorem cq7:IV.leaf .ad3=true:=nr rfl
def du5 (σ:Store)(id:Nat):Option ah2→Option (IV×Store)
 | some (.ap5 s pos)=>if pos<s.length then some (.tuple [.bool true,.int .i64 pos,.int .i32 (Utf8.decode ⟨s.toArray⟩ pos).1],σ.put id (.ap5 s (pos+(Utf8.decode ⟨s.toArray⟩ pos).2))) else some (.tuple [.bool false],σ)
 | _=>none
theorem az2:az7 σ (.ptr n 0)=du5 σ n (σ.obj n):=by
 cases h:σ.obj n with
 | none=>simp[az7,du5,h]
 | some o=>cases o<;>simp[az7,du5,h]
theorem fr8 {pos:Nat}:du5 σ n (some (.ap5 s pos))=if pos<s.length then some (.tuple [.bool true,.int .i64 pos,.int .i32 (Utf8.decode ⟨s.toArray⟩ pos).1],σ.put n (.ap5 s (pos+(Utf8.decode ⟨s.toArray⟩ pos).2))) else some (.tuple [.bool false],σ):=nr rfl
theorem cq8 {cs:List IV}:fx7 n (.tuple cs)=cs[n]?:=by cases h:cs[n]?<;>simp[fx7,h]
theorem ej3:(Store.mk σ.next σ.obj)=σ:=nr rfl
theorem wrap64 {x:Int}(h1:-9223372036854775808≤x)(h2:x<9223372036854775808):IntKind.i64.wrap x=x:=by
 simp[IntKind.wrap,IntKind.bits,IntKind.signed];omega
end Go.Id
/- Memory that is done with becomes a tree: from the contract of a function that lays blocks to a pure one. Conditions: none; over any program. -/
namespace Go.Id
open Go
variable {P:Program} {w w' w'':World} {ρ ρ' ρ'':Rho} {E:Nat→IV} {σ σ':Store} {N n n':Nat}
abbrev Bnd (n:Nat)(v:IV):Prop:=Nm (fun i=>i<n) v
abbrev bm9 (σ:Store)(n:Nat)(v v':IV):Prop:=Frz σ (fun i=>i<n) v v'
def Rho.cut (ρ:Rho)(n:Nat):Rho:=⟨fun i=>if i<n then ρ i else .no,ρ.X⟩
theorem gb9 (ρ:Rho)(n:Nat):bl6 (fun i=>i<n) ρ (ρ.cut n):=
 ⟨fun i h=>by show (if i<n then ρ i else da1.no)=_; rw[if_pos h],fun i h=>by show (if i<n then ρ i else da1.no)=_; rw[if_neg h],fun _ h=>.inl h⟩
theorem ej4 (hf:∀ i,n≤i→ρ i=.no):∀ i,ρ i≠.no→i<n:=fun i h=>by
 rcases Nat.lt_or_ge i n with h'|h'
 ·exact h'
 ·exact absurd (hf i h') h
theorem gl3 {f:Nat}{args:List IV}{v:IV}
  (h:(∀ a∈args,Bnd σ.next a)→C P E f args σ fun v' σ'=>(∀ i,i<σ.next→σ'.obj i=σ.obj i)∧σ.next≤σ'.next∧bm9 σ' σ.next v' v):C P E f args σ (gb6 v σ):=by
 intro ρ w rargs hs ha;have hlv:=ej4 hs.fresh;have hba:∀ a∈args,Bnd σ.next a:=fun a hm=>let ⟨i,hi,he⟩:=ag3 (d:=.undef) hm; he▸(ha.2 i hi).nm hlv
 refine CallsIn.mono (h hba ρ w rargs hs ha) ?_;rintro e w' ⟨v',r,ρ',σ',rfl,⟨hob,hle,hfrz⟩,hs',hv',hx⟩;have hno:∀ i,σ.next≤i→σ.obj i=none:=fun i hi=>hs.ak6 i (hs.fresh i hi)
 have hk:=gb9 ρ' σ.next;refine ⟨v,r,ρ'.cut σ.next,σ,rfl,⟨rfl,rfl⟩,hs'.gs5 hk hob (fun i hi=>hno i (by omega)) (fun i o _ ho=>hs.nmO hlv i o ho) (fun i hi=>hk.off i (by omega)) (fun g=>(hs.env g).nm hlv),hfrz.vr hk rfl hs' r hv',?_⟩;exact ⟨hx.size,hx.keep,hx.shape,fun i B d hi=>hx.img i B d (hk.at hi).2,fun i B d hi h=>by rw[hk.on i hi]; exact hx.at_ i B d hi h,fun i hi h=>by rw[hk.on i hi]; exact hx.dead i hi h,fun i hi h=>by rw[hk.on i hi]; exact hx.no i hi h,hx.output,hx.os,hx.tape,hx.loops,hx.X⟩
theorem gl4 {f:Nat}{args:List IV}{v:IV}(h:PC P E f args v):C P E f args σ (gb6 v σ):=h σ
theorem gc1 {f:Nat}{args:List IV}{v:IV}
  (h:∀ σ,(∀ a∈args,Bnd σ.next a)→C P E f args σ fun v' σ'=>(∀ i,i<σ.next→σ'.obj i=σ.obj i)∧σ.next≤σ'.next∧bm9 σ' σ.next v' v):PC P E f args v :=
 fun σ=>gl3 (h σ)
theorem ic2 {pt:PT}{ct:CT}{pf:List Nat}(hT:TOK P E pt ct){f:Nat}{an:Ann}{ic:IC}{irs:List IR}{args:List IV}{v:IV}(hf:fb3 P f N pf an ic irs)(hl:args.length≤N)
  (h:∀ σ,(∀ a∈args,Bnd σ.next a)→wpT pt ct P E N σ.next ic (au2 args 0) σ (fb4 irs fun v' σ'=>(∀ i,i<σ.next→σ'.obj i=σ.obj i)∧σ.next≤σ'.next∧bm9 σ' σ.next v' v)):PC P E f args v :=
 gc1 fun σ hb=>C_T hT hf hl (h σ hb)
/-! ### A pure function,on what is one's own -/
def IV.plain:IV→Bool
 | .bool _|.int _ _|.str _=>true
 | .tuple vs=>vs.attach.all fun ⟨v,_⟩=>v.plain
 | .agg vs=>vs.attach.all fun ⟨v,_⟩=>v.plain
 | _=>false
theorem fr9 {v:IV}{r:Value}(h:v.plain=true)(hv:VR ρ w v r):VR ρ' w' v r:=by
 induction hv with
 | bool b=>exact .bool _
 | int k n=>exact .int _ _
 | str s=>exact .str _
 | agg cs rs hl hv ih=>
  refine .agg cs rs hl fun i hi=>ih i hi ?_
  unfold IV.plain at h
  exact List.all_eq_true.1 h ⟨_,ad1 .undef hi⟩ (List.mem_attach _ _)
 | tuple cs rs hl hv ih=>
  refine .tuple cs rs hl fun i hi=>ih i hi ?_
  unfold IV.plain at h
  exact List.all_eq_true.1 h ⟨_,ad1 .undef hi⟩ (List.mem_attach _ _)
 | _=>simp[IV.plain] at h
theorem ce3 (S:Nat→Prop)(ρ:Rho):∃ ρ':Rho,bl6 S ρ ρ'∧∀ b,ρ'.X b↔ρ.X b∨∃ i d,¬ S i∧ρ i=.at b d:=by
 refine ⟨⟨fun i=>if Classical.propDecidable (S i) |>.decide then ρ i else .no,fun b=>ρ.X b∨∃ i d,¬ S i∧ρ i=.at b d⟩,⟨fun i h=>?_,fun i h=>?_,fun b h=>h⟩,fun b=>Iff.rfl⟩
 ·show (if (Classical.propDecidable (S i)).decide=true then ρ i else da1.no)=_;rw[if_pos (by simpa using h)]
 ·show (if (Classical.propDecidable (S i)).decide=true then ρ i else da1.no)=_;rw[if_neg (by simpa using h)]
def Store.only (σ:Store)(S:Nat→Bool):Store:=⟨σ.next,fun i=>if S i then σ.obj i else none⟩
def Store.back (σ' σ:Store)(S:Nat→Bool):Store:=⟨σ'.next,fun i=>if S i then σ'.obj i else σ.obj i⟩
theorem cw2 {f:Nat}{args:List IV}{v:IV}(hE:∀ g,Bnd 0 (E g))(ha:∀ a∈args,Bnd 0 a)(h:C P E f args ⟨0,fun _=>none⟩ fun v' σ'=>bm9 σ' 0 v' v):PC P E f args v:=by
 intro σ ρ w rargs hs hr;obtain ⟨ρ0,hk,hX⟩:=ce3 (fun _=>False) ρ;have hs0:Sim E ρ0 w ⟨0,fun _=>none⟩:=hs.gs5 hk (fun i h=>h.elim) (fun _ _=>rfl) (fun i o h=>h.elim) (fun i _=>hk.off i (fun h=>h)) (fun g=>(hE g).weak fun i h=>absurd h (Nat.not_lt_zero _));have hr0:CR ρ0 w args rargs:=⟨hr.1,fun i hi=>(hr.2 i hi).cut hk ((ha _ (ad1 _ hi)).weak fun i h=>absurd h (Nat.not_lt_zero _))⟩;refine CallsIn.mono (h ρ0 w rargs hs0 hr0) ?_;rintro e w' ⟨v',r,ρ',σ',rfl,hfz,hs',hv',hx⟩;have hno0:∀ i,ρ0 i=.no:=fun i=>hk.off i (fun h=>h)
 have hkeep:∀ b,b<w.heap.size→w'.heap[b]? = w.heap[b]?:=fun b hb=>hx.keep b ⟨hb,fun i d h=>by rw[hno0 i] at h; cases h⟩
 have hlt:∀ (b:Nat) (o:Obj),w.heap[b]? = some o→b<w.heap.size:=fun b o h=>by
  rcases Nat.lt_or_ge b w.heap.size with h'|h'
  ·exact h'
  ·rw[Array.getElem?_eq_none h'] at h; cases h
 have hext:∀ n,Ext n ρ w ρ w':=fun n=>
  ⟨hx.size,fun b hb=>hkeep b hb.1,fun b rcs el fz h=>⟨rcs,by rw[hkeep b (hlt b _ h)]; exact h,rfl⟩,fun i B d h=>.inl ⟨i,d,h⟩,fun i B d h=>.inl h,fun i h=>h,fun i _ h=>h,hx.output,hx.os,hx.tape,fun l L h=>⟨L,by rw[hkeep l (hlt l _ h)]; exact h⟩,rfl⟩
 -- the tree lies on no block that is in use
 let ρ1:Rho:=⟨fun _=>.no,ρ'.X⟩;have hk1:bl6 (fun i=>i<0) ρ' ρ1:=⟨fun i h=>absurd h (Nat.not_lt_zero _),fun i _=>rfl,fun b h=>.inl h⟩;have hv1:VR ρ1 w' v r:=hfz.vr hk1 rfl hs' r hv'
 have hv2:VR ρ w' v r:=hv1.refs (fun i h=>absurd rfl h) fun b hb=>⟨hb.1,fun i d hi=>hb.3 (by
   show ρ'.X b;rw[hx.X];exact (hX b).2 (.inr ⟨i,d,fun h=>h,hi⟩)),fun hxb=>hb.3 (by
   show ρ'.X b;rw[hx.X];exact (hX b).2 (.inl hxb))⟩
 refine ⟨v,r,ρ,σ,rfl,⟨rfl,rfl⟩,⟨hs.inj,fun i B d h=>Nat.lt_of_lt_of_le (hs.lt i B d h) hx.size,fun i B d h=>?_,hs.dead,hs.fresh,hs.ak6,fun g=>(hs.env g).mono (hext 0),hs.nx,fun b h=>Nat.lt_of_lt_of_le (hs.xlt b h) hx.size⟩,hv2,(hext σ.next).weak (Nat.le_refl _)⟩;obtain ⟨o,h1,h2⟩:=hs.obj i B d h;exact ⟨o,h1,h2.mono (hext 0) (hkeep B (hs.lt i B d h))⟩
def Store.kills (σ:Store)(S:Nat→Bool):Store:=⟨σ.next,fun i=>if S i then σ.obj i else none⟩
theorem at1 {S:Nat→Bool}(hs:Sim E ρ w σ):∃ ρd:Rho,Sim E ρd w (σ.kills S)∧(∀ n,Ext n ρ w ρd w)∧∀ v v' r,Frz σ (fun i=>S i=true) v v'→VR ρ w v r→VR ρd w v' r:=by
 let ρc:Rho:=⟨fun i=>if S i then ρ i else .no,ρ.X⟩;let ρd:Rho:=⟨fun i=>if S i then ρ i else match ρ i with|.no=>.no|_=>.dead,ρ.X⟩;have con:∀ i,S i=true→ρc i=ρ i:=fun i h=>by show (if S i=true then ρ i else .no)=_; rw[if_pos h]
 have coff:∀ i,S i=false→ρc i=.no:=fun i h=>by show (if S i=true then ρ i else .no)=_; rw[if_neg (by simp[h])]
 have don:∀ i,S i=true→ρd i=ρ i:=fun i h=>by show (if S i=true then ρ i else _)=_; rw[if_pos h]
 have doff:∀ i,S i=false→ρd i=(match ρ i with|.no=>.no|_=>.dead):=fun i h=>by show (if S i=true then ρ i else _)=_; rw[if_neg (by simp[h])]
 have hdat:∀ i B d,ρd i=.at B d→S i=true∧ρ i=.at B d:=fun i B d h=>by
  cases hsi:S i with
  | true=>rw[don i hsi] at h; exact ⟨rfl,h⟩
  | false=>rw[doff i hsi] at h; cases hri:ρ i<;>rw[hri] at h<;>cases h
 have hk:bl6 (fun i=>S i=true) ρ ρc:=⟨con,fun i h=>coff i (by simpa using h),fun b h=>.inl h⟩
 have hxd:∀ n,Ext n ρ w ρd w:=fun n=>ct8 (fun i B d h=>by
   cases hsi:S i with
   | true=>rw[don i hsi]; exact .inl h
   | false=>rw[doff i hsi,h]; exact .inr rfl) (fun i h=>by
   cases hsi:S i with
   | true=>rw[don i hsi]; exact h
   | false=>rw[doff i hsi,h]) (fun i _ h=>by
   cases hsi:S i with
   | true=>rw[don i hsi]; exact h
   | false=>rw[doff i hsi,h]) (fun i B d h=>⟨i,d,(hdat i B d h).2⟩) rfl
 have hxc:Ext 0 ρc w ρd w:=ct8 (fun i B d h=>by
   obtain ⟨h1,h2⟩:=hk.at h;exact .inl (by rw[don i h1]; exact h2)) (fun i h=>by
   cases hsi:S i with
   | true=>rw[con i hsi] at h; rw[don i hsi]; exact h
   | false=>rw[coff i hsi] at h; cases h) (fun i hi _=>absurd hi (Nat.not_lt_zero _)) (fun i B d h=>⟨i,d,by rw[con i (hdat i B d h).1]; exact (hdat i B d h).2⟩) rfl
 refine ⟨ρd,?_,hxd,fun v v' r hf hv=>(hf.vr hk rfl hs r hv).mono hxc⟩;refine ⟨fun i j B d d' hi hj=>hs.inj i j B d d' (hdat _ _ _ hi).2 (hdat _ _ _ hj).2,fun i B d hi=>hs.lt i B d (hdat _ _ _ hi).2,fun i B d hi=>?_,fun i hi=>?_,fun i hi=>?_,fun i hi=>?_,fun g=>(hs.env g).mono (hxd 0),fun i B d hi=>hs.nx i B d (hdat _ _ _ hi).2,hs.xlt⟩
 ·obtain ⟨h1,h2⟩:=hdat _ _ _ hi;obtain ⟨o,g1,g2⟩:=hs.obj i B d h2;exact ⟨o,by simp[Store.kills,h1,g1],g2.mono (hxd 0) rfl⟩
 ·cases hsi:S i with
  | true=>rw[don i hsi] at hi; simp[Store.kills,hsi,hs.dead i hi]
  | false=>simp[Store.kills,hsi]
 ·have hn:σ.next≤i:=hi;have:=hs.fresh i hn
  cases hsi:S i with
  | true=>rw[don i hsi]; exact this
  | false=>rw[doff i hsi,this]
 ·cases hsi:S i with
  | true=>rw[don i hsi] at hi; simp[Store.kills,hsi,hs.ak6 i hi]
  | false=>simp[Store.kills,hsi]
theorem gc2 {S:Nat→Bool}{f:Nat}{args args':List IV}{Q:IV→Store→Prop}(hl:args'.length=args.length)(ha:∀ i,i<args.length→Frz σ (fun i=>S i=true) (args.getD i .undef) (args'.getD i .undef))
  (h:C P E f args' (σ.kills S) Q):C P E f args σ Q:=by
 intro ρ w rargs hs hr;obtain ⟨ρd,hs0,hxd,hvd⟩:=at1 (S:=S) hs;have hr0:CR ρd w args' rargs:=⟨by rw[hl]; exact hr.1,fun i hi=>hvd _ _ _ (ha i (by omega)) (hr.2 i (by omega))⟩;refine CallsIn.mono (h ρd w rargs hs0 hr0) ?_;rintro e w' ⟨v,r,ρ',σ',rfl,hq,hs',hv',hx⟩;exact ⟨v,r,ρ',σ',rfl,hq,hs',hv',((hxd σ.next).weak (Nat.le_refl _)).trans hx⟩
theorem fb8 {S:Nat→Bool}{ic:IC}{n0:Nat}{fr fr':Frm}{Q:Exit→Frm→Store→Prop}(hf:∀ t,fr'.get t=fr.get t∨Frz σ (fun i=>S i=true) (fr.get t) (fr'.get t))
  (h:RI P E N n0 ic fr' (σ.kills S) Q):RI P E N n0 ic fr σ Q:=by
 intro pf an c hc hn ro h0 ρ w a hs hfr hd hr;obtain ⟨ρd,hs0,hxd,hvd⟩:=at1 (S:=S) hs
 have hfr':FR ρd w N fr' a.tmps:=⟨hfr.size,fun t=>by
  rcases hf t with e|e
  ·rw[e]; exact (hfr.get t).mono (hxd 0)
  ·exact hvd _ _ _ e (hfr.get t)⟩
 have hxw:=(hxd n0).weak (Nat.le_refl n0);refine wpIn_mono (h pf an c hc hn ro h0 ρd w a hs0 hfr' (hd.mono hxw) (hr.mono hxw)) ?_;rintro e a' w' ⟨fr2,σ2,ρ2,hn2,q,hs2,hf2,hd2,hr2,hx2⟩;exact ⟨fr2,σ2,ρ2,hn2,q,hs2,hf2,hd2,hr2,hxw.trans hx2⟩
theorem cw3 {f:Nat}{args args':List IV}{v:IV}(hE:∀ g,Bnd 0 (E g))(hl:args'.length=args.length)(ha:∀ i,i<args.length→bm9 σ 0 (args.getD i .undef) (args'.getD i .undef))(hp:v.plain=true)(h:PC P E f args' v):C P E f args σ (gb6 v σ):=by
 intro ρ w rargs hs hr;have hk:=gb9 ρ 0;have hs0:Sim E (ρ.cut 0) w ⟨0,fun _=>none⟩:=hs.gs5 hk (fun i h=>absurd h (Nat.not_lt_zero _)) (fun _ _=>rfl) (fun i o h=>absurd h (Nat.not_lt_zero _)) (fun i _=>hk.off i (Nat.not_lt_zero _)) hE;have hr0:CR (ρ.cut 0) w args' rargs:=⟨by rw[hl]; exact hr.1,fun i hi=>(ha i (by omega)).vr hk rfl hs _ (hr.2 i (by omega))⟩;refine CallsIn.mono (h ⟨0,fun _=>none⟩ (ρ.cut 0) w rargs hs0 hr0) ?_;rintro e w' ⟨v',r,ρ',σ',rfl,⟨rfl,rfl⟩,hs',hv',hx⟩;have hkeep:∀ b,b<w.heap.size→w'.heap[b]? = w.heap[b]?:=fun b hb=>hx.keep b ⟨hb,fun i d h=>absurd (hk.at h).1 (Nat.not_lt_zero _)⟩
 have hlt:∀ (b:Nat) (o:Obj),w.heap[b]? = some o→b<w.heap.size:=fun b o h=>by
  rcases Nat.lt_or_ge b w.heap.size with h'|h'
  ·exact h'
  ·rw[Array.getElem?_eq_none h'] at h; cases h
 have hext:∀ n,Ext n ρ w ρ w':=fun n=>
  ⟨hx.size,fun b hb=>hkeep b hb.1,fun b rcs el fz h=>⟨rcs,by rw[hkeep b (hlt b _ h)]; exact h,rfl⟩,fun i B d h=>.inl ⟨i,d,h⟩,fun i B d h=>.inl h,fun i h=>h,fun i _ h=>h,hx.output,hx.os,hx.tape,fun l L h=>⟨L,by rw[hkeep l (hlt l _ h)]; exact h⟩,rfl⟩
 refine ⟨_,r,ρ,σ,rfl,⟨rfl,rfl⟩,⟨hs.inj,fun i B d h=>Nat.lt_of_lt_of_le (hs.lt i B d h) hx.size,fun i B d h=>?_,hs.dead,hs.fresh,hs.ak6,fun g=>(hs.env g).mono (hext 0),hs.nx,fun b h=>Nat.lt_of_lt_of_le (hs.xlt b h) hx.size⟩,fr9 hp hv',(hext σ.next).weak (Nat.le_refl _)⟩;obtain ⟨o,h1,h2⟩:=hs.obj i B d h;exact ⟨o,h1,h2.mono (hext 0) (hkeep B (hs.lt i B d h))⟩
end Go.Id
