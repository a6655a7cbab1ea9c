/- Codes compiled,and what is asked of them,as one proposition. Conditions: none; over any program. -/
import Derived.Test.YtphnnoolpagclaaGreatDoorFwNb
set_option linter.all false
namespace Go.Id
open Go
variable {P:Program} {w w' w'':World} {ρ ρ' ρ'':Rho} {E:Nat->IV} {σ σ':Store} {N n n':Nat} {fr:Frm} {a:Act} {pf:List Nat}
inductive IC where
 | skip
 | reg (id:Nat) (ops:List ae9) (keep:List Nat)
 | ar4 (id:Nat) (ops:List ae9) (B:Bool) (keep:List Nat)
 | hc5 (id:Nat) (ops:List YO) (keep:List Nat)
 | seq (a b:IC)
 | cond (x:IX) (a b:IC)
 | block (id:Nat) (a:IC)
 | loop (a:IC)
 | exit (id:Nat)
 | ret
 | bn4 (g:IX) (ps:List Nat) (asg a:IC)
 | scope (a:IC)
 deriving Inhabited
abbrev Ann:=List (Nat×List Nat)
abbrev go9:IC:=.reg 0 [⟨none,none,.st .nev []⟩] []
def ce4 (P:Program)(pf:List Nat)(N:Nat)(an:Ann):Code->Option IC
 | .skip=>some .skip
 | .label _=>some .skip
 | .region id ops draw=>match draw,bn7 P pf N ops ops.toList with
  | false,some ios=>some (.reg id ios ((an.lookup id).getD []))
  | true,some ios=>if P.follows .mixedOrders=true/\hw9 (ops.toList.map be2) ios (dm5 ios)=true/\(pf.contains 2000000&&dm5 ios)=false then some (.ar4 id ios (dm5 ios) ((an.lookup id).getD [])) else some go9
  | _,_=>some go9
 | .seq a b=>match ce4 P pf N an a,ce4 P pf N an b with
  | some x,some y=>some (.seq x y)
  | _,_=>none
 | .cond c a b=>match ah7 c,ce4 P pf N an a,ce4 P pf N an b with
  | some i,some x,some y=>some (.cond i x y)
  | _,_,_=>some go9
 | .block id a=>(ce4 P pf N an a).map (.block id)
 | .loop a=>(ce4 P pf N an a).map .loop
 | .exit id=>some (.exit id)
 | .ret=>some .ret
 | .rangeFunc g ps assign body=>match ce4 P pf N an assign,ah7 g,ce4 P pf N an body with
  | some y,some i,some x=>if ps.toList.all (fun p=>decide (p<N)) then some (.bn4 i ps.toList y x) else some go9
  | _,_,_=>some go9
 | .scope a=>(ce4 P pf N an a).map .scope
 | _=>some go9
def RI (P:Program)(E:Nat->IV)(N n0:Nat)(ic:IC)(fr:Frm)(σ:Store)(Q:Exit->Frm->Store->Prop):Prop :=
 ∀ (pf:List Nat) (an:Ann) (c:Code),ce4 P pf N an c=some ic->R P E N n0 c fr σ Q
def wpI (P:Program)(E:Nat->IV)(N n0:Nat):IC->Frm->Store->(Exit->Frm->Store->Prop)->Prop
 | .skip,fr,σ,Q=>Q .normal fr σ
 | .reg _ ops keep,fr,σ,Q=>bs1 P E ops σ.next fr { σ with next:=σ.next+bs2 ops } (fun fr' σ'=>Q .normal (fr'.keep keep) σ')
 | .ar4 _ ops B keep,fr,σ,Q=>bp1 P E B (en4 σ.next 0 ops) fr { σ with next:=σ.next+ops.length } (fun fr' σ'=>Q .normal (fr'.keep keep) σ')
 | .hc5 _ ops keep,fr,σ,Q=>en7 P E (ii9 σ.next ops) [] fr { σ with next:=σ.next+ops.length } (fun fr' σ'=>Q .normal (fr'.keep keep) σ')
 | .seq a b,fr,σ,Q=>wpI P E N n0 a fr σ (fun e fr' σ'=>match e with|.normal=>wpI P E N n0 b fr' σ' Q|e=>Q e fr' σ')
 | .cond x a b,fr,σ,Q=>∃ t,x.ev E fr=.bool t/\if t then wpI P E N n0 a fr σ Q else wpI P E N n0 b fr σ Q
 | .block id a,fr,σ,Q=>wpI P E N n0 a fr σ (bq9 id Q)
 | .loop a,fr,σ,Q=>RI P E N n0 (.loop a) fr σ Q
 | .exit id,fr,σ,Q=>Q (.exit id) fr σ
 | .ret,fr,σ,Q=>Q .ret fr σ
 | .bn4 g ps y a,fr,σ,Q=>RI P E N n0 (.bn4 g ps y a) fr σ Q
 | .scope a,fr,σ,Q=>wpI P E N n0 a fr σ (fg5 Q)
theorem gp1 {n0:Nat}{c:Code}{ks:List Nat}{Q:Exit->Frm->Store->Prop}(h:R P E N n0 c fr σ (fun e fr' σ'=>Q e (fr'.keep ks) σ')):R P E N n0 c fr σ Q :=
 fun hn ro h0 ρ w a hs hf hd hr=>wpIn_mono (h hn ro h0 ρ w a hs hf hd hr) fun _ _ _ ⟨fr',σ',ρ',hn',q,hs',hf',rest⟩=>⟨fr'.keep ks,σ',ρ',hn',q,hs',hf'.keep ks,rest⟩
theorem bb9 {n0:Nat}{Q:Exit->Frm->Store->Prop}(h:wpI P E N n0 go9 fr σ Q):False:=by
 obtain ⟨act,ha,h⟩:=h;cases ha;obtain ⟨r,hr,_⟩:=h;cases hr
theorem fw3 {n0:Nat}{an:Ann}:∀ (c:Code) (ic:IC) (fr:Frm) (σ:Store) (Q:Exit->Frm->Store->Prop),ce4 P pf N an c=some ic->wpI P E N n0 ic fr σ Q->R P E N n0 c fr σ Q:=by
 intro c
 induction c with
 | skip=>intro ic fr σ Q hc h; cases hc; exact ha9 h
 | label l=>intro ic fr σ Q hc h; cases hc; exact go6 h
 | region id ops draw=>
  intro ic fr σ Q hc h;simp only[ce4] at hc;split at hc
  ·rename_i ios hios;cases hc;exact gp1 (fy9 (Q:=fun e fr' σ'=>Q e (fr'.keep _) σ') hios h)
  ·rename_i ios hios;by_cases hok:P.follows .mixedOrders=true/\hw9 (ops.toList.map be2) ios (dm5 ios)=true/\(pf.contains 2000000&&dm5 ios)=false
   ·rw[if_pos hok] at hc;cases hc;exact fi1 hok.1 hios hok.2.1 h
   ·rw[if_neg hok] at hc;cases hc; exact (bb9 h).elim
  ·cases hc; exact (bb9 h).elim
 | seq a b iha ihb=>
  intro ic fr σ Q hc h;simp only[ce4] at hc;split at hc
  ·rename_i x y hx hy;cases hc;refine ia3 ((iha _ fr σ _ hx h).mono ?_);intro e fr' σ' q
   cases e with
   | normal=>exact ihb _ fr' σ' Q hy q
   | _=>exact q
  ·cases hc
 | cond c a b iha ihb=>
  intro ic fr σ Q hc h;simp only[ce4] at hc;split at hc
  ·rename_i i x y hi hx hy;cases hc;obtain ⟨t,ht,h⟩:=h;refine hb8 hi ht ?_
   cases t with
   | true=>exact iha _ fr σ Q hx h
   | false=>exact ihb _ fr σ Q hy h
  ·cases hc; exact (bb9 h).elim
 | block id a ih=>
  intro ic fr σ Q hc h;obtain ⟨y,hy,he⟩:=map_some hc;cases he
  exact go7 (ih _ fr σ _ hy h)
 | loop a ih=>
  intro ic fr σ Q hc h;have hc':=hc;obtain ⟨y,hy,he⟩:=map_some hc;cases he
  exact h pf an _ hc'
 | scope a ih=>
  intro ic fr σ Q hc h;obtain ⟨y,hy,he⟩:=map_some hc;cases he
  exact go8 (ih _ fr σ _ hy h)
 | exit id=>intro ic fr σ Q hc h; cases hc; exact hb7 h
 | ret=>intro ic fr σ Q hc h; cases hc; exact ia4 h
 | rangeFunc g ps assign body _ _=>
  intro ic fr σ Q hc h;have hc':=hc;simp only[ce4] at hc;split at hc
  ·split at hc
   ·cases hc;exact h pf an _ hc'
   ·cases hc; exact (bb9 h).elim
  ·cases hc; exact (bb9 h).elim
 | _=>intro ic fr σ Q hc h; cases hc; exact (bb9 h).elim
theorem br1 {n0:Nat}(ic:IC)(fr:Frm)(σ:Store)(Q:Exit->Frm->Store->Prop)(h:wpI P E N n0 ic fr σ Q):RI P E N n0 ic fr σ Q :=
 fun pf an c hc=>fw3 (pf:=pf) (an:=an) c ic fr σ Q hc h
theorem fg6 {n0:Nat}{x:IC}{Q:Exit->Frm->Store->Prop}(I:Nat->Frm->Store->Prop)(m:Nat)(h:I m fr σ)(hI:∀ m fr σ,I m fr σ->wpI P E N n0 x fr σ (em8 I m Q)):RI P E N n0 (.loop x) fr σ Q:=by
 intro pf an c hc
 cases c with
 | loop c=>
  obtain ⟨y,hy,he⟩:=map_some hc;cases he
  exact hb9 I m h (fun m fr σ hi=>br1 _ _ _ _ (hI m fr σ hi) pf an _ hy)
 | region id ops draw=>
  exfalso;simp only[ce4] at hc;split at hc
  ·cases hc
  ·split at hc<;>first|(cases hc; done)|(split at hc<;>cases hc)
  ·cases hc
 | seq a b=>simp only[ce4] at hc; split at hc<;>cases hc
 | cond c a b=>simp only[ce4] at hc; split at hc<;>cases hc
 | block id a=>obtain ⟨_,_,h⟩:=map_some hc; cases h
 | scope a=>obtain ⟨_,_,h⟩:=map_some hc; cases h
 | rangeFunc g ps assign body=>
  exfalso;simp only[ce4] at hc;split at hc
  ·split at hc<;>cases hc
  ·cases hc
 | _=>cases hc
inductive JX where
 | ret
 | exit (i:Nat)
 deriving Inhabited
def JX.code:JX->Code
 | .ret=>.ret
 | .exit i=>.exit i
def gp2 (Q:Exit->Frm->Store->Prop)(fr:Frm)(σ:Store):Option JX->Prop
 | none=>Q .normal fr σ
 | some .ret=>Q .ret fr σ
 | some (.exit i)=>Q (.exit i) fr σ
def cj9 (id:Nat)(L:LoopState->Option JX->al1)(K:IV->Store->Prop):Exit->Frm->Store->Prop
 | .normal,_,σ=>σ.obj id=some (L .busy none)/\K (.bool true) (σ.put id (L .ready none))
 | .ret,_,σ=>σ.obj id=some (L .busy none)/\K (.bool false) (σ.put id (L .done (some .ret)))
 | .exit i,_,σ=>σ.obj id=some (L .busy none)/\K (.bool false) (σ.put id (L .done (some (.exit i))))
 | _,_,_=>False
theorem fw4 {n0:Nat}{g:IX}{ps:List Nat}{y x:IC}{Q:Exit->Frm->Store->Prop}
  (h:∀ L:LoopState->Option JX->al1,
   (∀ (σ':Store) (args:List IV) (K:IV->Store->Prop),args.length=ps.length->σ'.obj σ.next=some (L .ready none) ->
    RI P E N σ'.next y (cp7 fr ps args) σ' (fun e f s=>e=.normal/\s.obj σ.next=some (L .ready none)/\RI P E N σ'.next x f (s.put σ.next (L .busy none)) (cj9 σ.next L K))->CYd P E σ.next args σ' K) ->
   CVf P E (g.ev E fr) [.yield σ.next] ⟨σ.next+1,(σ.put σ.next (L .ready none)).obj⟩ fun _ σ2=>
    σ.next<=σ2.next/\∃ st pend,st≠.busy/\σ2.obj σ.next=some (L st pend)/\gp2 Q fr (σ2.kill σ.next) pend) :
  RI P E N n0 (.bn4 g ps y x) fr σ Q:=by
 intro pf an c hc
 cases c with
 | rangeFunc go psA assign body=>
  simp only[ce4] at hc;split at hc
  ·rename_i ya i yb hasg hi hy;split at hc
   ·rename_i hall;cases hc;have hps:∀ p∈psA.toList,p<N:=fun p hp=>by simpa using List.all_eq_true.1 hall p hp
    have h':=h (fun s p=>.loop N fr psA.toList.toArray assign body s (p.map JX.code)) (fun σ' args K hl ho hR=>by
     refine hj6 hps hl ho ((hR pf an assign hasg).mono fun e f s q=>⟨q.1,q.2.1,(q.2.2 pf an body hy).mono fun e f s q=>?_⟩)
     cases e with
     | normal=>exact q
     | ret=>exact q
     | exit i=>exact q
     | _=>exact q.elim)
    exact dv9 (n0:=n0) (Q:=Q) (ps:=psA.toList) (asg:=assign) (body:=body) (E:=E) (fr:=fr) (σ:=σ) (N:=N) hi (h'.mono (by
     rintro v s ⟨hn,st,pend,hst,hob,hq⟩;refine ⟨hn,st,pend.map JX.code,hst,hob,?_⟩
     cases pend with
     | none=>exact hq
     | some j=>cases j<;>exact hq))
   ·cases hc
  ·cases hc
 | region id ops draw=>
  exfalso;simp only[ce4] at hc;split at hc
  ·cases hc
  ·split at hc<;>first|(cases hc; done)|(split at hc<;>cases hc)
  ·cases hc
 | seq a b=>simp only[ce4] at hc; split at hc<;>cases hc
 | cond c a b=>simp only[ce4] at hc; split at hc<;>cases hc
 | block id a=>obtain ⟨_,_,h⟩:=map_some hc; cases h
 | scope a=>obtain ⟨_,_,h⟩:=map_some hc; cases h
 | loop a=>obtain ⟨_,_,h⟩:=map_some hc; cases h
 | _=>cases hc
theorem fg7 {n0:Nat}{x:IC}{Q Q':Exit->Frm->Store->Prop}(h:RI P E N n0 x fr σ Q)(hq:∀ e fr σ,Q e fr σ->Q' e fr σ):RI P E N n0 x fr σ Q' :=
 fun pf an c hc=>(h pf an c hc).mono hq
end Go.Id
