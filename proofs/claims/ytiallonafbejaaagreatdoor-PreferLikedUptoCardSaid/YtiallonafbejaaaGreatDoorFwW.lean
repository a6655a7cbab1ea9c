/- Running compiled codes on ideal values: a function,and its proof. Conditions: none; over any program. -/
import Derived.Test.YtiallonafbejaaaGreatDoorFwV
set_option linter.all false
namespace Go.Id
open Go
variable {P:Program} {E:Nat→IV} {σ σ':Store} {N n n0:Nat} {fr:Frm}
/-! ### A store that is looked up by halves -/
inductive XObj where
 | o (x:IObj)
 | loop (N:Nat) (fr:Frm) (ps:List Nat) (asg body:IC) (st:LoopState) (pend:Option JX)
 /-- A row that grows: its parts,the last one ahead. -/
 | app (rev:List (List IV)) (n:Nat) (h:rev.reverse.flatten.length=n∧rev.reverse.flatten.all IV.leaf=true)
 deriving Inhabited
def XObj.fin:Option XObj→Option XObj
 | some (.app rev _ _)=>some (.o (.row rev.reverse.flatten))
 | x=>x
inductive Tr where
 | e
 | n (v:Option XObj) (l r:Tr)
 deriving Inhabited
def Tr.raw:Tr→Nat→Option XObj
 | .e,_=>none
 | .n v l r,i=>bif Nat.beq i 0 then v else bif Nat.beq (i%2) 1 then l.raw (i/2) else r.raw (i/2-1)
def Tr.get (t:Tr)(i:Nat):Option XObj:=XObj.fin (t.raw i)
def Tr.set (x:Option XObj):Nat→Tr→Nat→Tr
 | 0,t,_=>t
 | f+1,.e,i=>bif Nat.beq i 0 then .n x .e .e else bif Nat.beq (i%2) 1 then .n none (Tr.set x f .e (i/2)) .e else .n none .e (Tr.set x f .e (i/2-1))
 | f+1,.n v l r,i=>bif Nat.beq i 0 then .n x l r else bif Nat.beq (i%2) 1 then .n v (Tr.set x f l (i/2)) r else .n v l (Tr.set x f r (i/2-1))
theorem at7 {α:Type}(a b:Nat)(x y:α):(bif Nat.beq a b then x else y)=if a=b then x else y:=by
 by_cases h:a=b
 ·subst h; simp
 ·have:Nat.beq a b=false:=by rw[← Bool.not_eq_true,Nat.beq_eq]; exact h
  simp[this,h]
theorem Tr.raw_set (x:Option XObj):∀ (f:Nat) (t:Tr) (i j:Nat),i+1<2^f→(Tr.set x f t i).raw j=if j=i then x else t.raw j:=by
 intro f
 induction f with
 | zero=>intro t i j h; simp at h
 | succ f ih=>
  intro t i j h
  have hp:2^(f+1)=2*2^f:=by rw[Nat.pow_succ]; omega
  cases t with
  | e =>
   simp only[Tr.set,at7]
   split
   ·rename_i h0; subst h0
    simp only[Tr.raw,at7]
    split
    ·rfl
    ·split<;>rfl
   ·rename_i h0
    split
    ·rename_i h1
     simp only[Tr.raw,at7]
     by_cases hj:j=0
     ·subst hj; rw[if_pos rfl,if_neg (by omega)]
     ·rw[if_neg hj]
      split
      ·rename_i h2
       rw[ih _ _ _ (by omega)]
       by_cases hij:j=i
       ·rw[if_pos hij,if_pos (by omega)]
       ·rw[if_neg hij,if_neg (by omega)]; rfl
      ·rw[if_neg (by omega)]
    ·rename_i h1
     simp only[Tr.raw,at7]
     by_cases hj:j=0
     ·subst hj; rw[if_pos rfl,if_neg (by omega)]
     ·rw[if_neg hj]
      split
      ·rw[if_neg (by omega)]
      ·rename_i h2
       rw[ih _ _ _ (by omega)]
       by_cases hij:j=i
       ·rw[if_pos hij,if_pos (by omega)]
       ·rw[if_neg hij,if_neg (by omega)]; rfl
  | n v l r=>
   simp only[Tr.set,at7]
   split
   ·rename_i h0; subst h0
    simp only[Tr.raw,at7]
    split
    ·rfl
    ·rfl
   ·rename_i h0
    split
    ·rename_i h1
     simp only[Tr.raw,at7]
     by_cases hj:j=0
     ·subst hj; rw[if_pos rfl,if_neg (by omega)]; rfl
     ·rw[if_neg hj,if_neg hj]
      split
      ·rename_i h2
       rw[ih _ _ _ (by omega)]
       by_cases hij:j=i
       ·rw[if_pos hij,if_pos (by omega)]
       ·rw[if_neg hij,if_neg (by omega)]
      ·rw[if_neg (by omega)]
    ·rename_i h1
     simp only[Tr.raw,at7]
     by_cases hj:j=0
     ·subst hj; rw[if_pos rfl,if_neg (by omega)]; rfl
     ·rw[if_neg hj,if_neg hj]
      split
      ·rw[if_neg (by omega)]
      ·rename_i h2
       rw[ih _ _ _ (by omega)]
       by_cases hij:j=i
       ·rw[if_pos hij,if_pos (by omega)]
       ·rw[if_neg hij,if_neg (by omega)]
theorem Tr.get_set (x:Option XObj)(f:Nat)(t:Tr)(i j:Nat)(h:i+1<2^f):(Tr.set x f t i).get j=if j=i then XObj.fin x else t.get j:=by
 unfold Tr.get
 rw[Tr.raw_set x f t i j h]
 split<;>rfl
structure XSt where
 next:Nat
 t:Tr
 deriving Inhabited
def XSt.put (xs:XSt)(i:Nat)(x:Option XObj):Option XSt :=
 bif Nat.blt i 1152921504606846976 then some ⟨xs.next,xs.t.set x 64 i⟩ else none
def XSt.st (xs:XSt):Store:=⟨xs.next,fun i=>match xs.t.get i with|some (.o x)=>some x|_=>none⟩
theorem XSt.put_get {xs xs':XSt}{i:Nat}{x:Option XObj}(h:xs.put i x=some xs'):xs'.next=xs.next∧∀ j,xs'.t.get j=if j=i then XObj.fin x else xs.t.get j:=by
 unfold XSt.put at h
 cases hb:Nat.blt i 1152921504606846976 with
 | false=>rw[hb] at h; cases h
 | true=>
  rw[hb] at h
  cases h
  have:i<1152921504606846976:=Nat.le_of_ble_eq_true hb
  exact ⟨rfl,fun j=>Tr.get_set x 64 _ i j (by omega)⟩
def YR (P:Program)(E:Nat→IV)(id N:Nat)(fr:Frm)(ps:List Nat)(asg body:IC)(L:LoopState→Option JX→IObj):Prop :=
 ∀ (σ':Store) (args:List IV) (K:IV→Store→Prop),args.length=ps.length→σ'.obj id=some (L .ready none) →
  RI P E N σ'.next asg (cl4 fr ps args) σ' (fun e f s=>e=.normal∧s.obj id=some (L .ready none)∧RI P E N σ'.next body f (s.put id (L .busy none)) (cf7 id L K))→CYd P E id args σ' K
abbrev Lam:=Nat→LoopState→Option JX→IObj
def XOR (P:Program)(E:Nat→IV)(Λ:Lam)(i:Nat):Option XObj→Option IObj→Prop
 | none,o=>o=none
 | some (.o x),o=>o=some x
 | some (.app rev _ _),o=>o=some (.row rev.reverse.flatten)
 | some (.loop N fr ps asg body st pend),o=>o=some (Λ i st pend)∧YR P E i N fr ps asg body (Λ i)
structure XR (P:Program) (E:Nat→IV) (Λ:Lam) (xs:XSt) (σ:Store):Prop where
 next:xs.next=σ.next
 obj:∀ i,XOR P E Λ i (xs.t.get i) (σ.obj i)
theorem XR.put {Λ:Lam}{xs xs':XSt}{i:Nat}{x:IObj}(h:XR P E Λ xs σ)(hp:xs.put i (some (.o x))=some xs'):XR P E Λ xs' (σ.put i x):=by
 obtain ⟨h1,h2⟩:=XSt.put_get hp
 refine ⟨by rw[h1]; exact h.next,fun j=>?_⟩
 rw[h2,aa2]
 by_cases hj:j=i
 ·rw[if_pos hj,if_pos hj]; rfl
 ·rw[if_neg hj,if_neg hj]; exact h.obj j
theorem XR.kill {Λ:Lam}{xs xs':XSt}{i:Nat}(h:XR P E Λ xs σ)(hp:xs.put i none=some xs'):XR P E Λ xs' (σ.kill i):=by
 obtain ⟨h1,h2⟩:=XSt.put_get hp
 refine ⟨by rw[h1]; exact h.next,fun j=>?_⟩
 rw[h2]
 show XOR P E Λ j _ (if j=i then none else σ.obj j)
 by_cases hj:j=i
 ·rw[if_pos hj,if_pos hj]; rfl
 ·rw[if_neg hj,if_neg hj]; exact h.obj j
theorem XR.get {Λ:Lam}{xs:XSt}{i:Nat}{x:IObj}(h:XR P E Λ xs σ)(hg:xs.t.get i=some (.o x)):σ.obj i=some x:=by
 have:=h.obj i
 rw[hg] at this
 exact this
def LeS (s σ:Store):Prop:=∀ i x,s.obj i=some x→σ.obj i=some x
theorem XR.le {Λ:Lam}{xs:XSt}(h:XR P E Λ xs σ):LeS xs.st σ:=by
 intro i x hx
 simp only[XSt.st] at hx
 split at hx
 ·rename_i y hy; cases hx; exact h.get hy
 ·cases hx
/-! ### What writes -/
/-! ### No block is named -/
def al4:Nat→IV→Bool
 | 0,_=>false
 | n+1,v=>match v with
  | .ptr _ _|.slice _ _ _ _|.map _|.yield _|.cslice _ _ _ _|.rslice _ _ _ _ _=>false
  | .tptr cs=>cs.all (al4 n)
  | .tslice es=>es.all fun e=>e.all (al4 n)
  | .tmap es=>es.all fun e=>al4 n e.1&&al4 n e.2
  | .func _ a b=>a.all (al4 n)&&b.all (al4 n)
  | .iface _ v=>al4 n v
  | .agg cs=>cs.all (al4 n)
  | .tuple cs=>cs.all (al4 n)
  | _=>true
theorem ao3:∀ (n:Nat) (v:IV),al4 n v=true→Bnd 0 v:=by
 intro n
 induction n with
 | zero=>intro v h; cases h
 | succ n ih=>
  intro v h
  have all:∀ {cs:List IV},cs.all (al4 n)=true→∀ c∈cs,Bnd 0 c:=fun h c hc=>ih c (List.all_eq_true.1 h c hc)
  cases v with
  | undef=>exact .undef
  | bool b=>exact .bool b
  | int k x=>exact .int k x
  | str s=>exact .str s
  | nilptr=>exact .nilptr
  | ptr id off=>cases h
  | tptr cs=>exact .tptr cs (all h)
  | nilslice=>exact .nilslice
  | zslice=>exact .zslice
  | eslice=>exact .eslice
  | slice a b c d=>cases h
  | tslice es=>exact .tslice es fun e he=>all (List.all_eq_true.1 h e he)
  | nilmap=>exact .nilmap
  | map id=>cases h
  | tmap es=>exact .tmap es (fun e he=>ih _ (by have:=List.all_eq_true.1 h e he; simp at this; exact this.1)) (fun e he=>ih _ (by have:=List.all_eq_true.1 h e he; simp at this; exact this.2))
  | func f a b=>
   simp only[al4,Bool.and_eq_true] at h
   exact .func f a b (all h.1) (all h.2)
  | yield id=>cases h
  | nilfunc=>exact .nilfunc
  | iface t v=>exact .iface t v (ih v h)
  | niliface=>exact .niliface
  | agg cs=>exact .agg cs (all h)
  | tuple cs=>exact .tuple cs (all h)
  | cslice a b c d=>cases h
  | rslice a b c d e=>cases h
/-! ### Let go -/
/-! ### Slots whose blocks are let go -/
/-! ### Of a box some cells,whose blocks are let go -/
def di1 (E:Nat→IV)(σ:Store)(fr:Frm)(σ':Store)(fr':Frm):Prop :=
 ∀ (ρ:Rho) (w:World),Sim E ρ w σ→∃ ρd:Rho,Sim E ρd w σ'∧(∀ n,Ext n ρ w ρd w)∧∀ (N:Nat) (tmps:Array Value),FR ρ w N fr tmps→FR ρd w N fr' tmps
theorem di1.trans {σ'':Store}{fr fr' fr'':Frm}(h:di1 E σ fr σ' fr')(h':di1 E σ' fr' σ'' fr''):di1 E σ fr σ'' fr'':=fun ρ w hs=>
 let ⟨ρ1,a1,a2,a3⟩:=h ρ w hs
 let ⟨ρ2,b1,b2,b3⟩:=h' ρ1 w a1
 ⟨ρ2,b1,fun n=>(a2 n).trans (b2 n) (Nat.le_refl _),fun N tmps hf=>b3 N tmps (a3 N tmps hf)⟩
theorem di1.refl (fr:Frm):di1 E σ fr σ fr:=fun ρ w hs=>⟨ρ,hs,fun n=>Ext.refl _ _ _,fun _ _ h=>h⟩
theorem di1.of {S:Nat→Bool}{fr fr':Frm}(hf:∀ t,fr'.get t=fr.get t∨Frz σ (fun i=>S i=true) (fr.get t) (fr'.get t)):di1 E σ fr (σ.kills S) fr':=fun ρ w hs=>by
 obtain ⟨ρd,hs0,hxd,hvd⟩:=bk2 (S:=S) hs
 refine ⟨ρd,hs0,hxd,fun N tmps hfr=>⟨hfr.size,fun t=>?_⟩⟩
 rcases hf t with e|e
 ·rw[e]; exact (hfr.get t).mono (hxd 0)
 ·exact hvd _ _ _ e (hfr.get t)
end Go.Id
