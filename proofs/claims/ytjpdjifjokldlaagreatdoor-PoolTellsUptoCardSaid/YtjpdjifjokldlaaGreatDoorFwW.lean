/- Running compiled codes on ideal values: a function,and its proof. Conditions: none; over any program. -/
import Derived.Test.YtjpdjifjokldlaaGreatDoorFwV
set_option linter.all false
namespace Go.Id
open Go
variable {P:Program} {E:Nat->IV} {σ σ':Store} {N n n0:Nat} {fr:Frm}
inductive dw7 where
 | o (x:ak2)
 | loop (N:Nat) (fr:Frm) (ps:List Nat) (asg body:IC) (st:LoopState) (pend:Option JX)
 | app (rev:List (List IV)) (n:Nat) (h:rev.reverse.flatten.length=n/\rev.reverse.flatten.all IV.leaf=true)
 deriving Inhabited
def dw7.fin:Option dw7->Option dw7
 | some (.app rev _ _)=>some (.o (.row rev.reverse.flatten))
 | x=>x
inductive Tr where
 | e
 | n (v:Option dw7) (l r:Tr)
 deriving Inhabited
def Tr.raw:Tr->Nat->Option dw7
 | .e,_=>none
 | .n v l r,i=>bif Nat.beq i 0 then v else bif Nat.beq (i%2) 1 then l.raw (i/2) else r.raw (i/2-1)
def Tr.get (t:Tr)(i:Nat):Option dw7:=dw7.fin (t.raw i)
def Tr.set (x:Option dw7):Nat->Tr->Nat->Tr
 | 0,t,_=>t
 | f+1,.e,i=>bif Nat.beq i 0 then .n x .e .e else bif Nat.beq (i%2) 1 then .n none (Tr.set x f .e (i/2)) .e else .n none .e (Tr.set x f .e (i/2-1))
 | f+1,.n v l r,i=>bif Nat.beq i 0 then .n x l r else bif Nat.beq (i%2) 1 then .n v (Tr.set x f l (i/2)) r else .n v l (Tr.set x f r (i/2-1))
theorem ar5 {α:Type}(a b:Nat)(x y:α):(bif Nat.beq a b then x else y)=if a=b then x else y:=by
 by_cases h:a=b
 ·subst h; simp
 ·have:Nat.beq a b=false:=by rw[<- Bool.not_eq_true,Nat.beq_eq]; exact h
  simp[this,h]
theorem Tr.hg6 (x:Option dw7):∀ (f:Nat) (t:Tr) (i j:Nat),i+1<2^f->(Tr.set x f t i).raw j=if j=i then x else t.raw j:=by
 intro f
 induction f with
 | zero=>intro t i j h; simp at h
 | succ f ih=>
  intro t i j h;have hp:2^(f+1)=2*2^f:=by rw[Nat.pow_succ]; omega
  cases t with
  | e =>
   simp only[Tr.set,ar5];split
   ·rename_i h0; subst h0;simp only[Tr.raw,ar5];split
    ·rfl
    ·split<;>rfl
   ·rename_i h0;split
    ·rename_i h1;simp only[Tr.raw,ar5];by_cases hj:j=0
     ·subst hj; rw[if_pos rfl,if_neg (by omega)]
     ·rw[if_neg hj];split
      ·rename_i h2;rw[ih _ _ _ (by omega)];by_cases hij:j=i
       ·rw[if_pos hij,if_pos (by omega)]
       ·rw[if_neg hij,if_neg (by omega)]; rfl
      ·rw[if_neg (by omega)]
    ·rename_i h1;simp only[Tr.raw,ar5];by_cases hj:j=0
     ·subst hj; rw[if_pos rfl,if_neg (by omega)]
     ·rw[if_neg hj];split
      ·rw[if_neg (by omega)]
      ·rename_i h2;rw[ih _ _ _ (by omega)];by_cases hij:j=i
       ·rw[if_pos hij,if_pos (by omega)]
       ·rw[if_neg hij,if_neg (by omega)]; rfl
  | n v l r=>
   simp only[Tr.set,ar5];split
   ·rename_i h0; subst h0;simp only[Tr.raw,ar5];split
    ·rfl
    ·rfl
   ·rename_i h0;split
    ·rename_i h1;simp only[Tr.raw,ar5];by_cases hj:j=0
     ·subst hj; rw[if_pos rfl,if_neg (by omega)]; rfl
     ·rw[if_neg hj,if_neg hj];split
      ·rename_i h2;rw[ih _ _ _ (by omega)];by_cases hij:j=i
       ·rw[if_pos hij,if_pos (by omega)]
       ·rw[if_neg hij,if_neg (by omega)]
      ·rw[if_neg (by omega)]
    ·rename_i h1;simp only[Tr.raw,ar5];by_cases hj:j=0
     ·subst hj; rw[if_pos rfl,if_neg (by omega)]; rfl
     ·rw[if_neg hj,if_neg hj];split
      ·rw[if_neg (by omega)]
      ·rename_i h2;rw[ih _ _ _ (by omega)];by_cases hij:j=i
       ·rw[if_pos hij,if_pos (by omega)]
       ·rw[if_neg hij,if_neg (by omega)]
theorem Tr.bl7 (x:Option dw7)(f:Nat)(t:Tr)(i j:Nat)(h:i+1<2^f):(Tr.set x f t i).get j=if j=i then dw7.fin x else t.get j:=by
 unfold Tr.get;rw[Tr.hg6 x f t i j h];split<;>rfl
structure XSt where
 next:Nat
 t:Tr
 deriving Inhabited
def XSt.put (xs:XSt)(i:Nat)(x:Option dw7):Option XSt :=
 bif Nat.blt i 1152921504606846976 then some ⟨xs.next,xs.t.set x 64 i⟩ else none
def XSt.st (xs:XSt):Store:=⟨xs.next,fun i=>match xs.t.get i with|some (.o x)=>some x|_=>none⟩
theorem XSt.be7 {xs xs':XSt}{i:Nat}{x:Option dw7}(h:xs.put i x=some xs'):xs'.next=xs.next/\∀ j,xs'.t.get j=if j=i then dw7.fin x else xs.t.get j:=by
 unfold XSt.put at h
 cases hb:Nat.blt i 1152921504606846976 with
 | false=>rw[hb] at h; cases h
 | true=>
  rw[hb] at h;cases h;have:i<1152921504606846976:=Nat.le_of_ble_eq_true hb;exact ⟨rfl,fun j=>Tr.bl7 x 64 _ i j (by omega)⟩
def YR (P:Program)(E:Nat->IV)(id N:Nat)(fr:Frm)(ps:List Nat)(asg body:IC)(L:LoopState->Option JX->ak2):Prop :=
 ∀ (σ':Store) (args:List IV) (K:IV->Store->Prop),args.length=ps.length->σ'.obj id=some (L .ready none) ->
  RI P E N σ'.next asg (bt2 fr ps args) σ' (fun e f s=>e=.normal/\s.obj id=some (L .ready none)/\RI P E N σ'.next body f (s.put id (L .busy none)) (cg8 id L K))->CYd P E id args σ' K
abbrev Lam:=Nat->LoopState->Option JX->ak2
def XOR (P:Program)(E:Nat->IV)(Λ:Lam)(i:Nat):Option dw7->Option ak2->Prop
 | none,o=>o=none
 | some (.o x),o=>o=some x
 | some (.app rev _ _),o=>o=some (.row rev.reverse.flatten)
 | some (.loop N fr ps asg body st pend),o=>o=some (Λ i st pend)/\YR P E i N fr ps asg body (Λ i)
structure XR (P:Program) (E:Nat->IV) (Λ:Lam) (xs:XSt) (σ:Store):Prop where
 next:xs.next=σ.next
 obj:∀ i,XOR P E Λ i (xs.t.get i) (σ.obj i)
theorem XR.put {Λ:Lam}{xs xs':XSt}{i:Nat}{x:ak2}(h:XR P E Λ xs σ)(hp:xs.put i (some (.o x))=some xs'):XR P E Λ xs' (σ.put i x):=by
 obtain ⟨h1,h2⟩:=XSt.be7 hp;refine ⟨by rw[h1]; exact h.next,fun j=>?_⟩;rw[h2,aa5];by_cases hj:j=i
 ·rw[if_pos hj,if_pos hj]; rfl
 ·rw[if_neg hj,if_neg hj]; exact h.obj j
theorem XR.kill {Λ:Lam}{xs xs':XSt}{i:Nat}(h:XR P E Λ xs σ)(hp:xs.put i none=some xs'):XR P E Λ xs' (σ.kill i):=by
 obtain ⟨h1,h2⟩:=XSt.be7 hp;refine ⟨by rw[h1]; exact h.next,fun j=>?_⟩;rw[h2];show XOR P E Λ j _ (if j=i then none else σ.obj j);by_cases hj:j=i
 ·rw[if_pos hj,if_pos hj]; rfl
 ·rw[if_neg hj,if_neg hj]; exact h.obj j
theorem XR.get {Λ:Lam}{xs:XSt}{i:Nat}{x:ak2}(h:XR P E Λ xs σ)(hg:xs.t.get i=some (.o x)):σ.obj i=some x:=by
 have:=h.obj i;rw[hg] at this;exact this
def LeS (s σ:Store):Prop:=∀ i x,s.obj i=some x->σ.obj i=some x
theorem XR.le {Λ:Lam}{xs:XSt}(h:XR P E Λ xs σ):LeS xs.st σ:=by
 intro i x hx;simp only[XSt.st] at hx;split at hx
 ·rename_i y hy; cases hx; exact h.get hy
 ·cases hx
theorem ev5 {s:Store}{v:IV}{cs:List IV}(hl:LeS s σ)(h:aj3 s v=some cs):aj3 σ v=some cs:=by
 unfold aj3 at h ⊢;split at h
 ·exact h
 ·rename_i id off;split at h
  ·rename_i c hc; rw[hl _ _ hc]; exact h
  ·rename_i c hc; rw[hl _ _ hc]; exact h
  ·cases h
 ·cases h
theorem ee1 {s:Store}{ag:Option Nat}{v u:IV}(hl:LeS s σ)(h:ap4 s ag v=some u):ap4 σ ag v=some u:=by
 unfold ap4 at h ⊢
 cases hc:aj3 s v with
 | none=>rw[hc] at h; cases h
 | some cs=>rw[hc] at h; rw[ev5 hl hc]; exact h
theorem gh2 {s:Store}{v:IV}{es:List (IV×IV)}(hl:LeS s σ)(h:bk3 s v=some es):bk3 σ v=some es:=by
 unfold bk3 at h ⊢;split at h
 ·exact h
 ·exact h
 ·split at h
  ·rename_i e he; rw[hl _ _ he]; exact h
  ·cases h
 ·cases h
theorem hg7 {s:Store}{tag:Nat}{z x k u:IV}{ok:Bool}(hl:LeS s σ)(h:co5 s tag z ok x k=some u):co5 σ tag z ok x k=some u:=by
 unfold co5 at h ⊢
 cases hc:bk3 s x with
 | none=>rw[hc] at h; cases h
 | some cs=>rw[hc] at h; rw[gh2 hl hc]; exact h
theorem hg8 {s:Store}{k:Nat}{v u:IV}(hl:LeS s σ)(h:cd7 k s v=some u):cd7 k σ v=some u:=by
 have hI:∀ {v u:IV},ej5 s v=some u->ej5 σ v=some u:=fun {v u} h=>by
  unfold ej5 at h ⊢;split at h<;>first|exact h|skip
  split at h
  ·rename_i e he; rw[hl _ _ he]; exact h
  ·cases h
 unfold cd7 at h ⊢;split at h<;>first|exact hI h|cases h
theorem gt7 {s:Store}{q:IQ}{u:IV}(hl:LeS s σ)(h:evq E fr s q=some u):evq E fr σ q=some u:=by
 cases q with
 | load a x=>exact ee1 hl h
 | lkp a b c x y=>exact hg7 hl h
 | len k x=>exact hg8 hl h
 | _=>exact h
theorem dw8 {s:Store}{e:Nat}{v:IV}{r:Nat×List IV}(hl:LeS s σ)(h:av8 s e v=some r):av8 σ e v=some r:=by
 unfold av8 at h ⊢;split at h<;>first|exact h|skip
 all_goals
  split at h
  ·rename_i c hc; rw[hl _ _ hc]; exact h
  ·cases h
theorem gt8 {s:Store}:∀ (rs:List IR) (vs:List IV),LeS s σ->irL s fr rs=some vs->irL σ fr rs=some vs:=by
 intro rs
 induction rs with
 | nil=>intro vs _ h; exact h
 | cons r rs ih=>
  intro vs hl h;simp only[irL] at h ⊢;split at h
  ·rename_i v us h1 h2;cases h
   have e1:irV σ fr r=some v:=by
    cases r with
    | t n=>exact h1
    | cell ag n=>exact ee1 hl h1
   rw[e1,ih _ hl h2]
  ·cases h
def ee2 (xs:XSt)(sz:Nat)(a v:IV):Option XSt :=
 match a with
 | .ptr id off=>match xs.t.get id with
  | some (.o (.cells cs))=>if v.cs.length=sz/\off+sz<=cs.length/\v.cs.all IV.leaf=true then xs.put id (some (.o (.cells (ax1 cs off v.cs)))) else none
  | some (.o (.row cs))=>if v.cs.length=sz/\off+sz<=cs.length/\v.cs.all IV.leaf=true then xs.put id (some (.o (.row (ax1 cs off v.cs)))) else none
  | _=>none
 | _=>none
theorem dm6 {Λ:Lam}{xs xs':XSt}{sz:Nat}{a v:IV}(hx:XR P E Λ xs σ)(h:ee2 xs sz a v=some xs'):∃ σ',ak3 σ sz a v=some σ'/\XR P E Λ xs' σ':=by
 unfold ee2 at h;split at h
 ·rename_i id off;split at h
  ·rename_i cs hg;split at h
   ·rename_i hc;refine ⟨_,?_,hx.put h⟩;unfold ak3;simp only[hx.get hg];rw[if_pos hc]
   ·cases h
  ·rename_i cs hg;split at h
   ·rename_i hc;refine ⟨_,?_,hx.put h⟩;unfold ak3;simp only[hx.get hg];rw[if_pos hc]
   ·cases h
  ·cases h
 ·cases h
theorem gt9 {rev:List (List IV)}{n:Nat}{cells:List IV}(h:rev.reverse.flatten.length=n/\rev.reverse.flatten.all IV.leaf=true)(hc:cells.all IV.leaf=true) :
  (cells::rev).reverse.flatten.length=n+cells.length/\(cells::rev).reverse.flatten.all IV.leaf=true:=by
 have e:(cells::rev).reverse.flatten=rev.reverse.flatten++cells:=by simp
 rw[e];exact ⟨by rw[List.length_append,h.1],by rw[List.all_append,h.2,hc]; rfl⟩
theorem XR.jb2 {Λ:Lam}{xs xs':XSt}{i n:Nat}{rev:List (List IV)}{h0:rev.reverse.flatten.length=n/\rev.reverse.flatten.all IV.leaf=true}(h:XR P E Λ xs σ)(hp:xs.put i (some (.app rev n h0))=some xs'):XR P E Λ xs' (σ.put i (.row rev.reverse.flatten)):=by
 obtain ⟨h1,h2⟩:=XSt.be7 hp;refine ⟨by rw[h1]; exact h.next,fun j=>?_⟩;rw[h2,aa5];by_cases hj:j=i
 ·rw[if_pos hj,if_pos hj]; rfl
 ·rw[if_neg hj,if_neg hj]; exact h.obj j
def iv6 (xs:XSt) (id esz did len n:Nat) (cells:List IV):Option (IV×XSt):=
 match xs.t.raw did with
 | some (.app rev n0 h0)=>if hc:cells.all IV.leaf=true then
   if n≠0/\len*esz=n0/\len+n<=2147483648 then
    ((xs.put did none).bind fun xs1=>xs1.put id (some (.app (cells::rev) (n0+cells.length) (gt9 h0 hc)))).map fun xs'=>(.slice id 0 (len+n) esz,xs')
   else none
  else none
 | _=>none
theorem ev6 {Λ:Lam}{xs:XSt}{id esz did len n:Nat}{cells:List IV}{r:IV×XSt}(hx:XR P E Λ xs σ)(h:iv6 xs id esz did len n cells=some r) :
  ∃ cs,σ.obj did=some (.row cs)/\n≠0/\len*esz=cs.length/\len+n<=2147483648/\cs.all IV.leaf=true/\r.1=.slice id 0 (len+n) esz/\XR P E Λ r.2 ((σ.kill did).put id (.row (cs++cells))):=by
 unfold iv6 at h;split at h
 ·rename_i rev n0 h0 hraw;split at h
  ·rename_i hc;split at h
   ·rename_i hn;obtain ⟨xs',hp,rfl⟩:=map_some h
    cases hp1:xs.put did none with
    | none=>rw[hp1] at hp; cases hp
    | some xs1=>
     rw[hp1] at hp;have hg:xs.t.get did=some (.o (.row rev.reverse.flatten)):=by unfold Tr.get; rw[hraw]; rfl
     have:=(hx.kill hp1).jb2 hp;have e:(cells::rev).reverse.flatten=rev.reverse.flatten++cells:=by simp
     rw[e] at this;exact ⟨_,hx.get hg,hn.1,by rw[h0.1]; exact hn.2.1,hn.2.2,h0.2,rfl,this⟩
   ·cases h
  ·cases h
 ·cases h
def in8 (xs:XSt)(id n esz:Nat)(cells:List IV):Option (IV×XSt):=
 if hc:cells.all IV.leaf=true then (xs.put id (some (.app [cells] (0+cells.length) (gt9 ⟨rfl,rfl⟩ hc)))).map fun xs'=>(.slice id 0 n esz,xs') else none
theorem cx3 {Λ:Lam}{xs:XSt}{id n esz:Nat}{cells:List IV}{r:IV×XSt}(hx:XR P E Λ xs σ)(h:in8 xs id n esz cells=some r):r.1=.slice id 0 n esz/\XR P E Λ r.2 (σ.put id (.row cells)):=by
 unfold in8 at h;split at h
 ·obtain ⟨xs',hp,rfl⟩:=map_some h;have:=hx.jb2 hp;have e:[cells].reverse.flatten=cells:=by simp
  rw[e] at this;exact ⟨rfl,this⟩
 ·cases h
def in9 (xs:XSt) (id esz:Nat) (s x:IV):Option (IV×XSt):=
 match av8 xs.st esz x with
 | none=>none
 | some (n,cells)=>
  if cells.all IV.leaf=false then none else
  match s with
  | .aa1=>if n=0 then some (.aa1,xs) else if n<=2147483648 then in8 xs id n esz cells else none
  | .ab9=>if n=0 then some (.ab9,xs) else if n<=2147483648 then in8 xs id n esz cells else none
  | .aa3 es=>if n=0 then some (.aa3 es,xs) else none
  | .slice did off len e=>match (if off=0/\e=esz then iv6 xs id esz did len n cells else none) with
   | some r=>some r
   | none=>match xs.t.get did with
   | some (.o (.row cs))=>
    if e=esz/\n=0 then some (s,xs)
    else if e=esz/\off+len*esz=cs.length/\len+n<=2147483648/\(cs.drop off).all IV.leaf=true then
     ((xs.put did none).bind fun xs1=>xs1.put id (some (.o (.row (cs.drop off++cells))))).map fun xs'=>(.slice id 0 (len+n) esz,xs')
    else none
   | _=>none
  | .ae3 did off len e=>match xs.t.get did with
   | some (.o (.row cs))=>
    if e=esz/\n=0 then some (.slice did off len e,xs)
    else if e=esz/\off+len*esz<=cs.length/\len+n<=2147483648/\n≠0 then (xs.put id (some (.o (.row ((cs.drop off).take (len*esz)++cells))))).map fun xs'=>(.slice id 0 (len+n) esz,xs')
    else none
   | _=>none
  | _=>none
theorem ev7 {Λ:Lam}{xs:XSt}{id esz:Nat}{s x:IV}{r:IV×XSt}(hx:XR P E Λ xs σ)(h:in9 xs id esz s x=some r):∃ σ',aq2 σ id esz s x=some (r.1,σ')/\XR P E Λ r.2 σ':=by
 unfold in9 at h;unfold aq2
 cases hs:av8 xs.st esz x with
 | none=>rw[hs] at h; cases h
 | some p=>
  obtain ⟨n,cells⟩:=p;rw[hs] at h;rw[dw8 hx.le hs];simp only at h ⊢;split at h
  ·cases h
  rename_i hlf;rw[if_neg hlf];split at h
  ·split at h
   ·rename_i hn; cases h; exact ⟨σ,by simp[hn],hx⟩
   ·rename_i hn;split at h
    ·rename_i hn2;obtain ⟨h1,h2⟩:=cx3 hx h;exact ⟨_,by simp[hn,hn2,h1],h2⟩
    ·cases h
  ·split at h
   ·rename_i hn; cases h; exact ⟨σ,by simp[hn],hx⟩
   ·rename_i hn;split at h
    ·rename_i hn2;obtain ⟨h1,h2⟩:=cx3 hx h;exact ⟨_,by simp[hn,hn2,h1],h2⟩
    ·cases h
  ·split at h
   ·rename_i hn; cases h; exact ⟨σ,by simp[hn],hx⟩
   ·cases h
  ·rename_i did off len e;split at h
   ·rename_i r' hr;cases h;split at hr
    ·rename_i he;obtain ⟨rfl,rfl⟩:=he;obtain ⟨cs,g1,g2,g3,g4,g5,g6,g7⟩:=ev6 hx hr;refine ⟨_,?_,g7⟩;simp only[g1];rw[if_neg (fun h=>g2 h.2),if_pos ⟨trivial,by rw[Nat.zero_add,g3],g4,by simpa using g5⟩,g6];simp
    ·cases hr
   split at h
   ·rename_i cs hg;simp only[hx.get hg];split at h
    ·rename_i hn; cases h; exact ⟨σ,by simp[hn],hx⟩
    ·rename_i hn;split at h
     ·rename_i hn2;obtain ⟨xs',hp,rfl⟩:=map_some h
      cases hp1:xs.put did none with
      | none=>rw[hp1] at hp; cases hp
      | some xs1=>
       rw[hp1] at hp;refine ⟨_,?_,(hx.kill hp1).put hp⟩;rw[if_neg hn,if_pos hn2]
     ·cases h
   ·cases h
  ·rename_i did off len e;split at h
   ·rename_i cs hg;simp only[hx.get hg];split at h
    ·rename_i hn; cases h; exact ⟨σ,by simp[hn],hx⟩
    ·rename_i hn;split at h
     ·rename_i hn2;obtain ⟨xs',hp,rfl⟩:=map_some h;exact ⟨_,by rw[if_neg hn,if_pos hn2],hx.put hp⟩
     ·cases h
   ·cases h
  ·cases h
def ee3 (xs:XSt):IV->Option (IV×XSt)
 | .ptr id 0=>match xs.t.get id with
  | some (.o (.as1 s pos))=>if pos<s.length then (xs.put id (some (.o (.as1 s (pos+(Utf8.decode ⟨s.toArray⟩ pos).2))))).map fun xs'=>(.tuple [.bool true,.int .i64 pos,.int .i32 (Utf8.decode ⟨s.toArray⟩ pos).1],xs') else some (.tuple [.bool false],xs)
  | _=>none
 | _=>none
theorem dm7 {Λ:Lam}{xs:XSt}{v:IV}{r:IV×XSt}(hx:XR P E Λ xs σ)(h:ee3 xs v=some r):∃ σ',bc6 σ v=some (r.1,σ')/\XR P E Λ r.2 σ':=by
 unfold ee3 at h;split at h
 ·rename_i id;split at h
  ·rename_i s pos hg;rw[bb7,hx.get hg,gg9];split at h
   ·rename_i hp;obtain ⟨xs',h1,rfl⟩:=map_some h;rw[if_pos hp];exact ⟨_,rfl,hx.put h1⟩
   ·rename_i hp;cases h;rw[if_neg hp];exact ⟨_,rfl,hx⟩
  ·cases h
 ·cases h
def gh3 (xs:XSt)(tag:Nat)(x k v:IV):Option XSt :=
 match x with
 | .map id=>match xs.t.get id with
  | some (.o (.map es))=>match fg2 tag k v es with
   | some es'=>xs.put id (some (.o (.map es')))
   | none=>none
  | _=>none
 | _=>none
theorem dw9 {Λ:Lam}{xs xs':XSt}{tag:Nat}{x k v:IV}(hx:XR P E Λ xs σ)(h:gh3 xs tag x k v=some xs'):∃ σ',aq7 σ tag x k v=some σ'/\XR P E Λ xs' σ':=by
 unfold gh3 at h;split at h
 ·rename_i id;split at h
  ·rename_i es hg;split at h
   ·rename_i es' hu;refine ⟨_,?_,hx.put h⟩;simp only[aq7,hx.get hg,hu,Option.map_some]
   ·cases h
  ·cases h
 ·cases h
def io1 (xs:XSt)(esz:Nat)(z:List IV):IV->Option XSt
 | .aa1|.ab9=>some xs
 | .aa3 []=>some xs
 | .slice id off len e=>if len=0 then some xs else match xs.t.get id with
  | some (.o (.row cs))=>if e=esz/\off+len*esz<=cs.length/\z.all IV.leaf=true then xs.put id (some (.o (.row (ax1 cs off (rep z len))))) else none
  | _=>none
 | _=>none
theorem ev8 {Λ:Lam}{xs xs':XSt}{esz:Nat}{z:List IV}{v:IV}(hx:XR P E Λ xs σ)(h:io1 xs esz z v=some xs'):∃ σ',fg9 σ esz z v=some σ'/\σ'.next=σ.next/\XR P E Λ xs' σ':=by
 unfold io1 at h;split at h
 ·cases h; exact ⟨σ,rfl,rfl,hx⟩
 ·cases h; exact ⟨σ,rfl,rfl,hx⟩
 ·cases h; exact ⟨σ,rfl,rfl,hx⟩
 ·rename_i id off len e;split at h
  ·rename_i h0; cases h; exact ⟨σ,by simp[fg9,h0],rfl,hx⟩
  ·rename_i h0;split at h
   ·rename_i cs hg;split at h
    ·rename_i hc;refine ⟨σ.put id (.row (ax1 cs off (rep z len))),?_,rfl,hx.put h⟩;simp only[fg9,if_neg h0,hx.get hg];rw[if_pos hc]
    ·cases h
   ·cases h
 ·cases h
def jb3 (xs:XSt)(tag:Nat)(k:IV):IV->Option (IV×XSt)
 | .map id=>match xs.t.get id with
  | some (.o (.map es))=>match gb1 tag k es with
   | some es'=>(xs.put id (some (.o (.map es')))).map fun s=>(.undef,s)
   | none=>none
  | _=>none
 | .ag2=>match kOK tag k with
  | true=>some (.undef,xs)
  | false=>none
 | _=>none
def jb4 (xs:XSt)(id esz l h:Nat):IV->Option (IV×XSt)
 | .aa1=>if h=0 then some (.aa1,xs) else none
 | .ab9=>if h=0 then some (.ab9,xs) else none
 | .slice did off len e=>if e=esz/\l<=h/\h<=len then match xs.t.get did with
  | some (.o (.row cs))=>if off+len*esz<=cs.length then ((xs.put did none).bind fun x1=>x1.put id (some (.o (.row ((cs.drop (off+l*esz)).take ((h-l)*esz)))))).map fun s=>(.slice id 0 (h-l) esz,s) else none
  | _=>none
  else none
 | _=>none
def jb5 (xs:XSt)(id esz:Nat)(chk:Bool)(x lo hi mx:IV):Option (IV×XSt):=
 match cm6 lo,cm6 hi,cm6 mx with
 | some l,some h,some m=>match chk with
  | true=>match ip5 x with
   | some n=>if l<=h/\h<=m/\m<=n then some (.undef,xs) else none
   | none=>none
  | false=>if l<=h/\h=m then jb4 xs id esz l h x else none
 | _,_,_=>none
def jb6 (xs:XSt)(esz:Nat)(d s:IV):Option (IV×XSt):=
 match d with
 | .slice id off len e=>match av8 xs.st esz (cp3 len s) with
  | some (n,cells)=>match xs.t.get id with
   | some (.o (.row cs))=>if e=esz/\n<=len/\off+n*esz<=cs.length/\cells.all IV.leaf=true then (xs.put id (some (.o (.row (ax1 cs off cells))))).map fun s=>(.int .i64 n,s) else none
   | _=>none
  | none=>none
 | _=>none
def jb7 (xs:XSt)(esz:Nat)(d s:IV):Option (IV×XSt):=
 match d with
 | .ad8 id off len room e=>match av8 xs.st esz s with
  | some (n,cells)=>match xs.t.get id with
   | some (.o (.row cs))=>if e=esz/\len+n<=room/\off+len*esz+n*esz<=cs.length/\cells.all IV.leaf=true then (xs.put id (some (.o (.row (ax1 cs (off+len*esz) cells))))).map fun t=>(.ad8 id off (len+n) room e,t) else none
   | _=>none
  | none=>none
 | _=>none
def stX (k:SK)(id:Nat)(xs:XSt)(vs:List IV):Option (IV×XSt):=
 match k,vs with
 | .ip8 tag,[x,y]=>jb3 xs tag y x
 | .sl3 esz chk,[x,lo,hi,mx]=>jb5 xs id esz chk x lo hi mx
 | .cpy esz,[x,y]=>jb6 xs esz x y
 | .rlp esz,[x,y]=>(im7 esz x y).map fun v=>(v,xs)
 | .apr esz,[x,y]=>jb7 xs esz x y
 | _,_=>none
theorem fo9 {Λ:Lam} {xs:XSt} {k:SK} {id:Nat} {vs:List IV} {r:IV×XSt} (hx:XR P E Λ xs σ) (h:stX k id xs vs=some r):∃ σ',stI k id σ vs=some (r.1,σ')/\XR P E Λ r.2 σ':=by
 unfold stX at h;split at h
 ·rename_i tag x y;unfold jb3 at h;simp only[stI];split at h
  ·rename_i mid;split at h
   ·rename_i es hg;split at h
    ·rename_i es' hu;obtain ⟨s,hp,rfl⟩:=map_some h;refine ⟨σ.put mid (.map es'),?_,hx.put hp⟩;simp only[gb2,hx.get hg,hu]
    ·cases h
   ·cases h
  ·split at h
   ·rename_i hok; cases h; exact ⟨σ,by simp only[gb2,hok],hx⟩
   ·cases h
  ·cases h
 ·rename_i esz chk x lo hi mx;unfold jb5 at h;simp only[stI,hu9];split at h
  ·rename_i l hb m e1 e2 e3;simp only[e1,e2,e3]
   cases chk with
   | true=>
    simp only at h ⊢;split at h
    ·rename_i n hn;simp only[hn];split at h
     ·rename_i hc; cases h; rw[if_pos hc]; exact ⟨σ,rfl,hx⟩
     ·cases h
    ·cases h
   | false=>
    simp only at h ⊢;split at h
    ·rename_i hc;rw[if_pos hc];unfold jb4 at h;split at h
     ·split at h
      ·rename_i h0; cases h; exact ⟨σ,by simp only[fh2,if_pos h0],hx⟩
      ·cases h
     ·split at h
      ·rename_i h0; cases h; exact ⟨σ,by simp only[fh2,if_pos h0],hx⟩
      ·cases h
     ·rename_i did off len e;split at h
      ·rename_i hc2;split at h
       ·rename_i cs hg;split at h
        ·rename_i hl;obtain ⟨s,hp,rfl⟩:=map_some h
         cases hp1:xs.put did none with
         | none=>rw[hp1] at hp; cases hp
         | some x1=>
          rw[hp1] at hp;refine ⟨_,?_,(hx.kill hp1).put hp⟩;simp only[fh2,if_pos hc2,hx.get hg,if_pos hl]
        ·cases h
       ·cases h
      ·cases h
     ·cases h
    ·cases h
  ·cases h
 ·rename_i esz x y;unfold jb6 at h;simp only[stI,hv8];split at h
  ·rename_i did off len e;simp only;split at h
   ·rename_i n cells hsrc;simp only[dw8 hx.le hsrc];split at h
    ·rename_i cs hg;simp only[hx.get hg];split at h
     ·rename_i hc;obtain ⟨s,hp,rfl⟩:=map_some h;rw[if_pos hc];exact ⟨_,rfl,hx.put hp⟩
     ·cases h
    ·cases h
   ·cases h
  ·cases h
 ·rename_i esz x y;obtain ⟨u,hu,rfl⟩:=map_some h;exact ⟨σ,by simp only[stI,hu,Option.map_some],hx⟩
 ·rename_i esz x y;unfold jb7 at h;simp only[stI,hv9];split at h
  ·rename_i did off len room e;simp only;split at h
   ·rename_i n cells hsrc;simp only[dw8 hx.le hsrc];split at h
    ·rename_i cs hg;simp only[hx.get hg];split at h
     ·rename_i hc;obtain ⟨s,hp,rfl⟩:=map_some h;rw[if_pos hc];exact ⟨_,rfl,hx.put hp⟩
     ·cases h
    ·cases h
   ·cases h
  ·cases h
 ·cases h
def af2:Nat->IV->Bool
 | 0,_=>false
 | n+1,v=>match v with
  | .ptr _ _|.slice _ _ _ _|.map _|.yield _|.ae3 _ _ _ _|.ad8 _ _ _ _ _=>false
  | .ad4 cs=>cs.all (af2 n)
  | .aa3 es=>es.all fun e=>e.all (af2 n)
  | .am4 es=>es.all fun e=>af2 n e.1&&af2 n e.2
  | .func _ a b=>a.all (af2 n)&&b.all (af2 n)
  | .iface _ v=>af2 n v
  | .agg cs=>cs.all (af2 n)
  | .tuple cs=>cs.all (af2 n)
  | _=>true
theorem ak5:∀ (n:Nat) (v:IV),af2 n v=true->Bnd 0 v:=by
 intro n
 induction n with
 | zero=>intro v h; cases h
 | succ n ih=>
  intro v h;have all:∀ {cs:List IV},cs.all (af2 n)=true->∀ c∈cs,Bnd 0 c:=fun h c hc=>ih c (List.all_eq_true.1 h c hc)
  cases v with
  | undef=>exact .undef
  | bool b=>exact .bool b
  | int k x=>exact .int k x
  | str s=>exact .str s
  | ad5=>exact .ad5
  | ptr id off=>cases h
  | ad4 cs=>exact .ad4 cs (all h)
  | aa1=>exact .aa1
  | ab9=>exact .ab9
  | ad6=>exact .ad6
  | slice a b c d=>cases h
  | aa3 es=>exact .aa3 es fun e he=>all (List.all_eq_true.1 h e he)
  | ag2=>exact .ag2
  | map id=>cases h
  | am4 es=>exact .am4 es (fun e he=>ih _ (by have:=List.all_eq_true.1 h e he; simp at this; exact this.1)) (fun e he=>ih _ (by have:=List.all_eq_true.1 h e he; simp at this; exact this.2))
  | func f a b=>
   simp only[af2,Bool.and_eq_true] at h
   exact .func f a b (all h.1) (all h.2)
  | yield id=>cases h
  | ae4=>exact .ae4
  | iface t v=>exact .iface t v (ih v h)
  | ae2=>exact .ae2
  | agg cs=>exact .agg cs (all h)
  | tuple cs=>exact .tuple cs (all h)
  | ae3 a b c d=>cases h
  | ad8 a b c d e=>cases h
def dm8 (f:IV->Option IV):List IV->Option (List IV)
 | []=>some []
 | c::cs=>match f c,dm8 f cs with
  | some d,some ds=>some (d::ds)
  | _,_=>none
theorem bq6 {f:IV->Option IV}:∀ (cs ds:List IV),dm8 f cs=some ds->ds.length=cs.length/\∀ i,i<cs.length->f (cs.getD i .undef)=some (ds.getD i .undef):=by
 intro cs
 induction cs with
 | nil=>intro ds h; cases h; exact ⟨rfl,fun i hi=>absurd hi (Nat.not_lt_zero _)⟩
 | cons c cs ih=>
  intro ds h;simp only[dm8] at h;split at h
  ·rename_i d ds' h1 h2;cases h;obtain ⟨g1,g2⟩:=ih _ h2;refine ⟨by simp[g1],fun i hi=>?_⟩
   cases i with
   | zero=>simpa using h1
   | succ i=>simpa using g2 i (by simpa using hi)
  ·cases h
def gh4 (f:IV->Option IV):List (List IV)->Option (List (List IV))
 | []=>some []
 | c::cs=>match dm8 f c,gh4 f cs with
  | some d,some ds=>some (d::ds)
  | _,_=>none
theorem ev9 {f:IV->Option IV}:∀ (cs ds:List (List IV)),gh4 f cs=some ds->ds.length=cs.length/\∀ i,i<cs.length->dm8 f (cs.getD i [])=some (ds.getD i []):=by
 intro cs
 induction cs with
 | nil=>intro ds h; cases h; exact ⟨rfl,fun i hi=>absurd hi (Nat.not_lt_zero _)⟩
 | cons c cs ih=>
  intro ds h;simp only[gh4] at h;split at h
  ·rename_i d ds' h1 h2;cases h;obtain ⟨g1,g2⟩:=ih _ h2;refine ⟨by simp[g1],fun i hi=>?_⟩
   cases i with
   | zero=>simpa using h1
   | succ i=>simpa using g2 i (by simpa using hi)
  ·cases h
def cx4 (xs:XSt)(id:Nat):Option (List IV):=
 match xs.t.get id with
 | some (.o (.cells cs))=>some cs
 | some (.o (.row cs))=>some cs
 | _=>none
theorem be8 {Λ:Lam}{xs:XSt}{id:Nat}{cs:List IV}(hx:XR P E Λ xs σ)(h:cx4 xs id=some cs):isCells σ id cs:=by
 unfold cx4 at h;split at h
 ·rename_i c hc; cases h; exact .inl (hx.get hc)
 ·rename_i c hc; cases h; exact .inr (hx.get hc)
 ·cases h
def iv7:IV->IV->Bool
 | .str s,.str t=>!decide (s=t)
 | .int k a,.int k' b=>decide (k=k')&&!decide (a=b)
 | .agg xs,.agg ys=>match allEq (List.replicate xs.length 1) xs ys with
  | some b=>!b
  | none=>false
 | _,_=>false
def iv8:IV->Bool
 | .str _=>true
 | .int _ _=>true
 | .agg xs=>(allEq (List.replicate xs.length 1) xs xs).isSome
 | _=>false
def gh5:List IV->Bool
 | []=>true
 | k::ks=>iv8 k&&ks.all (iv7 k)&&gh5 ks
theorem ee4:∀ (ks:List IntKind) (as:List Int) (i:Nat),as.length=ks.length->i<ks.length->∃ n,((ks.zip as).map fun p=>IV.int p.1 p.2).getD i .undef=.int (ks.getD i .i64) n:=by
 intro ks
 induction ks with
 | nil=>intro as i _ h; exact absurd h (Nat.not_lt_zero _)
 | cons k ks ih=>
  intro as i h1 h2
  cases as with
  | nil=>simp at h1
  | cons a as=>
   cases i with
   | zero=>exact ⟨a,by simp⟩
   | succ i=>
    obtain ⟨n,hn⟩:=ih as i (by simpa using h1) (by simpa using h2);exact ⟨n,by simpa using hn⟩
theorem dm9 {a b:IV}(h:iv7 a b=true):a≠b/\∀ K,bl6 K b->bl6 K a:=by
 unfold iv7 at h;split at h
 ·rename_i s t;refine ⟨fun e=>by cases e; simp at h,fun K hb=>by cases K<;>first|trivial|cases hb⟩
 ·rename_i k x k' y;simp only[Bool.and_eq_true,decide_eq_true_eq,Bool.not_eq_true',decide_eq_false_iff_not] at h;refine ⟨fun e=>by cases e; exact h.2 rfl,fun K hb=>?_⟩
  cases K with
  | int K=>simp only[bl6] at hb ⊢; rw[h.1,hb]
  | _=>cases hb
 ·rename_i xs ys;split at h
  ·rename_i bb hb;have hbb:bb=false:=by simpa using h
   subst hbb;obtain ⟨ks,as,bs,l1,l2,l3,e1,e2,e3⟩:=au9 hb;have hne:as≠bs:=by simpa using e3
   refine ⟨fun e=>?_,fun K hK=>?_⟩
   ·cases e;rw[e1] at e2;exact hne (fe7 ks as bs (by omega) (by omega) e2)
   ·cases K with
    | agg ks'=>
     simp only[bl6] at hK ⊢;have hk:ks=ks':=dj2 ks ks' bs (List.replicate ks'.length 0) (by omega) (by simp) (by have:=hK.1; rw[e2] at this; simp at this; omega) (fun i hi=>by have:=hK.2 i (by rw[e2]; simp; omega); rwa [e2] at this);subst hk;rw[e1]
     refine ⟨by simp; omega,fun i hi=>ee4 ks as i (by omega) (by simp at hi; omega)⟩
    | _=>cases hK
  ·cases h
 ·cases h
theorem fp1 {k:IV}(h:iv8 k=true):∃ K,bl6 K k:=by
 cases k with
 | str s=>exact ⟨.str,trivial⟩
 | int K a=>exact ⟨.int K,rfl⟩
 | agg xs=>
  simp only[iv8] at h;obtain ⟨b,hb⟩:=Option.isSome_iff_exists.1 h;obtain ⟨ks,as,bs,l1,l2,l3,e1,_,_⟩:=au9 hb;refine ⟨.agg ks,?_⟩;rw[e1]
  exact ⟨by simp; omega,fun i hi=>ee4 ks as i (by omega) (by simp at hi; omega)⟩
 | _=>cases h
theorem ew1:∀ ks:List IV,gh5 ks=true->ks.Nodup/\∃ K,∀ k∈ks,bl6 K k:=by
 intro ks
 induction ks with
 | nil=>intro _; exact ⟨List.nodup_nil,.str,fun k hk=>by cases hk⟩
 | cons k ks ih=>
  intro h;simp only[gh5,Bool.and_eq_true] at h;obtain ⟨h1,K,h2⟩:=ih h.2;have hall:=List.all_eq_true.1 h.1.2;refine ⟨List.nodup_cons.2 ⟨fun hk=>(dm9 (hall k hk)).1 rfl,h1⟩,?_⟩
  cases ks with
  | nil=>
   obtain ⟨K,hK⟩:=fp1 h.1.1
   exact ⟨K,fun k hk=>by rw[List.mem_singleton.1 hk]; exact hK⟩
  | cons k2 ks=>
   refine ⟨K,fun x hx=>?_⟩;rcases List.mem_cons.1 hx with rfl|hx
   ·exact (dm9 (hall k2 (List.mem_cons_self ..))).2 K (h2 k2 (List.mem_cons_self ..))
   ·exact h2 x hx
def ce3 (xs:XSt) (ok:Nat->Bool):Nat->IV->Option IV
 | 0,_=>none
 | n+1,v=>match v with
  | .ptr id off=>if ok id=false then none else match cx4 xs id with
   | some cs=>if off<=cs.length then (dm8 (ce3 xs ok n) (cs.drop off)).map .ad4 else none
   | none=>none
  | .slice id off len esz=>if ok id=false then none else match cx4 xs id with
   | some cs=>if len=0 then some .ad6 else if off+len*esz<=cs.length then (dm8 (ce3 xs ok n) ((cs.drop off).take (len*esz))).map fun out=>.aa3 (chunk esz len out) else none
   | none=>none
  | .map id=>if ok id=false then none else match xs.t.get id with
   | some (.o (.map es))=>match dm8 (ce3 xs ok n) (es.map (·.1)),dm8 (ce3 xs ok n) (es.map (·.2)) with
    | some ks,some vs=>if gh5 ks then some (.am4 (ks.zip vs)) else none
    | _,_=>none
   | _=>none
  | .func f a b=>match dm8 (ce3 xs ok n) a,dm8 (ce3 xs ok n) b with
   | some a',some b'=>some (.func f a' b')
   | _,_=>none
  | .iface t v=>(ce3 xs ok n v).map (.iface t)
  | .agg cs=>(dm8 (ce3 xs ok n) cs).map .agg
  | .tuple cs=>(dm8 (ce3 xs ok n) cs).map .tuple
  | .yield _=>none
  | .ae3 _ _ _ _=>none
  | .ad8 _ _ _ _ _=>none
  | .ad4 cs=>if af2 1000 (.ad4 cs) then some (.ad4 cs) else (dm8 (ce3 xs ok n) cs).map .ad4
  | .aa3 es=>if af2 1000 (.aa3 es) then some (.aa3 es) else (gh4 (ce3 xs ok n) es).map .aa3
  | .am4 es=>if af2 1000 (.am4 es) then some (.am4 es) else none
  | v=>some v
theorem bj5 {Λ:Lam}{xs:XSt}{ok:Nat->Bool}{S:Nat->Prop}(hx:XR P E Λ xs σ)(hok:∀ i,ok i=true->¬ S i):∀ (n:Nat) (v v':IV),ce3 xs ok n v=some v'->Frz σ S v v':=by
 have cl:∀ v,Bnd 0 v->Nm S v:=fun v h=>h.weak fun i h=>absurd h (Nat.not_lt_zero _)
 intro n
 induction n with
 | zero=>intro v v' h; cases h
 | succ n ih=>
  intro v v' h;have ih':∀ {cs ds:List IV},dm8 (ce3 xs ok n) cs=some ds->ds.length=cs.length/\∀ i,i<cs.length->Frz σ S (cs.getD i .undef) (ds.getD i .undef):=fun h=>⟨(bq6 _ _ h).1,fun i hi=>ih _ _ ((bq6 _ _ h).2 i hi)⟩
  cases v with
  | undef=>cases h; exact .keep _ .undef
  | bool b=>cases h; exact .keep _ (.bool b)
  | int k x=>cases h; exact .keep _ (.int k x)
  | str s=>cases h; exact .keep _ (.str s)
  | ad5=>cases h; exact .keep _ .ad5
  | ptr id off=>
   simp only[ce3] at h;split at h
   ·cases h
   rename_i hoki;split at h
   ·rename_i cs hc;split at h
    ·rename_i hle;obtain ⟨ds,hd,rfl⟩:=map_some h;obtain ⟨h1,h2⟩:=ih' hd;simp only[List.length_drop] at h1 h2;refine .ptr id off cs ds (hok _ (by simpa using hoki)) (be8 hx hc) (by omega) fun j hj=>?_
     have:=h2 j (by omega)
     rwa [ah1] at this
    ·cases h
   ·cases h
  | ad4 cs=>
   simp only[ce3] at h;split at h
   ·rename_i hc; cases h; exact .keep _ (cl _ (ak5 _ _ hc))
   ·obtain ⟨ds,hd,rfl⟩:=map_some h;obtain ⟨h1,h2⟩:=ih' hd
    exact .ad4 cs ds h1 h2
  | aa1=>cases h; exact .keep _ .aa1
  | ab9=>cases h; exact .keep _ .ab9
  | ad6=>cases h; exact .keep _ .ad6
  | slice id off len esz=>
   simp only[ce3] at h;split at h
   ·cases h
   rename_i hoki;split at h
   ·rename_i cs hc;split at h
    ·rename_i h0;cases h;subst h0;exact .fh1 id off esz (by rcases be8 hx hc with h|h<;>rw[h]<;>exact fun h=>(by cases h))
    ·split at h
     ·rename_i h0 hle;obtain ⟨ds,hd,rfl⟩:=map_some h;obtain ⟨h1,h2⟩:=ih' hd;have hl:((cs.drop off).take (len*esz)).length=len*esz:=by simp; omega
      rw[hl] at h1 h2
      have key:∀ i,i<len->i*esz+esz<=len*esz:=fun i hi=>by
       have:(i+1)*esz<=len*esz:=Nat.mul_le_mul_right _ (by omega);rw[Nat.add_mul,Nat.one_mul] at this;omega
      refine .slice id off len esz cs _ (hok _ (by simpa using hoki)) (be8 hx hc) (bd9 _ _ _) hle (fun i hi=>?_) (fun i hi j hj=>?_)
      ·rw[av4 _ _ _ _ hi];have:=key i hi;simp; omega
      ·rw[av4 _ _ _ _ hi,getD_take' _ _ _ _ hj,ah1];have hk:=key i hi;have:=h2 (i*esz+j) (by omega)
       rwa [getD_take' _ _ _ _ (by omega),ah1] at this
     ·cases h
   ·cases h
  | aa3 es=>
   simp only[ce3] at h;split at h
   ·rename_i hc; cases h; exact .keep _ (cl _ (ak5 _ _ hc))
   ·obtain ⟨ds,hd,rfl⟩:=map_some h;obtain ⟨h1,h2⟩:=ev9 _ _ hd
    exact .aa3 es ds h1 (fun i hi=>(ih' (h2 i hi)).1) (fun i hi j hj=>(ih' (h2 i hi)).2 j hj)
  | ag2=>cases h; exact .keep _ .ag2
  | map id=>
   simp only[ce3] at h;split at h
   ·cases h
   rename_i hoki;split at h
   ·rename_i es hg;split at h
    ·rename_i ks vs hk hv;split at h
     ·rename_i hkb;cases h;obtain ⟨h1,h2⟩:=ih' hk;obtain ⟨h3,h4⟩:=ih' hv;simp only[List.length_map] at h1 h2 h3 h4
      have hfst:(ks.zip vs).map (·.1)=ks:=by
       have:(ks.zip vs).map Prod.fst=ks:=List.map_fst_zip (by omega);exact this
      obtain ⟨kb1,K,kb2⟩:=ew1 ks hkb
      have hz:∀ i,i<es.length->(ks.zip vs).getD i (.undef,.undef)=(ks.getD i .undef,vs.getD i .undef):=fun i hi=>by
       simp[List.getD_eq_getElem?_getD,List.getElem?_eq_getElem,h1,h3,hi]
      refine .map id es _ _ (hok _ (by simpa using hoki)) (hx.get hg) (by simp[h1,h3]) (List.Perm.refl _) ⟨by rw[hfst]; exact kb1,K,fun e he=>kb2 _ (by rw[<- hfst]; exact List.mem_map.2 ⟨e,he,rfl⟩)⟩ (fun i hi=>?_) (fun i hi=>?_)
      ·have:=h2 i hi;rw[hz i hi];have e:(es.map (·.1)).getD i .undef=(es.getD i (.undef,.undef)).1:=by simp[List.getD_eq_getElem?_getD,hi]
       rw[e] at this;exact this
      ·have:=h4 i hi;rw[hz i hi];have e:(es.map (·.2)).getD i .undef=(es.getD i (.undef,.undef)).2:=by simp[List.getD_eq_getElem?_getD,hi]
       rw[e] at this;exact this
     ·cases h
    ·cases h
   ·cases h
  | am4 es=>
   simp only[ce3] at h;split at h
   ·rename_i hc; cases h; exact .keep _ (cl _ (ak5 _ _ hc))
   ·cases h
  | func f a b=>
   simp only[ce3] at h;split at h
   ·rename_i a' b' ha hb;cases h;obtain ⟨h1,h2⟩:=ih' ha;obtain ⟨h3,h4⟩:=ih' hb;exact .func f a a' b b' h1 h3 h2 h4
   ·cases h
  | yield id=>cases h
  | ae3 _ _ _ _=>cases h
  | ad8 _ _ _ _ _=>cases h
  | ae4=>cases h; exact .keep _ .ae4
  | iface t v=>
   obtain ⟨u,hu,rfl⟩:=map_some h
   exact .iface t v u (ih _ _ hu)
  | ae2=>cases h; exact .keep _ .ae2
  | agg cs=>
   obtain ⟨ds,hd,rfl⟩:=map_some h;obtain ⟨h1,h2⟩:=ih' hd
   exact .agg cs ds h1 h2
  | tuple cs=>
   obtain ⟨ds,hd,rfl⟩:=map_some h;obtain ⟨h1,h2⟩:=ih' hd;exact .tuple cs ds h1 h2
abbrev io2 (xs:XSt)(n:Nat)(v:IV):Option IV:=ce3 xs (fun _=>true) n v
theorem cx5 {Λ:Lam}{xs:XSt}(hx:XR P E Λ xs σ)(n:Nat)(v v':IV)(h:io2 xs n v=some v'):dh8 σ 0 v v':=bj5 hx (fun _ _=>Nat.not_lt_zero _) n v v' h
def dn1 (xs:XSt):Nat->IV->List Nat
 | 0,_=>[]
 | n+1,v=>match v with
  | .ptr id _=>id::((cx4 xs id).getD []).flatMap (dn1 xs n)
  | .slice id _ _ _=>id::((cx4 xs id).getD []).flatMap (dn1 xs n)
  | .map id=>id::(match xs.t.get id with|some (.o (.map es))=>es.flatMap (fun e=>dn1 xs n e.2)|_=>[])
  | .func _ a b=>a.flatMap (dn1 xs n)++b.flatMap (dn1 xs n)
  | .iface _ v=>dn1 xs n v
  | .ad4 cs=>if af2 1000 (.ad4 cs) then [] else cs.flatMap (dn1 xs n)
  | .aa3 es=>if af2 1000 (.aa3 es) then [] else es.flatMap fun e=>e.flatMap (dn1 xs n)
  | .agg cs=>cs.flatMap (dn1 xs n)
  | .tuple cs=>cs.flatMap (dn1 xs n)
  | _=>[]
def bz6:List Nat->XSt->Option XSt
 | [],xs=>some xs
 | i::is,xs=>match xs.put i none with
  | some xs'=>bz6 is xs'
  | none=>none
def ce4 (xs:XSt)(ok:Nat->Bool):List Nat->Frm->Option Frm
 | [],fr=>some fr
 | t::ts,fr=>match ce3 xs ok 1000 (fr.get t),ce4 xs ok ts fr with
  | some v,some fr'=>some (fr'.set t v)
  | _,_=>none
def fp3 (ts:List Nat)(fr:Frm)(xs:XSt):Option (Frm×XSt):=
 match ts with
 | []=>some (fr,xs)
 | _=>
  let ids:=ts.flatMap fun t=>dn1 xs 1000 (fr.get t)
  match ce4 xs (fun i=>ids.contains i) ts fr,bz6 ids xs with
  | some fr',some xs'=>some (fr',xs')
  | _,_=>none
theorem bm9:∀ (is:List Nat) (xs xs':XSt),bz6 is xs=some xs'->xs'.next=xs.next/\∀ j,xs'.t.get j=if is.contains j then none else xs.t.get j:=by
 intro is
 induction is with
 | nil=>intro xs xs' h; cases h; exact ⟨rfl,fun j=>by simp⟩
 | cons i is ih=>
  intro xs xs' h;simp only[bz6] at h;split at h
  ·rename_i x1 h1;obtain ⟨a1,a2⟩:=XSt.be7 h1;obtain ⟨b1,b2⟩:=ih _ _ h;refine ⟨by rw[b1,a1],fun j=>?_⟩;rw[b2,a2];show (if is.contains j=true then none else if j=i then none else xs.t.get j)=_;rw[List.contains_cons];by_cases h1:is.contains j=true
   ·rw[if_pos h1,if_pos (by rw[h1,Bool.or_true])]
   ·rw[if_neg h1];by_cases h2:j=i
    ·rw[if_pos h2,if_pos (by simp[h2])]
    ·rw[if_neg h2,if_neg (by simp at h1 ⊢; exact ⟨h2,h1⟩)]
  ·cases h
theorem dn2 {Λ:Lam} {xs xs':XSt} {ts:List Nat} {fr fr':Frm} (hx:XR P E Λ xs σ) (h:fp3 ts fr xs=some (fr',xs')) :
  ∃ S:Nat->Bool,XR P E Λ xs' (σ.kills S)/\∀ t,fr'.get t=fr.get t\/Frz σ (fun i=>S i=true) (fr.get t) (fr'.get t):=by
 unfold fp3 at h;split at h
 ·cases h;refine ⟨fun _=>true,?_,fun t=>.inl rfl⟩;have:σ.kills (fun _=>true)=σ:=by unfold Store.kills; simp
  rw[this]; exact hx
 ·generalize (ts.flatMap fun t=>dn1 xs 1000 (fr.get t))=ids at h;simp only at h;split at h
  ·rename_i f1 x1 hf hk;cases h;refine ⟨fun i=>!ids.contains i,?_,?_⟩
   ·obtain ⟨a1,a2⟩:=bm9 _ _ _ hk;refine ⟨by rw[a1]; exact hx.next,fun j=>?_⟩;rw[a2];show XOR P E Λ j _ (if (!ids.contains j)=true then σ.obj j else none);by_cases hj:ids.contains j=true
    ·rw[if_pos hj,if_neg (by simp at hj ⊢; exact hj)]; rfl
    ·rw[if_neg hj,if_pos (by simp at hj ⊢; exact hj)]; exact hx.obj j
   ·have key:∀ (ts:List Nat) (f1:Frm),ce4 xs (fun i=>ids.contains i) ts fr=some f1->∀ t,f1.get t=fr.get t\/Frz σ (fun i=>(!ids.contains i)=true) (fr.get t) (f1.get t):=by
     intro ts
     induction ts with
     | nil=>intro f1 h t; cases h; exact .inl rfl
     | cons s ts ih=>
      intro f1 h t;simp only[ce4] at h;split at h
      ·rename_i v f2 h1 h2;cases h;rw[Frm.bl7];split
       ·rename_i e; subst e;exact .inr (bj5 hx (fun i hi=>by simp at hi ⊢; exact hi) _ _ _ h1)
       ·exact ih f2 h2 t
      ·cases h
    exact key _ _ hf
  ·cases h
theorem ew2 {ρ:Rho}{w:World}{S:Nat->Bool}{id:Nat}{cs cs':List IV}(hs:Sim E ρ w σ)(hS:S id=true)(ho:σ.obj id=some (.cells cs))(hl:cs'.length=cs.length)
  (hc:∀ i,i<cs.length->cs'.getD i .undef=cs.getD i .undef\/Frz σ (fun i=>S i=true) (cs.getD i .undef) (cs'.getD i .undef)) :
  ∃ ρd:Rho,Sim E ρd w ((σ.kills S).put id (.cells cs'))/\(∀ n,Ext n ρ w ρd w):=by
 obtain ⟨ρd,hs0,hxd,hvd⟩:=bb8 (S:=S) hs;have hko:(σ.kills S).obj id=some (.cells cs):=by simp[Store.kills,hS,ho]
 refine ⟨ρd,⟨hs0.inj,hs0.lt,fun i B d hi=>?_,fun i hi=>?_,hs0.fresh,fun i hi=>?_,hs0.env,hs0.nx,hs0.xlt⟩,hxd⟩
 ·obtain ⟨o,h1,h2⟩:=hs0.obj i B d hi;by_cases e:i=id
  ·subst e;rw[hko] at h1;cases h1;obtain ⟨rcs,el,hb,hsz,hv⟩:=h2;refine ⟨.cells cs',by simp[Store.put],rcs,el,hb,by rw[hl]; exact hsz,fun k hk=>?_⟩;rw[hl] at hk;rcases hc k hk with e1|e1
   ·rw[e1]; exact hv k hk
   ·-- what lay there before the blocks went
    have hb0:∃ d0,ρ i=.at B d0:=by
     match hr:ρ i with
     | .no=>have:=(hxd (i+1)).no i (Nat.lt_succ_self _) hr; rw[hi] at this; cases this
     | .dead=>have:=(hxd 0).dead i hr; rw[hi] at this; cases this
     | .at B2 d2=>
      rcases (hxd 0).at_ i B2 d2 hr with h|h
      ·rw[hi] at h; cases h; exact ⟨_,rfl⟩
      ·rw[hi] at h; cases h
    obtain ⟨d0,hat⟩:=hb0
    have hd:d0=d:=by
     rcases (hxd 0).at_ i B d0 hat with h|h
     ·rw[hi] at h; cases h; rfl
     ·rw[hi] at h; cases h
    subst hd;obtain ⟨o2,g1,g2⟩:=hs.obj i B d0 hat;rw[ho] at g1;cases g1;obtain ⟨rcs2,el2,hb2,_,hv2⟩:=g2;rw[hb] at hb2;cases hb2;exact hvd _ _ _ e1 (hv2 k hk)
  ·exact ⟨o,by simp[Store.put,e,h1],h2⟩
 ·have h0:=hs0.dead i hi;have:i≠id:=fun e=>by subst e; rw[hko] at h0; cases h0
  simp[Store.put,this,h0]
 ·have h0:=hs0.al7 i hi;have:i≠id:=fun e=>by subst e; rw[hko] at h0; cases h0
  simp[Store.put,this,h0]
def cc2 (E:Nat->IV)(σ:Store)(fr:Frm)(σ':Store)(fr':Frm):Prop :=
 ∀ (ρ:Rho) (w:World),Sim E ρ w σ->∃ ρd:Rho,Sim E ρd w σ'/\(∀ n,Ext n ρ w ρd w)/\∀ (N:Nat) (tmps:Array Value),FR ρ w N fr tmps->FR ρd w N fr' tmps
theorem cc2.trans {σ'':Store}{fr fr' fr'':Frm}(h:cc2 E σ fr σ' fr')(h':cc2 E σ' fr' σ'' fr''):cc2 E σ fr σ'' fr'':=fun ρ w hs=>
 let ⟨ρ1,a1,a2,a3⟩:=h ρ w hs;let ⟨ρ2,b1,b2,b3⟩:=h' ρ1 w a1
 ⟨ρ2,b1,fun n=>(a2 n).trans (b2 n) (Nat.le_refl _),fun N tmps hf=>b3 N tmps (a3 N tmps hf)⟩
theorem cc2.refl (fr:Frm):cc2 E σ fr σ fr:=fun ρ w hs=>⟨ρ,hs,fun n=>Ext.refl _ _ _,fun _ _ h=>h⟩
theorem cc2.of {S:Nat->Bool}{fr fr':Frm}(hf:∀ t,fr'.get t=fr.get t\/Frz σ (fun i=>S i=true) (fr.get t) (fr'.get t)):cc2 E σ fr (σ.kills S) fr':=fun ρ w hs=>by
 obtain ⟨ρd,hs0,hxd,hvd⟩:=bb8 (S:=S) hs;refine ⟨ρd,hs0,hxd,fun N tmps hfr=>⟨hfr.size,fun t=>?_⟩⟩;rcases hf t with e|e
 ·rw[e]; exact (hfr.get t).mono (hxd 0)
 ·exact hvd _ _ _ e (hfr.get t)
theorem dd2 {ic:IC}{n0:Nat}{fr fr':Frm}{Q:Exit->Frm->Store->Prop}(hl:cc2 E σ fr σ' fr')(hn:σ'.next=σ.next)(h:RI P E N n0 ic fr' σ' Q):RI P E N n0 ic fr σ Q:=by
 intro pf an c hc hn0 ro h0 ρ w a hs hfr hd hr;obtain ⟨ρd,hs0,hxd,hf⟩:=hl ρ w hs;have hxw:=(hxd n0).weak (Nat.le_refl n0);refine wpIn_mono (h pf an c hc (by rw[hn]; exact hn0) ro h0 ρd w a hs0 (hf _ _ hfr) (hd.mono hxw) (hr.mono hxw)) ?_;rintro e a' w' ⟨fr2,σ2,ρ2,hn2,q,hs2,hf2,hd2,hr2,hx2⟩;exact ⟨fr2,σ2,ρ2,hn2,q,hs2,hf2,hd2,hr2,hxw.trans hx2⟩
def hg9 (m i:Nat):Bool:=Nat.beq (m/2^i%2) 1
def ce5 (f:IV->Option IV)(m:Nat):Nat->List IV->Option (List IV)
 | _,[]=>some []
 | i,c::cs=>match (match hg9 m i with|true=>f c|false=>some c),ce5 f m (i+1) cs with
  | some d,some ds=>some (d::ds)
  | _,_=>none
theorem dd3 {f:IV->Option IV}{m:Nat}:∀ (cs ds:List IV) (i:Nat),ce5 f m i cs=some ds->ds.length=cs.length/\∀ j,j<cs.length->ds.getD j .undef=cs.getD j .undef\/f (cs.getD j .undef)=some (ds.getD j .undef):=by
 intro cs
 induction cs with
 | nil=>intro ds i h; cases h; exact ⟨rfl,fun j hj=>by simp at hj⟩
 | cons c cs ih=>
  intro ds i h;simp only[ce5] at h;split at h
  ·rename_i d ds' h1 h2;cases h;obtain ⟨l,hk⟩:=ih _ _ h2;refine ⟨by simp[l],fun j hj=>?_⟩
   cases j with
   | zero=>
    simp only[List.getD_cons_zero];split at h1
    ·exact .inr h1
    ·cases h1; exact .inl rfl
   | succ j=>
    simp only[List.getD_cons_succ];exact hk j (by simpa using hj)
  ·cases h
def fp4 (t m:Nat)(fr:Frm)(xs:XSt):Option XSt :=
 match fr.get t with
 | .ptr id 0=>match xs.t.get id with
  | some (.o (.cells cs))=>
   let ids:=(cs.zipIdx.filter fun p=>hg9 m p.2).flatMap fun p=>dn1 xs 1000 p.1
   match ce5 (ce3 xs (fun i=>ids.contains i) 1000) m 0 cs,bz6 ids xs,ids.contains id with
   | some cs',some xs1,false=>xs1.put id (some (.o (.cells cs')))
   | _,_,_=>none
  | _=>none
 | _=>none
theorem dn3 {Λ:Lam}{xs xs':XSt}{t m:Nat}{fr:Frm}(hx:XR P E Λ xs σ)(h:fp4 t m fr xs=some xs'):∃ σ',XR P E Λ xs' σ'/\σ'.next=σ.next/\cc2 E σ fr σ' fr:=by
 unfold fp4 at h;split at h
 ·rename_i id hfr;split at h
  ·rename_i cs hg;generalize ((cs.zipIdx.filter fun p=>hg9 m p.2).flatMap fun p=>dn1 xs 1000 p.1)=ids at h;simp only at h;split at h
   ·rename_i cs' x1 hf hk hid;obtain ⟨a1,a2⟩:=bm9 _ _ _ hk
    have hx1:XR P E Λ x1 (σ.kills fun i=>!ids.contains i):=by
     refine ⟨by rw[a1]; exact hx.next,fun j=>?_⟩;rw[a2];show XOR P E Λ j _ (if (!ids.contains j)=true then σ.obj j else none);by_cases hj:ids.contains j=true
     ·rw[if_pos hj,if_neg (by simp at hj ⊢; exact hj)]; rfl
     ·rw[if_neg hj,if_pos (by simp at hj ⊢; exact hj)]; exact hx.obj j
    obtain ⟨l,hc⟩:=dd3 _ _ _ hf;refine ⟨_,hx1.put h,rfl,fun ρ w hs=>?_⟩
    obtain ⟨ρd,b1,b2⟩:=ew2 (S:=fun i=>!ids.contains i) (cs':=cs') hs (by simp only[hid]; rfl) (hx.get hg) l (fun i hi=>by
     rcases hc i hi with e|e
     ·exact .inl e
     ·exact .inr (bj5 hx (fun i hi=>by simp at hi ⊢; exact hi) _ _ _ e))
    exact ⟨ρd,b1,b2,fun N tmps hfr=>hfr.mono (b2 0)⟩
   ·cases h
  ·cases h
 ·cases h
def dd4:List Nat->Frm->XSt->Option XSt
 | [],_,xs=>some xs
 | k::ks,fr,xs=>match fp4 (k%1000) (k/1000-1) fr xs with
  | some xs'=>dd4 ks fr xs'
  | none=>none
theorem dd5 {Λ:Lam}{fr:Frm}:∀ (ks:List Nat) {σ:Store} {xs xs':XSt},XR P E Λ xs σ->dd4 ks fr xs=some xs'->∃ σ',XR P E Λ xs' σ'/\σ'.next=σ.next/\cc2 E σ fr σ' fr:=by
 intro ks
 induction ks with
 | nil=>intro σ xs xs' hx h; cases h; exact ⟨σ,hx,rfl,.refl _⟩
 | cons k ks ih=>
  intro σ xs xs' hx h;simp only[dd4] at h;split at h
  ·rename_i x1 h1;obtain ⟨σ1,b1,b2,b3⟩:=dn3 hx h1;obtain ⟨σ2,c1,c2,c3⟩:=ih b1 h;exact ⟨σ2,c1,by rw[c2,b2],b3.trans c3⟩
  ·cases h
def dn4 (ts:List Nat)(fr:Frm)(xs:XSt):Option (Frm×XSt):=
 match ts with
 | []=>some (fr,xs)
 | _=>match dd4 (ts.filter fun t=>Nat.ble 1000 t) fr xs with
  | some xs1=>fp3 (ts.filter fun t=>!Nat.ble 1000 t) fr xs1
  | none=>none
theorem bn1 {Λ:Lam}{xs xs':XSt}{ts:List Nat}{fr fr':Frm}(hx:XR P E Λ xs σ)(h:dn4 ts fr xs=some (fr',xs')):∃ σ',XR P E Λ xs' σ'/\σ'.next=σ.next/\cc2 E σ fr σ' fr':=by
 unfold dn4 at h;split at h
 ·cases h; exact ⟨σ,hx,rfl,.refl _⟩
 ·split at h
  ·rename_i x1 h1;obtain ⟨σ1,b1,b2,b3⟩:=dd5 _ hx h1;obtain ⟨S,c1,c2⟩:=dn2 b1 h;exact ⟨_,c1,b2,b3.trans (.of c2)⟩
  ·cases h
end Go.Id
