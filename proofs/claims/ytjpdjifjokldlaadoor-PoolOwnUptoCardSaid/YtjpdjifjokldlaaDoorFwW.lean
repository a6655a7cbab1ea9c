/- Running compiled codes on ideal values: a function,and its proof. Conditions: none; over any program. -/
import Derived.Test.YtjpdjifjokldlaaDoorFwV
set_option linter.all false
namespace Go.Id
open Go
variable {P:Program} {E:Nat→IV} {σ σ':Store} {N n n0:Nat} {fr:Frm}
/-! ### A store that is looked up by halves -/
inductive do5 where
 | o (x:ah2)
 | loop (N:Nat) (fr:Frm) (ps:List Nat) (asg body:IC) (st:LoopState) (pend:Option JX)
 /-- A row that grows: its parts,the last one ahead. -/
 | app (rev:List (List IV)) (n:Nat) (h:rev.reverse.flatten.length=n∧rev.reverse.flatten.all IV.leaf=true)
 deriving Inhabited
def do5.fin:Option do5→Option do5
 | some (.app rev _ _)=>some (.o (.row rev.reverse.flatten))
 | x=>x
inductive Tr where
 | e
 | n (v:Option do5) (l r:Tr)
 deriving Inhabited
def Tr.raw:Tr→Nat→Option do5
 | .e,_=>none
 | .n v l r,i=>bif Nat.beq i 0 then v else bif Nat.beq (i%2) 1 then l.raw (i/2) else r.raw (i/2-1)
def Tr.get (t:Tr)(i:Nat):Option do5:=do5.fin (t.raw i)
def Tr.set (x:Option do5):Nat→Tr→Nat→Tr
 | 0,t,_=>t
 | f+1,.e,i=>bif Nat.beq i 0 then .n x .e .e else bif Nat.beq (i%2) 1 then .n none (Tr.set x f .e (i/2)) .e else .n none .e (Tr.set x f .e (i/2-1))
 | f+1,.n v l r,i=>bif Nat.beq i 0 then .n x l r else bif Nat.beq (i%2) 1 then .n v (Tr.set x f l (i/2)) r else .n v l (Tr.set x f r (i/2-1))
theorem ap3 {α:Type}(a b:Nat)(x y:α):(bif Nat.beq a b then x else y)=if a=b then x else y:=by
 by_cases h:a=b
 ·subst h; simp
 ·have:Nat.beq a b=false:=by rw[← Bool.not_eq_true,Nat.beq_eq]; exact h
  simp[this,h]
theorem Tr.gl5 (x:Option do5):∀ (f:Nat) (t:Tr) (i j:Nat),i+1<2^f→(Tr.set x f t i).raw j=if j=i then x else t.raw j:=by
 intro f
 induction f with
 | zero=>intro t i j h; simp at h
 | succ f ih=>
  intro t i j h;have hp:2^(f+1)=2*2^f:=by rw[Nat.pow_succ]; omega
  cases t with
  | e =>
   simp only[Tr.set,ap3];split
   ·rename_i h0; subst h0;simp only[Tr.raw,ap3];split
    ·rfl
    ·split<;>rfl
   ·rename_i h0;split
    ·rename_i h1;simp only[Tr.raw,ap3];by_cases hj:j=0
     ·subst hj; rw[if_pos rfl,if_neg (by omega)]
     ·rw[if_neg hj];split
      ·rename_i h2;rw[ih _ _ _ (by omega)];by_cases hij:j=i
       ·rw[if_pos hij,if_pos (by omega)]
       ·rw[if_neg hij,if_neg (by omega)]; rfl
      ·rw[if_neg (by omega)]
    ·rename_i h1;simp only[Tr.raw,ap3];by_cases hj:j=0
     ·subst hj; rw[if_pos rfl,if_neg (by omega)]
     ·rw[if_neg hj];split
      ·rw[if_neg (by omega)]
      ·rename_i h2;rw[ih _ _ _ (by omega)];by_cases hij:j=i
       ·rw[if_pos hij,if_pos (by omega)]
       ·rw[if_neg hij,if_neg (by omega)]; rfl
  | n v l r=>
   simp only[Tr.set,ap3];split
   ·rename_i h0; subst h0;simp only[Tr.raw,ap3];split
    ·rfl
    ·rfl
   ·rename_i h0;split
    ·rename_i h1;simp only[Tr.raw,ap3];by_cases hj:j=0
     ·subst hj; rw[if_pos rfl,if_neg (by omega)]; rfl
     ·rw[if_neg hj,if_neg hj];split
      ·rename_i h2;rw[ih _ _ _ (by omega)];by_cases hij:j=i
       ·rw[if_pos hij,if_pos (by omega)]
       ·rw[if_neg hij,if_neg (by omega)]
      ·rw[if_neg (by omega)]
    ·rename_i h1;simp only[Tr.raw,ap3];by_cases hj:j=0
     ·subst hj; rw[if_pos rfl,if_neg (by omega)]; rfl
     ·rw[if_neg hj,if_neg hj];split
      ·rw[if_neg (by omega)]
      ·rename_i h2;rw[ih _ _ _ (by omega)];by_cases hij:j=i
       ·rw[if_pos hij,if_pos (by omega)]
       ·rw[if_neg hij,if_neg (by omega)]
theorem Tr.bi2 (x:Option do5)(f:Nat)(t:Tr)(i j:Nat)(h:i+1<2^f):(Tr.set x f t i).get j=if j=i then do5.fin x else t.get j:=by
 unfold Tr.get;rw[Tr.gl5 x f t i j h];split<;>rfl
structure XSt where
 next:Nat
 t:Tr
 deriving Inhabited
def XSt.put (xs:XSt)(i:Nat)(x:Option do5):Option XSt :=
 bif Nat.blt i 1152921504606846976 then some ⟨xs.next,xs.t.set x 64 i⟩ else none
def XSt.st (xs:XSt):Store:=⟨xs.next,fun i=>match xs.t.get i with|some (.o x)=>some x|_=>none⟩
theorem XSt.bb1 {xs xs':XSt}{i:Nat}{x:Option do5}(h:xs.put i x=some xs'):xs'.next=xs.next∧∀ j,xs'.t.get j=if j=i then do5.fin x else xs.t.get j:=by
 unfold XSt.put at h
 cases hb:Nat.blt i 1152921504606846976 with
 | false=>rw[hb] at h; cases h
 | true=>
  rw[hb] at h;cases h;have:i<1152921504606846976:=Nat.le_of_ble_eq_true hb;exact ⟨rfl,fun j=>Tr.bi2 x 64 _ i j (by omega)⟩
def YR (P:Program)(E:Nat→IV)(id N:Nat)(fr:Frm)(ps:List Nat)(asg body:IC)(L:LoopState→Option JX→ah2):Prop :=
 ∀ (σ':Store) (args:List IV) (K:IV→Store→Prop),args.length=ps.length→σ'.obj id=some (L .ready none) →
  RI P E N σ'.next asg (bq5 fr ps args) σ' (fun e f s=>e=.normal∧s.obj id=some (L .ready none)∧RI P E N σ'.next body f (s.put id (L .busy none)) (cd1 id L K))→CYd P E id args σ' K
abbrev Lam:=Nat→LoopState→Option JX→ah2
def XOR (P:Program)(E:Nat→IV)(Λ:Lam)(i:Nat):Option do5→Option ah2→Prop
 | none,o=>o=none
 | some (.o x),o=>o=some x
 | some (.app rev _ _),o=>o=some (.row rev.reverse.flatten)
 | some (.loop N fr ps asg body st pend),o=>o=some (Λ i st pend)∧YR P E i N fr ps asg body (Λ i)
structure XR (P:Program) (E:Nat→IV) (Λ:Lam) (xs:XSt) (σ:Store):Prop where
 next:xs.next=σ.next
 obj:∀ i,XOR P E Λ i (xs.t.get i) (σ.obj i)
theorem XR.put {Λ:Lam}{xs xs':XSt}{i:Nat}{x:ah2}(h:XR P E Λ xs σ)(hp:xs.put i (some (.o x))=some xs'):XR P E Λ xs' (σ.put i x):=by
 obtain ⟨h1,h2⟩:=XSt.bb1 hp;refine ⟨by rw[h1]; exact h.next,fun j=>?_⟩;rw[h2,aa2];by_cases hj:j=i
 ·rw[if_pos hj,if_pos hj]; rfl
 ·rw[if_neg hj,if_neg hj]; exact h.obj j
theorem XR.kill {Λ:Lam}{xs xs':XSt}{i:Nat}(h:XR P E Λ xs σ)(hp:xs.put i none=some xs'):XR P E Λ xs' (σ.kill i):=by
 obtain ⟨h1,h2⟩:=XSt.bb1 hp;refine ⟨by rw[h1]; exact h.next,fun j=>?_⟩;rw[h2];show XOR P E Λ j _ (if j=i then none else σ.obj j);by_cases hj:j=i
 ·rw[if_pos hj,if_pos hj]; rfl
 ·rw[if_neg hj,if_neg hj]; exact h.obj j
theorem XR.get {Λ:Lam}{xs:XSt}{i:Nat}{x:ah2}(h:XR P E Λ xs σ)(hg:xs.t.get i=some (.o x)):σ.obj i=some x:=by
 have:=h.obj i;rw[hg] at this;exact this
def LeS (s σ:Store):Prop:=∀ i x,s.obj i=some x→σ.obj i=some x
theorem XR.le {Λ:Lam}{xs:XSt}(h:XR P E Λ xs σ):LeS xs.st σ:=by
 intro i x hx;simp only[XSt.st] at hx;split at hx
 ·rename_i y hy; cases hx; exact h.get hy
 ·cases hx
theorem ej5 {s:Store}{v:IV}{cs:List IV}(hl:LeS s σ)(h:ai6 s v=some cs):ai6 σ v=some cs:=by
 unfold ai6 at h ⊢;split at h
 ·exact h
 ·rename_i id off;split at h
  ·rename_i c hc; rw[hl _ _ hc]; exact h
  ·rename_i c hc; rw[hl _ _ hc]; exact h
  ·cases h
 ·cases h
theorem du6 {s:Store}{ag:Option Nat}{v u:IV}(hl:LeS s σ)(h:am9 s ag v=some u):am9 σ ag v=some u:=by
 unfold am9 at h ⊢
 cases hc:ai6 s v with
 | none=>rw[hc] at h; cases h
 | some cs=>rw[hc] at h; rw[ej5 hl hc]; exact h
theorem fs1 {s:Store}{v:IV}{es:List (IV×IV)}(hl:LeS s σ)(h:bg6 s v=some es):bg6 σ v=some es:=by
 unfold bg6 at h ⊢;split at h
 ·exact h
 ·exact h
 ·split at h
  ·rename_i e he; rw[hl _ _ he]; exact h
  ·cases h
 ·cases h
theorem gl6 {s:Store}{tag:Nat}{z x k u:IV}{ok:Bool}(hl:LeS s σ)(h:ct7 s tag z ok x k=some u):ct7 σ tag z ok x k=some u:=by
 unfold ct7 at h ⊢
 cases hc:bg6 s x with
 | none=>rw[hc] at h; cases h
 | some cs=>rw[hc] at h; rw[fs1 hl hc]; exact h
theorem gl7 {s:Store}{k:Nat}{v u:IV}(hl:LeS s σ)(h:bh7 k s v=some u):bh7 k σ v=some u:=by
 have hI:∀ {v u:IV},dx9 s v=some u→dx9 σ v=some u:=fun {v u} h=>by
  unfold dx9 at h ⊢;split at h<;>first|exact h|skip
  split at h
  ·rename_i e he; rw[hl _ _ he]; exact h
  ·cases h
 unfold bh7 at h ⊢;split at h<;>first|exact hI h|cases h
theorem gc3 {s:Store}{q:IQ}{u:IV}(hl:LeS s σ)(h:evq E fr s q=some u):evq E fr σ q=some u:=by
 cases q with
 | load a x=>exact du6 hl h
 | lkp a b c x y=>exact gl6 hl h
 | len k x=>exact gl7 hl h
 | _=>exact h
theorem do6 {s:Store}{e:Nat}{v:IV}{r:Nat×List IV}(hl:LeS s σ)(h:av9 s e v=some r):av9 σ e v=some r:=by
 unfold av9 at h ⊢;split at h<;>first|exact h|skip
 all_goals
  split at h
  ·rename_i c hc; rw[hl _ _ hc]; exact h
  ·cases h
theorem gc4 {s:Store}:∀ (rs:List IR) (vs:List IV),LeS s σ→irL s fr rs=some vs→irL σ fr rs=some vs:=by
 intro rs
 induction rs with
 | nil=>intro vs _ h; exact h
 | cons r rs ih=>
  intro vs hl h;simp only[irL] at h ⊢;split at h
  ·rename_i v us h1 h2;cases h
   have e1:irV σ fr r=some v:=by
    cases r with
    | t n=>exact h1
    | cell ag n=>exact du6 hl h1
   rw[e1,ih _ hl h2]
  ·cases h
/-! ### What writes -/
def du7 (xs:XSt)(sz:Nat)(a v:IV):Option XSt :=
 match a with
 | .ptr id off=>match xs.t.get id with
  | some (.o (.cells cs))=>if v.cs.length=sz∧off+sz≤cs.length∧v.cs.all IV.leaf=true then xs.put id (some (.o (.cells (ao8 cs off v.cs)))) else none
  | some (.o (.row cs))=>if v.cs.length=sz∧off+sz≤cs.length∧v.cs.all IV.leaf=true then xs.put id (some (.o (.row (ao8 cs off v.cs)))) else none
  | _=>none
 | _=>none
theorem de9 {Λ:Lam}{xs xs':XSt}{sz:Nat}{a v:IV}(hx:XR P E Λ xs σ)(h:du7 xs sz a v=some xs'):∃ σ',aj3 σ sz a v=some σ'∧XR P E Λ xs' σ':=by
 unfold du7 at h;split at h
 ·rename_i id off;split at h
  ·rename_i cs hg;split at h
   ·rename_i hc;refine ⟨_,?_,hx.put h⟩;unfold aj3;simp only[hx.get hg];rw[if_pos hc]
   ·cases h
  ·rename_i cs hg;split at h
   ·rename_i hc;refine ⟨_,?_,hx.put h⟩;unfold aj3;simp only[hx.get hg];rw[if_pos hc]
   ·cases h
  ·cases h
 ·cases h
theorem gc5 {rev:List (List IV)}{n:Nat}{cells:List IV}(h:rev.reverse.flatten.length=n∧rev.reverse.flatten.all IV.leaf=true)(hc:cells.all IV.leaf=true) :
  (cells::rev).reverse.flatten.length=n+cells.length∧(cells::rev).reverse.flatten.all IV.leaf=true:=by
 have e:(cells::rev).reverse.flatten=rev.reverse.flatten++cells:=by simp
 rw[e];exact ⟨by rw[List.length_append,h.1],by rw[List.all_append,h.2,hc]; rfl⟩
theorem XR.ii9 {Λ:Lam}{xs xs':XSt}{i n:Nat}{rev:List (List IV)}{h0:rev.reverse.flatten.length=n∧rev.reverse.flatten.all IV.leaf=true}(h:XR P E Λ xs σ)(hp:xs.put i (some (.app rev n h0))=some xs'):XR P E Λ xs' (σ.put i (.row rev.reverse.flatten)):=by
 obtain ⟨h1,h2⟩:=XSt.bb1 hp;refine ⟨by rw[h1]; exact h.next,fun j=>?_⟩;rw[h2,aa2];by_cases hj:j=i
 ·rw[if_pos hj,if_pos hj]; rfl
 ·rw[if_neg hj,if_neg hj]; exact h.obj j
def id3 (xs:XSt) (id esz did len n:Nat) (cells:List IV):Option (IV×XSt):=
 match xs.t.raw did with
 | some (.app rev n0 h0)=>if hc:cells.all IV.leaf=true then
   if n≠0∧len*esz=n0∧len+n≤2147483648 then
    ((xs.put did none).bind fun xs1=>xs1.put id (some (.app (cells::rev) (n0+cells.length) (gc5 h0 hc)))).map fun xs'=>(.slice id 0 (len+n) esz,xs')
   else none
  else none
 | _=>none
theorem ej6 {Λ:Lam}{xs:XSt}{id esz did len n:Nat}{cells:List IV}{r:IV×XSt}(hx:XR P E Λ xs σ)(h:id3 xs id esz did len n cells=some r) :
  ∃ cs,σ.obj did=some (.row cs)∧n≠0∧len*esz=cs.length∧len+n≤2147483648∧cs.all IV.leaf=true∧r.1=.slice id 0 (len+n) esz∧XR P E Λ r.2 ((σ.kill did).put id (.row (cs++cells))):=by
 unfold id3 at h;split at h
 ·rename_i rev n0 h0 hraw;split at h
  ·rename_i hc;split at h
   ·rename_i hn;obtain ⟨xs',hp,rfl⟩:=map_some h
    cases hp1:xs.put did none with
    | none=>rw[hp1] at hp; cases hp
    | some xs1=>
     rw[hp1] at hp;have hg:xs.t.get did=some (.o (.row rev.reverse.flatten)):=by unfold Tr.get; rw[hraw]; rfl
     have:=(hx.kill hp1).ii9 hp;have e:(cells::rev).reverse.flatten=rev.reverse.flatten++cells:=by simp
     rw[e] at this;exact ⟨_,hx.get hg,hn.1,by rw[h0.1]; exact hn.2.1,hn.2.2,h0.2,rfl,this⟩
   ·cases h
  ·cases h
 ·cases h
def hn6 (xs:XSt)(id n esz:Nat)(cells:List IV):Option (IV×XSt):=
 if hc:cells.all IV.leaf=true then (xs.put id (some (.app [cells] (0+cells.length) (gc5 ⟨rfl,rfl⟩ hc)))).map fun xs'=>(.slice id 0 n esz,xs') else none
theorem cq9 {Λ:Lam}{xs:XSt}{id n esz:Nat}{cells:List IV}{r:IV×XSt}(hx:XR P E Λ xs σ)(h:hn6 xs id n esz cells=some r):r.1=.slice id 0 n esz∧XR P E Λ r.2 (σ.put id (.row cells)):=by
 unfold hn6 at h;split at h
 ·obtain ⟨xs',hp,rfl⟩:=map_some h;have:=hx.ii9 hp;have e:[cells].reverse.flatten=cells:=by simp
  rw[e] at this;exact ⟨rfl,this⟩
 ·cases h
def hn7 (xs:XSt) (id esz:Nat) (s x:IV):Option (IV×XSt):=
 match av9 xs.st esz x with
 | none=>none
 | some (n,cells)=>
  if cells.all IV.leaf=false then none else
  match s with
  | .aa1=>if n=0 then some (.aa1,xs) else if n≤2147483648 then hn6 xs id n esz cells else none
  | .ab4=>if n=0 then some (.ab4,xs) else if n≤2147483648 then hn6 xs id n esz cells else none
  | .aa4 es=>if n=0 then some (.aa4 es,xs) else none
  | .slice did off len e=>match (if off=0∧e=esz then id3 xs id esz did len n cells else none) with
   | some r=>some r
   | none=>match xs.t.get did with
   | some (.o (.row cs))=>
    if e=esz∧n=0 then some (s,xs)
    else if e=esz∧off+len*esz=cs.length∧len+n≤2147483648∧(cs.drop off).all IV.leaf=true then
     ((xs.put did none).bind fun xs1=>xs1.put id (some (.o (.row (cs.drop off++cells))))).map fun xs'=>(.slice id 0 (len+n) esz,xs')
    else none
   | _=>none
  | .ae2 did off len e=>match xs.t.get did with
   | some (.o (.row cs))=>
    if e=esz∧n=0 then some (.slice did off len e,xs)
    else if e=esz∧off+len*esz≤cs.length∧len+n≤2147483648∧n≠0 then (xs.put id (some (.o (.row ((cs.drop off).take (len*esz)++cells))))).map fun xs'=>(.slice id 0 (len+n) esz,xs')
    else none
   | _=>none
  | _=>none
theorem ej7 {Λ:Lam}{xs:XSt}{id esz:Nat}{s x:IV}{r:IV×XSt}(hx:XR P E Λ xs σ)(h:hn7 xs id esz s x=some r):∃ σ',aw1 σ id esz s x=some (r.1,σ')∧XR P E Λ r.2 σ':=by
 unfold hn7 at h;unfold aw1
 cases hs:av9 xs.st esz x with
 | none=>rw[hs] at h; cases h
 | some p=>
  obtain ⟨n,cells⟩:=p;rw[hs] at h;rw[do6 hx.le hs];simp only at h ⊢;split at h
  ·cases h
  rename_i hlf;rw[if_neg hlf];split at h
  ·split at h
   ·rename_i hn; cases h; exact ⟨σ,by simp[hn],hx⟩
   ·rename_i hn;split at h
    ·rename_i hn2;obtain ⟨h1,h2⟩:=cq9 hx h;exact ⟨_,by simp[hn,hn2,h1],h2⟩
    ·cases h
  ·split at h
   ·rename_i hn; cases h; exact ⟨σ,by simp[hn],hx⟩
   ·rename_i hn;split at h
    ·rename_i hn2;obtain ⟨h1,h2⟩:=cq9 hx h;exact ⟨_,by simp[hn,hn2,h1],h2⟩
    ·cases h
  ·split at h
   ·rename_i hn; cases h; exact ⟨σ,by simp[hn],hx⟩
   ·cases h
  ·rename_i did off len e;split at h
   ·rename_i r' hr;cases h;split at hr
    ·rename_i he;obtain ⟨rfl,rfl⟩:=he;obtain ⟨cs,g1,g2,g3,g4,g5,g6,g7⟩:=ej6 hx hr;refine ⟨_,?_,g7⟩;simp only[g1];rw[if_neg (fun h=>g2 h.2),if_pos ⟨trivial,by rw[Nat.zero_add,g3],g4,by simpa using g5⟩,g6];simp
    ·cases hr
   split at h
   ·rename_i cs hg;simp only[hx.get hg];split at h
    ·rename_i hn; cases h; exact ⟨σ,by simp[hn],hx⟩
    ·rename_i hn;split at h
     ·rename_i hn2;obtain ⟨xs',hp,rfl⟩:=map_some h
      cases hp1:xs.put did none with
      | none=>rw[hp1] at hp; cases hp
      | some xs1=>
       rw[hp1] at hp;refine ⟨_,?_,(hx.kill hp1).put hp⟩;rw[if_neg hn,if_pos hn2]
     ·cases h
   ·cases h
  ·rename_i did off len e;split at h
   ·rename_i cs hg;simp only[hx.get hg];split at h
    ·rename_i hn; cases h; exact ⟨σ,by simp[hn],hx⟩
    ·rename_i hn;split at h
     ·rename_i hn2;obtain ⟨xs',hp,rfl⟩:=map_some h;exact ⟨_,by rw[if_neg hn,if_pos hn2],hx.put hp⟩
     ·cases h
   ·cases h
  ·cases h
def du8 (xs:XSt):IV→Option (IV×XSt)
 | .ptr id 0=>match xs.t.get id with
  | some (.o (.ap5 s pos))=>if pos<s.length then (xs.put id (some (.o (.ap5 s (pos+(Utf8.decode ⟨s.toArray⟩ pos).2))))).map fun xs'=>(.tuple [.bool true,.int .i64 pos,.int .i32 (Utf8.decode ⟨s.toArray⟩ pos).1],xs') else some (.tuple [.bool false],xs)
  | _=>none
 | _=>none
theorem df1 {Λ:Lam}{xs:XSt}{v:IV}{r:IV×XSt}(hx:XR P E Λ xs σ)(h:du8 xs v=some r):∃ σ',az7 σ v=some (r.1,σ')∧XR P E Λ r.2 σ':=by
 unfold du8 at h;split at h
 ·rename_i id;split at h
  ·rename_i s pos hg;rw[az2,hx.get hg,fr8];split at h
   ·rename_i hp;obtain ⟨xs',h1,rfl⟩:=map_some h;rw[if_pos hp];exact ⟨_,rfl,hx.put h1⟩
   ·rename_i hp;cases h;rw[if_neg hp];exact ⟨_,rfl,hx⟩
  ·cases h
 ·cases h
def fs2 (xs:XSt)(tag:Nat)(x k v:IV):Option XSt :=
 match x with
 | .map id=>match xs.t.get id with
  | some (.o (.map es))=>match es3 tag k v es with
   | some es'=>xs.put id (some (.o (.map es')))
   | none=>none
  | _=>none
 | _=>none
theorem do7 {Λ:Lam}{xs xs':XSt}{tag:Nat}{x k v:IV}(hx:XR P E Λ xs σ)(h:fs2 xs tag x k v=some xs'):∃ σ',ao2 σ tag x k v=some σ'∧XR P E Λ xs' σ':=by
 unfold fs2 at h;split at h
 ·rename_i id;split at h
  ·rename_i es hg;split at h
   ·rename_i es' hu;refine ⟨_,?_,hx.put h⟩;simp only[ao2,hx.get hg,hu,Option.map_some]
   ·cases h
  ·cases h
 ·cases h
def hn8 (xs:XSt)(esz:Nat)(z:List IV):IV→Option XSt
 | .aa1|.ab4=>some xs
 | .aa4 []=>some xs
 | .slice id off len e=>if len=0 then some xs else match xs.t.get id with
  | some (.o (.row cs))=>if e=esz∧off+len*esz≤cs.length∧z.all IV.leaf=true then xs.put id (some (.o (.row (ao8 cs off (rep z len))))) else none
  | _=>none
 | _=>none
theorem ej8 {Λ:Lam}{xs xs':XSt}{esz:Nat}{z:List IV}{v:IV}(hx:XR P E Λ xs σ)(h:hn8 xs esz z v=some xs'):∃ σ',et1 σ esz z v=some σ'∧σ'.next=σ.next∧XR P E Λ xs' σ':=by
 unfold hn8 at h;split at h
 ·cases h; exact ⟨σ,rfl,rfl,hx⟩
 ·cases h; exact ⟨σ,rfl,rfl,hx⟩
 ·cases h; exact ⟨σ,rfl,rfl,hx⟩
 ·rename_i id off len e;split at h
  ·rename_i h0; cases h; exact ⟨σ,by simp[et1,h0],rfl,hx⟩
  ·rename_i h0;split at h
   ·rename_i cs hg;split at h
    ·rename_i hc;refine ⟨σ.put id (.row (ao8 cs off (rep z len))),?_,rfl,hx.put h⟩;simp only[et1,if_neg h0,hx.get hg];rw[if_pos hc]
    ·cases h
   ·cases h
 ·cases h
def ij1 (xs:XSt)(tag:Nat)(k:IV):IV→Option (IV×XSt)
 | .map id=>match xs.t.get id with
  | some (.o (.map es))=>match fl8 tag k es with
   | some es'=>(xs.put id (some (.o (.map es')))).map fun s=>(.undef,s)
   | none=>none
  | _=>none
 | .af9=>match kOK tag k with
  | true=>some (.undef,xs)
  | false=>none
 | _=>none
def ij2 (xs:XSt)(id esz l h:Nat):IV→Option (IV×XSt)
 | .aa1=>if h=0 then some (.aa1,xs) else none
 | .ab4=>if h=0 then some (.ab4,xs) else none
 | .slice did off len e=>if e=esz∧l≤h∧h≤len then match xs.t.get did with
  | some (.o (.row cs))=>if off+len*esz≤cs.length then ((xs.put did none).bind fun x1=>x1.put id (some (.o (.row ((cs.drop (off+l*esz)).take ((h-l)*esz)))))).map fun s=>(.slice id 0 (h-l) esz,s) else none
  | _=>none
  else none
 | _=>none
def ij3 (xs:XSt)(id esz:Nat)(chk:Bool)(x lo hi mx:IV):Option (IV×XSt):=
 match di6 lo,di6 hi,di6 mx with
 | some l,some h,some m=>match chk with
  | true=>match hp5 x with
   | some n=>if l≤h∧h≤m∧m≤n then some (.undef,xs) else none
   | none=>none
  | false=>if l≤h∧h=m then ij2 xs id esz l h x else none
 | _,_,_=>none
def ij4 (xs:XSt)(esz:Nat)(d s:IV):Option (IV×XSt):=
 match d with
 | .slice id off len e=>match av9 xs.st esz (ci8 len s) with
  | some (n,cells)=>match xs.t.get id with
   | some (.o (.row cs))=>if e=esz∧n≤len∧off+n*esz≤cs.length∧cells.all IV.leaf=true then (xs.put id (some (.o (.row (ao8 cs off cells))))).map fun s=>(.int .i64 n,s) else none
   | _=>none
  | none=>none
 | _=>none
def ij5 (xs:XSt)(esz:Nat)(d s:IV):Option (IV×XSt):=
 match d with
 | .ad7 id off len room e=>match av9 xs.st esz s with
  | some (n,cells)=>match xs.t.get id with
   | some (.o (.row cs))=>if e=esz∧len+n≤room∧off+len*esz+n*esz≤cs.length∧cells.all IV.leaf=true then (xs.put id (some (.o (.row (ao8 cs (off+len*esz) cells))))).map fun t=>(.ad7 id off (len+n) room e,t) else none
   | _=>none
  | none=>none
 | _=>none
def stX (k:SK)(id:Nat)(xs:XSt)(vs:List IV):Option (IV×XSt):=
 match k,vs with
 | .hq6 tag,[x,y]=>ij1 xs tag y x
 | .sl3 esz chk,[x,lo,hi,mx]=>ij3 xs id esz chk x lo hi mx
 | .cpy esz,[x,y]=>ij4 xs esz x y
 | .rlp esz,[x,y]=>(hm3 esz x y).map fun v=>(v,xs)
 | .apr esz,[x,y]=>ij5 xs esz x y
 | _,_=>none
theorem fb9 {Λ:Lam} {xs:XSt} {k:SK} {id:Nat} {vs:List IV} {r:IV×XSt} (hx:XR P E Λ xs σ) (h:stX k id xs vs=some r):∃ σ',stI k id σ vs=some (r.1,σ')∧XR P E Λ r.2 σ':=by
 unfold stX at h;split at h
 ·rename_i tag x y;unfold ij1 at h;simp only[stI];split at h
  ·rename_i mid;split at h
   ·rename_i es hg;split at h
    ·rename_i es' hu;obtain ⟨s,hp,rfl⟩:=map_some h;refine ⟨σ.put mid (.map es'),?_,hx.put hp⟩;simp only[fl9,hx.get hg,hu]
    ·cases h
   ·cases h
  ·split at h
   ·rename_i hok; cases h; exact ⟨σ,by simp only[fl9,hok],hx⟩
   ·cases h
  ·cases h
 ·rename_i esz chk x lo hi mx;unfold ij3 at h;simp only[stI,gs6];split at h
  ·rename_i l hb m e1 e2 e3;simp only[e1,e2,e3]
   cases chk with
   | true=>
    simp only at h ⊢;split at h
    ·rename_i n hn;simp only[hn];split at h
     ·rename_i hc; cases h; rw[if_pos hc]; exact ⟨σ,rfl,hx⟩
     ·cases h
    ·cases h
   | false=>
    simp only at h ⊢;split at h
    ·rename_i hc;rw[if_pos hc];unfold ij2 at h;split at h
     ·split at h
      ·rename_i h0; cases h; exact ⟨σ,by simp only[et4,if_pos h0],hx⟩
      ·cases h
     ·split at h
      ·rename_i h0; cases h; exact ⟨σ,by simp only[et4,if_pos h0],hx⟩
      ·cases h
     ·rename_i did off len e;split at h
      ·rename_i hc2;split at h
       ·rename_i cs hg;split at h
        ·rename_i hl;obtain ⟨s,hp,rfl⟩:=map_some h
         cases hp1:xs.put did none with
         | none=>rw[hp1] at hp; cases hp
         | some x1=>
          rw[hp1] at hp;refine ⟨_,?_,(hx.kill hp1).put hp⟩;simp only[et4,if_pos hc2,hx.get hg,if_pos hl]
        ·cases h
       ·cases h
      ·cases h
     ·cases h
    ·cases h
  ·cases h
 ·rename_i esz x y;unfold ij4 at h;simp only[stI,gs7];split at h
  ·rename_i did off len e;simp only;split at h
   ·rename_i n cells hsrc;simp only[do6 hx.le hsrc];split at h
    ·rename_i cs hg;simp only[hx.get hg];split at h
     ·rename_i hc;obtain ⟨s,hp,rfl⟩:=map_some h;rw[if_pos hc];exact ⟨_,rfl,hx.put hp⟩
     ·cases h
    ·cases h
   ·cases h
  ·cases h
 ·rename_i esz x y;obtain ⟨u,hu,rfl⟩:=map_some h;exact ⟨σ,by simp only[stI,hu,Option.map_some],hx⟩
 ·rename_i esz x y;unfold ij5 at h;simp only[stI,gs8];split at h
  ·rename_i did off len room e;simp only;split at h
   ·rename_i n cells hsrc;simp only[do6 hx.le hsrc];split at h
    ·rename_i cs hg;simp only[hx.get hg];split at h
     ·rename_i hc;obtain ⟨s,hp,rfl⟩:=map_some h;rw[if_pos hc];exact ⟨_,rfl,hx.put hp⟩
     ·cases h
    ·cases h
   ·cases h
  ·cases h
 ·cases h
/-! ### No block is named -/
def af1:Nat→IV→Bool
 | 0,_=>false
 | n+1,v=>match v with
  | .ptr _ _|.slice _ _ _ _|.map _|.yield _|.ae2 _ _ _ _|.ad7 _ _ _ _ _=>false
  | .af4 cs=>cs.all (af1 n)
  | .aa4 es=>es.all fun e=>e.all (af1 n)
  | .al5 es=>es.all fun e=>af1 n e.1&&af1 n e.2
  | .func _ a b=>a.all (af1 n)&&b.all (af1 n)
  | .iface _ v=>af1 n v
  | .agg cs=>cs.all (af1 n)
  | .tuple cs=>cs.all (af1 n)
  | _=>true
theorem aj5:∀ (n:Nat) (v:IV),af1 n v=true→Bnd 0 v:=by
 intro n
 induction n with
 | zero=>intro v h; cases h
 | succ n ih=>
  intro v h;have all:∀ {cs:List IV},cs.all (af1 n)=true→∀ c∈cs,Bnd 0 c:=fun h c hc=>ih c (List.all_eq_true.1 h c hc)
  cases v with
  | undef=>exact .undef
  | bool b=>exact .bool b
  | int k x=>exact .int k x
  | str s=>exact .str s
  | ad3=>exact .ad3
  | ptr id off=>cases h
  | af4 cs=>exact .af4 cs (all h)
  | aa1=>exact .aa1
  | ab4=>exact .ab4
  | ad4=>exact .ad4
  | slice a b c d=>cases h
  | aa4 es=>exact .aa4 es fun e he=>all (List.all_eq_true.1 h e he)
  | af9=>exact .af9
  | map id=>cases h
  | al5 es=>exact .al5 es (fun e he=>ih _ (by have:=List.all_eq_true.1 h e he; simp at this; exact this.1)) (fun e he=>ih _ (by have:=List.all_eq_true.1 h e he; simp at this; exact this.2))
  | func f a b=>
   simp only[af1,Bool.and_eq_true] at h
   exact .func f a b (all h.1) (all h.2)
  | yield id=>cases h
  | ae6=>exact .ae6
  | iface t v=>exact .iface t v (ih v h)
  | ae1=>exact .ae1
  | agg cs=>exact .agg cs (all h)
  | tuple cs=>exact .tuple cs (all h)
  | ae2 a b c d=>cases h
  | ad7 a b c d e=>cases h
/-! ### Let go -/
def df2 (f:IV→Option IV):List IV→Option (List IV)
 | []=>some []
 | c::cs=>match f c,df2 f cs with
  | some d,some ds=>some (d::ds)
  | _,_=>none
theorem bn1 {f:IV→Option IV}:∀ (cs ds:List IV),df2 f cs=some ds→ds.length=cs.length∧∀ i,i<cs.length→f (cs.getD i .undef)=some (ds.getD i .undef):=by
 intro cs
 induction cs with
 | nil=>intro ds h; cases h; exact ⟨rfl,fun i hi=>absurd hi (Nat.not_lt_zero _)⟩
 | cons c cs ih=>
  intro ds h;simp only[df2] at h;split at h
  ·rename_i d ds' h1 h2;cases h;obtain ⟨g1,g2⟩:=ih _ h2;refine ⟨by simp[g1],fun i hi=>?_⟩
   cases i with
   | zero=>simpa using h1
   | succ i=>simpa using g2 i (by simpa using hi)
  ·cases h
def fs3 (f:IV→Option IV):List (List IV)→Option (List (List IV))
 | []=>some []
 | c::cs=>match df2 f c,fs3 f cs with
  | some d,some ds=>some (d::ds)
  | _,_=>none
theorem ej9 {f:IV→Option IV}:∀ (cs ds:List (List IV)),fs3 f cs=some ds→ds.length=cs.length∧∀ i,i<cs.length→df2 f (cs.getD i [])=some (ds.getD i []):=by
 intro cs
 induction cs with
 | nil=>intro ds h; cases h; exact ⟨rfl,fun i hi=>absurd hi (Nat.not_lt_zero _)⟩
 | cons c cs ih=>
  intro ds h;simp only[fs3] at h;split at h
  ·rename_i d ds' h1 h2;cases h;obtain ⟨g1,g2⟩:=ih _ h2;refine ⟨by simp[g1],fun i hi=>?_⟩
   cases i with
   | zero=>simpa using h1
   | succ i=>simpa using g2 i (by simpa using hi)
  ·cases h
def cr1 (xs:XSt)(id:Nat):Option (List IV):=
 match xs.t.get id with
 | some (.o (.cells cs))=>some cs
 | some (.o (.row cs))=>some cs
 | _=>none
theorem bb2 {Λ:Lam}{xs:XSt}{id:Nat}{cs:List IV}(hx:XR P E Λ xs σ)(h:cr1 xs id=some cs):isCells σ id cs:=by
 unfold cr1 at h;split at h
 ·rename_i c hc; cases h; exact .inl (hx.get hc)
 ·rename_i c hc; cases h; exact .inr (hx.get hc)
 ·cases h
def id4:IV→IV→Bool
 | .str s,.str t=>!decide (s=t)
 | .int k a,.int k' b=>decide (k=k')&&!decide (a=b)
 | .agg xs,.agg ys=>match allEq (List.replicate xs.length 1) xs ys with
  | some b=>!b
  | none=>false
 | _,_=>false
def id5:IV→Bool
 | .str _=>true
 | .int _ _=>true
 | .agg xs=>(allEq (List.replicate xs.length 1) xs xs).isSome
 | _=>false
def fs4:List IV→Bool
 | []=>true
 | k::ks=>id5 k&&ks.all (id4 k)&&fs4 ks
theorem du9:∀ (ks:List IntKind) (as:List Int) (i:Nat),as.length=ks.length→i<ks.length→∃ n,((ks.zip as).map fun p=>IV.int p.1 p.2).getD i .undef=.int (ks.getD i .i64) n:=by
 intro ks
 induction ks with
 | nil=>intro as i _ h; exact absurd h (Nat.not_lt_zero _)
 | cons k ks ih=>
  intro as i h1 h2
  cases as with
  | nil=>simp at h1
  | cons a as=>
   cases i with
   | zero=>exact ⟨a,by simp⟩
   | succ i=>
    obtain ⟨n,hn⟩:=ih as i (by simpa using h1) (by simpa using h2);exact ⟨n,by simpa using hn⟩
theorem df3 {a b:IV}(h:id4 a b=true):a≠b∧∀ K,bi1 K b→bi1 K a:=by
 unfold id4 at h;split at h
 ·rename_i s t;refine ⟨fun e=>by cases e; simp at h,fun K hb=>by cases K<;>first|trivial|cases hb⟩
 ·rename_i k x k' y;simp only[Bool.and_eq_true,decide_eq_true_eq,Bool.not_eq_true',decide_eq_false_iff_not] at h;refine ⟨fun e=>by cases e; exact h.2 rfl,fun K hb=>?_⟩
  cases K with
  | int K=>simp only[bi1] at hb ⊢; rw[h.1,hb]
  | _=>cases hb
 ·rename_i xs ys;split at h
  ·rename_i bb hb;have hbb:bb=false:=by simpa using h
   subst hbb;obtain ⟨ks,as,bs,l1,l2,l3,e1,e2,e3⟩:=as1 hb;have hne:as≠bs:=by simpa using e3
   refine ⟨fun e=>?_,fun K hK=>?_⟩
   ·cases e;rw[e1] at e2;exact hne (eq6 ks as bs (by omega) (by omega) e2)
   ·cases K with
    | agg ks'=>
     simp only[bi1] at hK ⊢;have hk:ks=ks':=db5 ks ks' bs (List.replicate ks'.length 0) (by omega) (by simp) (by have:=hK.1; rw[e2] at this; simp at this; omega) (fun i hi=>by have:=hK.2 i (by rw[e2]; simp; omega); rwa [e2] at this);subst hk;rw[e1]
     refine ⟨by simp; omega,fun i hi=>du9 ks as i (by omega) (by simp at hi; omega)⟩
    | _=>cases hK
  ·cases h
 ·cases h
theorem fc1 {k:IV}(h:id5 k=true):∃ K,bi1 K k:=by
 cases k with
 | str s=>exact ⟨.str,trivial⟩
 | int K a=>exact ⟨.int K,rfl⟩
 | agg xs=>
  simp only[id5] at h;obtain ⟨b,hb⟩:=Option.isSome_iff_exists.1 h;obtain ⟨ks,as,bs,l1,l2,l3,e1,_,_⟩:=as1 hb;refine ⟨.agg ks,?_⟩;rw[e1]
  exact ⟨by simp; omega,fun i hi=>du9 ks as i (by omega) (by simp at hi; omega)⟩
 | _=>cases h
theorem ek1:∀ ks:List IV,fs4 ks=true→ks.Nodup∧∃ K,∀ k∈ks,bi1 K k:=by
 intro ks
 induction ks with
 | nil=>intro _; exact ⟨List.nodup_nil,.str,fun k hk=>by cases hk⟩
 | cons k ks ih=>
  intro h;simp only[fs4,Bool.and_eq_true] at h;obtain ⟨h1,K,h2⟩:=ih h.2;have hall:=List.all_eq_true.1 h.1.2;refine ⟨List.nodup_cons.2 ⟨fun hk=>(df3 (hall k hk)).1 rfl,h1⟩,?_⟩
  cases ks with
  | nil=>
   obtain ⟨K,hK⟩:=fc1 h.1.1
   exact ⟨K,fun k hk=>by rw[List.mem_singleton.1 hk]; exact hK⟩
  | cons k2 ks=>
   refine ⟨K,fun x hx=>?_⟩;rcases List.mem_cons.1 hx with rfl|hx
   ·exact (df3 (hall k2 (List.mem_cons_self ..))).2 K (h2 k2 (List.mem_cons_self ..))
   ·exact h2 x hx
def ca9 (xs:XSt) (ok:Nat→Bool):Nat→IV→Option IV
 | 0,_=>none
 | n+1,v=>match v with
  | .ptr id off=>if ok id=false then none else match cr1 xs id with
   | some cs=>if off≤cs.length then (df2 (ca9 xs ok n) (cs.drop off)).map .af4 else none
   | none=>none
  | .slice id off len esz=>if ok id=false then none else match cr1 xs id with
   | some cs=>if len=0 then some .ad4 else if off+len*esz≤cs.length then (df2 (ca9 xs ok n) ((cs.drop off).take (len*esz))).map fun out=>.aa4 (chunk esz len out) else none
   | none=>none
  | .map id=>if ok id=false then none else match xs.t.get id with
   | some (.o (.map es))=>match df2 (ca9 xs ok n) (es.map (·.1)),df2 (ca9 xs ok n) (es.map (·.2)) with
    | some ks,some vs=>if fs4 ks then some (.al5 (ks.zip vs)) else none
    | _,_=>none
   | _=>none
  | .func f a b=>match df2 (ca9 xs ok n) a,df2 (ca9 xs ok n) b with
   | some a',some b'=>some (.func f a' b')
   | _,_=>none
  | .iface t v=>(ca9 xs ok n v).map (.iface t)
  | .agg cs=>(df2 (ca9 xs ok n) cs).map .agg
  | .tuple cs=>(df2 (ca9 xs ok n) cs).map .tuple
  | .yield _=>none
  | .ae2 _ _ _ _=>none
  | .ad7 _ _ _ _ _=>none
  | .af4 cs=>if af1 1000 (.af4 cs) then some (.af4 cs) else (df2 (ca9 xs ok n) cs).map .af4
  | .aa4 es=>if af1 1000 (.aa4 es) then some (.aa4 es) else (fs3 (ca9 xs ok n) es).map .aa4
  | .al5 es=>if af1 1000 (.al5 es) then some (.al5 es) else none
  | v=>some v
theorem bf7 {Λ:Lam}{xs:XSt}{ok:Nat→Bool}{S:Nat→Prop}(hx:XR P E Λ xs σ)(hok:∀ i,ok i=true→¬ S i):∀ (n:Nat) (v v':IV),ca9 xs ok n v=some v'→Frz σ S v v':=by
 have cl:∀ v,Bnd 0 v→Nm S v:=fun v h=>h.weak fun i h=>absurd h (Nat.not_lt_zero _)
 intro n
 induction n with
 | zero=>intro v v' h; cases h
 | succ n ih=>
  intro v v' h;have ih':∀ {cs ds:List IV},df2 (ca9 xs ok n) cs=some ds→ds.length=cs.length∧∀ i,i<cs.length→Frz σ S (cs.getD i .undef) (ds.getD i .undef):=fun h=>⟨(bn1 _ _ h).1,fun i hi=>ih _ _ ((bn1 _ _ h).2 i hi)⟩
  cases v with
  | undef=>cases h; exact .keep _ .undef
  | bool b=>cases h; exact .keep _ (.bool b)
  | int k x=>cases h; exact .keep _ (.int k x)
  | str s=>cases h; exact .keep _ (.str s)
  | ad3=>cases h; exact .keep _ .ad3
  | ptr id off=>
   simp only[ca9] at h;split at h
   ·cases h
   rename_i hoki;split at h
   ·rename_i cs hc;split at h
    ·rename_i hle;obtain ⟨ds,hd,rfl⟩:=map_some h;obtain ⟨h1,h2⟩:=ih' hd;simp only[List.length_drop] at h1 h2;refine .ptr id off cs ds (hok _ (by simpa using hoki)) (bb2 hx hc) (by omega) fun j hj=>?_
     have:=h2 j (by omega)
     rwa [ag9] at this
    ·cases h
   ·cases h
  | af4 cs=>
   simp only[ca9] at h;split at h
   ·rename_i hc; cases h; exact .keep _ (cl _ (aj5 _ _ hc))
   ·obtain ⟨ds,hd,rfl⟩:=map_some h;obtain ⟨h1,h2⟩:=ih' hd
    exact .af4 cs ds h1 h2
  | aa1=>cases h; exact .keep _ .aa1
  | ab4=>cases h; exact .keep _ .ab4
  | ad4=>cases h; exact .keep _ .ad4
  | slice id off len esz=>
   simp only[ca9] at h;split at h
   ·cases h
   rename_i hoki;split at h
   ·rename_i cs hc;split at h
    ·rename_i h0;cases h;subst h0;exact .et3 id off esz (by rcases bb2 hx hc with h|h<;>rw[h]<;>exact fun h=>(by cases h))
    ·split at h
     ·rename_i h0 hle;obtain ⟨ds,hd,rfl⟩:=map_some h;obtain ⟨h1,h2⟩:=ih' hd;have hl:((cs.drop off).take (len*esz)).length=len*esz:=by simp; omega
      rw[hl] at h1 h2
      have key:∀ i,i<len→i*esz+esz≤len*esz:=fun i hi=>by
       have:(i+1)*esz≤len*esz:=Nat.mul_le_mul_right _ (by omega);rw[Nat.add_mul,Nat.one_mul] at this;omega
      refine .slice id off len esz cs _ (hok _ (by simpa using hoki)) (bb2 hx hc) (ba4 _ _ _) hle (fun i hi=>?_) (fun i hi j hj=>?_)
      ·rw[as4 _ _ _ _ hi];have:=key i hi;simp; omega
      ·rw[as4 _ _ _ _ hi,getD_take' _ _ _ _ hj,ag9];have hk:=key i hi;have:=h2 (i*esz+j) (by omega)
       rwa [getD_take' _ _ _ _ (by omega),ag9] at this
     ·cases h
   ·cases h
  | aa4 es=>
   simp only[ca9] at h;split at h
   ·rename_i hc; cases h; exact .keep _ (cl _ (aj5 _ _ hc))
   ·obtain ⟨ds,hd,rfl⟩:=map_some h;obtain ⟨h1,h2⟩:=ej9 _ _ hd
    exact .aa4 es ds h1 (fun i hi=>(ih' (h2 i hi)).1) (fun i hi j hj=>(ih' (h2 i hi)).2 j hj)
  | af9=>cases h; exact .keep _ .af9
  | map id=>
   simp only[ca9] at h;split at h
   ·cases h
   rename_i hoki;split at h
   ·rename_i es hg;split at h
    ·rename_i ks vs hk hv;split at h
     ·rename_i hkb;cases h;obtain ⟨h1,h2⟩:=ih' hk;obtain ⟨h3,h4⟩:=ih' hv;simp only[List.length_map] at h1 h2 h3 h4
      have hfst:(ks.zip vs).map (·.1)=ks:=by
       have:(ks.zip vs).map Prod.fst=ks:=List.map_fst_zip (by omega);exact this
      obtain ⟨kb1,K,kb2⟩:=ek1 ks hkb
      have hz:∀ i,i<es.length→(ks.zip vs).getD i (.undef,.undef)=(ks.getD i .undef,vs.getD i .undef):=fun i hi=>by
       simp[List.getD_eq_getElem?_getD,List.getElem?_eq_getElem,h1,h3,hi]
      refine .map id es _ _ (hok _ (by simpa using hoki)) (hx.get hg) (by simp[h1,h3]) (List.Perm.refl _) ⟨by rw[hfst]; exact kb1,K,fun e he=>kb2 _ (by rw[← hfst]; exact List.mem_map.2 ⟨e,he,rfl⟩)⟩ (fun i hi=>?_) (fun i hi=>?_)
      ·have:=h2 i hi;rw[hz i hi];have e:(es.map (·.1)).getD i .undef=(es.getD i (.undef,.undef)).1:=by simp[List.getD_eq_getElem?_getD,hi]
       rw[e] at this;exact this
      ·have:=h4 i hi;rw[hz i hi];have e:(es.map (·.2)).getD i .undef=(es.getD i (.undef,.undef)).2:=by simp[List.getD_eq_getElem?_getD,hi]
       rw[e] at this;exact this
     ·cases h
    ·cases h
   ·cases h
  | al5 es=>
   simp only[ca9] at h;split at h
   ·rename_i hc; cases h; exact .keep _ (cl _ (aj5 _ _ hc))
   ·cases h
  | func f a b=>
   simp only[ca9] at h;split at h
   ·rename_i a' b' ha hb;cases h;obtain ⟨h1,h2⟩:=ih' ha;obtain ⟨h3,h4⟩:=ih' hb;exact .func f a a' b b' h1 h3 h2 h4
   ·cases h
  | yield id=>cases h
  | ae2 _ _ _ _=>cases h
  | ad7 _ _ _ _ _=>cases h
  | ae6=>cases h; exact .keep _ .ae6
  | iface t v=>
   obtain ⟨u,hu,rfl⟩:=map_some h
   exact .iface t v u (ih _ _ hu)
  | ae1=>cases h; exact .keep _ .ae1
  | agg cs=>
   obtain ⟨ds,hd,rfl⟩:=map_some h;obtain ⟨h1,h2⟩:=ih' hd
   exact .agg cs ds h1 h2
  | tuple cs=>
   obtain ⟨ds,hd,rfl⟩:=map_some h;obtain ⟨h1,h2⟩:=ih' hd;exact .tuple cs ds h1 h2
abbrev hn9 (xs:XSt)(n:Nat)(v:IV):Option IV:=ca9 xs (fun _=>true) n v
theorem cr2 {Λ:Lam}{xs:XSt}(hx:XR P E Λ xs σ)(n:Nat)(v v':IV)(h:hn9 xs n v=some v'):bm9 σ 0 v v':=bf7 hx (fun _ _=>Nat.not_lt_zero _) n v v' h
/-! ### Slots whose blocks are let go -/
def df4 (xs:XSt):Nat→IV→List Nat
 | 0,_=>[]
 | n+1,v=>match v with
  | .ptr id _=>id::((cr1 xs id).getD []).flatMap (df4 xs n)
  | .slice id _ _ _=>id::((cr1 xs id).getD []).flatMap (df4 xs n)
  | .map id=>id::(match xs.t.get id with|some (.o (.map es))=>es.flatMap (fun e=>df4 xs n e.2)|_=>[])
  | .func _ a b=>a.flatMap (df4 xs n)++b.flatMap (df4 xs n)
  | .iface _ v=>df4 xs n v
  | .af4 cs=>if af1 1000 (.af4 cs) then [] else cs.flatMap (df4 xs n)
  | .aa4 es=>if af1 1000 (.aa4 es) then [] else es.flatMap fun e=>e.flatMap (df4 xs n)
  | .agg cs=>cs.flatMap (df4 xs n)
  | .tuple cs=>cs.flatMap (df4 xs n)
  | _=>[]
def bw9:List Nat→XSt→Option XSt
 | [],xs=>some xs
 | i::is,xs=>match xs.put i none with
  | some xs'=>bw9 is xs'
  | none=>none
def cb1 (xs:XSt)(ok:Nat→Bool):List Nat→Frm→Option Frm
 | [],fr=>some fr
 | t::ts,fr=>match ca9 xs ok 1000 (fr.get t),cb1 xs ok ts fr with
  | some v,some fr'=>some (fr'.set t v)
  | _,_=>none
def fc2 (ts:List Nat)(fr:Frm)(xs:XSt):Option (Frm×XSt):=
 match ts with
 | []=>some (fr,xs)
 | _=>
  let ids:=ts.flatMap fun t=>df4 xs 1000 (fr.get t)
  match cb1 xs (fun i=>ids.contains i) ts fr,bw9 ids xs with
  | some fr',some xs'=>some (fr',xs')
  | _,_=>none
theorem bj3:∀ (is:List Nat) (xs xs':XSt),bw9 is xs=some xs'→xs'.next=xs.next∧∀ j,xs'.t.get j=if is.contains j then none else xs.t.get j:=by
 intro is
 induction is with
 | nil=>intro xs xs' h; cases h; exact ⟨rfl,fun j=>by simp⟩
 | cons i is ih=>
  intro xs xs' h;simp only[bw9] at h;split at h
  ·rename_i x1 h1;obtain ⟨a1,a2⟩:=XSt.bb1 h1;obtain ⟨b1,b2⟩:=ih _ _ h;refine ⟨by rw[b1,a1],fun j=>?_⟩;rw[b2,a2];show (if is.contains j=true then none else if j=i then none else xs.t.get j)=_;rw[List.contains_cons];by_cases h1:is.contains j=true
   ·rw[if_pos h1,if_pos (by rw[h1,Bool.or_true])]
   ·rw[if_neg h1];by_cases h2:j=i
    ·rw[if_pos h2,if_pos (by simp[h2])]
    ·rw[if_neg h2,if_neg (by simp at h1 ⊢; exact ⟨h2,h1⟩)]
  ·cases h
theorem df5 {Λ:Lam} {xs xs':XSt} {ts:List Nat} {fr fr':Frm} (hx:XR P E Λ xs σ) (h:fc2 ts fr xs=some (fr',xs')) :
  ∃ S:Nat→Bool,XR P E Λ xs' (σ.kills S)∧∀ t,fr'.get t=fr.get t∨Frz σ (fun i=>S i=true) (fr.get t) (fr'.get t):=by
 unfold fc2 at h;split at h
 ·cases h;refine ⟨fun _=>true,?_,fun t=>.inl rfl⟩;have:σ.kills (fun _=>true)=σ:=by unfold Store.kills; simp
  rw[this]; exact hx
 ·generalize (ts.flatMap fun t=>df4 xs 1000 (fr.get t))=ids at h;simp only at h;split at h
  ·rename_i f1 x1 hf hk;cases h;refine ⟨fun i=>!ids.contains i,?_,?_⟩
   ·obtain ⟨a1,a2⟩:=bj3 _ _ _ hk;refine ⟨by rw[a1]; exact hx.next,fun j=>?_⟩;rw[a2];show XOR P E Λ j _ (if (!ids.contains j)=true then σ.obj j else none);by_cases hj:ids.contains j=true
    ·rw[if_pos hj,if_neg (by simp at hj ⊢; exact hj)]; rfl
    ·rw[if_neg hj,if_pos (by simp at hj ⊢; exact hj)]; exact hx.obj j
   ·have key:∀ (ts:List Nat) (f1:Frm),cb1 xs (fun i=>ids.contains i) ts fr=some f1→∀ t,f1.get t=fr.get t∨Frz σ (fun i=>(!ids.contains i)=true) (fr.get t) (f1.get t):=by
     intro ts
     induction ts with
     | nil=>intro f1 h t; cases h; exact .inl rfl
     | cons s ts ih=>
      intro f1 h t;simp only[cb1] at h;split at h
      ·rename_i v f2 h1 h2;cases h;rw[Frm.bi2];split
       ·rename_i e; subst e;exact .inr (bf7 hx (fun i hi=>by simp at hi ⊢; exact hi) _ _ _ h1)
       ·exact ih f2 h2 t
      ·cases h
    exact key _ _ hf
  ·cases h
/-! ### Of a box some cells,whose blocks are let go -/
theorem ek2 {ρ:Rho}{w:World}{S:Nat→Bool}{id:Nat}{cs cs':List IV}(hs:Sim E ρ w σ)(hS:S id=true)(ho:σ.obj id=some (.cells cs))(hl:cs'.length=cs.length)
  (hc:∀ i,i<cs.length→cs'.getD i .undef=cs.getD i .undef∨Frz σ (fun i=>S i=true) (cs.getD i .undef) (cs'.getD i .undef)) :
  ∃ ρd:Rho,Sim E ρd w ((σ.kills S).put id (.cells cs'))∧(∀ n,Ext n ρ w ρd w):=by
 obtain ⟨ρd,hs0,hxd,hvd⟩:=at1 (S:=S) hs;have hko:(σ.kills S).obj id=some (.cells cs):=by simp[Store.kills,hS,ho]
 refine ⟨ρd,⟨hs0.inj,hs0.lt,fun i B d hi=>?_,fun i hi=>?_,hs0.fresh,fun i hi=>?_,hs0.env,hs0.nx,hs0.xlt⟩,hxd⟩
 ·obtain ⟨o,h1,h2⟩:=hs0.obj i B d hi;by_cases e:i=id
  ·subst e;rw[hko] at h1;cases h1;obtain ⟨rcs,el,hb,hsz,hv⟩:=h2;refine ⟨.cells cs',by simp[Store.put],rcs,el,hb,by rw[hl]; exact hsz,fun k hk=>?_⟩;rw[hl] at hk;rcases hc k hk with e1|e1
   ·rw[e1]; exact hv k hk
   ·-- what lay there before the blocks went
    have hb0:∃ d0,ρ i=.at B d0:=by
     match hr:ρ i with
     | .no=>have:=(hxd (i+1)).no i (Nat.lt_succ_self _) hr; rw[hi] at this; cases this
     | .dead=>have:=(hxd 0).dead i hr; rw[hi] at this; cases this
     | .at B2 d2=>
      rcases (hxd 0).at_ i B2 d2 hr with h|h
      ·rw[hi] at h; cases h; exact ⟨_,rfl⟩
      ·rw[hi] at h; cases h
    obtain ⟨d0,hat⟩:=hb0
    have hd:d0=d:=by
     rcases (hxd 0).at_ i B d0 hat with h|h
     ·rw[hi] at h; cases h; rfl
     ·rw[hi] at h; cases h
    subst hd;obtain ⟨o2,g1,g2⟩:=hs.obj i B d0 hat;rw[ho] at g1;cases g1;obtain ⟨rcs2,el2,hb2,_,hv2⟩:=g2;rw[hb] at hb2;cases hb2;exact hvd _ _ _ e1 (hv2 k hk)
  ·exact ⟨o,by simp[Store.put,e,h1],h2⟩
 ·have h0:=hs0.dead i hi;have:i≠id:=fun e=>by subst e; rw[hko] at h0; cases h0
  simp[Store.put,this,h0]
 ·have h0:=hs0.ak6 i hi;have:i≠id:=fun e=>by subst e; rw[hko] at h0; cases h0
  simp[Store.put,this,h0]
def bz5 (E:Nat→IV)(σ:Store)(fr:Frm)(σ':Store)(fr':Frm):Prop :=
 ∀ (ρ:Rho) (w:World),Sim E ρ w σ→∃ ρd:Rho,Sim E ρd w σ'∧(∀ n,Ext n ρ w ρd w)∧∀ (N:Nat) (tmps:Array Value),FR ρ w N fr tmps→FR ρd w N fr' tmps
theorem bz5.trans {σ'':Store}{fr fr' fr'':Frm}(h:bz5 E σ fr σ' fr')(h':bz5 E σ' fr' σ'' fr''):bz5 E σ fr σ'' fr'':=fun ρ w hs=>
 let ⟨ρ1,a1,a2,a3⟩:=h ρ w hs;let ⟨ρ2,b1,b2,b3⟩:=h' ρ1 w a1
 ⟨ρ2,b1,fun n=>(a2 n).trans (b2 n) (Nat.le_refl _),fun N tmps hf=>b3 N tmps (a3 N tmps hf)⟩
theorem bz5.refl (fr:Frm):bz5 E σ fr σ fr:=fun ρ w hs=>⟨ρ,hs,fun n=>Ext.refl _ _ _,fun _ _ h=>h⟩
theorem bz5.of {S:Nat→Bool}{fr fr':Frm}(hf:∀ t,fr'.get t=fr.get t∨Frz σ (fun i=>S i=true) (fr.get t) (fr'.get t)):bz5 E σ fr (σ.kills S) fr':=fun ρ w hs=>by
 obtain ⟨ρd,hs0,hxd,hvd⟩:=at1 (S:=S) hs;refine ⟨ρd,hs0,hxd,fun N tmps hfr=>⟨hfr.size,fun t=>?_⟩⟩;rcases hf t with e|e
 ·rw[e]; exact (hfr.get t).mono (hxd 0)
 ·exact hvd _ _ _ e (hfr.get t)
theorem cw4 {ic:IC}{n0:Nat}{fr fr':Frm}{Q:Exit→Frm→Store→Prop}(hl:bz5 E σ fr σ' fr')(hn:σ'.next=σ.next)(h:RI P E N n0 ic fr' σ' Q):RI P E N n0 ic fr σ Q:=by
 intro pf an c hc hn0 ro h0 ρ w a hs hfr hd hr;obtain ⟨ρd,hs0,hxd,hf⟩:=hl ρ w hs;have hxw:=(hxd n0).weak (Nat.le_refl n0);refine wpIn_mono (h pf an c hc (by rw[hn]; exact hn0) ro h0 ρd w a hs0 (hf _ _ hfr) (hd.mono hxw) (hr.mono hxw)) ?_;rintro e a' w' ⟨fr2,σ2,ρ2,hn2,q,hs2,hf2,hd2,hr2,hx2⟩;exact ⟨fr2,σ2,ρ2,hn2,q,hs2,hf2,hd2,hr2,hxw.trans hx2⟩
def gl8 (m i:Nat):Bool:=Nat.beq (m/2^i%2) 1
def cb2 (f:IV→Option IV)(m:Nat):Nat→List IV→Option (List IV)
 | _,[]=>some []
 | i,c::cs=>match (match gl8 m i with|true=>f c|false=>some c),cb2 f m (i+1) cs with
  | some d,some ds=>some (d::ds)
  | _,_=>none
theorem cw5 {f:IV→Option IV}{m:Nat}:∀ (cs ds:List IV) (i:Nat),cb2 f m i cs=some ds→ds.length=cs.length∧∀ j,j<cs.length→ds.getD j .undef=cs.getD j .undef∨f (cs.getD j .undef)=some (ds.getD j .undef):=by
 intro cs
 induction cs with
 | nil=>intro ds i h; cases h; exact ⟨rfl,fun j hj=>by simp at hj⟩
 | cons c cs ih=>
  intro ds i h;simp only[cb2] at h;split at h
  ·rename_i d ds' h1 h2;cases h;obtain ⟨l,hk⟩:=ih _ _ h2;refine ⟨by simp[l],fun j hj=>?_⟩
   cases j with
   | zero=>
    simp only[List.getD_cons_zero];split at h1
    ·exact .inr h1
    ·cases h1; exact .inl rfl
   | succ j=>
    simp only[List.getD_cons_succ];exact hk j (by simpa using hj)
  ·cases h
def fc3 (t m:Nat)(fr:Frm)(xs:XSt):Option XSt :=
 match fr.get t with
 | .ptr id 0=>match xs.t.get id with
  | some (.o (.cells cs))=>
   let ids:=(cs.zipIdx.filter fun p=>gl8 m p.2).flatMap fun p=>df4 xs 1000 p.1
   match cb2 (ca9 xs (fun i=>ids.contains i) 1000) m 0 cs,bw9 ids xs,ids.contains id with
   | some cs',some xs1,false=>xs1.put id (some (.o (.cells cs')))
   | _,_,_=>none
  | _=>none
 | _=>none
theorem df6 {Λ:Lam}{xs xs':XSt}{t m:Nat}{fr:Frm}(hx:XR P E Λ xs σ)(h:fc3 t m fr xs=some xs'):∃ σ',XR P E Λ xs' σ'∧σ'.next=σ.next∧bz5 E σ fr σ' fr:=by
 unfold fc3 at h;split at h
 ·rename_i id hfr;split at h
  ·rename_i cs hg;generalize ((cs.zipIdx.filter fun p=>gl8 m p.2).flatMap fun p=>df4 xs 1000 p.1)=ids at h;simp only at h;split at h
   ·rename_i cs' x1 hf hk hid;obtain ⟨a1,a2⟩:=bj3 _ _ _ hk
    have hx1:XR P E Λ x1 (σ.kills fun i=>!ids.contains i):=by
     refine ⟨by rw[a1]; exact hx.next,fun j=>?_⟩;rw[a2];show XOR P E Λ j _ (if (!ids.contains j)=true then σ.obj j else none);by_cases hj:ids.contains j=true
     ·rw[if_pos hj,if_neg (by simp at hj ⊢; exact hj)]; rfl
     ·rw[if_neg hj,if_pos (by simp at hj ⊢; exact hj)]; exact hx.obj j
    obtain ⟨l,hc⟩:=cw5 _ _ _ hf;refine ⟨_,hx1.put h,rfl,fun ρ w hs=>?_⟩
    obtain ⟨ρd,b1,b2⟩:=ek2 (S:=fun i=>!ids.contains i) (cs':=cs') hs (by simp only[hid]; rfl) (hx.get hg) l (fun i hi=>by
     rcases hc i hi with e|e
     ·exact .inl e
     ·exact .inr (bf7 hx (fun i hi=>by simp at hi ⊢; exact hi) _ _ _ e))
    exact ⟨ρd,b1,b2,fun N tmps hfr=>hfr.mono (b2 0)⟩
   ·cases h
  ·cases h
 ·cases h
def cw6:List Nat→Frm→XSt→Option XSt
 | [],_,xs=>some xs
 | k::ks,fr,xs=>match fc3 (k%1000) (k/1000-1) fr xs with
  | some xs'=>cw6 ks fr xs'
  | none=>none
theorem cw7 {Λ:Lam}{fr:Frm}:∀ (ks:List Nat) {σ:Store} {xs xs':XSt},XR P E Λ xs σ→cw6 ks fr xs=some xs'→∃ σ',XR P E Λ xs' σ'∧σ'.next=σ.next∧bz5 E σ fr σ' fr:=by
 intro ks
 induction ks with
 | nil=>intro σ xs xs' hx h; cases h; exact ⟨σ,hx,rfl,.refl _⟩
 | cons k ks ih=>
  intro σ xs xs' hx h;simp only[cw6] at h;split at h
  ·rename_i x1 h1;obtain ⟨σ1,b1,b2,b3⟩:=df6 hx h1;obtain ⟨σ2,c1,c2,c3⟩:=ih b1 h;exact ⟨σ2,c1,by rw[c2,b2],b3.trans c3⟩
  ·cases h
def df7 (ts:List Nat)(fr:Frm)(xs:XSt):Option (Frm×XSt):=
 match ts with
 | []=>some (fr,xs)
 | _=>match cw6 (ts.filter fun t=>Nat.ble 1000 t) fr xs with
  | some xs1=>fc2 (ts.filter fun t=>!Nat.ble 1000 t) fr xs1
  | none=>none
theorem bj4 {Λ:Lam}{xs xs':XSt}{ts:List Nat}{fr fr':Frm}(hx:XR P E Λ xs σ)(h:df7 ts fr xs=some (fr',xs')):∃ σ',XR P E Λ xs' σ'∧σ'.next=σ.next∧bz5 E σ fr σ' fr':=by
 unfold df7 at h;split at h
 ·cases h; exact ⟨σ,hx,rfl,.refl _⟩
 ·split at h
  ·rename_i x1 h1;obtain ⟨σ1,b1,b2,b3⟩:=cw7 _ hx h1;obtain ⟨S,c1,c2⟩:=df5 b1 h;exact ⟨_,c1,b2,b3.trans (.of c2)⟩
  ·cases h
end Go.Id
