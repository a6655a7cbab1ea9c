/- Running compiled codes on ideal values: codes,calls,and the proof. Conditions: none; over any program. -/
import Derived.Test.YtjpdjifjokldlaaDoorFwW
import Derived.WideKeyElems2
import Derived.OpenShut
import Derived.FnData
import Derived.Below
import Derived.ChangeSame
import Derived.CallsIn
import Derived.ChangeArms
import Derived.MakeChecks
set_option linter.all false
namespace Go.Id
open Go
variable {P:Program} {E:Nat→IV} {σ σ':Store} {N n n0:Nat} {fr:Frm}
inductive XE where
 | normal
 | exit (i:Nat)
 | ret
 deriving Inhabited
def XE.ex:XE→Exit
 | .normal=>.normal
 | .exit i=>.exit i
 | .ret=>.ret
structure Tab where
 fn:Nat→Option (Nat×IC×List IR)
 pure:Nat→Bool
 fj4:Nat→List IV→Option IV
 fz:Nat→Nat→List Nat:=fun _ _=>[]
 /-- Functions that are lent what is one's own,and give a plain answer. -/
 gr6:Nat→Bool:=fun _=>false
structure fc4 (P:Program) (E:Nat→IV) (T:Tab):Prop where
 fn:∀ f N ic rs,T.fn f=some (N,ic,rs)→okF P f=true∧∃ pf an,fb3 P f N pf an ic rs
 fj4:∀ f args v,T.fj4 f args=some v→okF P f=true∧PC P E f args v
abbrev RD:=Nat→Nat→List IV→XSt→Option (IV×XSt)
def da3 (xs:XSt)(id:Nat)(o:ah2)(v:IV):Option (IV×XSt):=
 match xs.put id (some (.o o)) with
 | some s=>some (v,s)
 | none=>none
def opX (rd:RD)(E:Nat→IV)(op:IK)(id:Nat)(fr:Frm)(xs:XSt):Option (IV×XSt):=
 match op with
 | .q q=>match evq E fr xs.st q with
  | some v=>some (v,xs)
  | none=>none
 | .alloc z=>da3 xs id (.cells z) (.ptr id 0)
 | .box x=>if (x.ev E fr).cs.all IV.leaf=true then da3 xs id (.cells (x.ev E fr).cs) (.ptr id 0) else none
 | .bsl esz n z parts=>match ak7 (rep z n) (parts.map fun p=>(p.1,p.2.1,p.2.2.ev E fr)) with
  | some out=>da3 xs id (.row out) (.slice id 0 n esz)
  | none=>none
 | .store sz x y=>match du7 xs sz (x.ev E fr) (y.ev E fr) with
  | some s=>some (.undef,s)
  | none=>none
 | .app esz s x=>hn7 xs id esz (s.ev E fr) (x.ev E fr)
 | .bm5=>da3 xs id (.map []) (.map id)
 | .av1 x=>match x.ev E fr with
  | .str s=>da3 xs id (.ap5 s 0) (.ptr id 0)
  | _=>none
 | .bq6 x=>du8 xs (x.ev E fr)
 | .de4 tag x k v=>match fs2 xs tag (x.ev E fr) (k.ev E fr) (v.ev E fr) with
  | some s=>some (.undef,s)
  | none=>none
 | .call f args=>rd 1 f (args.map (·.ev E fr)) xs
 | .aj4 f args=>match rd 0 f (args.map (·.ev E fr)) xs with
  | some r=>some (r.1,xs)
  | none=>none
 | .an7 x args=>match x.ev E fr with
  | .func (.func f) first cap=>rd 1 f (first++args.map (·.ev E fr)++cap) xs
  | .yield i=>rd 2 i (args.map (·.ev E fr)) xs
  | _=>none
 | .av2 esz n z parts=>match ak7 (rep z n) (parts.map fun p=>(p.1,p.2.1,p.2.2.ev E fr)) with
  | some out=>some (.aa4 (chunk esz n out),xs)
  | none=>none
 | .ar7 x=>if (x.ev E fr).cs.all IV.leaf=true then some (.af4 (x.ev E fr).cs,xs) else none
 | .aq9 x=>match x.ev E fr with
  | .al5 es=>da3 xs id (.ai8 es none) (.ptr id 0)
  | _=>none
 | .bj2 x=>match aq8 xs.st (x.ev E fr) with
  | some (_,[])=>some (.tuple [.bool false],xs)
  | some (i,[e])=>da3 xs i (.ai8 [] (some e)) (.tuple [.bool true,e.1,e.2])
  | _=>none
 | .dn5 x=>match ba5 xs.st (x.ev E fr) with
  | some v=>some (v,xs)
  | none=>none
 | .cj5 esz z x=>match cu2 (x.ev E fr) with
  | some n=>da3 xs id (.row (rep z n)) (.slice id 0 n esz)
  | none=>none
 | .clr esz z x=>match hn8 xs esz z (x.ev E fr) with
  | some s=>some (.undef,s)
  | none=>none
 | .st k ys=>stX k id xs (ys.map (·.ev E fr))
def gl9 (rd:RD)(E:Nat→IV):List ac6→Nat→Frm→XSt→Option (Frm×XSt)
 | [],_,fr,xs=>some (fr,xs)
 | o::rest,id,fr,xs=>
  match ar6 o fr with
  | some true=>match opX rd E o.op id fr xs with
   | some (v,s)=>gl9 rd E rest (bif o.op.lays then id+1 else id) (fr.ah5 o.dst v) s
   | none=>none
  | some false=>gl9 rd E rest (bif o.op.lays then id+1 else id) (fr.ah5 o.dst skV) xs
  | none=>none
def hf4 (E:Nat→IV)(fr:Frm)(xs:XSt):IK→Bool
 | .q (.load _ x)=>match x.ev E fr with
  | .af4 _=>true
  | .ptr i _=>match xs.t.get i with
   | some (.o (.cells _))=>true
   | _=>false
  | _=>false
 | _=>true
def ce4 (rd:RD)(E:Nat→IV)(B:Bool):List ac6→Nat→Frm→XSt→Option (Frm×XSt)
 | [],_,fr,xs=>some (fr,xs)
 | o::rest,id,fr,xs=>
  match ar6 o fr with
  | some true=>if (!B||hf4 E fr xs o.op)=true then match opX rd E o.op id fr xs with
   | some (v,s)=>ce4 rd E B rest (id+1) (fr.ah5 o.dst v) s
   | none=>none
   else none
  | some false=>ce4 rd E B rest (id+1) (fr.ah5 o.dst skV) xs
  | none=>none
def bj5:Nat→IV→IV→Bool
 | 0,_,_=>false
 | n+1,a,b=>match a with
  | .bool x=>match b with
   | .bool y=>x==y
   | _=>false
  | .int k x=>match b with
   | .int k' y=>decide (k=k')&&decide (x=y)
   | _=>false
  | .str x=>match b with
   | .str y=>decide (x=y)
   | _=>false
  | .ad3=>match b with
   | .ad3=>true
   | _=>false
  | .ptr x o=>match b with
   | .ptr y p=>Nat.beq x y&&Nat.beq o p
   | _=>false
  | .slice x o l e=>match b with
   | .slice y p k f=>Nat.beq x y&&Nat.beq o p&&Nat.beq l k&&Nat.beq e f
   | _=>false
  | .map x=>match b with
   | .map y=>Nat.beq x y
   | _=>false
  | .aa1=>match b with
   | .aa1=>true
   | _=>false
  | .ab4=>match b with
   | .ab4=>true
   | _=>false
  | .ad4=>match b with
   | .ad4=>true
   | _=>false
  | .af9=>match b with
   | .af9=>true
   | _=>false
  | .ae6=>match b with
   | .ae6=>true
   | _=>false
  | .ae1=>match b with
   | .ae1=>true
   | _=>false
  | .agg x=>match b with
   | .agg y=>ao4 (bj5 n) x y
   | _=>false
  | .tuple x=>match b with
   | .tuple y=>ao4 (bj5 n) x y
   | _=>false
  | .af4 x=>match b with
   | .af4 y=>ao4 (bj5 n) x y
   | _=>false
  | .aa4 x=>match b with
   | .aa4 y=>sameLL (bj5 n) x y
   | _=>false
  | .al5 x=>match b with
   | .al5 y=>ao4 (bj5 n) (x.map (·.1)) (y.map (·.1))&&ao4 (bj5 n) (x.map (·.2)) (y.map (·.2))
   | _=>false
  | .func (.func f) x y=>match b with
   | .func (.func f') x' y'=>Nat.beq f f'&&ao4 (bj5 n) x x'&&ao4 (bj5 n) y y'
   | _=>false
  | _=>false
where
 ao4 (r:IV→IV→Bool):List IV→List IV→Bool
  | [],[]=>true
  | a::x,b::y=>r a b&&ao4 r x y
  | _,_=>false
 sameLL (r:IV→IV→Bool):List (List IV)→List (List IV)→Bool
  | [],[]=>true
  | a::x,b::y=>ao4 r a b&&sameLL r x y
  | _,_=>false
theorem bf8 {r:IV→IV→Bool}(hr:∀ a b,r a b=true→a=b):∀ x y:List IV,bj5.ao4 r x y=true→x=y:=by
 intro x
 induction x with
 | nil=>intro y h; cases y with
  | nil=>rfl
  | cons b y=>cases h
 | cons a x ih=>intro y h; cases y with
  | nil=>cases h
  | cons b y=>
   simp only[bj5.ao4,Bool.and_eq_true] at h;rw[hr a b h.1,ih y h.2]
theorem fc5 {r:IV→IV→Bool}(hr:∀ a b,r a b=true→a=b):∀ x y:List (List IV),bj5.sameLL r x y=true→x=y:=by
 intro x
 induction x with
 | nil=>intro y h; cases y with
  | nil=>rfl
  | cons b y=>cases h
 | cons a x ih=>intro y h; cases y with
  | nil=>cases h
  | cons b y=>
   simp only[bj5.sameLL,Bool.and_eq_true] at h;rw[bf8 hr a b h.1,ih y h.2]
theorem fs5:∀ x y:List (IV×IV),x.map (·.1)=y.map (·.1)→x.map (·.2)=y.map (·.2)→x=y:=by
 intro x
 induction x with
 | nil=>intro y h _; cases y with
  | nil=>rfl
  | cons b y=>cases h
 | cons a x ih=>intro y h1 h2; cases y with
  | nil=>cases h1
  | cons b y=>
   simp only[List.map_cons,List.cons.injEq] at h1 h2;rw[ih y h1.2 h2.2];obtain ⟨a1,a2⟩:=a;obtain ⟨b1,b2⟩:=b;simp only at h1 h2;rw[h1.1,h2.1]
theorem fs6:∀ (n:Nat) (a b:IV),bj5 n a b=true→a=b:=by
 intro n
 induction n with
 | zero=>intro a b h; cases h
 | succ n ih=>
  intro a b h;cases a<;>simp only[bj5] at h
  case func fn x y=>
   cases fn<;>simp only at h<;>try (cases h; done)
   split at h
   ·simp only[Bool.and_eq_true] at h;rw[Nat.eq_of_beq_eq_true h.1.1,bf8 ih _ _ h.1.2,bf8 ih _ _ h.2]
   ·cases h
  case al5 x=>
   split at h
   ·simp only[Bool.and_eq_true] at h;rw[fs5 _ _ (bf8 ih _ _ h.1) (bf8 ih _ _ h.2)]
   ·cases h
  all_goals first
   | (cases h; done)
   | (split at h
      ·first
          | rfl
          | (rw[bf8 ih _ _ h])
          | (rw[fc5 ih _ _ h])
          | (rw[Nat.eq_of_beq_eq_true h])
          | (simp at h; simp[h]; done)
          | (simp only[Bool.and_eq_true] at h; simp only[Nat.eq_of_beq_eq_true h.1,Nat.eq_of_beq_eq_true h.2]; done)
          | (simp only[Bool.and_eq_true] at h; simp only[Nat.eq_of_beq_eq_true h.1.1.1,Nat.eq_of_beq_eq_true h.1.1.2,Nat.eq_of_beq_eq_true h.1.2,Nat.eq_of_beq_eq_true h.2]; done)
      ·cases h)
def df8 (E:Nat→IV)(xs:XSt)(m:Nat):List LE→Bool
 | []=>true
 | e::L=>(match gf8 m e.1 with
  | true=>(match evq E [] xs.st e.2.1 with
   | some v=>bj5 1000 v e.2.2
   | none=>false)
  | false=>true)&&df8 E xs m L
def ce5 (rd:RD) (E:Nat→IV) (base:Nat):List YO→List LE→Frm→XSt→Option (Frm×XSt)
 | [],_,fr,xs=>some (fr,xs)
 | (i,o,m)::rest,L,fr,xs=>
  match ar6 o fr with
  | some true=>match opX rd E o.op (base+i) fr xs with
   | some (v,s)=>match (Nat.beq m 0||df8 E s m L) with
    | true=>ce5 rd E base rest (ap1 E fr i o.op v L) (fr.ah5 o.dst v) s
    | false=>none
   | none=>none
  | some false=>ce5 rd E base rest L (fr.ah5 o.dst skV) xs
  | none=>none
def ek3 (step:Frm→XSt→Option (XE×Frm×XSt)):Nat→Frm→XSt→Option (XE×Frm×XSt)
 | 0,_,_=>none
 | n+1,fr,xs=>match step fr xs with
  | some (.normal,fr',xs')=>ek3 step n fr' xs'
  | r=>r
def icX (rd:RD) (E:Nat→IV) (fz:Nat→List Nat) (N lf:Nat):IC→Frm→XSt→Option (XE×Frm×XSt)
 | .skip,fr,xs=>some (.normal,fr,xs)
 | .reg i ops keep,fr,xs=>match df7 (fz i) fr xs with
  | some (fr,xs)=>match gl9 rd E ops xs.next fr ⟨xs.next+ax1 ops,xs.t⟩ with
   | some (fr',xs')=>some (.normal,fr'.keep keep,xs')
   | none=>none
  | none=>none
 | .dreg i ops B keep,fr,xs=>match df7 (fz i) fr xs with
  | some (fr,xs)=>match ce4 rd E B ops xs.next fr ⟨xs.next+ops.length,xs.t⟩ with
   | some (fr',xs')=>some (.normal,fr'.keep keep,xs')
   | none=>none
  | none=>none
 | .oreg i ops keep,fr,xs=>match df7 (fz i) fr xs with
  | some (fr,xs)=>match ce5 rd E xs.next ops [] fr ⟨xs.next+ops.length,xs.t⟩ with
   | some (fr',xs')=>some (.normal,fr'.keep keep,xs')
   | none=>none
  | none=>none
 | .seq a b,fr,xs=>match icX rd E fz N lf a fr xs with
  | some (.normal,fr',xs')=>icX rd E fz N lf b fr' xs'
  | r=>r
 | .cond x a b,fr,xs=>match x.ev E fr with
  | .bool true=>icX rd E fz N lf a fr xs
  | .bool false=>icX rd E fz N lf b fr xs
  | _=>none
 | .block i a,fr,xs=>match icX rd E fz N lf a fr xs with
  | some (.exit j,fr',xs')=>bif Nat.beq j i then some (.normal,fr',xs') else some (.exit j,fr',xs')
  | r=>r
 | .loop a,fr,xs=>ek3 (icX rd E fz N lf a) lf fr xs
 | .exit i,fr,xs=>some (.exit i,fr,xs)
 | .ret,fr,xs=>some (.ret,fr,xs)
 | .rfunc g ps y a,fr,xs=>match g.ev E fr with
  | .func (.func f) first cap=>match XSt.put ⟨xs.next+1,xs.t⟩ xs.next (some (.loop N fr ps y a .ready none)) with
   | some xs1=>match rd 1 f (first++[.yield xs.next]++cap) xs1 with
    | some (_,xs2)=>match xs2.t.get xs.next with
     | some (.loop _ _ _ _ _ .ready none)=>(xs2.put xs.next none).map fun s=>(.normal,fr,s)
     | some (.loop _ _ _ _ _ .done (some .ret))=>(xs2.put xs.next none).map fun s=>(.ret,fr,s)
     | some (.loop _ _ _ _ _ .done (some (.exit i)))=>(xs2.put xs.next none).map fun s=>(.exit i,fr,s)
     | _=>none
    | none=>none
   | none=>none
  | _=>none
 | .scope a,fr,xs=>icX rd E fz N lf a fr xs
def gm1:IV→IV
 | .ad7 i o l _ e=>.slice i o l e
 | v=>v
theorem gm2 {ρ:Rho}{w:World}{v:IV}{r:Value}(h:VR ρ w v r):VR ρ w (gm1 v) r:=by
 cases v with
 | ad7 i o l m e=>exact da7 h
 | _=>exact h
theorem gc6 {f:Nat}{args:List IV}{Q:IV→Store→Prop}(h:C P E f args σ Q):C P E f args σ fun v s=>∃ u,Q u s∧v=gm1 u:=fun ρ w rargs hs hc=>
 (h ρ w rargs hs hc).mono fun _ _ ⟨v,r,ρ',σ',he,q,hs',hv,hx⟩=>⟨gm1 v,r,ρ',σ',he,⟨v,q,rfl⟩,hs',gm2 hv,hx⟩
def ek4 (rd:RD)(E:Nat→IV)(fz:Nat→List Nat)(lf:Nat)(e:Nat×IC×List IR)(args:List IV)(xs:XSt):Option (IV×XSt):=
 if args.length≤e.1 then
  match icX rd E fz e.1 lf e.2.1 (au2 args 0) xs with
  | some (.normal,fr,s)=>match irL s.st fr e.2.2 with
   | some vs=>some (gm1 (cv7 vs),s)
   | none=>none
  | some (.ret,fr,s)=>match irL s.st fr e.2.2 with
   | some vs=>some (gm1 (cv7 vs),s)
   | none=>none
  | _=>none
 else none
def cw8 (rd:RD)(T:Tab)(E:Nat→IV)(lf:Nat)(k:Nat)(args:List IV):Option IV :=
 match T.fj4 k args with
 | some v=>some v
 | none=>match T.fn k with
  | some e=>match ek4 rd E (T.fz k) lf e args ⟨0,.e⟩ with
   | some (v,s)=>hn9 s 1000 v
   | none=>none
  | none=>none
def fc6:IV→Bool
 | .bool _=>true
 | .int _ _=>true
 | .str _=>true
 | _=>false
def dv1:IV→Bool
 | .tuple vs=>vs.all fc6
 | v=>fc6 v
def fs7 (pr:Nat→List IV→Option IV)(k:Nat)(args:List IV)(xs:XSt):Option (IV×XSt):=
 let ids:=args.flatMap (df4 xs 1000)
 match df2 (ca9 xs (fun i=>ids.contains i) 1000) args,bw9 ids xs with
 | some as,some xs'=>bif as.all (af1 1000) then (match pr k as with
  | some v=>some (v,xs')
  | none=>none) else none
 | _,_=>none
def gm3 (args:List IV)(xs:XSt):Bool:=(args.flatMap (df4 xs 1000)).all fun i=>Nat.ble xs.next (i+16)
def fs8 (pr:Nat→List IV→Option IV)(k:Nat)(args:List IV)(xs:XSt):Option (IV×XSt):=
 match df2 (hn9 xs 1000) args with
 | some as=>bif as.all (af1 1000) then (match pr k as with
  | some v=>bif dv1 v then some (v,xs) else none
  | none=>none) else none
 | none=>none
def cr3  (T:Tab) (E:Nat→IV) (lf:Nat):Nat→RD
 | 0,_,_,_,_=>none
 | d+1,0,k,args,xs=>bif args.all (af1 1000) then (match cw8 (cr3 T E lf d) T E lf k args with
  | some v=>some (v,xs)
  | none=>none) else none
 | d+1,1,k,args,xs=>bif T.pure k&&args.all (af1 1000) then (match cw8 (cr3 T E lf d) T E lf k args with
  | some v=>some (v,xs)
  | none=>none) else (bif T.gr6 (k+1000000)&&gm3 args xs then fs7 (cw8 (cr3 T E lf d) T E lf) k args xs else bif T.gr6 k then fs8 (cw8 (cr3 T E lf d) T E lf) k args xs else (match T.fn k with
   | some e=>ek4 (cr3 T E lf d) E (T.fz k) lf e args xs
   | none=>none))
 | d+1,_,k,args,xs=>match xs.t.get k with
  | some (.loop N fr ps asg body .ready none)=>if args.length=ps.length then
    match icX (cr3 T E lf d) E (fun _=>[]) N lf asg (bq5 fr ps args) xs with
    | some (.normal,f1,xs0)=>match xs0.t.get k with
     | some (.loop N0 fr0 ps0 as0 b0 .ready none)=>match xs0.put k (some (.loop N0 fr0 ps0 as0 b0 .busy none)) with
      | some xs1=>match icX (cr3 T E lf d) E (fun _=>[]) N lf body f1 xs1 with
       | some (e,_,xs2)=>match xs2.t.get k with
        | some (.loop N' fr' ps' as' b' .busy none)=>match e with
         | .normal=>(xs2.put k (some (.loop N' fr' ps' as' b' .ready none))).map fun s=>(.bool true,s)
         | .ret=>(xs2.put k (some (.loop N' fr' ps' as' b' .done (some .ret)))).map fun s=>(.bool false,s)
         | .exit i=>(xs2.put k (some (.loop N' fr' ps' as' b' .done (some (.exit i))))).map fun s=>(.bool false,s)
        | _=>none
       | none=>none
      | none=>none
     | _=>none
    | _=>none
   else none
  | _=>none
/-! ### The proof -/
structure gc7 (P:Program) (E:Nat→IV) (rd:RD):Prop where
 pure:∀ k args xs r,rd 0 k args xs=some r→okF P k=true∧PC P E k args r.1
 call:∀ Λ k args xs σ r,XR P E Λ xs σ→rd 1 k args xs=some r→okF P k=true∧C P E k args σ fun v s=>v=r.1∧XR P E Λ r.2 s∧σ.next≤s.next
 yld:∀ Λ k args xs σ r,XR P E Λ xs σ→rd 2 k args xs=some r→CV P E (.yield k) args σ fun v s=>v=r.1∧XR P E Λ r.2 s∧σ.next≤s.next
variable {rd:RD} {Λ:Lam} {xs xs':XSt}
theorem am5 {id:Nat}{o:ah2}{v:IV}{r:IV×XSt}(hx:XR P E Λ xs σ)(h:da3 xs id o v=some r):r.1=v∧XR P E Λ r.2 (σ.put id o):=by
 unfold da3 at h;split at h
 ·rename_i s hs; cases h; exact ⟨rfl,hx.put hs⟩
 ·cases h
theorem ce6 (hrd:gc7 P E rd){op:IK}{id:Nat}{r:IV×XSt}{K:IV→Store→Prop}(hx:XR P E Λ xs σ)(h:opX rd E op id fr xs=some r)(hK:∀ s,XR P E Λ r.2 s→K r.1 s):opR P E op id fr σ K:=by
 cases op with
 | q q=>
  simp only[opX] at h;split at h
  ·rename_i v hv; cases h; exact ⟨v,gc3 hx.le hv,hK σ hx⟩
  ·cases h
 | alloc z=>obtain ⟨h1,h2⟩:=am5 hx h; simp only[opR]; rw[← h1]; exact hK _ h2
 | box x=>
  simp only[opX] at h;split at h
  ·rename_i hl; obtain ⟨h1,h2⟩:=am5 hx h; exact ⟨hl,by rw[← h1]; exact hK _ h2⟩
  ·cases h
 | bsl esz n z ps=>
  simp only[opX] at h;split at h
  ·rename_i out ho; obtain ⟨h1,h2⟩:=am5 hx h; exact ⟨out,ho,by rw[← h1]; exact hK _ h2⟩
  ·cases h
 | store sz x y=>
  simp only[opX] at h;split at h
  ·rename_i s hs; cases h; obtain ⟨σ',h1,h2⟩:=de9 hx hs; exact ⟨σ',h1,hK _ h2⟩
  ·cases h
 | app esz s x=>obtain ⟨σ',h1,h2⟩:=ej7 hx h; exact ⟨_,h1,hK _ h2⟩
 | bm5=>obtain ⟨h1,h2⟩:=am5 hx h; simp only[opR]; rw[← h1]; exact hK _ h2
 | av1 x=>
  simp only[opX] at h;split at h
  ·rename_i s hs; obtain ⟨h1,h2⟩:=am5 hx h; exact ⟨s,hs,by rw[← h1]; exact hK _ h2⟩
  ·cases h
 | bq6 x=>obtain ⟨σ',h1,h2⟩:=df1 hx h; exact ⟨_,h1,hK _ h2⟩
 | de4 tag x k v=>
  simp only[opX] at h;split at h
  ·rename_i s hs; cases h; obtain ⟨σ',h1,h2⟩:=do7 hx hs; exact ⟨σ',h1,hK _ h2⟩
  ·cases h
 | call f args=>
  obtain ⟨h1,h2⟩:=hrd.call Λ _ _ _ _ _ hx h;refine ⟨_,h2,?_⟩;rintro v s ⟨e,hs,hn⟩
  exact ⟨hn,by rw[e]; exact hK s hs⟩
 | aj4 f args=>
  simp only[opX] at h;split at h
  ·rename_i r' hr; cases h; exact ⟨_,(hrd.pure _ _ _ _ hr).2,hK σ hx⟩
  ·cases h
 | an7 x args=>
  simp only[opX] at h;split at h
  ·rename_i f first cap he
   obtain ⟨h1,h2⟩:=hrd.call Λ _ _ _ _ _ hx h;refine ⟨(fun v s=>v=r.1∧XR P E Λ r.2 s∧σ.next≤s.next),?_,fun v s ⟨e,hs,hn⟩=>⟨hn,by rw[e]; exact hK s hs⟩⟩;rw[he];exact ⟨h1,h2⟩
  ·rename_i i he;have:=hrd.yld Λ _ _ _ _ _ hx h;refine ⟨(fun v s=>v=r.1∧XR P E Λ r.2 s∧σ.next≤s.next),?_,fun v s ⟨e,hs,hn⟩=>⟨hn,by rw[e]; exact hK s hs⟩⟩;rw[he];exact this
  ·cases h
 | av2 esz n z ps=>
  simp only[opX] at h;split at h
  ·rename_i out ho; cases h; exact ⟨out,ho,hK σ hx⟩
  ·cases h
 | ar7 x=>
  simp only[opX] at h;split at h
  ·rename_i hl; cases h; exact ⟨hl,hK σ hx⟩
  ·cases h
 | aq9 x=>
  simp only[opX] at h;split at h
  ·rename_i es he; obtain ⟨h1,h2⟩:=am5 hx h; exact ⟨es,he,by rw[← h1]; exact hK _ h2⟩
  ·cases h
 | bj2 x=>
  have mn:∀ {i l},aq8 xs.st (x.ev E fr)=some (i,l)→aq8 σ (x.ev E fr)=some (i,l):=fun {i l} h=>by
   unfold aq8 at h ⊢;split at h
   ·split at h
    ·rename_i l' hl; rw[hx.le _ _ hl]; exact h
    ·cases h
   ·cases h
  simp only[opX] at h;split at h
  ·rename_i i hm;cases h;exact ⟨i,[],mn hm,fun _=>hK σ hx,fun j hj=>absurd hj (Nat.not_lt_zero _)⟩
  ·rename_i i e hm;obtain ⟨h1,h2⟩:=am5 hx h;refine ⟨i,[e],mn hm,(fun h=>by cases h),fun j hj=>?_⟩;have:j=0:=by simpa using hj
   subst this;have:=hK _ h2;rw[h1] at this;exact this
  ·cases h
 | dn5 x=>
  have mn:∀ {v},ba5 xs.st (x.ev E fr)=some v→ba5 σ (x.ev E fr)=some v:=fun {v} h=>by
   unfold ba5 at h ⊢;split at h
   ·split at h
    ·rename_i l' hl; rw[hx.le _ _ hl]; exact h
    ·cases h
   ·cases h
  simp only[opX] at h;split at h
  ·rename_i v hv; cases h; exact ⟨v,mn hv,hK σ hx⟩
  ·cases h
 | cj5 esz z x=>
  simp only[opX] at h;split at h
  ·rename_i n hn; obtain ⟨h1,h2⟩:=am5 hx h; exact ⟨n,hn,by rw[← h1]; exact hK _ h2⟩
  ·cases h
 | clr esz z x=>
  simp only[opX] at h;split at h
  ·rename_i s hs; cases h; obtain ⟨σ',h1,h3,h2⟩:=ej8 hx hs; exact ⟨σ',h1,h3,hK _ h2⟩
  ·cases h
 | st k ys=>obtain ⟨σ',h1,h2⟩:=fb9 hx h; exact ⟨_,h1,hK _ h2⟩
theorem ek5 (hrd:gc7 P E rd):∀ (ops:List ac6) (id:Nat) (fr:Frm) (xs:XSt) (σ:Store) (r:Frm×XSt) (K:Frm→Store→Prop),XR P E Λ xs σ→gl9 rd E ops id fr xs=some r→(∀ s,XR P E Λ r.2 s→K r.1 s)→bg9 P E ops id fr σ K:=by
 intro ops
 induction ops with
 | nil=>intro id fr xs σ r K hx h hK; cases h; exact hK σ hx
 | cons o os ih=>
  intro id fr xs σ r K hx h hK;have hl:(bif o.op.lays then id+1 else id)=if o.op.lays=true then id+1 else id:=by cases o.op.lays<;>rfl
  simp only[gl9,hl] at h;simp only[bg9];split at h
  ·rename_i ha;refine ⟨true,ha,?_⟩;rw[if_pos rfl];split at h
   ·rename_i v s ho;exact ce6 hrd hx ho fun s' hs'=>ih _ _ _ _ _ _ hs' h hK
   ·cases h
  ·rename_i ha;refine ⟨false,ha,?_⟩;rw[if_neg (by simp)];exact ih _ _ _ _ _ _ hx h hK
  ·cases h
theorem ek6 (hx:XR P E Λ xs σ){op:IK}(h:hf4 E fr xs op=true):as9 E fr σ op:=by
 cases op with
 | q q=>
  cases q with
  | load ag x=>
   simp only[hf4,as9] at h ⊢
   cases he:x.ev E fr with
   | af4 cs=>trivial
   | ptr i off=>
    rw[he] at h;simp only at h ⊢;split at h
    ·rename_i cs hc; exact ⟨cs,hx.get hc⟩
    ·cases h
   | _=>rw[he] at h; cases h
  | _=>trivial
 | _=>trivial
theorem df9 (hrd:gc7 P E rd){B:Bool}{base:Nat}:∀ (ops:List ac6) (i:Nat) (fr:Frm) (xs:XSt) (σ:Store) (r:Frm×XSt) (K:Frm→Store→Prop),XR P E Λ xs σ→ce4 rd E B ops (base+i) fr xs=some r→(∀ s,XR P E Λ r.2 s→K r.1 s)→bg8 P E B (dl5 base i ops) fr σ K:=by
 intro ops
 induction ops with
 | nil=>intro i fr xs σ r K hx h hK; cases h; exact hK σ hx
 | cons o os ih=>
  intro i fr xs σ r K hx h hK;simp only[ce4] at h;split at h
  ·rename_i ha;split at h
   ·rename_i hb;split at h
    ·rename_i v s ho;refine ⟨true,ha,?_⟩;rw[if_pos rfl];refine ⟨ce6 hrd hx ho fun s' hs'=>ih (i+1) _ _ _ _ _ hs' h hK,fun hB=>ek6 hx ?_⟩;subst hB
     simpa using hb
    ·cases h
   ·cases h
  ·rename_i ha;refine ⟨false,ha,?_⟩;rw[if_neg (by simp)];exact ih (i+1) _ _ _ _ _ hx h hK
  ·cases h
theorem dg1 (hx:XR P E Λ xs σ){m:Nat}:∀ (L:List LE),df8 E xs m L=true→ev8 E L m σ:=by
 intro L
 induction L with
 | nil=>intro _ e he; cases he
 | cons c L ih=>
  intro h e he hm;simp only[df8,Bool.and_eq_true] at h;rcases List.mem_cons.1 he with rfl|he
  ·have h1:=h.1;rw[fn9,hm] at h1;simp only at h1;split at h1
   ·rename_i v hv;rw[← fs6 _ _ _ h1];exact gc3 hx.le hv
   ·cases h1
  ·exact ih h.2 e he hm
theorem dg2 (hrd:gc7 P E rd){base:Nat}:∀ (ops:List YO) (L:List LE) (fr:Frm) (xs:XSt) (σ:Store) (r:Frm×XSt) (K:Frm→Store→Prop),XR P E Λ xs σ→ce5 rd E base ops L fr xs=some r→(∀ s,XR P E Λ r.2 s→K r.1 s)→an3 P E (fi9 base ops) L fr σ K:=by
 intro ops
 induction ops with
 | nil=>intro L fr xs σ r K hx h hK; cases h; exact hK σ hx
 | cons o os ih=>
  obtain ⟨i,o,m⟩:=o;intro L fr xs σ r K hx h hK;simp only[ce5] at h;split at h
  ·rename_i ha;split at h
   ·rename_i v s ho;split at h
    ·rename_i hb;refine .inl ⟨ha,ce6 hrd hx ho fun s' hs'=>⟨?_,ih _ _ _ _ _ _ hs' h hK⟩⟩;rw[Bool.or_eq_true] at hb;rcases hb with hb|hb
     ·show ev8 E L m s';rw[Nat.eq_of_beq_eq_true hb]; exact aw7
     ·exact dg1 hs' _ hb
    ·cases h
   ·cases h
  ·rename_i ha;exact .inr ⟨ha,ih _ _ _ _ _ _ hx h hK⟩
  ·cases h
/-! ### Codes,by their parts -/
theorem fs9 {pf:List Nat}{an:Ann}{c:Code}{x y:IC}(h:am4 P pf N an c=some (.seq x y)):∃ a b,c=.seq a b∧am4 P pf N an a=some x∧am4 P pf N an b=some y:=by
 cases c with
 | seq a b=>
  simp only[am4] at h;split at h
  ·rename_i x' y' hx hy; cases h; exact ⟨a,b,rfl,hx,hy⟩
  ·cases h
 | region id ops draw=>simp only[am4] at h; split at h<;>first|(cases h; done)|(split at h<;>first|(cases h; done)|(split at h<;>cases h))
 | cond c a b=>simp only[am4] at h; split at h<;>cases h
 | block id a=>obtain ⟨_,_,h⟩:=map_some h; cases h
 | scope a=>obtain ⟨_,_,h⟩:=map_some h; cases h
 | loop a=>obtain ⟨_,_,h⟩:=map_some h; cases h
 | rangeFunc g ps assign body=>simp only[am4] at h; split at h<;>first|(cases h; done)|(split at h<;>cases h)
 | _=>cases h
theorem fc7 {pf:List Nat}{an:Ann}{c:Code}{i:IX}{x y:IC}(h:am4 P pf N an c=some (.cond i x y)):∃ o a b,c=.cond o a b∧af8 o=some i∧am4 P pf N an a=some x∧am4 P pf N an b=some y:=by
 cases c with
 | cond o a b=>
  simp only[am4] at h;split at h
  ·rename_i i' x' y' hi hx hy; cases h; exact ⟨o,a,b,rfl,hi,hx,hy⟩
  ·cases h
 | region id ops draw=>simp only[am4] at h; split at h<;>first|(cases h; done)|(split at h<;>first|(cases h; done)|(split at h<;>cases h))
 | seq a b=>simp only[am4] at h; split at h<;>cases h
 | block id a=>obtain ⟨_,_,h⟩:=map_some h; cases h
 | scope a=>obtain ⟨_,_,h⟩:=map_some h; cases h
 | loop a=>obtain ⟨_,_,h⟩:=map_some h; cases h
 | rangeFunc g ps assign body=>simp only[am4] at h; split at h<;>first|(cases h; done)|(split at h<;>cases h)
 | _=>cases h
theorem ek7 {pf:List Nat}{an:Ann}{c:Code}{i:Nat}{x:IC}(h:am4 P pf N an c=some (.block i x)):∃ a,c=.block i a∧am4 P pf N an a=some x:=by
 cases c with
 | block id a=>obtain ⟨_,h1,h⟩:=map_some h; cases h; exact ⟨a,rfl,h1⟩
 | scope a=>obtain ⟨_,_,h⟩:=map_some h; cases h
 | region id ops draw=>simp only[am4] at h; split at h<;>first|(cases h; done)|(split at h<;>first|(cases h; done)|(split at h<;>cases h))
 | seq a b=>simp only[am4] at h; split at h<;>cases h
 | cond c a b=>simp only[am4] at h; split at h<;>cases h
 | loop a=>obtain ⟨_,_,h⟩:=map_some h; cases h
 | rangeFunc g ps assign body=>simp only[am4] at h; split at h<;>first|(cases h; done)|(split at h<;>cases h)
 | _=>cases h
theorem fc8 {pf:List Nat}{an:Ann}{c:Code}{x:IC}(h:am4 P pf N an c=some (.loop x)):∃ a,c=.loop a∧am4 P pf N an a=some x:=by
 cases c with
 | loop a=>obtain ⟨_,h1,h⟩:=map_some h; cases h; exact ⟨a,rfl,h1⟩
 | region id ops draw=>simp only[am4] at h; split at h<;>first|(cases h; done)|(split at h<;>first|(cases h; done)|(split at h<;>cases h))
 | seq a b=>simp only[am4] at h; split at h<;>cases h
 | cond c a b=>simp only[am4] at h; split at h<;>cases h
 | block id a=>obtain ⟨_,_,h⟩:=map_some h; cases h
 | scope a=>obtain ⟨_,_,h⟩:=map_some h; cases h
 | rangeFunc g ps assign body=>simp only[am4] at h; split at h<;>first|(cases h; done)|(split at h<;>cases h)
 | _=>cases h
theorem ek8 {pf:List Nat}{an:Ann}{c:Code}{x:IC}(h:am4 P pf N an c=some (.scope x)):∃ a,c=.scope a∧am4 P pf N an a=some x:=by
 cases c with
 | scope a=>obtain ⟨_,h1,h⟩:=map_some h; cases h; exact ⟨a,rfl,h1⟩
 | block id a=>obtain ⟨_,_,h⟩:=map_some h; cases h
 | loop a=>obtain ⟨_,_,h⟩:=map_some h; cases h
 | region id ops draw=>simp only[am4] at h; split at h<;>first|(cases h; done)|(split at h<;>first|(cases h; done)|(split at h<;>cases h))
 | seq a b=>simp only[am4] at h; split at h<;>cases h
 | cond c a b=>simp only[am4] at h; split at h<;>cases h
 | rangeFunc g ps assign body=>simp only[am4] at h; split at h<;>first|(cases h; done)|(split at h<;>cases h)
 | _=>cases h
def ip6 (P:Program)(E:Nat→IV)(N n0:Nat)(y:IC)(Q:Exit→Frm→Store→Prop):Exit→Frm→Store→Prop
 | .normal,fr,σ=>RI P E N n0 y fr σ Q
 | e,fr,σ=>Q e fr σ
theorem gc8 {x y:IC}{Q:Exit→Frm→Store→Prop}(h:RI P E N n0 x fr σ (ip6 P E N n0 y Q)):RI P E N n0 (.seq x y) fr σ Q:=by
 intro pf an c hc;obtain ⟨a,b,rfl,hx,hy⟩:=fs9 hc;refine gf3 ((h pf an a hx).mono fun e f s q=>?_)
 cases e with
 | normal=>exact q pf an b hy
 | _=>exact q
theorem cw9 {i:IX}{x y:IC}{b:Bool}{Q:Exit→Frm→Store→Prop}(hi:i.ev E fr=.bool b)(h:RI P E N n0 (if b then x else y) fr σ Q):RI P E N n0 (.cond i x y) fr σ Q:=by
 intro pf an c hc;obtain ⟨o,a,d,rfl,ho,hx,hy⟩:=fc7 hc;refine fy5 ho hi ?_
 cases b with
 | true=>exact h pf an a hx
 | false=>exact h pf an d hy
theorem af3 {i:Nat}{x:IC}{Q:Exit→Frm→Store→Prop}(h:RI P E N n0 x fr σ (ba6 i Q)):RI P E N n0 (.block i x) fr σ Q:=by
 intro pf an c hc;obtain ⟨a,rfl,hx⟩:=ek7 hc;exact et7 (h pf an a hx)
theorem cx1 {x:IC}{Q:Exit→Frm→Store→Prop}(I:Nat→Frm→Store→Prop)(m:Nat)(h:I m fr σ)(hI:∀ m fr σ,I m fr σ→RI P E N n0 x fr σ (dl3 I m Q)):RI P E N n0 (.loop x) fr σ Q:=by
 intro pf an c hc;obtain ⟨a,rfl,hx⟩:=fc8 hc;exact fy6 I m h fun m fr σ hi=>hI m fr σ hi pf an a hx
theorem ft1 {x:IC}{Q:Exit→Frm→Store→Prop}(h:RI P E N n0 x fr σ (ds5 Q)):RI P E N n0 (.scope x) fr σ Q:=by
 intro pf an c hc;obtain ⟨a,rfl,hx⟩:=ek8 hc;exact et8 (h pf an a hx)
theorem cx2 {x:IC}{Q:Exit→Frm→Store→Prop}(h:RI P E N n0 x fr σ Q):RI P E N n0 x fr σ fun e f s=>n0≤s.next∧Q e f s :=
 fun pf an c hc hn ro h0 ρ w a hs hf hd hr=>wpIn_mono (h pf an c hc hn ro h0 ρ w a hs hf hd hr) fun _ _ _ ⟨fr',σ',ρ',hn',q,rest⟩=>⟨fr',σ',ρ',hn',⟨hn',q⟩,rest⟩
theorem ek9 {x:IC}{Q:Exit→Frm→Store→Prop}(h:wpI P E N n0 x fr σ Q):RI P E N n0 x fr σ Q:=ap7 x _ _ _ h
def ip7 (P:Program)(E:Nat→IV)(Λ:Lam)(out:XE×Frm×XSt):Exit→Frm→Store→Prop:=fun e f s=>e=out.1.ex∧f=out.2.1∧XR P E Λ out.2.2 s
theorem bn2 (hrd:gc7 P E rd) {fz:Nat→List Nat} {lf:Nat}:∀ (ic:IC) (Λ:Lam) (fr:Frm) (xs:XSt) (σ:Store) (n0:Nat) (out:XE×Frm×XSt),XR P E Λ xs σ→icX rd E fz N lf ic fr xs=some out→RI P E N n0 ic fr σ (ip7 P E Λ out):=by
 intro ic
 induction ic with
 | skip=>intro Λ fr xs σ n0 out hx h; cases h; exact ek9 ⟨rfl,rfl,hx⟩
 | exit i=>intro Λ fr xs σ n0 out hx h; cases h; exact ek9 ⟨rfl,rfl,hx⟩
 | ret=>intro Λ fr xs σ n0 out hx h; cases h; exact ek9 ⟨rfl,rfl,hx⟩
 | reg i ops keep=>
  intro Λ fr xs σ n0 out hx h;simp only[icX] at h;split at h
  ·rename_i frg xsg hg;obtain ⟨σg,hxg,hng,hfg⟩:=bj4 hx hg;refine cw4 hfg hng ?_;clear hx hfg hg hng;generalize σg=σ at hxg;have hx:=hxg;split at h
   ·rename_i fr' xs' hr;cases h;refine ek9 ?_;have hx':XR P E Λ ⟨xsg.next+ax1 ops,xsg.t⟩ { σ with next:=σ.next+ax1 ops }:=⟨by show xsg.next+ax1 ops=σ.next+ax1 ops; rw[hx.next],hx.obj⟩;rw[hx.next] at hr hx';exact ek5 hrd ops _ _ _ _ _ _ hx' hr fun s hs=>⟨rfl,rfl,hs⟩
   ·cases h
  ·cases h
 | dreg i ops B keep=>
  intro Λ fr xs σ n0 out hx h;simp only[icX] at h;split at h
  ·rename_i frg xsg hg;obtain ⟨σg,hxg,hng,hfg⟩:=bj4 hx hg;refine cw4 hfg hng ?_;clear hx hfg hg hng;generalize σg=σ at hxg;have hx:=hxg;split at h
   ·rename_i fr' xs' hr;cases h;refine ek9 ?_;have hx':XR P E Λ ⟨xsg.next+ops.length,xsg.t⟩ { σ with next:=σ.next+ops.length }:=⟨by show xsg.next+ops.length=σ.next+ops.length; rw[hx.next],hx.obj⟩;rw[hx.next] at hr hx';exact df9 hrd ops 0 _ _ _ _ _ hx' hr fun s hs=>⟨rfl,rfl,hs⟩
   ·cases h
  ·cases h
 | oreg i ops keep=>
  intro Λ fr xs σ n0 out hx h;simp only[icX] at h;split at h
  ·rename_i frg xsg hg;obtain ⟨σg,hxg,hng,hfg⟩:=bj4 hx hg;refine cw4 hfg hng ?_;clear hx hfg hg hng;generalize σg=σ at hxg;have hx:=hxg;split at h
   ·rename_i fr' xs' hr;cases h;refine ek9 ?_;have hx':XR P E Λ ⟨xsg.next+ops.length,xsg.t⟩ { σ with next:=σ.next+ops.length }:=⟨by show xsg.next+ops.length=σ.next+ops.length; rw[hx.next],hx.obj⟩;rw[hx.next] at hr hx';exact dg2 hrd ops [] _ _ _ _ _ hx' hr fun s hs=>⟨rfl,rfl,hs⟩
   ·cases h
  ·cases h
 | seq a b iha ihb=>
  intro Λ fr xs σ n0 out hx h;simp only[icX] at h;split at h
  ·rename_i fr' xs' ha;refine gc8 (al9 (iha Λ fr xs σ n0 _ hx ha) fun e f s ⟨h1,h2,h3⟩=>?_);subst h1; subst h2;exact ihb Λ _ _ _ n0 out h3 h
  ·rename_i hne;refine gc8 (al9 (iha Λ fr xs σ n0 _ hx h) fun e f s ⟨h1,h2,h3⟩=>?_);subst h1; subst h2;obtain ⟨oe,of,ox⟩:=out
   cases oe with
   | normal=>exact absurd h (hne _ _)
   | exit i=>exact ⟨rfl,rfl,h3⟩
   | ret=>exact ⟨rfl,rfl,h3⟩
 | cond x a b iha ihb=>
  intro Λ fr xs σ n0 out hx h;simp only[icX] at h;split at h
  ·rename_i he; exact cw9 he (iha Λ fr xs σ n0 out hx h)
  ·rename_i he; exact cw9 he (ihb Λ fr xs σ n0 out hx h)
  ·cases h
 | block i a iha=>
  intro Λ fr xs σ n0 out hx h;simp only[icX] at h;split at h
  ·rename_i j fr' xs' ha;rw[ap3] at h;refine af3 (al9 (iha Λ fr xs σ n0 _ hx ha) fun e f s ⟨h1,h2,h3⟩=>?_);subst h1; subst h2;simp only[XE.ex,ba6];split at h
   ·rename_i hj; cases h; rw[if_pos hj]; exact ⟨rfl,rfl,h3⟩
   ·rename_i hj; cases h; rw[if_neg hj]; exact ⟨rfl,rfl,h3⟩
  ·rename_i hne;refine af3 (al9 (iha Λ fr xs σ n0 _ hx h) fun e f s ⟨h1,h2,h3⟩=>?_);subst h1; subst h2;obtain ⟨oe,of,ox⟩:=out
   cases oe with
   | normal=>exact ⟨rfl,rfl,h3⟩
   | exit i=>exact absurd h (hne _ _ _)
   | ret=>exact ⟨rfl,rfl,h3⟩
 | scope a iha=>
  intro Λ fr xs σ n0 out hx h;simp only[icX] at h;refine ft1 (al9 (iha Λ fr xs σ n0 _ hx h) fun e f s ⟨h1,h2,h3⟩=>?_);subst h1; subst h2;obtain ⟨oe,of,ox⟩:=out
  cases oe with
  | normal=>exact ⟨rfl,rfl,h3⟩
  | exit i=>exact ⟨rfl,rfl,h3⟩
  | ret=>exact ⟨rfl,rfl,h3⟩
 | loop a iha=>
  intro Λ fr xs σ n0 out hx h;refine cx1 (fun m f s=>∃ x1,XR P E Λ x1 s∧ek3 (icX rd E fz N lf a) m f x1=some out) lf ⟨xs,hx,h⟩ ?_;rintro m f s ⟨x1,hx1,hm⟩
  cases m with
  | zero=>cases hm
  | succ m=>
   simp only[ek3] at hm;split at hm
   ·rename_i fr' xs' ha;refine al9 (iha Λ f x1 s n0 _ hx1 ha) fun e f' s' ⟨h1,h2,h3⟩=>?_
    subst h1; subst h2;exact ⟨m,Nat.lt_succ_self _,xs',h3,hm⟩
   ·rename_i hne;refine al9 (iha Λ f x1 s n0 _ hx1 hm) fun e f' s' ⟨h1,h2,h3⟩=>?_
    subst h1; subst h2;obtain ⟨oe,of,ox⟩:=out
    cases oe with
    | normal=>exact absurd hm (hne _ _)
    | exit i=>exact ⟨rfl,rfl,h3⟩
    | ret=>exact ⟨rfl,rfl,h3⟩
 | rfunc g ps y a _ iha=>
  intro Λ fr xs σ n0 out hx h;simp only[icX] at h;split at h
  ·rename_i f first cap he
   split at h
   ·rename_i xs1 hp;split at h
    ·rename_i u xs2 hc;rw[hx.next] at hp hc h;refine cu4 fun L hL=>?_
     let Λ':Lam:=fun i=>if i=σ.next then L else Λ i
     have hΛ:∀ i,i≠σ.next→Λ' i=Λ i:=fun i hi=>if_neg hi
     have hΛ0:Λ' σ.next=L:=if_pos rfl;obtain ⟨p1,p2⟩:=XSt.bb1 hp
     have hx1:XR P E Λ' xs1 ⟨σ.next+1,(σ.put σ.next (L .ready none)).obj⟩:=by
      refine ⟨by rw[p1],fun i=>?_⟩;rw[p2];by_cases hi:i=σ.next
      ·subst hi;rw[if_pos rfl];refine ⟨by show (if σ.next=σ.next then some (L .ready none) else σ.obj σ.next)=_; rw[if_pos rfl,hΛ0],?_⟩;rw[hΛ0];exact fun σ' args K hl ho hR=>hL σ' args K hl ho hR
      ·rw[if_neg hi];have:=hx.obj i;show XOR P E Λ' i (xs.t.get i) (if i=σ.next then some (L .ready none) else σ.obj i);rw[if_neg hi]
       cases hg:xs.t.get i with
       | none=>rw[hg] at this; exact this
       | some o=>
        rw[hg] at this
        cases o with
        | o x=>exact this
        | app _ _ _=>exact this
        | loop N' fr' ps' as' b' st' pd'=>simp only[XOR,hΛ i hi] at this ⊢; exact this
     obtain ⟨hok,hC⟩:=hrd.call Λ' _ _ _ _ _ hx1 hc;rw[he];refine ⟨hok,hC.mono ?_⟩;rintro v s ⟨_,hxs,hn⟩;refine ⟨by have:σ.next+1≤s.next:=hn; omega,?_⟩
     have back:∀ xs3,xs2.put σ.next none=some xs3→XR P E Λ xs3 (s.kill σ.next):=fun xs3 h3=>by
      obtain ⟨q1,q2⟩:=XSt.bb1 h3;refine ⟨by rw[q1]; exact hxs.next,fun i=>?_⟩;rw[q2];show XOR P E Λ i _ (if i=σ.next then none else s.obj i);by_cases hi:i=σ.next
      ·rw[if_pos hi,if_pos hi]; rfl
      ·rw[if_neg hi,if_neg hi];have:=hxs.obj i
       cases hg:xs2.t.get i with
       | none=>rw[hg] at this; exact this
       | some o=>
        rw[hg] at this
        cases o with
        | o x=>exact this
        | app _ _ _=>exact this
        | loop N' fr' ps' as' b' st' pd'=>simp only[XOR,hΛ i hi] at this ⊢; exact this
     have hid:=hxs.obj σ.next;split at h
     ·rename_i hg;rw[hg] at hid;obtain ⟨xs3,h3,rfl⟩:=map_some h;exact ⟨.ready,none,(fun h=>by cases h),by rw[hid.1,hΛ0],rfl,rfl,back _ h3⟩
     ·rename_i hg;rw[hg] at hid;obtain ⟨xs3,h3,rfl⟩:=map_some h;exact ⟨.done,some .ret,(fun h=>by cases h),by rw[hid.1,hΛ0],rfl,rfl,back _ h3⟩
     ·rename_i i hg;rw[hg] at hid;obtain ⟨xs3,h3,rfl⟩:=map_some h;exact ⟨.done,some (.exit i),(fun h=>by cases h),by rw[hid.1,hΛ0],rfl,rfl,back _ h3⟩
     ·cases h
    ·cases h
   ·cases h
  ·cases h
theorem ij6 {f:Nat}{pf:List Nat}{an:Ann}{ic:IC}{irs:List IR}{args:List IV}{Qc:IV→Store→Prop}(hf:fb3 P f N pf an ic irs)(hl:args.length≤N)
  (h:RI P E N σ.next ic (au2 args 0) σ (ib9 irs Qc)):C P E f args σ Qc:=by
 obtain ⟨fn,h1,h2,h3,h4⟩:=hf
 cases hb:fn.body with
 | none=>rw[hb] at h3; cases h3
 | some c=>
  rw[hb] at h3;refine gk5 h1 hb h2 hl ((h pf an c h3).mono ?_);intro e fr' σ' q;cases e<;>first|(obtain ⟨vs,q1,q2⟩:=q; exact ⟨vs,by rw[fb2 _ _ h4]; exact q1,q2⟩)|exact q
theorem ce7 (hrd:gc7 P E rd){fz:Nat→List Nat}{lf k:Nat}{e:Nat×IC×List IR}{args:List IV}{r:IV×XSt}(hf:∃ pf an,fb3 P k e.1 pf an e.2.1 e.2.2)(hx:XR P E Λ xs σ)(h:ek4 rd E fz lf e args xs=some r) :
  C P E k args σ fun v s=>v=r.1∧XR P E Λ r.2 s∧σ.next≤s.next:=by
 obtain ⟨pf,an,hf⟩:=hf;unfold ek4 at h;split at h
 ·rename_i hl;split at h
  ·rename_i fr' s hi;split at h
   ·rename_i vs hv;cases h;refine (gc6 (ij6 hf hl (Qc:=fun v s'=>v=cv7 vs∧XR P E Λ s s'∧σ.next≤s'.next) ?_)).mono fun v s' ⟨u,⟨h1,h2⟩,h3⟩=>⟨by rw[h3,h1],h2⟩
    refine al9 (cx2 (bn2 hrd _ Λ _ _ _ _ _ hx hi)) fun e f s' ⟨hn,h1,h2,h3⟩=>?_
    subst h1; subst h2;exact ⟨vs,gc4 _ _ h3.le hv,rfl,h3,hn⟩
   ·cases h
  ·rename_i fr' s hi;split at h
   ·rename_i vs hv;cases h;refine (gc6 (ij6 hf hl (Qc:=fun v s'=>v=cv7 vs∧XR P E Λ s s'∧σ.next≤s'.next) ?_)).mono fun v s' ⟨u,⟨h1,h2⟩,h3⟩=>⟨by rw[h3,h1],h2⟩
    refine al9 (cx2 (bn2 hrd _ Λ _ _ _ _ _ hx hi)) fun e f s' ⟨hn,h1,h2,h3⟩=>?_
    subst h1; subst h2;exact ⟨vs,gc4 _ _ h3.le hv,rfl,h3,hn⟩
   ·cases h
  ·cases h
 ·cases h
theorem ft2:XR P E Λ ⟨0,.e⟩ ⟨0,fun _=>none⟩:=⟨rfl,fun i=>rfl⟩
theorem az3 {T:Tab}(hT:fc4 P E T)(hE:∀ g,Bnd 0 (E g))(hrd:gc7 P E rd){lf k:Nat}{args:List IV}{v:IV}(hcl:args.all (af1 1000)=true)(h:cw8 rd T E lf k args=some v):okF P k=true∧PC P E k args v:=by
 unfold cw8 at h;split at h
 ·rename_i v' hp;cases h;exact hT.fj4 _ _ _ hp
 ·split at h
  ·rename_i e he;obtain ⟨hok,hf⟩:=hT.fn k e.1 e.2.1 e.2.2 he;split at h
   ·rename_i u s hb;refine ⟨hok,cw2 hE (fun a ha=>aj5 _ _ (List.all_eq_true.1 hcl a ha)) ((ce7 (Λ:=fun _ _ _=>default) hrd hf ft2 hb).mono ?_)⟩;rintro v' s' ⟨rfl,hxs,_⟩;exact cr2 hxs _ _ _ h
   ·cases h
  ·cases h
theorem by5 {v:IV}(h:fc6 v=true):v.plain=true:=by
 cases v with
 | bool b=>simp[IV.plain]
 | int k n=>simp[IV.plain]
 | str s=>simp[IV.plain]
 | _=>cases h
theorem dg3 {v:IV}(h:dv1 v=true):v.plain=true:=by
 unfold dv1 at h;split at h
 ·rename_i vs;unfold IV.plain;exact List.all_eq_true.2 fun x _=>by5 (List.all_eq_true.1 h x.1 x.2)
 ·exact by5 h
theorem do8 (hE:∀ g,Bnd 0 (E g)){pr:Nat→List IV→Option IV}{k:Nat}{args:List IV}{r:IV×XSt}(hp:∀ as v,as.all (af1 1000)=true→pr k as=some v→okF P k=true∧PC P E k as v)
  (hx:XR P E Λ xs σ) (h:fs8 pr k args xs=some r):okF P k=true∧C P E k args σ fun v s=>v=r.1∧XR P E Λ r.2 s∧σ.next≤s.next:=by
 unfold fs8 at h;split at h
 ·rename_i as has
  cases hc:as.all (af1 1000) with
  | false=>rw[hc] at h; cases h
  | true=>
   rw[hc] at h;simp only[cond_true] at h;split at h
   ·rename_i v hv
    cases hpl:dv1 v with
    | false=>rw[hpl] at h; cases h
    | true=>
     rw[hpl] at h;cases h;obtain ⟨h1,h2⟩:=hp as v hc hv;obtain ⟨s1,s2⟩:=bn1 _ _ has;refine ⟨h1,(cw3 hE s1 (fun i hi=>cr2 hx _ _ _ (s2 i hi)) (dg3 hpl) h2).mono fun v' s q=>?_⟩;obtain ⟨e1,e2⟩:=q;subst e1; subst e2;exact ⟨rfl,hx,Nat.le_refl _⟩
   ·cases h
 ·cases h
theorem do9 {Λ:Lam}{pr:Nat→List IV→Option IV}{k:Nat}{args:List IV}{xs:XSt}{r:IV×XSt}(hp:∀ as v,as.all (af1 1000)=true→pr k as=some v→okF P k=true∧PC P E k as v)
  (hx:XR P E Λ xs σ) (h:fs7 pr k args xs=some r):okF P k=true∧C P E k args σ fun v s=>v=r.1∧XR P E Λ r.2 s∧σ.next≤s.next:=by
 unfold fs7 at h;generalize (args.flatMap (df4 xs 1000))=ids at h;simp only at h;split at h
 ·rename_i as x1 has hk
  cases hc:as.all (af1 1000) with
  | false=>rw[hc] at h; cases h
  | true=>
   rw[hc] at h;simp only[cond_true] at h;split at h
   ·rename_i v hv;cases h;obtain ⟨h1,h2⟩:=hp as v hc hv;obtain ⟨s1,s2⟩:=bn1 _ _ has;obtain ⟨a1,a2⟩:=bj3 _ _ _ hk
    have hx':XR P E Λ x1 (σ.kills fun i=>!ids.contains i):=by
     refine ⟨by rw[a1]; exact hx.next,fun j=>?_⟩;rw[a2];show XOR P E Λ j _ (if (!ids.contains j)=true then σ.obj j else none);by_cases hj:ids.contains j=true
     ·rw[if_pos hj,if_neg (by simp at hj ⊢; exact hj)]; rfl
     ·rw[if_neg hj,if_pos (by simp at hj ⊢; exact hj)]; exact hx.obj j
    refine ⟨h1,(gc2 (S:=fun i=>!ids.contains i) s1 (fun i hi=>bf7 hx (fun i hi=>by simp at hi ⊢; exact hi) _ _ _ (s2 i hi)) (h2 _)).mono fun v' s q=>?_⟩;obtain ⟨e1,e2⟩:=q;subst e1; subst e2;exact ⟨rfl,hx',Nat.le_refl _⟩
   ·cases h
 ·cases h
theorem el1 {T:Tab} (hT:fc4 P E T) (hE:∀ g,Bnd 0 (E g)) {lf:Nat}:∀ d,gc7 P E (cr3 T E lf d):=by
 intro d
 induction d with
 | zero=>exact ⟨(fun _ _ _ _ h=>by cases h),(fun _ _ _ _ _ _ _ h=>by cases h),(fun _ _ _ _ _ _ _ h=>by cases h)⟩
 | succ d ih=>
  refine ⟨fun k args xs r h=>?_,fun Λ k args xs σ r hx h=>?_,fun Λ k args xs σ r hx h=>?_⟩
  ·simp only[cr3] at h
   cases hc:args.all (af1 1000) with
   | false=>rw[hc] at h; cases h
   | true=>
    rw[hc] at h;simp only[cond_true] at h;split at h
    ·rename_i v hv; cases h; exact az3 hT hE ih hc hv
    ·cases h
  ·simp only[cr3] at h
   cases hc:(T.pure k&&args.all (af1 1000)) with
   | true=>
    rw[hc] at h;simp only[cond_true] at h;split at h
    ·rename_i v hv;cases h;obtain ⟨h1,h2⟩:=az3 hT hE ih (by simp only[Bool.and_eq_true] at hc; exact hc.2) hv;exact ⟨h1,(h2 σ).mono fun v' s ⟨e1,e2⟩=>by subst e1; subst e2; exact ⟨rfl,hx,Nat.le_refl _⟩⟩
    ·cases h
   | false=>
    rw[hc] at h;simp only[cond_false] at h
    cases hg:(T.gr6 (k+1000000)&&gm3 args xs) with
    | true=>
     rw[hg] at h;simp only[cond_true] at h
     exact do9 (fun as v hcl hv=>az3 hT hE ih hcl hv) hx h
    | false=>
    rw[hg] at h;simp only[cond_false] at h
    cases hl:T.gr6 k with
    | true=>
     rw[hl] at h;simp only[cond_true] at h
     exact do8 hE (fun as v hcl hv=>az3 hT hE ih hcl hv) hx h
    | false=>
    rw[hl] at h;simp only[cond_false] at h;split at h
    ·rename_i e he;obtain ⟨hok,hf⟩:=hT.fn k e.1 e.2.1 e.2.2 he;exact ⟨hok,ce7 ih hf hx h⟩
    ·cases h
  ·simp only[cr3] at h;split at h
   ·rename_i N fr ps asg body hg;split at h
    ·rename_i hl;split at h
     ·rename_i f1 xs0 hi0;have hid:=hx.obj k;rw[hg] at hid;have hob:σ.obj k=some (Λ k .ready none):=hid.1;refine ⟨by rw[hob]; rfl,hid.2 σ args _ hl hob (al9 (cx2 (bn2 ih asg Λ _ _ _ _ _ hx hi0)) ?_)⟩;rintro e0 f0 s0 ⟨hn0,h01,h02,h03⟩;have hid0:=h03.obj k;split at h
      ·rename_i N0 fr0 ps0 as0 b0 hg0;rw[hg0] at hid0;split at h
       ·rename_i xs1 hp1;split at h
        ·rename_i e fr2 xs2 hi;obtain ⟨g1,g2⟩:=XSt.bb1 hp1
         have hx1:XR P E Λ xs1 (s0.put k (Λ k .busy none)):=by
          refine ⟨by rw[g1]; exact h03.next,fun i=>?_⟩;rw[g2,aa2];by_cases hik:i=k
          ·subst hik; rw[if_pos rfl,if_pos rfl]; exact ⟨rfl,hid0.2⟩
          ·rw[if_neg hik,if_neg hik]; exact h03.obj i
         simp only at h02;subst h02;refine ⟨h01,hid0.1,al9 (cx2 (bn2 ih body Λ _ _ _ _ _ hx1 hi)) ?_⟩;rintro e' f' s' ⟨hn,h1,h2,h3⟩;subst h1;have hid2:=h3.obj k;split at h
         ·rename_i N' fr' ps' as' b' hg2;rw[hg2] at hid2
          have fin:∀ (st:LoopState) (pend:Option JX) (s3:XSt),xs2.put k (some (.loop N' fr' ps' as' b' st pend))=some s3→XR P E Λ s3 (s'.put k (Λ k st pend)):=fun st pend s3 hp3=>by
           obtain ⟨q1,q2⟩:=XSt.bb1 hp3;refine ⟨by rw[q1]; exact h3.next,fun i=>?_⟩;rw[q2,aa2];by_cases hik:i=k
           ·subst hik; rw[if_pos rfl,if_pos rfl]; exact ⟨rfl,hid2.2⟩
           ·rw[if_neg hik,if_neg hik]; exact h3.obj i
          cases e with
          | normal=>
           obtain ⟨s3,hp3,rfl⟩:=map_some h
           exact ⟨hid2.1,rfl,fin _ _ _ hp3,hn⟩
          | ret=>
           obtain ⟨s3,hp3,rfl⟩:=map_some h
           exact ⟨hid2.1,rfl,fin _ _ _ hp3,hn⟩
          | exit i=>
           obtain ⟨s3,hp3,rfl⟩:=map_some h;exact ⟨hid2.1,rfl,fin _ _ _ hp3,hn⟩
         ·cases h
        ·cases h
       ·cases h
      ·cases h
     ·cases h
    ·cases h
   ·cases h
theorem hf5 {T:Tab}(hT:fc4 P E T)(hE:∀ g,Bnd 0 (E g)){lf d k:Nat}{args:List IV}{v:IV}{xs:XSt}(h:(cr3 T E lf d 0 k args ⟨0,.e⟩).map (·.1)=some v):PC P E k args v:=by
 obtain ⟨r,hr,rfl⟩:=map_some h;exact ((el1 hT hE d).pure _ _ _ _ hr).2
end Go.Id
/- Tables of compiled functions. Conditions: none; over any program. -/
namespace Go.Id
open Go
variable {P:Program} {E:Nat→IV} {σ σ':Store}
inductive BT (V:Type) where
 | e
 | n (k:Nat) (v:V) (l r:BT V)
def BT.get {V:Type}:BT V→Nat→Option V
 | .e,_=>none
 | .n k v l r,i=>bif Nat.beq i k then some v else bif Nat.ble i k then l.get i else r.get i
def BT.All {V:Type}(p:Nat→V→Prop):BT V→Prop
 | .e=>True
 | .n k v l r=>p k v∧l.All p∧r.All p
theorem BT.gm4 {V:Type}{p:Nat→V→Prop}:∀ (t:BT V) (i:Nat) (v:V),t.All p→t.get i=some v→p i v:=by
 intro t
 induction t with
 | e=>intro i v _ h; cases h
 | n k w l r ihl ihr=>
  intro i v ha h;obtain ⟨h1,h2,h3⟩:=ha;simp only[BT.get,ap3] at h;split at h
  ·rename_i hk; cases h; rw[hk]; exact h1
  ·cases hb:Nat.ble i k with
   | true=>rw[hb] at h; exact ihl i v h2 h
   | false=>rw[hb] at h; exact ihr i v h3 h
abbrev FE:=Nat×IC×List IR
def FOK (P:Program)(f:Nat)(e:FE):Prop:=okF P f=true∧∃ pf an,fb3 P f e.1 pf an e.2.1 e.2.2
theorem FOK.mk {f N:Nat}{pf:List Nat}{an:Ann}{ic:IC}{rs:List IR}(h:okF P f=true)(hf:fb3 P f N pf an ic rs):FOK P f (N,ic,rs):=⟨h,pf,an,hf⟩
/-! ### Codes,written closely -/
instance instIX (n:Nat):OfNat IX n:=⟨.t n⟩
def oQ (d:Nat)(q:IQ):ac6:=⟨some d,none,.q q⟩
def oM (d:Nat)(x:IX):ac6:=⟨some d,none,.q (.mov x)⟩
def oK (d:Nat)(k:IK):ac6:=⟨some d,none,k⟩
def gQ (d s:Nat)(w:Bool)(q:IQ):ac6:=⟨some d,some (s,w),.q q⟩
def gK (d s:Nat)(w:Bool)(k:IK):ac6:=⟨some d,some (s,w),k⟩
def oN (k:IK):ac6:=⟨none,none,k⟩
def cI (n:Int):IX:=.c (.int .i64 n)
def cB (b:Bool):IX:=.c (.bool b)
def zI (n:Int):IV:=.int .i64 n
def zU (n:Int):IV:=.int .u8 n
def ce8:IC→Ann
 | .reg id _ keep=>[(id,keep)]
 | .dreg id _ _ keep=>[(id,keep)]
 | .oreg id _ keep=>[(id,keep)]
 | .seq a b=>ce8 a++ce8 b
 | .cond _ a b=>ce8 a++ce8 b
 | .block _ a=>ce8 a
 | .loop a=>ce8 a
 | .rfunc _ _ a b=>ce8 a++ce8 b
 | .scope a=>ce8 a
 | _=>[]
theorem bk2 (pf:List Nat){f N:Nat}{fn:Func}{ic:IC}{rs:List IR}(h:P.funcs[f]? = some fn)(ho:okF P f=true:=by kernel_rfl)(hN:fn.ntmps=N:=by kernel_rfl)(hc:fn.body.bind (am4 P pf N (ce8 ic))=some ic:=by kernel_rfl)(hr:ec2 P fn.results.toList=some rs:=by kernel_rfl):FOK P f (N,ic,rs):=
 .mk (pf:=pf) (an:=ce8 ic) ho (ab6 h hN hc hr)
def tabOf (t:BT FE)(pure:Nat→Bool)(fj4:Nat→List IV→Option IV)(fz:Nat→Nat→List Nat):Tab:=⟨t.get,pure,fj4,fz,fun _=>false⟩
theorem tabOf_ok {t:BT FE}{pure:Nat→Bool}{fj4:Nat→List IV→Option IV}{fz:Nat→Nat→List Nat}(h:t.All (FOK P))(hp:∀ f args v,fj4 f args=some v→okF P f=true∧PC P E f args v):fc4 P E (tabOf t pure fj4 fz):=
 ⟨fun f _ _ _ hg=>BT.gm4 t f _ h hg,hp⟩
end Go.Id
/- What the readings of a statement give: arguments and listed variables as ideal values; a contract as a kit's one. Conditions: none; over any program. -/
namespace Go.Id
open Go
variable {H:Type} {enc:TypeId×Value→H} {P:Program} {w w':World} {base:Nat} {sp:Nat→Bool} {held:Bool} {ρ:Rho} {E:Nat→IV}
structure VL (ρ:Rho) (w:World) (ivs:List IV) (cs:List Value):Prop where
 len:ivs.length=cs.length
 get:∀ i,i<ivs.length→VR ρ w (ivs.getD i .undef) (cs.getD i undef)
def dvF (r:TypeId→DataW H→Option (List IV))(P:Program):List (TypeId×Nat)→List (DataW H)→Nat→Option (List IV)
 | [],[],_=>some []
 | f::fs,d::ds,off=>if f.2=off then (match r f.1 d with
  | some a=>if a.length=P.cellsOf f.1 then (match dvF r P fs ds (off+P.cellsOf f.1) with
   | some b=>some (a++b)
   | none=>none) else none
  | none=>none) else none
 | _,_,_=>none
def dvS (r:DataW H→Option (List IV))(c:Nat):List (DataW H)→Option (List (List IV))
 | []=>some []
 | d::ds=>match r d with
  | some a=>if a.length=c then (match dvS r c ds with
   | some b=>some (a::b)
   | none=>none) else none
  | none=>none
def dvE (r:DataW H→Option (List IV))(x:Lit×DataW H):IV×IV:=match x.1,r x.2 with
 | .string bs,some [v]=>(.str bs,v)
 | _,_=>(.undef,.undef)
def ce9:List IV→Bool
 | []=>true
 | .str a::r=>(r.all fun|.str b=>!(a==b)|_=>false)&&ce9 r
 | _::_=>false
def flat (P:Program)(e:TypeId):Bool:=match P.underlying e with
 | some .bool|some (.int _)|some .string|some (.slice _)|some (.pointer _)=>true
 | _=>false
def dv (P:Program):Nat→TypeId→DataW H→Option (List IV)
 | 0,_,_=>none
 | m+1,t,d=>match P.underlying t,d with
  | some .bool,.lit (.bool b)=>some [.bool b]
  | some (.int _),.lit (.int k n)=>some [.int k n]
  | some .string,.lit (.string bs)=>some [.str bs]
  | some (.pointer _),.nil=>some [.ad3]
  | some (.pointer e),.ptr d=>match dv P m e d with
   | some (c::cs)=>some [.af4 (c::cs)]
   | _=>none
  | some (.slice _),.nil=>some [.aa4 []]
  | some (.slice e),.slice els _=>if P.cellsOf e=0 then none else match dvS (dv P m e) (P.cellsOf e) els with
   | some es=>some [.aa4 es]
   | none=>none
  | some (.struct fs),.agg ds=>match dvF (dv P m) P (fs.toList.map fun f=>(f.type,f.offset)) ds 0 with
   | some ivs=>if ivs.length=P.cellsOf t then some ivs else none
   | none=>none
  | some (.array n e),.agg ds=>match dvF (dv P m) P ((List.range n).map fun i=>(e,i*P.cellsOf e)) ds 0 with
   | some ivs=>if ivs.length=P.cellsOf t then some ivs else none
   | none=>none
  | some (.map k e),.map es=>match P.underlying k with
   | some .string=>if flat P e&&ce9 (es.map fun x=>(dvE (dv P m e) x).1) then some [.al5 (es.map (dvE (dv P m e)))] else none
   | _=>none
  | _,_=>none
theorem by6 {v:IV}{r:Value}(h:VR ρ w v r):VL ρ w [v] [r]:=⟨rfl,fun i hi=>by
 have h0:i=0:=by simpa using hi
 rw[h0]; exact h⟩
theorem gc9 {r:TypeId→DataW H→Option (List IV)} {rd:TypeId→List Value→DataW H→Prop} (hr:∀ t cs d ivs,rd t cs d→r t d=some ivs→VL ρ w ivs cs) (cs:List Value) :
  ∀ (fs:List (TypeId×Nat)) (ds:List (DataW H)) (off:Nat) (ivs:List IV),fs.length=ds.length →
   (∀ (i:Nat) (f:TypeId×Nat) (d:DataW H),fs[i]? = some f→ds[i]? = some d→rd f.1 ((cs.drop f.2).take (P.cellsOf f.1)) d)→dvF r P fs ds off=some ivs →
   ∀ i,i<ivs.length→off+i<cs.length∧VR ρ w (ivs.getD i .undef) (cs.getD (off+i) undef):=by
 intro fs
 induction fs with
 | nil=>
  intro ds off ivs hl _ h
  cases ds with
  | nil=>cases h; intro i hi; simp at hi
  | cons d ds=>simp at hl
 | cons f fs ih=>
  intro ds off ivs hl hrd h
  cases ds with
  | nil=>simp at hl
  | cons d ds=>
   simp only[dvF] at h;split at h
   ·rename_i hoff;split at h
    ·rename_i a ha;split at h
     ·rename_i hal;split at h
      ·rename_i b hb;cases h;have h0:=hr _ _ _ _ (hrd 0 f d rfl rfl) ha;have hl0:=h0.len;rw[hoff] at h0 hl0;simp only[List.length_take,List.length_drop] at hl0;intro i hi;by_cases hia:i<a.length
       ·have h1:=h0.get i hia;have hlt:off+i<cs.length:=by omega
        refine ⟨hlt,?_⟩;have e1:(a++b).getD i .undef=a.getD i .undef:=by simp[List.getD_eq_getElem?_getD,List.getElem?_append,hia]
        have e2:((cs.drop off).take (P.cellsOf f.1)).getD i undef=cs.getD (off+i) undef:=by
         have:i<P.cellsOf f.1:=by omega
         simp[List.getD_eq_getElem?_getD,List.getElem?_take,this,List.getElem?_drop]
        rw[e1,← e2]; exact h1
       ·have h1:=ih ds _ b (by simpa using hl) (fun i f' d' hf hd=>hrd (i+1) f' d' (by simpa using hf) (by simpa using hd)) hb (i-a.length) (by simp at hi; omega);have e0:off+P.cellsOf f.1+(i-a.length)=off+i:=by omega
        rw[e0] at h1;refine ⟨h1.1,?_⟩;have e1:(a++b).getD i .undef=b.getD (i-a.length) .undef:=by simp[List.getD_eq_getElem?_getD,List.getElem?_append,hia]
        rw[e1]; exact h1.2
      ·cases h
     ·cases h
    ·cases h
   ·cases h
theorem gm5 {r:DataW H→Option (List IV)}{c:Nat}:∀ (ds:List (DataW H)) (es:List (List IV)),dvS r c ds=some es→es.length=ds.length∧∀ i,i<es.length→(es.getD i []).length=c∧∃ d,ds[i]? = some d∧r d=some (es.getD i []):=by
 intro ds
 induction ds with
 | nil=>intro es h; cases h; exact ⟨rfl,fun i hi=>by simp at hi⟩
 | cons d ds ih=>
  intro es h;simp only[dvS] at h;split at h
  ·rename_i a ha;split at h
   ·rename_i hal;split at h
    ·rename_i b hb;cases h;obtain ⟨h1,h2⟩:=ih b hb;refine ⟨by simp[h1],fun i hi=>?_⟩
     cases i with
     | zero=>exact ⟨hal,d,rfl,ha⟩
     | succ i=>
      obtain ⟨h3,d',h4,h5⟩:=h2 i (by simpa using hi);exact ⟨h3,d',h4,h5⟩
    ·cases h
   ·cases h
  ·cases h
theorem dp1 {es:List (IV×IV)}(h:ce9 (es.map (·.1))=true):da4 es:=by
 have:∀ (l:List IV),ce9 l=true→l.Nodup∧∀ v∈l,∃ s,v=.str s:=by
  intro l
  induction l with
  | nil=>intro _; exact ⟨.nil,fun _ h=>by cases h⟩
  | cons v l ih=>
   intro h
   cases v with
   | str a=>
    simp only[ce9,Bool.and_eq_true] at h;obtain ⟨h1,h2⟩:=ih h.2;refine ⟨List.nodup_cons.2 ⟨fun hm=>?_,h1⟩,fun v hv=>?_⟩
    ·have:=List.all_eq_true.1 h.1 _ hm;simp at this
    ·rcases List.mem_cons.1 hv with rfl|hv
     ·exact ⟨a,rfl⟩
     ·exact h2 v hv
   | _=>cases h
 obtain ⟨h1,h2⟩:=this _ h;refine ⟨h1,.str,fun e he=>?_⟩;obtain ⟨s,hs⟩:=h2 e.1 (List.mem_map.2 ⟨e,he,rfl⟩);rw[hs]; trivial
theorem bb3 {a:Addr}{v:Value}(h:w.cell? a=some v):a.spot=none∧a.block<w.heap.size:=by
 unfold World.cell? at h;split at h
 ·rename_i c _ _ hb;split at h
  ·cases h
  ·rename_i hs;refine ⟨by simpa using hs,?_⟩;exact Nat.lt_of_not_le fun hle=>by rw[Array.getElem?_eq_none hle] at hb; cases hb
 ·cases h
theorem el5:∀ {l:List IV},ce9 l=true→∀ v∈l,∃ s,v=.str s:=by
 intro l
 induction l with
 | nil=>intro _ _ h; cases h
 | cons v l ih=>
  intro h
  cases v with
  | str a=>
   simp only[ce9,Bool.and_eq_true] at h;intro v hv;rcases List.mem_cons.1 hv with rfl|hv
   ·exact ⟨a,rfl⟩
   ·exact ih h.2 v hv
  | _=>cases h
theorem gm6 {k:TypeId}{v:Value}{bs:List UInt8}(hk:P.underlying k=some .string)(h:keyOf P k v=some (.string bs)):v=.string ⟨bs.toArray⟩:=by
 unfold keyOf mapKey at h;rw[hk] at h
 cases v with
 | string s=>
  simp only at h;split at h
  ·cases h;congr 1
  ·cases h
 | _=>cases h
theorem el6 {e:TypeId}{v:Value}(h:flat P e=true)(hf:v.formed P e=true):v.cells.toList=[v]:=by
 unfold flat at h
 cases v with
 | agg cs=>
  unfold Value.formed at hf
  split at h<;>simp_all
 | _=>rfl
theorem dp2 (hF:∀ b,b<w.heap.size→FB ρ w b):∀ (m n:Nat) (t:TypeId) (d:DataW H) (cs:List Value) (ps:List MemPlace) (ivs:List IV),
  DataW.trod enc P w base sp held n t cs=some (d,ps)→dv P m t d=some ivs→VL ρ w ivs cs:=by
 intro m
 induction m with
 | zero=>intro n t d cs ps ivs _ h; cases h
 | succ m ih=>
  intro n t d cs ps ivs h hd;unfold dv at hd;split at hd
  ·rename_i b hu;obtain ⟨b',rfl,hx⟩:=DataW.trod_bool hu h;cases hx; cases hd;exact by6 (.bool _)
  ·rename_i k0 k n0 hu;obtain ⟨n',rfl,hx,_⟩:=DataW.trod_int hu h;cases hx; cases hd;exact by6 (.int _ _)
  ·rename_i bs hu;obtain ⟨s,rfl,hx,_⟩:=DataW.trod_string hu h;cases hx; cases hd;have:(⟨s.data.toList.toArray⟩:ByteArray)=s:=by cases s; simp
   exact by6 (by have:=VR.str (ρ:=ρ) (w:=w) s.data.toList; simpa using this)
  ·rename_i hu;cases hd;rcases DataW.trod_pointer hu h with ⟨rfl,_⟩|⟨a,cs',y,n',_,_,hx,_⟩
   ·exact by6 .ad3
   ·cases hx
  ·rename_i e d' hu;rcases DataW.trod_pointer hu h with ⟨_,hx⟩|⟨a,cs',y,n',rfl,rfl,hx,hc,hy⟩
   ·cases hx
   ·cases hx;split at hd
    ·rename_i c0 cs0 hd0;cases hd;have hv:=ih n' e y.1 cs' y.2 (c0::cs0) hy hd0;obtain ⟨_,hl,hcell⟩:=World.cells?_some hc;have hlen:=hv.len;simp only[List.length_cons] at hlen;have h0:=hcell 0 (by omega);rw[List.getElem?_eq_getElem (by omega)] at h0;obtain ⟨h1,h2⟩:=bb3 h0;have ea:a.add 0=a:=rfl;rw[ea] at h1 h2;obtain ⟨b,o,s⟩:=a;simp only at h1; subst h1;refine by6 (.af4 (c0::cs0) b o (fun j=>cs'.getD j undef) (hF b h2) (fun j hj=>?_) (fun j hj=>hv.get j hj));simp only[List.length_cons] at hj;have hj':=hcell j (by omega);have ej:(⟨b,o,none⟩:Addr).add j=⟨b,o+j,none⟩:=by unfold Addr.add; by_cases hj0:j=0<;>simp[hj0]
     rw[ej] at hj';rw[hj',List.getD_eq_getElem?_getD,List.getElem?_eq_getElem (by omega)];rfl
    ·cases hd
  ·rename_i e hu;cases hd;rcases DataW.trod_slice hu h with ⟨rfl,_⟩|⟨a,len,cap,elems,rest,n',_,_,hx,_⟩
   ·exact by6 .bp2
   ·cases hx
  ·rename_i e els rst hu;split at hd
   ·cases hd
   ·rename_i hc0;split at hd
    ·rename_i es hes;cases hd;rcases DataW.trod_slice hu h with ⟨rfl,hx⟩|⟨a,len,cap,elems,rest,n',rfl,rfl,hx,_,hlc,_,hel,hcell,_,_⟩
     ·cases hx
     ·cases hx;obtain ⟨g1,g2⟩:=gm5 _ _ hes;have hlen:es.length=len:=by rw[g1,List.length_map,hel]
      have key:∀ i,i<es.length→∃ ci p,w.cells? base (a.add (i*P.cellsOf e)) (P.cellsOf e)=some ci∧(es.getD i []).length=P.cellsOf e∧VL ρ w (es.getD i []) ci∧p=():=by
       intro i hi;obtain ⟨g3,d',g4,g5⟩:=g2 i hi;have hc:=hcell i (by omega);rw[List.getElem?_map] at g4
       cases hei:elems[i]? with
       | none=>rw[hei] at g4; cases g4
       | some x=>
        rw[hei] at g4 hc;cases g4;obtain ⟨ci,hci,hx⟩:=Option.bind_eq_some_iff.1 hc;exact ⟨ci,(),hci,g3,ih n' e x.1 ci x.2 _ hx g5,rfl⟩
      have hF0:es≠[]→FB ρ w a.block∧a.spot=none:=by
       intro hne;have h0:0<es.length:=List.length_pos_iff.2 hne;obtain ⟨ci,_,hci,g3,_,_⟩:=key 0 h0;obtain ⟨_,hl,hcc⟩:=World.cells?_some hci;have hcc0:=hcc 0 (by omega);rw[List.getElem?_eq_getElem (by omega)] at hcc0;have ea:(a.add (0*P.cellsOf e)).add 0=a:=by simp[Addr.add]
       rw[ea] at hcc0;obtain ⟨h1,h2⟩:=bb3 hcc0;exact ⟨hF _ h2,h1⟩
      have hcells:∀ i,i<es.length→∀ j,j<P.cellsOf e→∃ v,w.cell? ⟨a.block,a.off+(i*P.cellsOf e+j),none⟩=some v∧VR ρ w ((es.getD i []).getD j .undef) v:=by
       intro i hi j hj;obtain ⟨ci,_,hci,g3,g4,_⟩:=key i hi;obtain ⟨_,hl,hcc⟩:=World.cells?_some hci;have hcj:=hcc j hj;have hsp:=(hF0 (by intro h0; rw[h0] at hi; simp at hi)).2
       have ea:(a.add (i*P.cellsOf e)).add j=⟨a.block,a.off+(i*P.cellsOf e+j),none⟩:=by
        obtain ⟨b,o,s⟩:=a;simp only at hsp; subst hsp;unfold Addr.add;by_cases h1:i*P.cellsOf e=0<;>by_cases h2:j=0<;>simp[h1,h2,Nat.add_assoc]
       rw[ea,List.getElem?_eq_getElem (by omega)] at hcj;refine ⟨_,hcj,?_⟩;have:=g4.get j (by omega);rw[List.getD_eq_getElem?_getD (l:=ci),List.getElem?_eq_getElem (by omega)] at this;exact this
      refine by6 ?_;obtain ⟨b,o,s⟩:=a;rw[← hlen];refine .aa4 es b o cap (P.cellsOf e) s (fun i j=>(w.cell? ⟨b,o+(i*P.cellsOf e+j),none⟩).getD undef) hF0 (fun i hi=>(g2 i hi).1) (fun i hi j hj=>?_) (fun i hi j hj=>?_) (by omega)
      ·obtain ⟨v,h1,_⟩:=hcells i hi j hj;simp only at h1;rw[h1]; rfl
      ·obtain ⟨v,h1,h2⟩:=hcells i hi j hj;simp only at h1;rw[h1]; exact h2
    ·cases hd
  ·rename_i fs ds hu;split at hd
   ·rename_i ivs' hd';split at hd
    ·rename_i hil;cases hd;obtain ⟨xs,n',rfl,hx,hlen,hxl,hfi⟩:=DataW.trod_struct hu h;cases hx
     have hg:=gc9 (P:=P) (rd:=fun t cs d=>∃ p,DataW.trod enc P w base sp held n' t cs=some (d,p)) (fun t cs d ivs ⟨p,hp⟩ h=>ih n' t d cs p ivs hp h) cs _ _ 0 _ (by simp[hxl]) (fun i f d hf hd=>by
      rw[List.getElem?_map] at hf hd
      cases hfi':fs.toList[i]? with
      | none=>rw[hfi'] at hf; cases hf
      | some f0=>
       rw[hfi'] at hf; cases hf;have:=hfi i f0 (by simpa using hfi')
       cases hxi:xs[i]? with
       | none=>rw[hxi] at hd; cases hd
       | some x=>rw[hxi] at hd this; cases hd; exact ⟨x.2,this⟩) hd'
     exact ⟨by rw[hil,hlen],fun i hi=>by have:=(hg i hi).2; rwa [Nat.zero_add] at this⟩
    ·cases hd
   ·cases hd
  ·rename_i k e ds hu;split at hd
   ·rename_i ivs' hd';split at hd
    ·rename_i hil;cases hd;obtain ⟨xs,n',rfl,hx,hlen,hxl,hfi⟩:=DataW.trod_array hu h;cases hx
     have hg:=gc9 (P:=P) (rd:=fun t cs d=>∃ p,DataW.trod enc P w base sp held n' t cs=some (d,p)) (fun t cs d ivs ⟨p,hp⟩ h=>ih n' t d cs p ivs hp h) cs _ _ 0 _ (by simp[hxl]) (fun i f d hf hd=>by
      rw[List.getElem?_map] at hf hd
      cases hfi':(List.range k)[i]? with
      | none=>rw[hfi'] at hf; cases hf
      | some f0=>
       rw[hfi'] at hf; cases hf;obtain ⟨hik,rfl⟩:=List.getElem?_eq_some_iff.1 hfi';simp only[List.length_range] at hik;have:=hfi i hik;simp only[List.getElem_range]
       cases hxi:xs[i]? with
       | none=>rw[hxi] at hd; cases hd
       | some x=>rw[hxi] at hd this; cases hd; exact ⟨x.2,this⟩) hd'
     exact ⟨by rw[hil,hlen],fun i hi=>by have:=(hg i hi).2; rwa [Nat.zero_add] at this⟩
    ·cases hd
   ·cases hd
  ·rename_i k e es hu;split at hd
   ·rename_i hk;split at hd
    ·rename_i hfn;cases hd;simp only[Bool.and_eq_true] at hfn;obtain ⟨hfl,hnd⟩:=hfn;rcases WideElems.open_map hu h with ⟨_,hx⟩|⟨b,mes,clock,n',rfl,rfl,hb,_,F,hx⟩
     ·cases hx
     ·simp only[Prod.mk.injEq,DataW.map.injEq] at hx;obtain ⟨hx,_⟩:=hx;have hlt:b<w.heap.size:=Nat.lt_of_not_le fun hle=>by rw[Array.getElem?_eq_none hle] at hb; cases hb
      let g:Lit×DataW H→IV×IV:=dvE (dv P m e);let L:=mes.toList.map (WideElems.rg P k (WideElems.elemAt enc P w base sp held n' e));have hp:L.Perm es:=by rw[hx]; exact (WideShapes.sorted_perm L).symm
      have hpg:(L.map g).Perm (es.map g):=hp.map g;have hko:da4 (es.map g):=dp1 (by rw[List.map_map]; exact hnd)
      have ent:∀ i,i<mes.size→VR ρ w ((L.map g).getD i (.undef,.undef)).1 (mes.getD i default).key∧VR ρ w ((L.map g).getD i (.undef,.undef)).2 (mes.getD i default).val:=by
       intro i hi
       have hmem:mes.getD i default∈mes.toList:=by
        have:=ad1 (default:MapEntry) (l:=mes.toList) (i:=i) (by simpa using hi)
        simpa [List.getD_eq_getElem?_getD,Array.getD_eq_getD_getElem?] using this
       obtain ⟨y,hy⟩:=F.reads _ hmem
       have e1:(L.map g).getD i (.undef,.undef)=g y:=by
        have:L[i]? = some y:=by
         simp only[L,List.getElem?_map];rw[show mes.toList[i]? = some (mes.getD i default) by simp[Array.getD_eq_getD_getElem?,hi]];exact congrArg some (WideElems.rg_of hy)
        simp[List.getD_eq_getElem?_getD,this]
       rw[e1];have hyL:y∈L:=List.mem_map.2 ⟨_,hmem,WideElems.rg_of hy⟩;have hys:∃ s,(g y).1=.str s:=el5 hnd _ (List.mem_map.2 ⟨y,hp.mem_iff.1 hyL,rfl⟩);have hkey:=WideElems.rd_key hy;obtain ⟨z,hz,hyz⟩:=WideElems.rd_val hy;simp only[g,dvE] at hys ⊢;split at hys
       ·rename_i bs v hl hv;refine ⟨?_,?_⟩
        ·rw[hl] at hkey;rw[gm6 hk hkey]; exact .str _
        ·generalize mes.getD i default=me at hz ⊢;unfold WideElems.elemAt at hz;split at hz
         ·rename_i hform;have hvl:=ih n' e z.1 _ z.2 [v] hz (by rw[← hyz]; exact hv);have hcl:=el6 hfl hform;rw[hcl] at hvl;exact hvl.get 0 (by simp)
         ·cases hz
       ·obtain ⟨_,hys⟩:=hys; cases hys
      have hsz:(L.map g).length=mes.size:=by simp[L]
      obtain ⟨s1,s2,_⟩:=F.stamped;refine by6 (.al5 (es.map g) (L.map g) b mes clock hpg hko (hF b hlt) hb hsz (fun i hi=>(ent i (by omega)).1) (fun i hi=>(ent i (by omega)).2) ?_ ?_)
      ·intro i hi;refine s1 _ ?_;have:=ad1 (default:MapEntry) (l:=mes.toList) (i:=i) (by simpa using hi)
       simpa [List.getD_eq_getElem?_getD,Array.getD_eq_getD_getElem?] using this
      ·intro i j hij hj he;have:=(List.pairwise_iff_getElem.1 s2) i j (by simp; omega) (by simpa using hj) hij;simp only[List.getElem_map,Array.getElem_toList] at this;apply this;have hi:i<mes.size:=by omega
       simpa [Array.getD_eq_getD_getElem?,hi,hj] using he
    ·cases hd
   ·cases hd
  ·cases hd
/-! ### The listed variables -/
def el7 (l:List (Nat×List IV))(g:Nat):IV:=match l.lookup g with
 | some cs=>.af4 cs
 | none=>.undef
theorem fc9 {laid:List (String×DataW Unit)}(hF:∀ b,b<w.heap.size→FB ρ w b):∀ (laid:List (String×DataW Unit)) (ps:List MemPlace),DataW.LaidVars P w laid ps→∀ (name:String) (d:DataW Unit),(name,d)∈laid→∀ (g:Nat) (t:TypeId) (m:Nat) (c:IV) (ivs:List IV),
  P.globalNamed name=some g→(P.globals[g]?).map (·.type)=some t→dv P m t d=some (c::ivs)→VR ρ w (.af4 (c::ivs)) (.pointer (some ⟨g,0,none⟩)):=by
 intro laid
 induction laid with
 | nil=>intro ps _ name d hm; cases hm
 | cons x r ih=>
  intro ps h name d hm g t m c ivs hg ht hd;obtain ⟨xn,xd⟩:=x;obtain ⟨g',t',cs,fuel,p,q,h1,h2,h3,h4,h5,_⟩:=h;rcases List.mem_cons.1 hm with hm|hm
  ·cases hm;obtain rfl:=Option.some.inj (h1.symm.trans hg);obtain rfl:=Option.some.inj (h2.symm.trans ht);have hv:=dp2 hF m fuel _ d _ p _ h4 hd;have hc:=fun i=>World.var?_cell h1 h3 i
   have hlen:=hv.len;simp only[List.length_cons,Array.length_toList] at hlen;have h0:=hc 0;rw[Array.getElem?_eq_getElem (by omega)] at h0;refine .af4 (c::ivs) _ 0 (fun j=>cs.getD j undef) (hF _ (bb3 h0).2) (fun j hj=>?_) (fun j hj=>?_)
   ·simp only[List.length_cons] at hj;rw[Nat.zero_add,hc j,Array.getElem?_eq_getElem (by omega)];simp[Array.getD_eq_getD_getElem?,show j<cs.size by omega]
   ·have:=hv.get j hj
    simpa [List.getD_eq_getElem?_getD,Array.getD_eq_getD_getElem?] using this
  ·exact ih _ h5 name d hm g t m c ivs hg ht hd
def fj3:Rho:=⟨fun _=>.no,fun _=>False⟩
theorem cx3:∀ b,b<w.heap.size→FB fj3 w b:=fun b h=>⟨h,(fun _ _ h=>by cases h),fun h=>h⟩
def ij7:Store:=⟨0,fun _=>none⟩
theorem ft3 {laid:List (String×DataW Unit)}(h:laidMet P laid w)(l:List (Nat×List IV))
  (hl:∀ x∈l,∃ (name:String) (d:DataW Unit) (t:TypeId) (m:Nat) (c:IV) (ivs:List IV),x.2=c::ivs∧(name,d)∈laid∧P.globalNamed name=some x.1∧(P.globals[x.1]?).map (·.type)=some t∧dv P m t d=some (c::ivs)) :
  ∀ g,VR fj3 w (el7 l g) (.pointer (some ⟨g,0,none⟩)):=by
 intro g;unfold el7
 cases hg:l.lookup g with
 | none=>exact .undef _
 | some cs=>
  obtain ⟨ps,hps,_,_⟩:=h
  have hm:(g,cs)∈l:=by
   clear hl
   induction l with
   | nil=>cases hg
   | cons x l ih=>
    obtain ⟨a,b⟩:=x;simp only[List.lookup] at hg;split at hg
    ·rename_i hb;cases hg;have:g=a:=by simpa using hb
     rw[this]; exact List.mem_cons_self ..
    ·exact List.mem_cons_of_mem _ (ih hg)
  obtain ⟨name,d,t,m,c,ivs,h1,h2,h3,h4,h5⟩:=hl _ hm;simp only at h1 h3 h4;rw[h1];exact fc9 (laid:=laid) cx3 laid ps hps name d h2 g t m c ivs h3 h4 h5
theorem ip8 (h:∀ g,VR fj3 w (E g) (.pointer (some ⟨g,0,none⟩))):Sim E fj3 w ij7 :=
 ⟨(fun _ _ _ _ _ h=>by cases h),(fun _ _ _ h=>by cases h),(fun _ _ _ h=>by cases h),(fun _ h=>by cases h),(fun _ _=>rfl),(fun _ _=>rfl),h,(fun _ _ _ h=>by cases h),fun _ h=>h.elim⟩
theorem ft4 {f:FuncId}{args:List IV}{rargs:Array Value}{b:Bool}(h:PC P E f args (.bool b))(he:∀ g,VR fj3 w (E g) (.pointer (some ⟨g,0,none⟩)))(ha:CR fj3 w args rargs) :
  Calls P f rargs w fun e w'=>e=.returned (.bool b)∧RowKit.Below w.heap.size w w':=by
 refine callsIn_wide.1 (CallsIn.mono (h ij7 fj3 w rargs (ip8 he) ha) ?_);rintro e w' ⟨v,r,ρ',σ',rfl,⟨rfl,rfl⟩,_,hv,hx⟩;cases hv;exact ⟨rfl,hx.os,hx.tape.1,hx.output,hx.size,fun k hk=>hx.keep k (cx3 k hk).ub⟩
theorem cx4 {H:Type}{enc:TypeId×Value→H}{f:Func}{s:ChangeSpec}{apart fresh handsOn again:Bool}{W W':World}{args:Array Value}{v:Value}{ds gs:List (DataW H)}{before pa pv:List MemPlace}
  (hW:DataW.Whole enc P f.params.toList s.vars apart W args.toList ds gs before)
  (hres:∀ (b:Nat) (sp:Nat→Bool) (hd:Bool),DataW.TrodAll enc P W' b sp hd f.resultTypes.toList (v.resultList f.resultTypes.size) (s.fn H (ds++gs)).results [])
  (hargs:∀ sp:Nat→Bool,(∀ p∈before,sp p.block=true)→DataW.TrodAll enc P W' 0 sp true f.params.toList args.toList (s.fn H (ds++gs)).args pa)
  (hvars:∀ sp:Nat→Bool,(∀ p∈before,sp p.block=true)→DataW.TrodVars enc P W' sp s.vars (s.fn H (ds++gs)).vars pv)
  (hps:before=pa++pv) (hb:RowKit.Below W.heap.size W W')
  (hok:∀ (j:Nat) (t:TypeId) (r:Value),f.resultTypes[j]? = some t→(v.resultList f.resultTypes.size)[j]? = some r→Value.okWide P W' .any 0 t r) :
  s.post enc P f apart fresh handsOn again W args v W':=by
 have hlt:∀ p∈before,p.block<W.heap.size:=fun p hp=>hW.lt p hp
 have hold:∀ p∈before,(fun b=>decide (b<W.heap.size)) p.block=true:=fun p hp=>by simpa using hlt p hp
 refine ⟨ds,gs,before,[],pa,pv,hW,hres _ _ _,hargs _ hold,hvars _ hold,World.keptBut_mono (fun p hp=>⟨hp,?_⟩) (hb.frame (·∈before)),fun _=>?_⟩
 ·rw[hps,List.mem_append] at hp;exact Or.inr hp
 ·obtain ⟨_,_,_,_,_,hz,hn⟩:=hW;refine ⟨hok,_,_,([]++pa)++pv,⟨[]++pa,pv,ChangeShapes.trodAll_append (hargs _ (fun _ _=>rfl)) (hres _ _ _),hvars _ (fun _ _=>rfl),rfl,?_,?_⟩,?_⟩
  ·intro b off hp;have hin:MemPlace.cell b off∈before:=by rw[hps]; simpa using hp
   rw[hb.frozen (hlt _ hin)];exact hz b off hin
  ·intro ha;have:=hn ha;rw[hps] at this
   simpa using this
  ·intro p hp _;rw[hps]
   simpa using hp
end Go.Id
