/- Loops that go up; rows read by their places; runes of a string; what a yield is told. Conditions: none; over any program. -/
import Derived.Test.YtiallonafbejaaaGreatDoorFwV
import Derived.Test.YtiallonafbejaaaGreatDoorFwZ
import Derived.Test.YtiallonafbejaaaGreatDoorT6
set_option linter.all false
namespace Go.Id
open Go
variable {P:Program} {E:Nat→IV} {σ σ':Store} {N n0:Nat} {fr:Frm}
def upQ (I:Nat→Frm→Store→Prop)(i n:Nat)(Q:Exit→Frm→Store→Prop):Exit→Frm→Store→Prop
 | .normal,fr,σ=>i<n∧I (i+1) fr σ
 | e,fr,σ=>Q e fr σ
theorem ii4 {I:Nat→Frm→Store→Prop}{i n:Nat}{Q:Exit→Frm→Store→Prop}:upQ I i n Q .normal fr σ=(i<n∧I (i+1) fr σ):=nr rfl
theorem ii5 {I:Nat→Frm→Store→Prop}{i n k:Nat}{Q:Exit→Frm→Store→Prop}:upQ I i n Q (.exit k) fr σ=Q (.exit k) fr σ:=nr rfl
theorem ii6 {I:Nat→Frm→Store→Prop}{i n:Nat}{Q:Exit→Frm→Store→Prop}:upQ I i n Q .ret fr σ=Q .ret fr σ:=nr rfl
theorem aa9 {pt:PT}{ct:CT}(hT:TOK P E pt ct){x:IC}{Q:Exit→Frm→Store→Prop}(I:Nat→Frm→Store→Prop)(n:Nat)(h:I 0 fr σ)
  (hI:∀ i fr σ,i≤n→I i fr σ→wpT pt ct P E N n0 x fr σ (upQ I i n Q)):RI P E N n0 (.loop x) fr σ Q:=by
 refine fc4 (fun m fr σ=>∃ i,i≤n∧m=n-i∧I i fr σ) n ⟨0,Nat.zero_le _,rfl,h⟩ ?_
 rintro m fr σ ⟨i,hi,rfl,hi0⟩
 refine bn9 x fr σ _ _ ?_ (av6 hT x fr σ _ (hI i fr σ hi hi0))
 intro e f s q
 cases e with
 | normal=>exact ⟨n-(i+1),by have:=q.1; omega,i+1,q.1,rfl,q.2⟩
 | _=>exact q
theorem ad1 {α:Type}(es:List α)(i:Nat)(h:i<es.length):∃ a,a∈es∧es[i]? = some a∧es.drop i=a::es.drop (i+1)∧(∀ (f:α→List IV),(es.map f).getD i []=f a)∧es.take (i+1)=es.take i++[a]:=
 ⟨es[i],List.getElem_mem h,List.getElem?_eq_getElem h,List.drop_eq_getElem_cons h,fun f=>by simp[List.getD_eq_getElem?_getD,h],by rw[List.take_add_one,List.getElem?_eq_getElem h]; rfl⟩
/-! ### Runes -/
theorem ff3 (s:List UInt8)(i:Nat)(h:i<s.length):((⟨s.toArray⟩:ByteArray).get! i)=s[i]:=by
 show (s.toArray)[i]! = s[i]
 simp[h]
theorem ej2 (s:List UInt8)(i:Nat)(h:i<s.length)(hb:s[i].toNat<128):Utf8.decode ⟨s.toArray⟩ i=(s[i].toNat,1):=by
 unfold Utf8.decode
 simp only[Nat.add_zero,ff3 s i h]
 rw[if_pos hb]
theorem decode_high (s:List UInt8)(i:Nat)(h:i<s.length)(hb:¬ s[i].toNat<128):128≤(Utf8.decode ⟨s.toArray⟩ i).1:=by
 unfold Utf8.decode
 simp only[Nat.add_zero,ff3 s i h]
 rw[if_neg hb]
 have e:Utf8.runeError=65533:=rfl
 repeat' split
 all_goals first|(rw[e]; omega)|(simp only[ge_iff_le,Bool.and_eq_true,decide_eq_true_eq] at *; omega)
/-! ### What a yield is told -/
def fv2 (P:Program)(E:Nat→IV)(id:Nat)(I:List (List IV)→Store→Prop)(S:Store→Prop):Prop :=
 ∀ a rest σ,I (a::rest) σ→CV P E (.yield id) a σ fun v s=>σ.next≤s.next∧((v=.bool true∧I rest s)∨(v=.bool false∧S s))
end Go.Id
/- The walk's rewriting rules,marked. Conditions: none; over any program. -/
namespace Go.Id
open Go
attribute [go_sem] cn8 cn9 bs1 be2 co1 bs2 co2 bs3 ek1 gw7 ej6 ej7 co3 bs4 co4 bs5 bs6 be3 co5 w_q bs7 
 ek2 ek3 bs8 ek4 bt1 be4 bs9 co6 co7 co8 bt2 be5 ek5 co9 ek6 cp1 bt3 bt4 cp3 ek7 
 ek8 ek9 el1 el5 el6 el7 el8 el9 em1 cp4 em2 cp5 em3 cp6 bt5 cp7 cq2 em4 gx1 gx2 em5 em6 em7 em8 
 em9 en1 en2 en3 en4 en5 cq3 bt6 be6 av7 bt7 be7 cp8 cp9 cq1 bt8 gw8 gw9 av9 bf2 
 bv1 bv2 bv3 bu9 cr6 e_t e_c e_g e_f en6 cq4 en7 en8 en9 ag1 eo1 cq5 bt9 eo2 bu1 eo3 bu2 
 bu3 eo4 cq6 eo5 cq7 eo6 eo7 eo8 eo9 cq8 cq9 dr8 gh5 dh8 dr7 bu4 bu5 cr1 cr2 bu6 bu7 gx3 
 be8 cr3 cr4 cr5 be9 bu8 av8 bf1 bf3 bv4 bf4 bf5 cr7 cr8 dr9 ds2 bv5 bv6 
 bv7 bv8 cr9 cs3 bv9 bf6 ep1 ep2 ep3 ep4 ep5 ep6 ep7 ep8 ep9 eq1 eq2 eq3 eq4 cs4 cs5 cs6 
 cs7 cs8 cs9 ct1 ct2 ct3 ct4 hg8 hg9 hh2 hh4 ay8 bf7 bw1 bw2 bw3 ct5 ct6 ct7 ct8 eq5 eq6 ct9 eq7 
 bw4 bw5 bw6 er1 bb7 gh6 cu7 bw7 bw8 bf8 ay2 bo1 eq8 cb8 bf9 eq9 cb9 bg1 bg2 bw9 
 bx2 bx3 bx4 bg3 bx5 bx6 bg4 aw1 ar7 bg5 bx7 bg6 cu1 cu2 cu3 bx8 bg7 
 bx9 by1 bg8 aw2 ar8 bg9 by2 bh2 cu4 cu5 cu6 Frm.get_cons Frm.get_nil aa5 aa2 ii4 ii5 
 ii6 dr8 gh5 dh8 dr7 id8 hg7 
attribute [go_sem] List.getElem?_cons_zero List.getElem?_cons_succ List.all_cons List.all_nil List.drop_zero List.drop_succ_cons List.head?_cons Bool.and_true Bool.and_self List.append_nil List.nil_append List.cons_append Bool.false_eq_true Bool.xor_false Bool.xor_true Bool.not_true Bool.not_false Nat.add_zero Nat.zero_add Nat.succ_ne_zero if_true if_false true_and and_true
end Go.Id
namespace Go.Id
open Go
variable {P:Program} {E:Nat→IV} {σ σ':Store} {N n0:Nat} {fr:Frm} {pf:List Nat}
/-! ### By the tables of the seat -/
theorem ak4 {f:Nat}{ic:IC}{irs:List IR}{args:List IV}{v:IV}(hf:FOK P f (N,ic,irs))(hl:args.length≤N)
  (h:∀ σ,wpT noP noC P E N σ.next ic (ax6 args 0) σ (ff7 irs fun v' σ'=>v'=v∧σ'=σ)):PC P E f args v:=by
 obtain ⟨_,pf,an,h1⟩:=hf
 exact il2 noT h1 hl h
theorem C_f {f:Nat}{ic:IC}{irs:List IR}{args:List IV}{Qc:IV→Store→Prop}(hf:FOK P f (N,ic,irs))(hl:args.length≤N)
  (h:wpT noP noC P E N σ.next ic (ax6 args 0) σ (ff7 irs Qc)):C P E f args σ Qc:=by
 obtain ⟨_,pf,an,h1⟩:=hf
 exact C_T noT h1 hl h
def emp:Store:=⟨0,fun _=>none⟩
theorem fv3:emp.next=0:=nr rfl
theorem gm4 {i:Nat}:emp.obj i=none:=nr rfl
attribute [go_sem] fv3 gm4
theorem ae9 {f:Nat}{ic:IC}{irs:List IR}{args:List IV}{v:IV}(hE:∀ g,Bnd 0 (E g))(hf:FOK P f (N,ic,irs))(hl:args.length≤N)(ha:∀ a∈args,Bnd 0 a)
  (h:wpT noP noC P E N 0 ic (ax6 args 0) emp (ff7 irs fun v' σ'=>ch1 σ' 0 v' v)):PC P E f args v :=
 dz6 hE ha (C_f (σ:=emp) hf hl h)
theorem aa1 {f:Nat}{e:FE}{args:List IV}{v:IV}{K:IV→Store→Prop}(hf:FOK P f e)(h:PC P E f args v)(hk:K v σ):cg9 P E none f args σ K :=
 aj2 hf.1 (er3 h) fun _ _ ⟨h1,h2⟩=>by subst h1; subst h2; exact ⟨Nat.le_refl _,hk⟩
theorem af8 {f:Nat}{e:FE}{args:List IV}{Qc:IV→Store→Prop}{K:IV→Store→Prop}(hf:FOK P f e)(h:C P E f args σ Qc)(hk:∀ v s,Qc v s→σ.next≤s.next∧K v s):cg9 P E none f args σ K :=
 aj2 hf.1 h hk
theorem ab1 {S:Nat→Prop}(b:Bool):Frz σ S (.bool b) (.bool b):=.keep _ (.bool _)
theorem ab8 {S:Nat→Prop}(k:IntKind)(n:Int):Frz σ S (.int k n) (.int k n):=.keep _ (.int _ _)
theorem ax9 {S:Nat→Prop}(s:List UInt8):Frz σ S (.str s) (.str s):=.keep _ (.str _)
/-! ### Rows of which only the length is known to be nothing -/
theorem gh1 {ρ:Rho}{w:World}{v:IV}{rargs:Array Value}(h:CR ρ w [v] rargs):VR ρ w v (rargs.getD 0 undef):=by
 have:=h.2 0 (Nat.zero_lt_one)
 simpa using this
theorem dz1 {ρ:Rho}{w:World}{u v:IV}{rargs:Array Value}(h:CR ρ w [u] rargs)(hv:VR ρ w v (rargs.getD 0 undef)):CR ρ w [v] rargs :=
 ⟨h.1,fun i hi=>by
  have:i=0:=by simp at hi; omega
  subst this
  simpa using hv⟩
theorem bn6 {f:Nat}{v:IV}(h1:PC P E f [.nilslice] v)(h2:PC P E f [.eslice] v):PC P E f [.tslice []] v:=by
 intro σ ρ w rargs hs hr
 have hv:=gh1 hr
 generalize hx:rargs.getD 0 undef=r at hv
 cases hv with
 | tnil=>exact h1 σ ρ w rargs hs (dz1 hr (by rw[hx]; exact .nilslice))
 | tslice es b o cap esz sp vs hf hsz hc hv hle=>exact h2 σ ρ w rargs hs (dz1 hr (by rw[hx]; exact .eslice _ _))
theorem ad5 {i:Nat}(h:i<2^62):IntKind.i64.wrap ((i:Int)+1)=((i+1:Nat):Int):=by
 rw[wrap64 (by omega) (by omega)]; omega
/-! ### Lists that are laid out -/
theorem gm5 {cs:List IV}:an8 cs []=some cs:=by simp only[an8]
theorem gm6 {cs:List IV}{off n:Nat}{v:IV}{ps:List (Nat×Nat×IV)}:an8 cs ((off,n,v)::ps)=if v.cs.length=n∧off+n≤cs.length∧v.cs.all IV.leaf=true then an8 (ag9 cs off v.cs) ps else none:=by simp only[an8]
theorem gz7 {c:IV}{cs:List IV}{vs:List IV}:ag9 (c::cs) 0 vs=vs++(c::cs).drop vs.length:=by simp[ag9]
theorem gz8 {c:IV}{cs vs:List IV}{n:Nat}:ag9 (c::cs) (n+1) vs=c::ag9 cs n vs:=by simp[ag9,Nat.add_right_comm]
theorem gz9 {d:TypeId}{a:List IV}{as:List (List IV)}:cc5 (.slice d) (.tslice (a::as))=some false:=nr rfl
theorem ha5 {d:TypeId}:cc5 (.slice d) .nilslice=some true:=nr rfl
theorem ha6 {d:TypeId}:cc5 (.slice d) .eslice=some false:=nr rfl
theorem ha7 {d:TypeId}:cc5 (.slice d) .zslice=some false:=nr rfl
theorem ha8 {d:TypeId}{i o l e:Nat}:cc5 (.slice d) (.slice i o l e)=some false:=nr rfl
theorem am6 {d:TypeId}:cc5 (.pointer d) .nilptr=some true:=nr rfl
theorem gm7 {d:TypeId}{cs:List IV}:cc5 (.pointer d) (.tptr cs)=some false:=nr rfl
theorem gm8 {d:TypeId}{i o:Nat}:cc5 (.pointer d) (.ptr i o)=some false:=nr rfl
theorem fv4 {e:Nat}{l:List IV}:chunk e 0 l=[]:=nr rfl
theorem fv5 {e n:Nat}{l:List IV}:chunk e (n+1) l=l.take e::chunk e n (l.drop e):=nr rfl
theorem ha9 {z:List IV}:rep z 0=[]:=nr rfl
theorem hb7 {z:List IV}{n:Nat}:rep z (n+1)=z++rep z n:=nr rfl
theorem gm9 {off:Nat}{cs:List IV}:au9 none off cs=cs[off]?:=nr rfl
theorem gn1 {off n:Nat}{cs:List IV}:au9 (some n) off cs=if off+n≤cs.length then some (.agg ((cs.drop off).take n)) else none:=nr rfl
theorem hb8 {ag:Option Nat}{off:Nat}{cs:List IV}:gw2 ag off (.agg cs)=au9 ag off cs:=nr rfl
theorem hb9 {ag:Option Nat}{n esz:Nat}{cs:List IV}{k:IntKind}{i:Int}:gk1 ag n esz (.agg cs) (.int k i)=if 0≤i∧i<n then au9 ag (i.toNat*esz) cs else none:=nr rfl
theorem fv6 {n esz:Nat}{v:IV}{k:IntKind}{i:Int}:cm4 n esz v (.int k i)=if 0≤i∧i<n then cb3 (i.toNat*esz) v else none:=nr rfl
theorem br9 {s:List UInt8}{k:IntKind}{i:Int}:dd7 (.str s) (.int k i)=if 0≤i then (s[i.toNat]?).map fun b=>.int .u8 b.toNat else none:=nr rfl
theorem hc5 {tags:List Nat}{neg:Bool}{xs ys:List IV}:gf3 tags true neg (.agg xs) (.agg ys)=(allEq tags xs ys).map fun b=>.bool (b ^^ neg):=nr rfl
theorem hc7:allEq [] [] []=some true:=nr rfl
def ig3:Option Bool→Option Bool→Option Bool
 | some a,some b=>some (a&&b)
 | _,_=>none
theorem hc9 {a b:Bool}:ig3 (some a) (some b)=some (a&&b):=nr rfl
theorem hd8 {t:Nat}{ts:List Nat}{x y:IV}{xs ys:List IV}:allEq (t::ts) (x::xs) (y::ys)=ig3 (af9 t x y) (allEq ts xs ys):=by
 simp only[allEq]; cases af9 t x y<;>cases allEq ts xs ys<;>rfl
theorem hd9 {k:IntKind}{a b:Int}:af9 1 (.int k a) (.int k b)=some (decide (a=b)):=by simp[af9]
theorem he3 {a b:List UInt8}:af9 2 (.str a) (.str b)=some (decide (a=b)):=nr rfl
theorem dz2 {a b:List UInt8}:ah1 2 (.str a) (.str b)=some (decide (a=b)):=nr rfl
theorem he4 {a b:Bool}:af9 0 (.bool a) (.bool b)=some (a==b):=nr rfl
attribute [go_sem] hc5 hc7 hd8 hc9 he4 hd9 he3
attribute [go_sem] gm5 gm6 gz7 gz8 gz9 ha5 ha6 ha7 ha8 am6 gm7 gm8 fv4 fv5 ha9 hb7 gm9 gn1 hb8 hb9 fv6 br9
attribute [go_sem] Bool.true_or Bool.or_true Bool.false_or Bool.or_false Bool.true_and Bool.false_and Bool.and_false
attribute [go_sem] List.length_cons List.length_nil List.take_succ_cons List.take_zero List.length_map Int.toNat_natCast
end Go.Id
/- Ranging over functions that tell rows: tellers,and the loops over them. Conditions: none; over any program. -/
namespace Go.Id
open Go
variable {P:Program} {E:Nat→IV} {σ σ':Store} {N n0:Nat} {fr:Frm}
def ht8 (I:List (List IV)→Store→Prop):Prop:=∀ rest s s',I rest s→s.next≤s'.next→(∀ i,i<s.next→s'.obj i=s.obj i)→I rest s'
def he5 (n:Nat)(I:List (List IV)→Store→Prop)(S:Store→Prop):IV→Store→Prop:=fun _ s=>n≤s.next∧(I [] s∨S s)
def dz3 (P:Program)(E:Nat→IV)(fv:IV)(evs:List (List IV))(own:Store→Prop):Prop :=
 ∀ (yid:Nat) (I:List (List IV)→Store→Prop) (S:Store→Prop) (σ:Store),(∀ rest s,I rest s→own s)→ht8 I→fv2 P E yid I S→I evs σ→CVf P E fv [.yield yid] σ (he5 σ.next I S)
def ig4 (P:Program)(E:Nat→IV)(N n0:Nat)(id:Nat)(L:LoopState→Option JX→IObj)(x:IC)(K:IV→Store→Prop):Exit→Frm→Store→Prop
 | .normal,f,s=>s.obj id=some (L .ready none)∧wpT noP noC P E N n0 x f (s.put id (L .busy none)) (cf7 id L K)
 | _,_,_=>False
theorem hz4 {id:Nat}{L:LoopState→Option JX→IObj}{x:IC}{K:IV→Store→Prop}:ig4 P E N n0 id L x K .normal fr σ=(σ.obj id=some (L .ready none)∧wpT noP noC P E N n0 x fr (σ.put id (L .busy none)) (cf7 id L K)):=nr rfl
theorem hz5 {id:Nat}{L:LoopState→Option JX→IObj}{K:IV→Store→Prop}:cf7 id L K .normal fr σ=(σ.obj id=some (L .busy none)∧K (.bool true) (σ.put id (L .ready none))):=nr rfl
theorem hz6 {id:Nat}{L:LoopState→Option JX→IObj}{K:IV→Store→Prop}:cf7 id L K .ret fr σ=(σ.obj id=some (L .busy none)∧K (.bool false) (σ.put id (L .done (some .ret)))):=nr rfl
theorem hz7 {id i:Nat}{L:LoopState→Option JX→IObj}{K:IV→Store→Prop}:cf7 id L K (.exit i) fr σ=(σ.obj id=some (L .busy none)∧K (.bool false) (σ.put id (L .done (some (.exit i))))):=nr rfl
theorem gn2:cl4 fr [] []=fr:=nr rfl
theorem gn3 {p:Nat}{ps:List Nat}{v:IV}{vs:List IV}:cl4 fr (p::ps) (v::vs)=cl4 (fr.set p v) ps vs:=nr rfl
theorem hz8 {p:Nat}{v:IV}:fr.set p v=(p,v)::fr:=nr rfl
def goQ (id n:Nat)(L:LoopState→Option JX→IObj)(J:List (List IV)→Store→Prop)(Q:Exit→Frm→Store→Prop)(fr:Frm)(rest:List (List IV)):IV→Store→Prop:=fun v s=>
 n≤s.next∧((v=.bool true∧s.obj id=some (L .ready none)∧J rest s)∨(v=.bool false∧∃ st pend,st≠.busy∧s.obj id=some (L st pend)∧gl9 Q fr (s.kill id) pend))
theorem cz7 {id n:Nat}{L:LoopState→Option JX→IObj}{J:List (List IV)→Store→Prop}{Q:Exit→Frm→Store→Prop}{rest:List (List IV)}(h1:n≤σ.next)(h2:σ.obj id=some (L .ready none))(h3:J rest σ):goQ id n L J Q fr rest (.bool true) σ:=⟨h1,.inl ⟨rfl,h2,h3⟩⟩
theorem cg6 {id n:Nat}{L:LoopState→Option JX→IObj}{J:List (List IV)→Store→Prop}{Q:Exit→Frm→Store→Prop}{rest:List (List IV)}(h1:n≤σ.next)(h2:σ.obj id=some (L .done (some .ret)))(h3:Q .ret fr (σ.kill id)):goQ id n L J Q fr rest (.bool false) σ:=⟨h1,.inr ⟨rfl,.done,some .ret,(fun h=>by cases h),h2,h3⟩⟩
theorem cg7 {g:IX}{ps:List Nat}{y x:IC}{Q:Exit→Frm→Store→Prop}{evs:List (List IV)}{own:Store→Prop}(hT:dz3 P E (g.ev E fr) evs own)
  (J:List (List IV)→Store→Prop) (hown:∀ rest s,J rest s→own s) (hstab:ht8 J) (hlen:∀ a∈evs,a.length=ps.length)
  (hinit:∀ o,J evs ⟨σ.next+1,(σ.put σ.next o).obj⟩)
  (hbody:∀ (L:LoopState→Option JX→IObj) (pre:List (List IV)) (a:List IV) (rest:List (List IV)) (s:Store),evs=pre++a::rest→J (a::rest) s→s.obj σ.next=some (L .ready none)→σ.next<s.next →
   wpT noP noC P E N s.next y (cl4 fr ps a) s (ig4 P E N s.next σ.next L x (goQ σ.next s.next L J Q fr rest)))
  (hend:∀ s o,J [] s→σ.next<s.next→s.obj σ.next=some o→Q .normal fr (s.kill σ.next)) :
  RI P E N n0 (.rfunc g ps y x) fr σ Q:=by
 refine ft7 fun L hL=>?_
 let I:List (List IV)→Store→Prop:=fun rest s=>(∃ pre,evs=pre++rest)∧s.obj σ.next=some (L .ready none)∧σ.next<s.next∧J rest s
 let S:Store→Prop:=fun s=>∃ st pend,st≠.busy∧s.obj σ.next=some (L st pend)∧gl9 Q fr (s.kill σ.next) pend
 have hI:ht8 I:=by
  rintro rest s s' ⟨hp,h1,h2,h3⟩ hn hs
  exact ⟨hp,by rw[hs _ h2]; exact h1,Nat.lt_of_lt_of_le h2 hn,hstab rest s s' h3 hn hs⟩
 have hst:fv2 P E σ.next I S:=by
  rintro a rest s ⟨⟨pre,hp⟩,h1,h2,h3⟩
  refine ⟨by rw[h1]; rfl,?_⟩
  have hb:=hbody L pre a rest s hp h3 h1 h2
  refine hL s a _ (hlen a (by rw[hp]; simp)) h1 ?_
  refine (ba8 y _ _ _ (bn9 y _ _ _ _ ?_ (av6 noT y _ _ _ hb)))
  intro e f s1 q
  cases e with
  | normal=>
   refine ⟨rfl,q.1,?_⟩
   refine (ba8 x _ _ _ (bn9 x _ _ _ _ ?_ (av6 noT x _ _ _ q.2)))
   have hK:∀ v s2,goQ σ.next s.next L J Q fr rest v s2→s.next≤s2.next∧((v=.bool true∧I rest s2)∨(v=.bool false∧S s2)):=by
    rintro v s2 ⟨hn,h|h⟩
    ·exact ⟨hn,.inl ⟨h.1,⟨pre++[a],by rw[hp]; simp⟩,h.2.1,Nat.lt_of_lt_of_le h2 hn,h.2.2⟩⟩
    ·exact ⟨hn,.inr ⟨h.1,h.2⟩⟩
   intro e f s2 q2
   cases e with
   | normal=>exact ⟨q2.1,hK _ _ q2.2⟩
   | ret=>exact ⟨q2.1,hK _ _ q2.2⟩
   | exit i=>exact ⟨q2.1,hK _ _ q2.2⟩
   | _=>exact q2
  | _=>exact q.elim
 have h:=hT σ.next I S ⟨σ.next+1,(σ.put σ.next (L .ready none)).obj⟩ (fun rest s h=>hown rest s h.2.2.2) hI hst ⟨⟨[],rfl⟩,by simp only[aa2,if_true],Nat.lt_succ_self _,hinit _⟩
 refine h.mono ?_
 rintro v s ⟨hn,h|h⟩
 ·exact ⟨Nat.le_of_lt hn,.ready,none,(fun h=>by cases h),h.2.1,hend s _ h.2.2.2 h.2.2.1 h.2.1⟩
 ·exact ⟨Nat.le_of_lt hn,h⟩
theorem cb7 {yid:Nat}{I:List (List IV)→Store→Prop}{S:Store→Prop}{a:List IV}{rest:List (List IV)}{K:IV→Store→Prop}(h:fv2 P E yid I S)(hi:I (a::rest) σ)
  (h1:∀ s,σ.next≤s.next→I rest s→K (.bool true) s) (h2:∀ s,σ.next≤s.next→S s→K (.bool false) s):ff8 noC P E (.yield yid) a σ K:=by
 refine ⟨_,h a rest σ hi,?_⟩
 rintro v s ⟨hn,⟨rfl,h⟩|⟨rfl,h⟩⟩
 ·exact ⟨hn,h1 s hn h⟩
 ·exact ⟨hn,h2 s hn h⟩
theorem ff4 {i:Nat}:(σ.kill i).next=σ.next:=nr rfl
theorem fv7 {i j:Nat}:(σ.kill i).obj j=if j=i then none else σ.obj j:=nr rfl
attribute [go_sem] ff4 fv7
attribute [go_sem] hz4 hz5 hz6 hz7 gn2 gn3 hz8
end Go.Id
/- Rows that grow,one by one; what is done with,as trees. Conditions: none; over any program. -/
namespace Go.Id
open Go
variable {P:Program} {E:Nat→IV} {σ σ':Store} {N n0:Nat} {fr:Frm}
def hz9 (σ:Store):IV→Prop
 | .tptr _=>True
 | .ptr i _=>match σ.obj i with
  | some (.cells _)=>True
  | _=>False
 | _=>False
def ig5:Option IObj→Prop
 | some (.cells _)=>True
 | _=>False
theorem he6 {ag:Option Nat}{x:IX}:bl5 E fr σ (.q (.load ag x))=hz9 σ (x.ev E fr):=nr rfl
theorem b_t {cs:List IV}:hz9 σ (.tptr cs)=True:=nr rfl
theorem b_p {i o:Nat}:hz9 σ (.ptr i o)=ig5 (σ.obj i):=nr rfl
theorem b_o {cs:List IV}:ig5 (some (.cells cs))=True:=nr rfl
theorem ia1 {x:IX}:bl5 E fr σ (.q (.mov x))=True:=nr rfl
theorem gn4 {n:Nat}{x:IX}:bl5 E fr σ (.q (.faddr n x))=True:=nr rfl
theorem he7 {x:IX}:bl5 E fr σ (.q (.nchk x))=True:=nr rfl
theorem ia2 {n:Nat}{x:IX}:bl5 E fr σ (.q (.len n x))=True:=nr rfl
theorem ia3 {n:Nat}{z:IV}{b:Bool}{x y:IX}:bl5 E fr σ (.q (.lkp n z b x y))=True:=nr rfl
theorem ia4 {z:List IV}{ps:List (Nat×Nat×IX)}:bl5 E fr σ (.q (.bld z ps))=True:=nr rfl
theorem ia5 {op:BinOp}{x y:IX}:bl5 E fr σ (.q (.bin op x y))=True:=nr rfl
theorem gn5 {n:Nat}{x y:IX}:bl5 E fr σ (.q (.iaddr n x y))=True:=nr rfl
theorem he8 {k:IntKind}{x:IX}:bl5 E fr σ (.q (.conv k x))=True:=nr rfl
theorem ia6 {n:Nat}{x:IX}:bl5 E fr σ (.q (.ext n x))=True:=nr rfl
theorem he9 {x y z:IX}:bl5 E fr σ (.q (.pick x y z))=True:=nr rfl
theorem ia7 {x:IX}:bl5 E fr σ (.q (.not x))=True:=nr rfl
theorem gn6 {f:Nat}{xs:List IX}:bl5 E fr σ (.pcall f xs)=True:=nr rfl
theorem hf4 {e n:Nat}{z:List IV}{ps:List (Nat×Nat×IX)}:bl5 E fr σ (.bslt e n z ps)=True:=nr rfl
theorem ia8 {e n:Nat}{z:List IV}{ps:List (Nat×Nat×IX)}:bl5 E fr σ (.bsl e n z ps)=True:=nr rfl
theorem ia9 {e:Nat}{x y:IX}:bl5 E fr σ (.app e x y)=True:=nr rfl
theorem gn7 {n:Nat}{x y:IX}:bl5 E fr σ (.store n x y)=True:=nr rfl
theorem hf5 {n:Nat}{x y z:IX}:bl5 E fr σ (.mupd n x y z)=True:=nr rfl
theorem gn8 {z:List IV}:bl5 E fr σ (.alloc z)=True:=nr rfl
attribute [go_sem] he6 b_t b_p b_o ia1 gn4 he7 ia2 ia3 ia4 ia5 gn5 he8 ia6 he9 ia7 gn6 hf4 ia8 ia9 gn7 hf5 gn8
def Grow (σ:Store)(v:IV)(esz:Nat)(es:List (List IV)):Prop :=
 (v=.nilslice∧es=[])∨∃ id,v=.slice id 0 es.length esz∧σ.obj id=some (.row es.flatten)∧id<σ.next
def ah4 (v:IV)(σ:Store):Store:=match v with
 | .slice id _ _ _=>σ.kill id
 | _=>σ
theorem ah5 {esz:Nat}{es:List (List IV)}(h:∀ e∈es,e.length=esz):es.flatten.length=es.length*esz:=by
 induction es with
 | nil=>simp
 | cons e es ih=>simp[ih (fun x hx=>h x (List.mem_cons_of_mem _ hx)),h e (List.mem_cons_self ..),Nat.add_mul]; omega
theorem dh1 {esz:Nat}{es:List (List IV)}(h:∀ e∈es,e.length=esz)(i j:Nat)(hi:i<es.length)(hj:j<esz):es.flatten.getD (i*esz+j) .undef=(es.getD i []).getD j .undef:=by
 induction es generalizing i with
 | nil=>simp at hi
 | cons e es ih=>
  have he:=h e (List.mem_cons_self ..)
  cases i with
  | zero=>simp[List.getD_eq_getElem?_getD,List.getElem?_append,he,hj]
  | succ i=>
   have h1:¬ ((i+1)*esz+j<e.length):=by rw[he,Nat.add_mul]; omega
   have h2:(i+1)*esz+j-e.length=i*esz+j:=by rw[he,Nat.add_mul]; omega
   have:=ih (fun x hx=>h x (List.mem_cons_of_mem _ hx)) i (by simpa using hi)
   simp only[List.getD_eq_getElem?_getD,List.flatten_cons,List.getElem?_append,if_neg h1,h2,List.getElem?_cons_succ] at this ⊢
   exact this
theorem bb3 {es:List (List IV)}(h:∀ e∈es,e.all IV.leaf=true):es.flatten.all IV.leaf=true:=by
 simp only[List.all_eq_true,List.mem_flatten]
 rintro c ⟨e,he,hc⟩
 exact List.all_eq_true.1 (h e he) c hc
theorem ai2 {v:IV}{esz nid:Nat}{es:List (List IV)}{e:List IV}(hg:Grow σ v esz es)(h:∀ x∈es,x.length=esz∧x.all IV.leaf=true)(he:e.length=esz∧e.all IV.leaf=true)(hn:es.length<2147483648) :
  ax4 σ nid esz v (.tslice [e])=some (.slice nid 0 (es.length+1) esz,(ah4 v σ).put nid (.row (es++[e]).flatten)):=by
 have hsrc:ba4 σ esz (.tslice [e])=some (1,e):=by simp[ba4,he.1]
 have hl:e.all IV.leaf=true:=he.2
 rcases hg with ⟨rfl,rfl⟩|⟨id,rfl,ho,hid⟩
 ·unfold ax4
  rw[hsrc]
  simp[hl,ah4]
 ·unfold ax4
  rw[hsrc]
  have h1:es.flatten.all IV.leaf=true:=bb3 fun x hx=>(h x hx).2
  have h2:es.flatten.length=es.length*esz:=ah5 fun x hx=>(h x hx).1
  simp[hl,ho,ah4,h1,h2]
  omega
theorem Grow.new {v:IV}{esz nid:Nat}{es:List (List IV)}{e:List IV}(hlt:nid<σ'.next)(ho:σ'.obj nid=some (.row (es++[e]).flatten)):Grow σ' (.slice nid 0 (es.length+1) esz) esz (es++[e]):=
 .inr ⟨nid,by simp,ho,hlt⟩
theorem ad7 (v:IV):(ah4 v σ).next=σ.next:=by cases v<;>rfl
theorem ae7 {v:IV}{esz:Nat}{es:List (List IV)}(hg:Grow σ v esz es)(i:Nat)(o:IObj)(ho:σ.obj i=some o)(hr:∀ cs,o≠.row cs):(ah4 v σ).obj i=some o:=by
 rcases hg with ⟨rfl,rfl⟩|⟨id,rfl,ho',hid⟩
 ·exact ho
 ·show (if i=id then none else σ.obj i)=some o
  rw[if_neg]
  ·exact ho
  ·intro e; subst e; rw[ho] at ho'; cases ho'; exact hr _ rfl
theorem Grow.frz {S:Nat→Prop}{v:IV}{esz:Nat}{es:List (List IV)}(hg:Grow σ v esz es)(h:∀ x∈es,x.length=esz)(hS:∀ id,v=.slice id 0 es.length esz→¬ S id)(hb:∀ e∈es,∀ c∈e,Nm S c):Frz σ S v (.tslice es):=by
 rcases hg with ⟨rfl,rfl⟩|⟨id,rfl,ho,hid⟩
 ·exact .nils
 ·refine .slice id 0 es.length esz es.flatten es (hS id rfl) (.inr ho) rfl (by rw[ah5 h]; omega) (fun i hi=>h _ (aa7 _ hi)) (fun i hi j hj=>?_)
  rw[Nat.zero_add,dh1 h i j hi hj]
  exact .keep _ (hb _ (aa7 _ hi) _ (aa7 _ (by rw[h _ (aa7 _ hi)]; exact hj)))
theorem Grow.mono {v:IV}{esz:Nat}{es:List (List IV)}(hg:Grow σ v esz es)(hn:σ.next≤σ'.next)(h:∀ id,v=.slice id 0 es.length esz→id<σ.next→σ'.obj id=σ.obj id):Grow σ' v esz es:=by
 rcases hg with h0|⟨id,rfl,ho,hid⟩
 ·exact .inl h0
 ·exact .inr ⟨id,rfl,by rw[h id rfl hid]; exact ho,Nat.lt_of_lt_of_le hid hn⟩
theorem Grow.ne {v:IV}{esz id:Nat}{es:List (List IV)}{i:Nat}{o:IObj}(hg:Grow σ v esz es)(hv:v=.slice id 0 es.length esz)(ho:σ.obj i=some o)(hr:∀ cs,o≠.row cs):id≠i:=by
 intro e
 subst e
 rcases hg with ⟨rfl,_⟩|⟨id',rfl,ho',_⟩
 ·cases hv
 ·cases hv
  rw[ho] at ho'
  cases ho'
  exact hr _ rfl
theorem bb4 {did esz nid:Nat}{es:List (List IV)}(ho:σ.obj did=some (.row []))(hne:es≠[])(h:∀ x∈es,x.length=esz∧x.all IV.leaf=true)(hn:es.length≤2147483648) :
  ax4 σ nid esz (.slice did 0 0 esz) (.tslice es)=some (.slice nid 0 es.length esz,(σ.kill did).put nid (.row es.flatten)):=by
 have hsrc:ba4 σ esz (.tslice es)=some (es.length,es.flatten):=by
  simp only[ba4]
  rw[if_pos (by simpa using fun x hx=>(h x hx).1)]
 have h1:es.flatten.all IV.leaf=true:=bb3 fun x hx=>(h x hx).2
 have h0:es.length≠0:=fun e=>hne (List.length_eq_zero_iff.1 e)
 unfold ax4
 rw[hsrc]
 simp[h1,ho,h0,hn]
theorem bn7 {did esz nid:Nat}{x:IV}(ho:σ.obj did=some (.row []))(hx:ba4 σ esz x=some (0,[])):ax4 σ nid esz (.slice did 0 0 esz) x=some (.slice did 0 0 esz,σ):=by
 unfold ax4
 rw[hx]
 simp[ho]
theorem ap8 {esz:Nat}{es:List (List IV)}(h:∀ e∈es,e.length=esz)(j:Nat)(hj:j<es.length):(es.flatten.drop (j*esz)).take esz=es.getD j []:=by
 induction es generalizing j with
 | nil=>simp at hj
 | cons e es ih=>
  have he:=h e (List.mem_cons_self ..)
  cases j with
  | zero=>simp[he]
  | succ j=>
   have h2:(j+1)*esz=e.length+j*esz:=by rw[he,Nat.add_mul]; omega
   rw[List.flatten_cons,h2,List.drop_append,List.drop_of_length_le (by omega),List.nil_append,show e.length+j*esz-e.length=j*esz from by omega]
   exact ih (fun x hx=>h x (List.mem_cons_of_mem _ hx)) j (by simpa using hj)
theorem av5 {l vs:List IV}{off:Nat}(h:(l.drop off).take vs.length=vs)(hl:off+vs.length≤l.length):ag9 l off vs=l:=by
 unfold ag9
 have h1:l.drop off=vs++l.drop (off+vs.length):=by
  rw[← List.drop_drop]
  conv=>lhs; rw[← List.take_append_drop vs.length (l.drop off)]
  rw[h]
 rw[List.append_assoc,← h1,List.take_append_drop]
theorem fv8 {f:Nat}{Q:IV→Store→Prop}(h1:C P E f [.nilslice] σ Q)(h2:C P E f [.eslice] σ Q):C P E f [.tslice []] σ Q:=by
 intro ρ w rargs hs hr
 have hv:=gh1 hr
 generalize hx:rargs.getD 0 undef=r at hv
 cases hv with
 | tnil=>exact h1 ρ w rargs hs (dz1 hr (by rw[hx]; exact .nilslice))
 | tslice es b o cap esz sp vs hf hsz hc hv hle=>exact h2 ρ w rargs hs (dz1 hr (by rw[hx]; exact .eslice _ _))
inductive FrzL (σ:Store) (S:Nat→Prop):List IV→List IV→Prop
 | nil:FrzL σ S [] []
 | cons {v v':IV} {vs vs':List IV} (h:Frz σ S v v') (t:FrzL σ S vs vs'):FrzL σ S (v::vs) (v'::vs')
theorem FrzL.at {S:Nat→Prop}{cs cs':List IV}(h:FrzL σ S cs cs'):cs'.length=cs.length∧∀ i,i<cs.length→Frz σ S (cs.getD i .undef) (cs'.getD i .undef):=by
 induction h with
 | nil=>exact ⟨rfl,fun i hi=>absurd hi (Nat.not_lt_zero _)⟩
 | cons h _ ih=>
  refine ⟨by simp only[List.length_cons,ih.1],fun i hi=>?_⟩
  cases i with
  | zero=>exact h
  | succ i=>exact ih.2 i (by simpa using hi)
theorem Frz.agg2 {S:Nat→Prop}{cs cs':List IV}(h:FrzL σ S cs cs'):Frz σ S (.agg cs) (.agg cs'):=.agg _ _ h.at.1 h.at.2
theorem Frz.tuple2 {S:Nat→Prop}{cs cs':List IV}(h:FrzL σ S cs cs'):Frz σ S (.tuple cs) (.tuple cs'):=.tuple _ _ h.at.1 h.at.2
theorem ii7:((0:Nat):Int)=0:=nr rfl
theorem ii8:((1:Nat):Int)=1:=nr rfl
theorem ii9:((2:Nat):Int)=2:=nr rfl
theorem ij1:((3:Nat):Int)=3:=nr rfl
theorem ij2:((4:Nat):Int)=4:=nr rfl
theorem ij3:((5:Nat):Int)=5:=nr rfl
theorem ij4:((6:Nat):Int)=6:=nr rfl
theorem ij5:((7:Nat):Int)=7:=nr rfl
theorem ij6:((8:Nat):Int)=8:=nr rfl
theorem ij7:((9:Nat):Int)=9:=nr rfl
theorem ib5:((10:Nat):Int)=10:=nr rfl
theorem ib6:((11:Nat):Int)=11:=nr rfl
theorem ib7:((12:Nat):Int)=12:=nr rfl
theorem ib8:((13:Nat):Int)=13:=nr rfl
theorem ib9:((14:Nat):Int)=14:=nr rfl
theorem ic1:((15:Nat):Int)=15:=nr rfl
theorem ic2:((16:Nat):Int)=16:=nr rfl
attribute [go_sem] ii7 ii8 ii9 ij1 ij2 ij3 ij4 ij5 ij6 ij7 ib5 ib6 ib7 ib8 ib9 ic1 ic2 List.getD_cons_zero List.getD_cons_succ
theorem ij8:IntKind.i64.wrap 0=0:=nr rfl
theorem ij9:IntKind.i64.wrap 1=1:=nr rfl
theorem ik1:IntKind.i64.wrap 2=2:=nr rfl
theorem ik2:IntKind.i64.wrap 3=3:=nr rfl
theorem ik3:IntKind.i64.wrap 4=4:=nr rfl
theorem ik4:IntKind.i64.wrap 5=5:=nr rfl
theorem ik5:IntKind.i64.wrap 6=6:=nr rfl
theorem ik6:IntKind.i64.wrap 7=7:=nr rfl
theorem ik7:IntKind.i64.wrap 8=8:=nr rfl
theorem ik8:IntKind.i64.wrap 9=9:=nr rfl
theorem ic3:IntKind.i64.wrap 10=10:=nr rfl
theorem ic4:IntKind.i64.wrap 11=11:=nr rfl
theorem ic5:IntKind.i64.wrap 12=12:=nr rfl
theorem ic6:IntKind.i64.wrap 13=13:=nr rfl
theorem ic7:IntKind.i64.wrap 14=14:=nr rfl
theorem ic8:IntKind.i64.wrap 15=15:=nr rfl
theorem ic9:IntKind.i64.wrap 16=16:=nr rfl
attribute [go_sem] ij8 ij9 ik1 ik2 ik3 ik4 ik5 ik6 ik7 ik8 ic3 ic4 ic5 ic6 ic7 ic8 ic9
theorem hf6 {ag:Option Nat}{n m:Nat}:irL σ fr [.cell ag n,.t m]=(ap5 σ ag (fr.get n)).map fun v=>[v,fr.get m]:=by
 simp only[irL,irV]; cases ap5 σ ag (fr.get n)<;>rfl
attribute [go_sem] hf6 ag1
end Go.Id
/- Answers that are known,looked up; and what they are good for. Conditions: none; over any program. -/
namespace Go.Id
open Go
variable {P:Program} {E:Nat→IV}
def cg8 (r:IV→IV→Bool):List IV→List IV→Bool
 | [],[]=>true
 | a::x,b::y=>r a b&&cg8 r x y
 | _,_=>false
theorem ay1 {r:IV→IV→Bool}(hr:∀ a b,r a b=true→a=b):∀ x y:List IV,cg8 r x y=true→x=y:=by
 intro x
 induction x with
 | nil=>intro y h; cases y with
  | nil=>rfl
  | cons b y=>cases h
 | cons a x ih=>intro y h; cases y with
  | nil=>cases h
  | cons b y=>
   simp only[cg8,Bool.and_eq_true] at h
   rw[hr a b h.1,ih y h.2]
def dh2 (r:IV→IV→Bool):List (List IV)→List (List IV)→Bool
 | [],[]=>true
 | a::x,b::y=>cg8 r a b&&dh2 r x y
 | _,_=>false
theorem dh3 {r:IV→IV→Bool}(hr:∀ a b,r a b=true→a=b):∀ x y:List (List IV),dh2 r x y=true→x=y:=by
 intro x
 induction x with
 | nil=>intro y h; cases y with
  | nil=>rfl
  | cons b y=>cases h
 | cons a x ih=>intro y h; cases y with
  | nil=>cases h
  | cons b y=>
   simp only[dh2,Bool.and_eq_true] at h
   rw[ay1 hr a b h.1,ih y h.2]
def fv9:List UInt8→List UInt8→Bool
 | [],[]=>true
 | a::x,b::y=>Nat.beq a.toNat b.toNat&&fv9 x y
 | _,_=>false
theorem fw1:∀ x y:List UInt8,fv9 x y=true→x=y:=by
 intro x
 induction x with
 | nil=>intro y h; cases y with
  | nil=>rfl
  | cons b y=>cases h
 | cons a x ih=>intro y h; cases y with
  | nil=>cases h
  | cons b y=>
   simp only[fv9,Bool.and_eq_true] at h
   rw[UInt8.toNat_inj.1 (Nat.eq_of_beq_eq_true h.1),ih y h.2]
def fw2:Nat→IV→IV→Bool
 | 0,_,_=>false
 | n+1,a,b=>match a with
  | .bool x=>match b with
   | .bool y=>match x,y with
    | true,true=>true
    | false,false=>true
    | _,_=>false
   | _=>false
  | .int k x=>match b with
   | .int k' y=>decide (k=k')&&decide (x=y)
   | _=>false
  | .str x=>match b with
   | .str y=>fv9 x y
   | _=>false
  | .nilptr=>match b with
   | .nilptr=>true
   | _=>false
  | .tptr x=>match b with
   | .tptr y=>cg8 (fw2 n) x y
   | _=>false
  | .tslice x=>match b with
   | .tslice y=>dh2 (fw2 n) x y
   | _=>false
  | .agg x=>match b with
   | .agg y=>cg8 (fw2 n) x y
   | _=>false
  | .tuple x=>match b with
   | .tuple y=>cg8 (fw2 n) x y
   | _=>false
  | .iface t x=>match b with
   | .iface t' y=>Nat.beq t t'&&fw2 n x y
   | _=>false
  | .niliface=>match b with
   | .niliface=>true
   | _=>false
  | .nilmap=>match b with
   | .nilmap=>true
   | _=>false
  | .nilfunc=>match b with
   | .nilfunc=>true
   | _=>false
  | .nilslice=>match b with
   | .nilslice=>true
   | _=>false
  | _=>false
theorem gn9:∀ (n:Nat) (a b:IV),fw2 n a b=true→a=b:=by
 intro n
 induction n with
 | zero=>intro a b h; cases h
 | succ n ih=>
  intro a b h
  cases a<;>simp only[fw2] at h<;>(try cases h)<;>split at h<;>(try cases h)<;>(try rfl)
  ·split at h<;>(try cases h)<;>rfl
  ·simp only[Bool.and_eq_true,decide_eq_true_eq] at h; rw[h.1,h.2]
  ·rw[fw1 _ _ h]
  ·rw[ay1 ih _ _ h]
  ·rw[dh3 ih _ _ h]
  ·simp only[Bool.and_eq_true] at h; rw[Nat.eq_of_beq_eq_true h.1,ih _ _ h.2]
  ·rw[ay1 ih _ _ h]
  ·rw[ay1 ih _ _ h]
abbrev gw5:=List (Nat×List IV×IV)
def gw5.get:gw5→Nat→List IV→Option IV
 | [],_,_=>none
 | (k,as,v)::r,f,args=>match Nat.beq k f with
  | true=>match cg8 (fw2 1000) as args with
   | true=>some v
   | false=>gw5.get r f args
  | false=>gw5.get r f args
def MOK (P:Program)(E:Nat→IV)(M:gw5):Prop:=∀ e∈M,okF P e.1=true∧PC P E e.1 e.2.1 e.2.2
theorem MOK.nil:MOK P E []:=fun _ h=>by cases h
theorem MOK.cons {M:gw5}{k:Nat}{as:List IV}{v:IV}(hk:okF P k=true)(h:PC P E k as v)(hM:MOK P E M):MOK P E ((k,as,v)::M):=fun e he=>by
 rcases List.mem_cons.1 he with rfl|he
 ·exact ⟨hk,h⟩
 ·exact hM e he
theorem go2 {l:List (Nat×List IV)}(h:l.all (fun x=>x.2.all (al4 1000))=true):∀ g,Bnd 0 (er7 l g):=by
 intro g
 unfold er7
 cases hg:l.lookup g with
 | none=>exact .undef
 | some cs=>
  have hm:∃ x∈l,x.2=cs:=by
   clear h
   induction l with
   | nil=>cases hg
   | cons x l ih=>
    obtain ⟨a,b⟩:=x
    simp only[List.lookup] at hg
    split at hg
    ·cases hg; exact ⟨_,List.mem_cons_self ..,rfl⟩
    ·obtain ⟨x,h1,h2⟩:=ih hg; exact ⟨x,List.mem_cons_of_mem _ h1,h2⟩
  obtain ⟨x,h1,rfl⟩:=hm
  exact .tptr _ fun c hc=>ao3 1000 c (List.all_eq_true.1 (List.all_eq_true.1 h x h1) c hc)
end Go.Id
