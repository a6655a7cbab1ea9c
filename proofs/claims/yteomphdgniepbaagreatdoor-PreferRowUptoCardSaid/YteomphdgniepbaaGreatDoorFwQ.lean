/- Loops that go up; rows read by their places; runes of a string; what a yield is told. Conditions: none; over any program. -/
import Derived.Test.YteomphdgniepbaaGreatDoorFwV
import Derived.Test.YteomphdgniepbaaGreatDoorFwZ
import Derived.Test.YteomphdgniepbaaGreatDoorT6
set_option linter.all false
namespace Go.Id
open Go
variable {P:Program} {E:Nat→IV} {σ σ':Store} {N n0:Nat} {fr:Frm}
def upQ (I:Nat→Frm→Store→Prop)(i n:Nat)(Q:Exit→Frm→Store→Prop):Exit→Frm→Store→Prop
 | .normal,fr,σ=>i<n∧I (i+1) fr σ
 | e,fr,σ=>Q e fr σ
theorem iw6 {I:Nat→Frm→Store→Prop}{i n:Nat}{Q:Exit→Frm→Store→Prop}:upQ I i n Q .normal fr σ=(i<n∧I (i+1) fr σ):=nr rfl
theorem iw7 {I:Nat→Frm→Store→Prop}{i n k:Nat}{Q:Exit→Frm→Store→Prop}:upQ I i n Q (.exit k) fr σ=Q (.exit k) fr σ:=nr rfl
theorem iw8 {I:Nat→Frm→Store→Prop}{i n:Nat}{Q:Exit→Frm→Store→Prop}:upQ I i n Q .ret fr σ=Q .ret fr σ:=nr rfl
theorem ab3 {pt:PT}{ct:CT}(hT:TOK P E pt ct){x:IC}{Q:Exit→Frm→Store→Prop}(I:Nat→Frm→Store→Prop)(n:Nat)(h:I 0 fr σ)
  (hI:∀ i fr σ,i≤n→I i fr σ→wpT pt ct P E N n0 x fr σ (upQ I i n Q)):RI P E N n0 (.loop x) fr σ Q:=by
 refine fk8 (fun m fr σ=>∃ i,i≤n∧m=n-i∧I i fr σ) n ⟨0,Nat.zero_le _,rfl,h⟩ ?_;rintro m fr σ ⟨i,hi,rfl,hi0⟩;refine bu7 x fr σ _ _ ?_ (bb9 hT x fr σ _ (hI i fr σ hi hi0));intro e f s q
 cases e with
 | normal=>exact ⟨n-(i+1),by have:=q.1; omega,i+1,q.1,rfl,q.2⟩
 | _=>exact q
theorem af8 {α:Type}(es:List α)(i:Nat)(h:i<es.length):∃ a,a∈es∧es[i]? = some a∧es.drop i=a::es.drop (i+1)∧(∀ (f:α→List IV),(es.map f).getD i []=f a)∧es.take (i+1)=es.take i++[a]:=
 ⟨es[i],List.getElem_mem h,List.getElem?_eq_getElem h,List.drop_eq_getElem_cons h,fun f=>by simp[List.getD_eq_getElem?_getD,h],by rw[List.take_add_one,List.getElem?_eq_getElem h]; rfl⟩
/-! ### Runes -/
theorem fn5 (s:List UInt8)(i:Nat)(h:i<s.length):((⟨s.toArray⟩:ByteArray).get! i)=s[i]:=by
 show (s.toArray)[i]! = s[i];simp[h]
theorem er9 (s:List UInt8)(i:Nat)(h:i<s.length)(hb:s[i].toNat<128):Utf8.decode ⟨s.toArray⟩ i=(s[i].toNat,1):=by
 unfold Utf8.decode;simp only[Nat.add_zero,fn5 s i h];rw[if_pos hb]
theorem decode_high (s:List UInt8)(i:Nat)(h:i<s.length)(hb:¬ s[i].toNat<128):128≤(Utf8.decode ⟨s.toArray⟩ i).1:=by
 unfold Utf8.decode;simp only[Nat.add_zero,fn5 s i h];rw[if_neg hb];have e:Utf8.runeError=65533:=rfl
 repeat' split
 all_goals first|(rw[e]; omega)|(simp only[ge_iff_le,Bool.and_eq_true,decide_eq_true_eq] at *; omega)
/-! ### What a yield is told -/
def gd9 (P:Program)(E:Nat→IV)(id:Nat)(I:List (List IV)→Store→Prop)(S:Store→Prop):Prop :=
 ∀ a rest σ,I (a::rest) σ→CV P E (.yield id) a σ fun v s=>σ.next≤s.next∧((v=.bool true∧I rest s)∨(v=.bool false∧S s))
end Go.Id
/- The walk's rewriting rules,marked. Conditions: none; over any program. -/
namespace Go.Id
open Go
attribute [go_sem] cw4 cw5   cw6 bz6 cw7   hr9 et2 et3 cw8 bz7 cw9 bz8 bz9 bk9 cx1 w_q ca1
 et5 et6 ca2 et7 ca4 bl4 ca3 cx2 cx3 cx4 ca5 bl5 et8 cx5 et9 cx6 ca6 ca7 cx7 eu1
 eu2 eu3 eu4 eu5 eu6 eu7 eu8   cx8 eu9 cx9 ev1 cy1 ca8 cy2 cy6 ev2 ht4 ht5 ev3 ev4 ev5 ev6
 ev7 ev8 ev9 ew1 ew2 ew3 cy7 ca9 bl6 bc1 cb1 bl7 cy3 cy4 cy5 cb2 hs8 hs9 bc3 bm2
 cc4 cc5 cc6 cc3 da1 e_t e_c e_g e_f ew4 cy8 ew5 ew6 ew7 ai2 ew8 cy9 cb3 ew9 cb4 ex1 cb5
 cb6 ex2 cz1 ex3 cz2 ex4 ex5 ex6 ex8 cz3 cz4 ea6 gs4 dq5 ea5 cb7 cb8 cz5 cz6 cb9 cc1 ht6
 bl8 cz7 cz8 cz9 bl9 cc2 bc2 bm1 bm3 cc7 bm4 bm5 da2 da3 ea7 ea8 cc8 cc9
 cd1 cd2 da4 da5 cd3 bm6 ex9 ey1 ey2 ey3  ey4 ey5 ey6 ey8 ey9 ez1 dq6 ea9  da6 da7
 da8  da9 db1 db2 db3 db4 id6 id7 id8 id9 bf2 bm7 cd4 cd5 cd6 db5 db6 db7 db8 ez2 ez3 db9 ez4
 cd7 cd8 cd9 ez7 bh8 gs5 dc7 ce1 ce2 bm8 be2 bu8 ez5 cj1 bm9 ez6 cj3 bn1 bn2 ce3
 ce4 ce5 ce6 bn3 ce7 ce8 bn4 bc4 ax6 bn5 ce9 bn6 dc1 dc2 dc3 cf1 bn7
 cf2 cf3 bn8 bc5 ax7 bn9 cf4 bo1 dc4 dc5 dc6 Frm.bk8  ab1 aa4 iw6 iw7
 iw8 ea6 gs4 dq5 ea5 ir7 id5 
attribute [go_sem] List.getElem?_cons_zero List.getElem?_cons_succ List.all_cons List.all_nil List.drop_zero List.drop_succ_cons List.head?_cons Bool.and_true Bool.and_self List.append_nil List.nil_append List.cons_append Bool.false_eq_true Bool.xor_false Bool.xor_true Bool.not_true Bool.not_false Nat.add_zero Nat.zero_add Nat.succ_ne_zero if_true if_false true_and and_true
end Go.Id
namespace Go.Id
open Go
variable {P:Program} {E:Nat→IV} {σ σ':Store} {N n0:Nat} {fr:Frm} {pf:List Nat}
/-! ### By the tables of the seat -/
theorem an7 {f:Nat}{ic:IC}{irs:List IR}{args:List IV}{v:IV}(hf:FOK P f (N,ic,irs))(hl:args.length≤N)
  (h:∀ σ,wpT noP noC P E N σ.next ic (be1 args 0) σ (fp3 irs fun v' σ'=>v'=v∧σ'=σ)):PC P E f args v:=by
 obtain ⟨_,pf,an,h1⟩:=hf;exact iz4 noT h1 hl h
theorem C_f {f:Nat}{ic:IC}{irs:List IR}{args:List IV}{Qc:IV→Store→Prop}(hf:FOK P f (N,ic,irs))(hl:args.length≤N)
  (h:wpT noP noC P E N σ.next ic (be1 args 0) σ (fp3 irs Qc)):C P E f args σ Qc:=by
 obtain ⟨_,pf,an,h1⟩:=hf;exact C_T noT h1 hl h
def emp:Store:=⟨0,fun _=>none⟩
theorem ge1:emp.next=0:=nr rfl
theorem gx2 {i:Nat}:emp.obj i=none:=nr rfl
attribute [go_sem] ge1 gx2
theorem ai1 {f:Nat}{ic:IC}{irs:List IR}{args:List IV}{v:IV}(hE:∀ g,Bnd 0 (E g))(hf:FOK P f (N,ic,irs))(hl:args.length≤N)(ha:∀ a∈args,Bnd 0 a)
  (h:wpT noP noC P E N 0 ic (be1 args 0) emp (fp3 irs fun v' σ'=>co8 σ' 0 v' v)):PC P E f args v :=
 ei9 hE ha (C_f (σ:=emp) hf hl h)
theorem aa5 {f:Nat}{e:FE}{args:List IV}{v:IV}{K:IV→Store→Prop}(hf:FOK P f e)(h:PC P E f args v)(hk:K v σ):ct9 P E none f args σ K :=
 am8 hf.1 (eb1 h) fun _ _ ⟨h1,h2⟩=>by subst h1; subst h2; exact ⟨Nat.le_refl _,hk⟩
theorem ad3 {f:Nat}{e:FE}{args:List IV}{Qc:IV→Store→Prop}{K:IV→Store→Prop}(hf:FOK P f e)(h:C P E f args σ Qc)(hk:∀ v s,Qc v s→σ.next≤s.next∧K v s):ct9 P E none f args σ K :=
 am8 hf.1 h hk
theorem ac3 {S:Nat→Prop}(b:Bool):Frz σ S (.bool b) (.bool b):=.keep _ (.bool _)
theorem ad8 {S:Nat→Prop}(k:IntKind)(n:Int):Frz σ S (.int k n) (.int k n):=.keep _ (.int _ _)
theorem bd8 {S:Nat→Prop}(s:List UInt8):Frz σ S (.str s) (.str s):=.keep _ (.str _)
/-! ### Rows of which only the length is known to be nothing -/
theorem gr5 {ρ:Rho}{w:World}{v:IV}{rargs:Array Value}(h:CR ρ w [v] rargs):VR ρ w v (rargs.getD 0 undef):=by
 have:=h.2 0 (Nat.zero_lt_one)
 simpa using this
theorem ei1 {ρ:Rho}{w:World}{u v:IV}{rargs:Array Value}(h:CR ρ w [u] rargs)(hv:VR ρ w v (rargs.getD 0 undef)):CR ρ w [v] rargs :=
 ⟨h.1,fun i hi=>by
  have:i=0:=by simp at hi; omega
  subst this
  simpa using hv⟩
theorem bt9 {f:Nat}{v:IV}(h1:PC P E f [.aa1] v)(h2:PC P E f [.ae6] v):PC P E f [.aa3 []] v:=by
 intro σ ρ w rargs hs hr;have hv:=gr5 hr;generalize hx:rargs.getD 0 undef=r at hv
 cases hv with
 | bx8=>exact h1 σ ρ w rargs hs (ei1 hr (by rw[hx]; exact .aa1))
 | aa3 es b o cap esz sp vs hf hsz hc hv hle=>exact h2 σ ρ w rargs hs (ei1 hr (by rw[hx]; exact .ae6 _ _))
theorem ad6 {i:Nat}(h:i<2^62):IntKind.i64.wrap ((i:Int)+1)=((i+1:Nat):Int):=by
 rw[wrap64 (by omega) (by omega)]; omega
/-! ### Lists that are laid out -/
theorem gx3 {cs:List IV}:as8 cs []=some cs:=by simp only[as8]
theorem gx4 {cs:List IV}{off n:Nat}{v:IV}{ps:List (Nat×Nat×IV)}:as8 cs ((off,n,v)::ps)=if v.cs.length=n∧off+n≤cs.length∧v.cs.all IV.leaf=true then as8 (ao8 cs off v.cs) ps else none:=by simp only[as8]
theorem hy7 {c:IV}{cs:List IV}{vs:List IV}:ao8 (c::cs) 0 vs=vs++(c::cs).drop vs.length:=by simp[ao8]
theorem hy8 {c:IV}{cs vs:List IV}{n:Nat}:ao8 (c::cs) (n+1) vs=c::ao8 cs n vs:=by simp[ao8,Nat.add_right_comm]
theorem hy9 {d:TypeId}{a:List IV}{as:List (List IV)}:ck5 (.slice d) (.aa3 (a::as))=some false:=nr rfl
theorem hz4 {d:TypeId}:ck5 (.slice d) .aa1=some true:=nr rfl
theorem hz5 {d:TypeId}:ck5 (.slice d) .ae6=some false:=nr rfl
theorem hz6 {d:TypeId}:ck5 (.slice d) .ac4=some false:=nr rfl
theorem hz7 {d:TypeId}{i o l e:Nat}:ck5 (.slice d) (.slice i o l e)=some false:=nr rfl
theorem as3 {d:TypeId}:ck5 (.pointer d) .ab6=some true:=nr rfl
theorem gx5 {d:TypeId}{cs:List IV}:ck5 (.pointer d) (.ac2 cs)=some false:=nr rfl
theorem gx6 {d:TypeId}{i o:Nat}:ck5 (.pointer d) (.ptr i o)=some false:=nr rfl
theorem ge2 {e:Nat}{l:List IV}:chunk e 0 l=[]:=nr rfl
theorem ge3 {e n:Nat}{l:List IV}:chunk e (n+1) l=l.take e::chunk e n (l.drop e):=nr rfl
theorem hz8 {z:List IV}:rep z 0=[]:=nr rfl
theorem hz9 {z:List IV}{n:Nat}:rep z (n+1)=z++rep z n:=nr rfl
theorem gx7 {off:Nat}{cs:List IV}:bb1 none off cs=cs[off]?:=nr rfl
theorem gx8 {off n:Nat}{cs:List IV}:bb1 (some n) off cs=if off+n≤cs.length then some (.agg ((cs.drop off).take n)) else none:=nr rfl
theorem ia1 {ag:Option Nat}{off:Nat}{cs:List IV}:hq6 ag off (.agg cs)=bb1 ag off cs:=nr rfl
theorem ia2 {ag:Option Nat}{n esz:Nat}{cs:List IV}{k:IntKind}{i:Int}:gu7 ag n esz (.agg cs) (.int k i)=if 0≤i∧i<n then bb1 ag (i.toNat*esz) cs else none:=nr rfl
theorem ge4 {n esz:Nat}{v:IV}{k:IntKind}{i:Int}:cu7 n esz v (.int k i)=if 0≤i∧i<n then ci5 (i.toNat*esz) v else none:=nr rfl
theorem bz1 {s:List UInt8}{k:IntKind}{i:Int}:df4 (.str s) (.int k i)=if 0≤i then (s[i.toNat]?).map fun b=>.int .u8 b.toNat else none:=nr rfl
theorem ia3 {tags:List Nat}{neg:Bool}{xs ys:List IV}:gv1 tags true neg (.agg xs) (.agg ys)=(allEq tags xs ys).map fun b=>.bool (b ^^ neg):=nr rfl
theorem ia4:allEq [] [] []=some true:=nr rfl
def iu8:Option Bool→Option Bool→Option Bool
 | some a,some b=>some (a&&b)
 | _,_=>none
theorem ia5 {a b:Bool}:iu8 (some a) (some b)=some (a&&b):=nr rfl
theorem ia6 {t:Nat}{ts:List Nat}{x y:IV}{xs ys:List IV}:allEq (t::ts) (x::xs) (y::ys)=iu8 (aj1 t x y) (allEq ts xs ys):=by
 simp only[allEq]; cases aj1 t x y<;>cases allEq ts xs ys<;>rfl
theorem ia7 {k:IntKind}{a b:Int}:aj1 1 (.int k a) (.int k b)=some (decide (a=b)):=by simp[aj1]
theorem ia8 {a b:List UInt8}:aj1 2 (.str a) (.str b)=some (decide (a=b)):=nr rfl
theorem ei2 {a b:List UInt8}:aj6 2 (.str a) (.str b)=some (decide (a=b)):=nr rfl
theorem ia9 {a b:Bool}:aj1 0 (.bool a) (.bool b)=some (a==b):=nr rfl
attribute [go_sem] ia3 ia4 ia6 ia5 ia9 ia7 ia8
attribute [go_sem] gx3 gx4 hy7 hy8 hy9 hz4 hz5 hz6 hz7 as3 gx5 gx6 ge2 ge3 hz8 hz9 gx7 gx8 ia1 ia2 ge4 bz1
attribute [go_sem] Bool.true_or Bool.or_true Bool.false_or Bool.or_false Bool.true_and Bool.false_and Bool.and_false
attribute [go_sem] List.length_cons List.length_nil List.take_succ_cons List.take_zero List.length_map Int.toNat_natCast
end Go.Id
/- Ranging over functions that tell rows: tellers,and the loops over them. Conditions: none; over any program. -/
namespace Go.Id
open Go
variable {P:Program} {E:Nat→IV} {σ σ':Store} {N n0:Nat} {fr:Frm}
def il4 (I:List (List IV)→Store→Prop):Prop:=∀ rest s s',I rest s→s.next≤s'.next→(∀ i,i<s.next→s'.obj i=s.obj i)→I rest s'
def ib5 (n:Nat)(I:List (List IV)→Store→Prop)(S:Store→Prop):IV→Store→Prop:=fun _ s=>n≤s.next∧(I [] s∨S s)
def ei3 (P:Program)(E:Nat→IV)(fv:IV)(evs:List (List IV))(own:Store→Prop):Prop :=
 ∀ (yid:Nat) (I:List (List IV)→Store→Prop) (S:Store→Prop) (σ:Store),(∀ rest s,I rest s→own s)→il4 I→gd9 P E yid I S→I evs σ→CVf P E fv [.yield yid] σ (ib5 σ.next I S)
def iu9 (P:Program)(E:Nat→IV)(N n0:Nat)(id:Nat)(L:LoopState→Option JX→aj2)(x:IC)(K:IV→Store→Prop):Exit→Frm→Store→Prop
 | .normal,f,s=>s.obj id=some (L .ready none)∧wpT noP noC P E N n0 x f (s.put id (L .busy none)) (cn5 id L K)
 | _,_,_=>False
theorem in7 {id:Nat}{L:LoopState→Option JX→aj2}{x:IC}{K:IV→Store→Prop}:iu9 P E N n0 id L x K .normal fr σ=(σ.obj id=some (L .ready none)∧wpT noP noC P E N n0 x fr (σ.put id (L .busy none)) (cn5 id L K)):=nr rfl
theorem in8 {id:Nat}{L:LoopState→Option JX→aj2}{K:IV→Store→Prop}:cn5 id L K .normal fr σ=(σ.obj id=some (L .busy none)∧K (.bool true) (σ.put id (L .ready none))):=nr rfl
theorem in9 {id:Nat}{L:LoopState→Option JX→aj2}{K:IV→Store→Prop}:cn5 id L K .ret fr σ=(σ.obj id=some (L .busy none)∧K (.bool false) (σ.put id (L .done (some .ret)))):=nr rfl
theorem io1 {id i:Nat}{L:LoopState→Option JX→aj2}{K:IV→Store→Prop}:cn5 id L K (.exit i) fr σ=(σ.obj id=some (L .busy none)∧K (.bool false) (σ.put id (L .done (some (.exit i))))):=nr rfl
theorem gx9:ct7 fr [] []=fr:=nr rfl
theorem gy1 {p:Nat}{ps:List Nat}{v:IV}{vs:List IV}:ct7 fr (p::ps) (v::vs)=ct7 (fr.set p v) ps vs:=nr rfl
theorem io2 {p:Nat}{v:IV}:fr.set p v=(p,v)::fr:=nr rfl
def goQ (id n:Nat)(L:LoopState→Option JX→aj2)(J:List (List IV)→Store→Prop)(Q:Exit→Frm→Store→Prop)(fr:Frm)(rest:List (List IV)):IV→Store→Prop:=fun v s=>
 n≤s.next∧((v=.bool true∧s.obj id=some (L .ready none)∧J rest s)∨(v=.bool false∧∃ st pend,st≠.busy∧s.obj id=some (L st pend)∧gw7 Q fr (s.kill id) pend))
theorem dg9 {id n:Nat}{L:LoopState→Option JX→aj2}{J:List (List IV)→Store→Prop}{Q:Exit→Frm→Store→Prop}{rest:List (List IV)}(h1:n≤σ.next)(h2:σ.obj id=some (L .ready none))(h3:J rest σ):goQ id n L J Q fr rest (.bool true) σ:=⟨h1,.inl ⟨rfl,h2,h3⟩⟩
theorem co4 {id n:Nat}{L:LoopState→Option JX→aj2}{J:List (List IV)→Store→Prop}{Q:Exit→Frm→Store→Prop}{rest:List (List IV)}(h1:n≤σ.next)(h2:σ.obj id=some (L .done (some .ret)))(h3:Q .ret fr (σ.kill id)):goQ id n L J Q fr rest (.bool false) σ:=⟨h1,.inr ⟨rfl,.done,some .ret,(fun h=>by cases h),h2,h3⟩⟩
theorem co5 {g:IX}{ps:List Nat}{y x:IC}{Q:Exit→Frm→Store→Prop}{evs:List (List IV)}{own:Store→Prop}(hT:ei3 P E (g.ev E fr) evs own)
  (J:List (List IV)→Store→Prop) (hown:∀ rest s,J rest s→own s) (hstab:il4 J) (hlen:∀ a∈evs,a.length=ps.length)
  (hinit:∀ o,J evs ⟨σ.next+1,(σ.put σ.next o).obj⟩)
  (hbody:∀ (L:LoopState→Option JX→aj2) (pre:List (List IV)) (a:List IV) (rest:List (List IV)) (s:Store),evs=pre++a::rest→J (a::rest) s→s.obj σ.next=some (L .ready none)→σ.next<s.next →
   wpT noP noC P E N s.next y (ct7 fr ps a) s (iu9 P E N s.next σ.next L x (goQ σ.next s.next L J Q fr rest)))
  (hend:∀ s o,J [] s→σ.next<s.next→s.obj σ.next=some o→Q .normal fr (s.kill σ.next)) :
  RI P E N n0 (.bh2 g ps y x) fr σ Q:=by
 refine gc8 fun L hL=>?_
 let I:List (List IV)→Store→Prop:=fun rest s=>(∃ pre,evs=pre++rest)∧s.obj σ.next=some (L .ready none)∧σ.next<s.next∧J rest s
 let S:Store→Prop:=fun s=>∃ st pend,st≠.busy∧s.obj σ.next=some (L st pend)∧gw7 Q fr (s.kill σ.next) pend
 have hI:il4 I:=by
  rintro rest s s' ⟨hp,h1,h2,h3⟩ hn hs;exact ⟨hp,by rw[hs _ h2]; exact h1,Nat.lt_of_lt_of_le h2 hn,hstab rest s s' h3 hn hs⟩
 have hst:gd9 P E σ.next I S:=by
  rintro a rest s ⟨⟨pre,hp⟩,h1,h2,h3⟩;refine ⟨by rw[h1]; rfl,?_⟩;have hb:=hbody L pre a rest s hp h3 h1 h2;refine hL s a _ (hlen a (by rw[hp]; simp)) h1 ?_;refine (bg9 y _ _ _ (bu7 y _ _ _ _ ?_ (bb9 noT y _ _ _ hb)));intro e f s1 q
  cases e with
  | normal=>
   refine ⟨rfl,q.1,?_⟩;refine (bg9 x _ _ _ (bu7 x _ _ _ _ ?_ (bb9 noT x _ _ _ q.2)))
   have hK:∀ v s2,goQ σ.next s.next L J Q fr rest v s2→s.next≤s2.next∧((v=.bool true∧I rest s2)∨(v=.bool false∧S s2)):=by
    rintro v s2 ⟨hn,h|h⟩
    ·exact ⟨hn,.inl ⟨h.1,⟨pre++[a],by rw[hp]; simp⟩,h.2.1,Nat.lt_of_lt_of_le h2 hn,h.2.2⟩⟩
    ·exact ⟨hn,.inr ⟨h.1,h.2⟩⟩
   intro e f s2 q2
   cases e with
   | normal=>exact ⟨q2.1,hK _ _ q2.2⟩
   | ret=>exact ⟨q2.1,hK _ _ q2.2⟩
   | exit i=>exact ⟨q2.1,hK _ _ q2.2⟩
   | _=>exact q2
  | _=>exact q.elim
 have h:=hT σ.next I S ⟨σ.next+1,(σ.put σ.next (L .ready none)).obj⟩ (fun rest s h=>hown rest s h.2.2.2) hI hst ⟨⟨[],rfl⟩,by simp only[aa4,if_true],Nat.lt_succ_self _,hinit _⟩;refine h.mono ?_;rintro v s ⟨hn,h|h⟩
 ·exact ⟨Nat.le_of_lt hn,.ready,none,(fun h=>by cases h),h.2.1,hend s _ h.2.2.2 h.2.2.1 h.2.1⟩
 ·exact ⟨Nat.le_of_lt hn,h⟩
theorem ci8 {yid:Nat}{I:List (List IV)→Store→Prop}{S:Store→Prop}{a:List IV}{rest:List (List IV)}{K:IV→Store→Prop}(h:gd9 P E yid I S)(hi:I (a::rest) σ)
  (h1:∀ s,σ.next≤s.next→I rest s→K (.bool true) s) (h2:∀ s,σ.next≤s.next→S s→K (.bool false) s):fp4 noC P E (.yield yid) a σ K:=by
 refine ⟨_,h a rest σ hi,?_⟩;rintro v s ⟨hn,⟨rfl,h⟩|⟨rfl,h⟩⟩
 ·exact ⟨hn,h1 s hn h⟩
 ·exact ⟨hn,h2 s hn h⟩
theorem fn6 {i:Nat}:(σ.kill i).next=σ.next:=nr rfl
theorem ge5 {i j:Nat}:(σ.kill i).obj j=if j=i then none else σ.obj j:=nr rfl
attribute [go_sem] fn6 ge5
attribute [go_sem] in7 in8 in9 io1 gx9 gy1 io2
end Go.Id
/- Rows that grow,one by one; what is done with,as trees. Conditions: none; over any program. -/
namespace Go.Id
open Go
variable {P:Program} {E:Nat→IV} {σ σ':Store} {N n0:Nat} {fr:Frm}
def io3 (σ:Store):IV→Prop
 | .ac2 _=>True
 | .ptr i _=>match σ.obj i with
  | some (.cells _)=>True
  | _=>False
 | _=>False
def iv1:Option aj2→Prop
 | some (.cells _)=>True
 | _=>False
theorem ib6 {ag:Option Nat}{x:IX}:by1 E fr σ (.q (.load ag x))=io3 σ (x.ev E fr):=nr rfl
theorem b_t {cs:List IV}:io3 σ (.ac2 cs)=True:=nr rfl
theorem b_p {i o:Nat}:io3 σ (.ptr i o)=iv1 (σ.obj i):=nr rfl
theorem b_o {cs:List IV}:iv1 (some (.cells cs))=True:=nr rfl
theorem io4 {x:IX}:by1 E fr σ (.q (.mov x))=True:=nr rfl
theorem gy2 {n:Nat}{x:IX}:by1 E fr σ (.q (.aa9 n x))=True:=nr rfl
theorem ib7 {x:IX}:by1 E fr σ (.q (.al8 x))=True:=nr rfl
theorem io5 {n:Nat}{x:IX}:by1 E fr σ (.q (.len n x))=True:=nr rfl
theorem io6 {n:Nat}{z:IV}{b:Bool}{x y:IX}:by1 E fr σ (.q (.lkp n z b x y))=True:=nr rfl
theorem io7 {z:List IV}{ps:List (Nat×Nat×IX)}:by1 E fr σ (.q (.bld z ps))=True:=nr rfl
theorem io8 {op:BinOp}{x y:IX}:by1 E fr σ (.q (.bin op x y))=True:=nr rfl
theorem gy3 {n:Nat}{x y:IX}:by1 E fr σ (.q (.ab2 n x y))=True:=nr rfl
theorem ib8 {k:IntKind}{x:IX}:by1 E fr σ (.q (.conv k x))=True:=nr rfl
theorem io9 {n:Nat}{x:IX}:by1 E fr σ (.q (.ext n x))=True:=nr rfl
theorem ib9 {x y z:IX}:by1 E fr σ (.q (.pick x y z))=True:=nr rfl
theorem ip1 {x:IX}:by1 E fr σ (.q (.not x))=True:=nr rfl
theorem gy4 {f:Nat}{xs:List IX}:by1 E fr σ (.ag1 f xs)=True:=nr rfl
theorem ic1 {e n:Nat}{z:List IV}{ps:List (Nat×Nat×IX)}:by1 E fr σ (.aw2 e n z ps)=True:=nr rfl
theorem ip2 {e n:Nat}{z:List IV}{ps:List (Nat×Nat×IX)}:by1 E fr σ (.bsl e n z ps)=True:=nr rfl
theorem ip3 {e:Nat}{x y:IX}:by1 E fr σ (.app e x y)=True:=nr rfl
theorem gy5 {n:Nat}{x y:IX}:by1 E fr σ (.store n x y)=True:=nr rfl
theorem ic2 {n:Nat}{x y z:IX}:by1 E fr σ (.dh6 n x y z)=True:=nr rfl
theorem gy6 {z:List IV}:by1 E fr σ (.alloc z)=True:=nr rfl
attribute [go_sem] ib6 b_t b_p b_o io4 gy2 ib7 io5 io6 io7 io8 gy3 ib8 io9 ib9 ip1 gy4 ic1 ip2 ip3 gy5 ic2 gy6
def Grow (σ:Store)(v:IV)(esz:Nat)(es:List (List IV)):Prop :=
 (v=.aa1∧es=[])∨∃ id,v=.slice id 0 es.length esz∧σ.obj id=some (.row es.flatten)∧id<σ.next
def ak3 (v:IV)(σ:Store):Store:=match v with
 | .slice id _ _ _=>σ.kill id
 | _=>σ
theorem ar3 {esz:Nat}{es:List (List IV)}(h:∀ e∈es,e.length=esz):es.flatten.length=es.length*esz:=by
 induction es with
 | nil=>simp
 | cons e es ih=>simp[ih (fun x hx=>h x (List.mem_cons_of_mem _ hx)),h e (List.mem_cons_self ..),Nat.add_mul]; omega
theorem fn8 {esz:Nat}{es:List (List IV)}(h:∀ e∈es,e.length=esz)(i j:Nat)(hi:i<es.length)(hj:j<esz):es.flatten.getD (i*esz+j) .undef=(es.getD i []).getD j .undef:=by
 induction es generalizing i with
 | nil=>simp at hi
 | cons e es ih=>
  have he:=h e (List.mem_cons_self ..)
  cases i with
  | zero=>simp[List.getD_eq_getElem?_getD,List.getElem?_append,he,hj]
  | succ i=>
   have h1:¬ ((i+1)*esz+j<e.length):=by rw[he,Nat.add_mul]; omega
   have h2:(i+1)*esz+j-e.length=i*esz+j:=by rw[he,Nat.add_mul]; omega
   have:=ih (fun x hx=>h x (List.mem_cons_of_mem _ hx)) i (by simpa using hi);simp only[List.getD_eq_getElem?_getD,List.flatten_cons,List.getElem?_append,if_neg h1,h2,List.getElem?_cons_succ] at this ⊢;exact this
theorem bh5 {es:List (List IV)}(h:∀ e∈es,e.all IV.leaf=true):es.flatten.all IV.leaf=true:=by
 simp only[List.all_eq_true,List.mem_flatten];rintro c ⟨e,he,hc⟩;exact List.all_eq_true.1 (h e he) c hc
theorem am7 {v:IV}{esz nid:Nat}{es:List (List IV)}{e:List IV}(hg:Grow σ v esz es)(h:∀ x∈es,x.length=esz∧x.all IV.leaf=true)(he:e.length=esz∧e.all IV.leaf=true)(hn:es.length<2147483648) :
  bd4 σ nid esz v (.aa3 [e])=some (.slice nid 0 (es.length+1) esz,(ak3 v σ).put nid (.row (es++[e]).flatten)):=by
 have hsrc:bg6 σ esz (.aa3 [e])=some (1,e):=by simp[bg6,he.1]
 have hl:e.all IV.leaf=true:=he.2;rcases hg with ⟨rfl,rfl⟩|⟨id,rfl,ho,hid⟩
 ·unfold bd4;rw[hsrc];simp[hl,ak3]
 ·unfold bd4;rw[hsrc];have h1:es.flatten.all IV.leaf=true:=bh5 fun x hx=>(h x hx).2
  have h2:es.flatten.length=es.length*esz:=ar3 fun x hx=>(h x hx).1
  simp[hl,ho,ak3,h1,h2];omega
theorem Grow.new {v:IV}{esz nid:Nat}{es:List (List IV)}{e:List IV}(hlt:nid<σ'.next)(ho:σ'.obj nid=some (.row (es++[e]).flatten)):Grow σ' (.slice nid 0 (es.length+1) esz) esz (es++[e]):=
 .inr ⟨nid,by simp,ho,hlt⟩
theorem ah2 (v:IV):(ak3 v σ).next=σ.next:=by cases v<;>rfl
theorem ah3 {v:IV}{esz:Nat}{es:List (List IV)}(hg:Grow σ v esz es)(i:Nat)(o:aj2)(ho:σ.obj i=some o)(hr:∀ cs,o≠.row cs):(ak3 v σ).obj i=some o:=by
 rcases hg with ⟨rfl,rfl⟩|⟨id,rfl,ho',hid⟩
 ·exact ho
 ·show (if i=id then none else σ.obj i)=some o;rw[if_neg]
  ·exact ho
  ·intro e; subst e; rw[ho] at ho'; cases ho'; exact hr _ rfl
theorem Grow.frz {S:Nat→Prop}{v:IV}{esz:Nat}{es:List (List IV)}(hg:Grow σ v esz es)(h:∀ x∈es,x.length=esz)(hS:∀ id,v=.slice id 0 es.length esz→¬ S id)(hb:∀ e∈es,∀ c∈e,Nm S c):Frz σ S v (.aa3 es):=by
 rcases hg with ⟨rfl,rfl⟩|⟨id,rfl,ho,hid⟩
 ·exact .ch1
 ·refine .slice id 0 es.length esz es.flatten es (hS id rfl) (.inr ho) rfl (by rw[ar3 h]; omega) (fun i hi=>h _ (ad5 _ hi)) (fun i hi j hj=>?_);rw[Nat.zero_add,fn8 h i j hi hj];exact .keep _ (hb _ (ad5 _ hi) _ (ad5 _ (by rw[h _ (ad5 _ hi)]; exact hj)))
theorem Grow.mono {v:IV}{esz:Nat}{es:List (List IV)}(hg:Grow σ v esz es)(hn:σ.next≤σ'.next)(h:∀ id,v=.slice id 0 es.length esz→id<σ.next→σ'.obj id=σ.obj id):Grow σ' v esz es:=by
 rcases hg with h0|⟨id,rfl,ho,hid⟩
 ·exact .inl h0
 ·exact .inr ⟨id,rfl,by rw[h id rfl hid]; exact ho,Nat.lt_of_lt_of_le hid hn⟩
theorem Grow.ne {v:IV}{esz id:Nat}{es:List (List IV)}{i:Nat}{o:aj2}(hg:Grow σ v esz es)(hv:v=.slice id 0 es.length esz)(ho:σ.obj i=some o)(hr:∀ cs,o≠.row cs):id≠i:=by
 intro e;subst e;rcases hg with ⟨rfl,_⟩|⟨id',rfl,ho',_⟩
 ·cases hv
 ·cases hv;rw[ho] at ho';cases ho';exact hr _ rfl
theorem bz2 {did esz nid:Nat}{es:List (List IV)}(ho:σ.obj did=some (.row []))(hne:es≠[])(h:∀ x∈es,x.length=esz∧x.all IV.leaf=true)(hn:es.length≤2147483648) :
  bd4 σ nid esz (.slice did 0 0 esz) (.aa3 es)=some (.slice nid 0 es.length esz,(σ.kill did).put nid (.row es.flatten)):=by
 have hsrc:bg6 σ esz (.aa3 es)=some (es.length,es.flatten):=by
  simp only[bg6];rw[if_pos (by simpa using fun x hx=>(h x hx).1)]
 have h1:es.flatten.all IV.leaf=true:=bh5 fun x hx=>(h x hx).2
 have h0:es.length≠0:=fun e=>hne (List.length_eq_zero_iff.1 e)
 unfold bd4;rw[hsrc];simp[h1,ho,h0,hn]
theorem bk6 {did esz nid:Nat}{x:IV}(ho:σ.obj did=some (.row []))(hx:bg6 σ esz x=some (0,[])):bd4 σ nid esz (.slice did 0 0 esz) x=some (.slice did 0 0 esz,σ):=by
 unfold bd4;rw[hx];simp[ho]
theorem av4 {esz:Nat}{es:List (List IV)}(h:∀ e∈es,e.length=esz)(j:Nat)(hj:j<es.length):(es.flatten.drop (j*esz)).take esz=es.getD j []:=by
 induction es generalizing j with
 | nil=>simp at hj
 | cons e es ih=>
  have he:=h e (List.mem_cons_self ..)
  cases j with
  | zero=>simp[he]
  | succ j=>
   have h2:(j+1)*esz=e.length+j*esz:=by rw[he,Nat.add_mul]; omega
   rw[List.flatten_cons,h2,List.drop_append,List.drop_of_length_le (by omega),List.nil_append,show e.length+j*esz-e.length=j*esz from by omega];exact ih (fun x hx=>h x (List.mem_cons_of_mem _ hx)) j (by simpa using hj)
theorem bb7 {l vs:List IV}{off:Nat}(h:(l.drop off).take vs.length=vs)(hl:off+vs.length≤l.length):ao8 l off vs=l:=by
 unfold ao8
 have h1:l.drop off=vs++l.drop (off+vs.length):=by
  rw[← List.drop_drop]
  conv=>lhs; rw[← List.take_append_drop vs.length (l.drop off)]
  rw[h]
 rw[List.append_assoc,← h1,List.take_append_drop]
theorem ei4 {f:Nat}{Q:IV→Store→Prop}(h1:C P E f [.aa1] σ Q)(h2:C P E f [.ae6] σ Q):C P E f [.aa3 []] σ Q:=by
 intro ρ w rargs hs hr;have hv:=gr5 hr;generalize hx:rargs.getD 0 undef=r at hv
 cases hv with
 | bx8=>exact h1 ρ w rargs hs (ei1 hr (by rw[hx]; exact .aa1))
 | aa3 es b o cap esz sp vs hf hsz hc hv hle=>exact h2 ρ w rargs hs (ei1 hr (by rw[hx]; exact .ae6 _ _))
inductive fz8 (σ:Store) (S:Nat→Prop):List IV→List IV→Prop
 | nil:fz8 σ S [] []
 | cons {v v':IV} {vs vs':List IV} (h:Frz σ S v v') (t:fz8 σ S vs vs'):fz8 σ S (v::vs) (v'::vs')
theorem fz8.at {S:Nat→Prop}{cs cs':List IV}(h:fz8 σ S cs cs'):cs'.length=cs.length∧∀ i,i<cs.length→Frz σ S (cs.getD i .undef) (cs'.getD i .undef):=by
 induction h with
 | nil=>exact ⟨rfl,fun i hi=>absurd hi (Nat.not_lt_zero _)⟩
 | cons h _ ih=>
  refine ⟨by simp only[List.length_cons,ih.1],fun i hi=>?_⟩
  cases i with
  | zero=>exact h
  | succ i=>exact ih.2 i (by simpa using hi)
theorem Frz.il5 {S:Nat→Prop}{cs cs':List IV}(h:fz8 σ S cs cs'):Frz σ S (.agg cs) (.agg cs'):=.agg _ _ h.at.1 h.at.2
theorem Frz.ch2 {S:Nat→Prop}{cs cs':List IV}(h:fz8 σ S cs cs'):Frz σ S (.tuple cs) (.tuple cs'):=.tuple _ _ h.at.1 h.at.2
theorem iw9:((0:Nat):Int)=0:=nr rfl
theorem ix1:((1:Nat):Int)=1:=nr rfl
theorem ix2:((2:Nat):Int)=2:=nr rfl
theorem ix3:((3:Nat):Int)=3:=nr rfl
theorem ix4:((4:Nat):Int)=4:=nr rfl
theorem ix5:((5:Nat):Int)=5:=nr rfl
theorem ix6:((6:Nat):Int)=6:=nr rfl
theorem ix7:((7:Nat):Int)=7:=nr rfl
theorem ix8:((8:Nat):Int)=8:=nr rfl
theorem ix9:((9:Nat):Int)=9:=nr rfl
theorem ip4:((10:Nat):Int)=10:=nr rfl
theorem ip5:((11:Nat):Int)=11:=nr rfl
theorem ip6:((12:Nat):Int)=12:=nr rfl
theorem ip7:((13:Nat):Int)=13:=nr rfl
theorem ip8:((14:Nat):Int)=14:=nr rfl
theorem ip9:((15:Nat):Int)=15:=nr rfl
theorem iq1:((16:Nat):Int)=16:=nr rfl
attribute [go_sem] iw9 ix1 ix2 ix3 ix4 ix5 ix6 ix7 ix8 ix9 ip4 ip5 ip6 ip7 ip8 ip9 iq1 List.getD_cons_zero List.getD_cons_succ
theorem iy1:IntKind.i64.wrap 0=0:=nr rfl
theorem iy2:IntKind.i64.wrap 1=1:=nr rfl
theorem iy3:IntKind.i64.wrap 2=2:=nr rfl
theorem iy4:IntKind.i64.wrap 3=3:=nr rfl
theorem iy5:IntKind.i64.wrap 4=4:=nr rfl
theorem iy6:IntKind.i64.wrap 5=5:=nr rfl
theorem iy7:IntKind.i64.wrap 6=6:=nr rfl
theorem iy8:IntKind.i64.wrap 7=7:=nr rfl
theorem iy9:IntKind.i64.wrap 8=8:=nr rfl
theorem iz1:IntKind.i64.wrap 9=9:=nr rfl
theorem iq2:IntKind.i64.wrap 10=10:=nr rfl
theorem iq3:IntKind.i64.wrap 11=11:=nr rfl
theorem iq4:IntKind.i64.wrap 12=12:=nr rfl
theorem iq5:IntKind.i64.wrap 13=13:=nr rfl
theorem iq6:IntKind.i64.wrap 14=14:=nr rfl
theorem iq7:IntKind.i64.wrap 15=15:=nr rfl
theorem iq8:IntKind.i64.wrap 16=16:=nr rfl
attribute [go_sem] iy1 iy2 iy3 iy4 iy5 iy6 iy7 iy8 iy9 iz1 iq2 iq3 iq4 iq5 iq6 iq7 iq8
theorem ic4 {ag:Option Nat}{n m:Nat}:irL σ fr [.cell ag n,.t m]=(au8 σ ag (fr.get n)).map fun v=>[v,fr.get m]:=by
 simp only[irL,irV]; cases au8 σ ag (fr.get n)<;>rfl
attribute [go_sem] ic4 ai2
end Go.Id
/- Answers that are known,looked up; and what they are good for. Conditions: none; over any program. -/
namespace Go.Id
open Go
variable {P:Program} {E:Nat→IV}
def co6 (r:IV→IV→Bool):List IV→List IV→Bool
 | [],[]=>true
 | a::x,b::y=>r a b&&co6 r x y
 | _,_=>false
theorem bd9 {r:IV→IV→Bool}(hr:∀ a b,r a b=true→a=b):∀ x y:List IV,co6 r x y=true→x=y:=by
 intro x
 induction x with
 | nil=>intro y h; cases y with
  | nil=>rfl
  | cons b y=>cases h
 | cons a x ih=>intro y h; cases y with
  | nil=>cases h
  | cons b y=>
   simp only[co6,Bool.and_eq_true] at h;rw[hr a b h.1,ih y h.2]
def dp5 (r:IV→IV→Bool):List (List IV)→List (List IV)→Bool
 | [],[]=>true
 | a::x,b::y=>co6 r a b&&dp5 r x y
 | _,_=>false
theorem dp6 {r:IV→IV→Bool}(hr:∀ a b,r a b=true→a=b):∀ x y:List (List IV),dp5 r x y=true→x=y:=by
 intro x
 induction x with
 | nil=>intro y h; cases y with
  | nil=>rfl
  | cons b y=>cases h
 | cons a x ih=>intro y h; cases y with
  | nil=>cases h
  | cons b y=>
   simp only[dp5,Bool.and_eq_true] at h;rw[bd9 hr a b h.1,ih y h.2]
def ge6:List UInt8→List UInt8→Bool
 | [],[]=>true
 | a::x,b::y=>Nat.beq a.toNat b.toNat&&ge6 x y
 | _,_=>false
theorem ge7:∀ x y:List UInt8,ge6 x y=true→x=y:=by
 intro x
 induction x with
 | nil=>intro y h; cases y with
  | nil=>rfl
  | cons b y=>cases h
 | cons a x ih=>intro y h; cases y with
  | nil=>cases h
  | cons b y=>
   simp only[ge6,Bool.and_eq_true] at h;rw[UInt8.toNat_inj.1 (Nat.eq_of_beq_eq_true h.1),ih y h.2]
def ge8:Nat→IV→IV→Bool
 | 0,_,_=>false
 | n+1,a,b=>match a with
  | .bool x=>match b with
   | .bool y=>match x,y with
    | true,true=>true
    | false,false=>true
    | _,_=>false
   | _=>false
  | .int k x=>match b with
   | .int k' y=>decide (k=k')&&decide (x=y)
   | _=>false
  | .str x=>match b with
   | .str y=>ge6 x y
   | _=>false
  | .ab6=>match b with
   | .ab6=>true
   | _=>false
  | .ac2 x=>match b with
   | .ac2 y=>co6 (ge8 n) x y
   | _=>false
  | .aa3 x=>match b with
   | .aa3 y=>dp5 (ge8 n) x y
   | _=>false
  | .agg x=>match b with
   | .agg y=>co6 (ge8 n) x y
   | _=>false
  | .tuple x=>match b with
   | .tuple y=>co6 (ge8 n) x y
   | _=>false
  | .iface t x=>match b with
   | .iface t' y=>Nat.beq t t'&&ge8 n x y
   | _=>false
  | .ag2=>match b with
   | .ag2=>true
   | _=>false
  | .ag6=>match b with
   | .ag6=>true
   | _=>false
  | .ac8=>match b with
   | .ac8=>true
   | _=>false
  | .aa1=>match b with
   | .aa1=>true
   | _=>false
  | _=>false
theorem gy7:∀ (n:Nat) (a b:IV),ge8 n a b=true→a=b:=by
 intro n
 induction n with
 | zero=>intro a b h; cases h
 | succ n ih=>
  intro a b h;cases a<;>simp only[ge8] at h<;>(try cases h)<;>split at h<;>(try cases h)<;>(try rfl)
  ·split at h<;>(try cases h)<;>rfl
  ·simp only[Bool.and_eq_true,decide_eq_true_eq] at h; rw[h.1,h.2]
  ·rw[ge7 _ _ h]
  ·rw[bd9 ih _ _ h]
  ·rw[dp6 ih _ _ h]
  ·simp only[Bool.and_eq_true] at h; rw[Nat.eq_of_beq_eq_true h.1,ih _ _ h.2]
  ·rw[bd9 ih _ _ h]
  ·rw[bd9 ih _ _ h]
abbrev hr7:=List (Nat×List IV×IV)
def hr7.get:hr7→Nat→List IV→Option IV
 | [],_,_=>none
 | (k,as,v)::r,f,args=>match Nat.beq k f with
  | true=>match co6 (ge8 1000) as args with
   | true=>some v
   | false=>hr7.get r f args
  | false=>hr7.get r f args
def MOK (P:Program)(E:Nat→IV)(M:hr7):Prop:=∀ e∈M,okF P e.1=true∧PC P E e.1 e.2.1 e.2.2
theorem MOK.nil:MOK P E []:=fun _ h=>by cases h
theorem MOK.cons {M:hr7}{k:Nat}{as:List IV}{v:IV}(hk:okF P k=true)(h:PC P E k as v)(hM:MOK P E M):MOK P E ((k,as,v)::M):=fun e he=>by
 rcases List.mem_cons.1 he with rfl|he
 ·exact ⟨hk,h⟩
 ·exact hM e he
theorem gy8 {l:List (Nat×List IV)}(h:l.all (fun x=>x.2.all (aq2 1000))=true):∀ g,Bnd 0 (fb1 l g):=by
 intro g;unfold fb1
 cases hg:l.lookup g with
 | none=>exact .undef
 | some cs=>
  have hm:∃ x∈l,x.2=cs:=by
   clear h
   induction l with
   | nil=>cases hg
   | cons x l ih=>
    obtain ⟨a,b⟩:=x;simp only[List.lookup] at hg;split at hg
    ·cases hg; exact ⟨_,List.mem_cons_self ..,rfl⟩
    ·obtain ⟨x,h1,h2⟩:=ih hg; exact ⟨x,List.mem_cons_of_mem _ h1,h2⟩
  obtain ⟨x,h1,rfl⟩:=hm;exact .ac2 _ fun c hc=>at5 1000 c (List.all_eq_true.1 (List.all_eq_true.1 h x h1) c hc)
end Go.Id
