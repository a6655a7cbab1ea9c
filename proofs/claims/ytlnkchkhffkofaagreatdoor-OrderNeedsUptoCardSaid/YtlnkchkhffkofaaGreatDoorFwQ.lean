/- Loops that go up; rows read by their places; runes of a string; what a yield is told. Conditions: none; over any program. -/
import Derived.Test.YtlnkchkhffkofaaGreatDoorFwW
import Derived.Test.YtlnkchkhffkofaaGreatDoorT6
set_option linter.all false
namespace Go.Id
open Go
variable {P:Program} {E:Nat→IV} {σ σ':Store} {N n0:Nat} {fr:Frm}
def upQ (I:Nat→Frm→Store→Prop)(i n:Nat)(Q:Exit→Frm→Store→Prop):Exit→Frm→Store→Prop
 | .normal,fr,σ=>i<n∧I (i+1) fr σ
 | e,fr,σ=>Q e fr σ
theorem ix6 {I:Nat→Frm→Store→Prop}{i n:Nat}{Q:Exit→Frm→Store→Prop}:upQ I i n Q .normal fr σ=(i<n∧I (i+1) fr σ):=nr rfl
theorem ix7 {I:Nat→Frm→Store→Prop}{i n k:Nat}{Q:Exit→Frm→Store→Prop}:upQ I i n Q (.exit k) fr σ=Q (.exit k) fr σ:=nr rfl
theorem ix8 {I:Nat→Frm→Store→Prop}{i n:Nat}{Q:Exit→Frm→Store→Prop}:upQ I i n Q .ret fr σ=Q .ret fr σ:=nr rfl
theorem ab7 {pt:PT}{ct:CT}(hT:TOK P E pt ct){x:IC}{Q:Exit→Frm→Store→Prop}(I:Nat→Frm→Store→Prop)(n:Nat)(h:I 0 fr σ)
  (hI:∀ i fr σ,i≤n→I i fr σ→wpT pt ct P E N n0 x fr σ (upQ I i n Q)):RI P E N n0 (.loop x) fr σ Q:=by
 refine fj7 (fun m fr σ=>∃ i,i≤n∧m=n-i∧I i fr σ) n ⟨0,Nat.zero_le _,rfl,h⟩ ?_;rintro m fr σ ⟨i,hi,rfl,hi0⟩;refine bs8 x fr σ _ _ ?_ (ba6 hT x fr σ _ (hI i fr σ hi hi0));intro e f s q
 cases e with
 | normal=>exact ⟨n-(i+1),by have:=q.1; omega,i+1,q.1,rfl,q.2⟩
 | _=>exact q
theorem ah3 {α:Type}(es:List α)(i:Nat)(h:i<es.length):∃ a,a∈es∧es[i]? = some a∧es.drop i=a::es.drop (i+1)∧(∀ (f:α→List IV),(es.map f).getD i []=f a)∧es.take (i+1)=es.take i++[a]:=
 ⟨es[i],List.getElem_mem h,List.getElem?_eq_getElem h,List.drop_eq_getElem_cons h,fun f=>by simp[List.getD_eq_getElem?_getD,h],by rw[List.take_add_one,List.getElem?_eq_getElem h]; rfl⟩
/-! ### Runes -/
theorem fm3 (s:List UInt8)(i:Nat)(h:i<s.length):((⟨s.toArray⟩:ByteArray).get! i)=s[i]:=by
 show (s.toArray)[i]! = s[i];simp[h]
theorem ep5 (s:List UInt8)(i:Nat)(h:i<s.length)(hb:s[i].toNat<128):Utf8.decode ⟨s.toArray⟩ i=(s[i].toNat,1):=by
 unfold Utf8.decode;simp only[Nat.add_zero,fm3 s i h];rw[if_pos hb]
theorem decode_high (s:List UInt8)(i:Nat)(h:i<s.length)(hb:¬ s[i].toNat<128):128≤(Utf8.decode ⟨s.toArray⟩ i).1:=by
 unfold Utf8.decode;simp only[Nat.add_zero,fm3 s i h];rw[if_neg hb];have e:Utf8.runeError=65533:=rfl
 repeat' split
 all_goals first|(rw[e]; omega)|(simp only[ge_iff_le,Bool.and_eq_true,decide_eq_true_eq] at *; omega)
/-! ### What a yield is told -/
def ge6 (P:Program)(E:Nat→IV)(id:Nat)(I:List (List IV)→Store→Prop)(S:Store→Prop):Prop :=
 ∀ a rest σ,I (a::rest) σ→CV P E (.yield id) a σ fun v s=>σ.next≤s.next∧((v=.bool true∧I rest s)∨(v=.bool false∧S s))
end Go.Id
/- The walk's rewriting rules,marked. Conditions: none; over any program. -/
namespace Go.Id
open Go
attribute [go_sem] cv4 cv5 bx9 bi7 cv6 by1 cv7 by2 eq8 hp5 eq5 eq6 cv8 by3 cv9 by4 by5 bi8 cw1 w_q by6
 eq9 er1 by7 er2 by9 bi9 by8 cw2 cw3 cw4 bz1 bj1 er3 cw5 er4 cw6 bz2 bz3 cw7 er5
 er6 er7 er8 er9 es3 es4 es5 es6 es7 cw8 es8 cw9 es9 cx1 bz4 cx2 cx6 et1 hq6 hq7 et2 et3 et4 et5
 et6 et7 et8 et9 eu1 eu2 cx7 bz5 bj2 ba7 bz6 bj3 cx3 cx4 cx5 bz7 hp9 hq5 ba9 bj7
 ca9 cb1 cb2 ca8 cz1 e_t e_c e_g e_f eu3 cx8 eu4 eu5 eu6 an6 eu7 cx9 bz8 eu8 bz9 eu9 ca1
 ca2 ev1 cy1 ev2 cy2 ev3 ev4 ev5 ev6 cy3 cy4 dz8 gs8 dr1 dz7 ca3 ca4 cy5 cy6 ca5 ca6 hq9
 bj4 cy7 cy8 cy9 bj5 ca7 ba8 bj6 bj8 cb3 bj9 bk1 cz2 cz3 dz9 ea1 cb4 cb5
 cb6 cb7 cz4 cz5 cb8 bk2 ev7 ev8 ev9 ew1 ew2 ew3 ew4 ew5 ew6 ew7 ew8 dr2 ea2 cz6 cz7 cz8
 cz9 da1 da2 da3 da4 da5 da6 id5 id6 id7 id8 bd9 bk3 cb9 cc1 cc2 da7 da8 da9 db1 ew9 ex1 db2 ex2
 cc3 cc4 cc5 ex5 bg2 gs9 db9 cc6 cc7 bk4 bd2 bs9 ex3 ch6 bk5 ex4 ch7 bk6 bk7 cc8
 cc9 cd1 cd2 bk8 cd3 cd4 bk9 bb1 av5 bl4 cd5 bl5 db3 db4 db5 cd6 bl6
 cd7 cd8 bl7 bb2 av6 bl8 cd9 bl9 db6 db7 db8 Frm.ay2 Frm.get_nil aa8 aa2 ix6 ix7
 ix8 dz8 gs8 dr1 dz7 ir8 id4 
attribute [go_sem] List.getElem?_cons_zero List.getElem?_cons_succ List.all_cons List.all_nil List.drop_zero List.drop_succ_cons List.head?_cons Bool.and_true Bool.and_self List.append_nil List.nil_append List.cons_append Bool.false_eq_true Bool.xor_false Bool.xor_true Bool.not_true Bool.not_false Nat.add_zero Nat.zero_add Nat.succ_ne_zero if_true if_false true_and and_true
end Go.Id
namespace Go.Id
open Go
variable {P:Program} {E:Nat→IV} {σ σ':Store} {N n0:Nat} {fr:Frm} {pf:List Nat}
/-! ### By the tables of the seat -/
theorem as8 {f:Nat}{ic:IC}{irs:List IR}{args:List IV}{v:IV}(hf:FOK P f (N,ic,irs))(hl:args.length≤N)
  (h:∀ σ,wpT noP noC P E N σ.next ic (bd1 args 0) σ (fo4 irs fun v' σ'=>v'=v∧σ'=σ)):PC P E f args v:=by
 obtain ⟨_,pf,an,h1⟩:=hf;exact ja5 noT h1 hl h
theorem C_f {f:Nat}{ic:IC}{irs:List IR}{args:List IV}{Qc:IV→Store→Prop}(hf:FOK P f (N,ic,irs))(hl:args.length≤N)
  (h:wpT noP noC P E N σ.next ic (bd1 args 0) σ (fo4 irs Qc)):C P E f args σ Qc:=by
 obtain ⟨_,pf,an,h1⟩:=hf;exact C_T noT h1 hl h
def emp:Store:=⟨0,fun _=>none⟩
theorem ge7:emp.next=0:=nr rfl
theorem gy7 {i:Nat}:emp.obj i=none:=nr rfl
attribute [go_sem] ge7 gy7
theorem ar1 {f:Nat}{ic:IC}{irs:List IR}{args:List IV}{v:IV}(hE:∀ g,Bnd 0 (E g))(hf:FOK P f (N,ic,irs))(hl:args.length≤N)(ha:∀ a∈args,Bnd 0 a)
  (h:wpT noP noC P E N 0 ic (bd1 args 0) emp (fo4 irs fun v' σ'=>dc1 σ' 0 v' v)):PC P E f args v :=
 eh3 hE ha (C_f (σ:=emp) hf hl h)
theorem aa5 {f:Nat}{e:FE}{args:List IV}{v:IV}{K:IV→Store→Prop}(hf:FOK P f e)(h:PC P E f args v)(hk:K v σ):cn9 P E none f args σ K :=
 ar6 hf.1 (gh5 h) fun _ _ ⟨h1,h2⟩=>by subst h1; subst h2; exact ⟨Nat.le_refl _,hk⟩
theorem ad1 {f:Nat}{e:FE}{args:List IV}{Qc:IV→Store→Prop}{K:IV→Store→Prop}(hf:FOK P f e)(h:C P E f args σ Qc)(hk:∀ v s,Qc v s→σ.next≤s.next∧K v s):cn9 P E none f args σ K :=
 ar6 hf.1 h hk
theorem ac6 {S:Nat→Prop}(b:Bool):Frz σ S (.bool b) (.bool b):=.keep _ (.bool _)
theorem ad4 {S:Nat→Prop}(k:IntKind)(n:Int):Frz σ S (.int k n) (.int k n):=.keep _ (.int _ _)
theorem bc8 {S:Nat→Prop}(s:List UInt8):Frz σ S (.str s) (.str s):=.keep _ (.str _)
/-! ### Rows of which only the length is known to be nothing -/
theorem gs2 {ρ:Rho}{w:World}{v:IV}{rargs:Array Value}(h:CR ρ w [v] rargs):VR ρ w v (rargs.getD 0 undef):=by
 have:=h.2 0 (Nat.zero_lt_one)
 simpa using this
theorem eg8 {ρ:Rho}{w:World}{u v:IV}{rargs:Array Value}(h:CR ρ w [u] rargs)(hv:VR ρ w v (rargs.getD 0 undef)):CR ρ w [v] rargs :=
 ⟨h.1,fun i hi=>by
  have:i=0:=by simp at hi; omega
  subst this
  simpa using hv⟩
theorem dp9 {f:Nat}{v:IV}(h1:PC P E f [.aa1] v)(h2:PC P E f [.ae3] v):PC P E f [.aa3 []] v:=by
 intro σ ρ w rargs hs hr;have hv:=gs2 hr;generalize hx:rargs.getD 0 undef=r at hv
 cases hv with
 | bv9=>exact h1 σ ρ w rargs hs (eg8 hr (by rw[hx]; exact .aa1))
 | aa3 es b o cap esz sp vs hf hsz hc hv hle=>exact h2 σ ρ w rargs hs (eg8 hr (by rw[hx]; exact .ae3 _ _))
theorem ad5 {i:Nat}(h:i<2^62):IntKind.i64.wrap ((i:Int)+1)=((i+1:Nat):Int):=by
 rw[wrap64 (by omega) (by omega)]; omega
/-! ### Lists that are laid out -/
theorem gy8 {cs:List IV}:aq8 cs []=some cs:=by simp only[aq8]
theorem gy9 {cs:List IV}{off n:Nat}{v:IV}{ps:List (Nat×Nat×IV)}:aq8 cs ((off,n,v)::ps)=if v.cs.length=n∧off+n≤cs.length∧v.cs.all IV.leaf=true then aq8 (am6 cs off v.cs) ps else none:=by simp only[aq8]
theorem hw9 {c:IV}{cs:List IV}{vs:List IV}:am6 (c::cs) 0 vs=vs++(c::cs).drop vs.length:=by simp[am6]
theorem hx8 {c:IV}{cs vs:List IV}{n:Nat}:am6 (c::cs) (n+1) vs=c::am6 cs n vs:=by simp[am6,Nat.add_right_comm]
theorem hx9 {d:TypeId}{a:List IV}{as:List (List IV)}:dm7 (.slice d) (.aa3 (a::as))=some false:=nr rfl
theorem hy5 {d:TypeId}:dm7 (.slice d) .aa1=some true:=nr rfl
theorem hy6 {d:TypeId}:dm7 (.slice d) .ae3=some false:=nr rfl
theorem hy7 {d:TypeId}:dm7 (.slice d) .ac2=some false:=nr rfl
theorem hy8 {d:TypeId}{i o l e:Nat}:dm7 (.slice d) (.slice i o l e)=some false:=nr rfl
theorem gs3 {d:TypeId}:dm7 (.pointer d) .ae4=some true:=nr rfl
theorem gz1 {d:TypeId}{cs:List IV}:dm7 (.pointer d) (.ac5 cs)=some false:=nr rfl
theorem gz2 {d:TypeId}{i o:Nat}:dm7 (.pointer d) (.ptr i o)=some false:=nr rfl
theorem ge8 {e:Nat}{l:List IV}:chunk e 0 l=[]:=nr rfl
theorem ge9 {e n:Nat}{l:List IV}:chunk e (n+1) l=l.take e::chunk e n (l.drop e):=nr rfl
theorem hy9 {z:List IV}:rep z 0=[]:=nr rfl
theorem hz4 {z:List IV}{n:Nat}:rep z (n+1)=z++rep z n:=nr rfl
theorem gz3 {off:Nat}{cs:List IV}:az8 none off cs=cs[off]?:=nr rfl
theorem gz4 {off n:Nat}{cs:List IV}:az8 (some n) off cs=if off+n≤cs.length then some (.agg ((cs.drop off).take n)) else none:=nr rfl
theorem hz5 {ag:Option Nat}{off:Nat}{cs:List IV}:ho6 ag off (.agg cs)=az8 ag off cs:=nr rfl
theorem hz6 {ag:Option Nat}{n esz:Nat}{cs:List IV}{k:IntKind}{i:Int}:gw1 ag n esz (.agg cs) (.int k i)=if 0≤i∧i<n then az8 ag (i.toNat*esz) cs else none:=nr rfl
theorem gf1 {n esz:Nat}{v:IV}{k:IntKind}{i:Int}:ct9 n esz v (.int k i)=if 0≤i∧i<n then ck9 (i.toNat*esz) v else none:=nr rfl
theorem bx2 {s:List UInt8}{k:IntKind}{i:Int}:de6 (.str s) (.int k i)=if 0≤i then (s[i.toNat]?).map fun b=>.int .u8 b.toNat else none:=nr rfl
theorem hz7 {tags:List Nat}{neg:Bool}{xs ys:List IV}:gw4 tags true neg (.agg xs) (.agg ys)=(allEq tags xs ys).map fun b=>.bool (b ^^ neg):=nr rfl
theorem fm4:allEq [] [] []=some true:=nr rfl
def ik6:Option Bool→Option Bool→Option Bool
 | some a,some b=>some (a&&b)
 | _,_=>none
theorem hz8 {a b:Bool}:ik6 (some a) (some b)=some (a&&b):=nr rfl
theorem fm5 {t:Nat}{ts:List Nat}{x y:IV}{xs ys:List IV}:allEq (t::ts) (x::xs) (y::ys)=ik6 (ai2 t x y) (allEq ts xs ys):=by
 simp only[allEq]; cases ai2 t x y<;>cases allEq ts xs ys<;>rfl
theorem hz9 {k:IntKind}{a b:Int}:ai2 1 (.int k a) (.int k b)=some (decide (a=b)):=by simp[ai2]
theorem ia1 {a b:List UInt8}:ai2 2 (.str a) (.str b)=some (decide (a=b)):=nr rfl
theorem fm6 {a b:List UInt8}:ai7 2 (.str a) (.str b)=some (decide (a=b)):=nr rfl
theorem ia2 {a b:Bool}:ai2 0 (.bool a) (.bool b)=some (a==b):=nr rfl
attribute [go_sem] hz7 fm4 fm5 hz8 ia2 hz9 ia1
attribute [go_sem] gy8 gy9 hw9 hx8 hx9 hy5 hy6 hy7 hy8 gs3 gz1 gz2 ge8 ge9 hy9 hz4 gz3 gz4 hz5 hz6 gf1 bx2
attribute [go_sem] Bool.true_or Bool.or_true Bool.false_or Bool.or_false Bool.true_and Bool.false_and Bool.and_false
attribute [go_sem] List.length_cons List.length_nil List.take_succ_cons List.take_zero List.length_map Int.toNat_natCast
end Go.Id
/- Ranging over functions that tell rows: tellers,and the loops over them. Conditions: none; over any program. -/
namespace Go.Id
open Go
variable {P:Program} {E:Nat→IV} {σ σ':Store} {N n0:Nat} {fr:Frm}
def ik7 (I:List (List IV)→Store→Prop):Prop:=∀ rest s s',I rest s→s.next≤s'.next→(∀ i,i<s.next→s'.obj i=s.obj i)→I rest s'
def ia3 (n:Nat)(I:List (List IV)→Store→Prop)(S:Store→Prop):IV→Store→Prop:=fun _ s=>n≤s.next∧(I [] s∨S s)
def cn1 (P:Program)(E:Nat→IV)(fv:IV)(evs:List (List IV))(own:Store→Prop):Prop :=
 ∀ (yid:Nat) (I:List (List IV)→Store→Prop) (S:Store→Prop) (σ:Store),(∀ rest s,I rest s→own s)→ik7 I→ge6 P E yid I S→I evs σ→CVf P E fv [.yield yid] σ (ia3 σ.next I S)
def iv2 (P:Program)(E:Nat→IV)(N n0:Nat)(id:Nat)(L:LoopState→Option JX→aj5)(x:IC)(K:IV→Store→Prop):Exit→Frm→Store→Prop
 | .normal,f,s=>s.obj id=some (L .ready none)∧wpT noP noC P E N n0 x f (s.put id (L .busy none)) (cm2 id L K)
 | _,_,_=>False
theorem io1 {id:Nat}{L:LoopState→Option JX→aj5}{x:IC}{K:IV→Store→Prop}:iv2 P E N n0 id L x K .normal fr σ=(σ.obj id=some (L .ready none)∧wpT noP noC P E N n0 x fr (σ.put id (L .busy none)) (cm2 id L K)):=nr rfl
theorem io2 {id:Nat}{L:LoopState→Option JX→aj5}{K:IV→Store→Prop}:cm2 id L K .normal fr σ=(σ.obj id=some (L .busy none)∧K (.bool true) (σ.put id (L .ready none))):=nr rfl
theorem io3 {id:Nat}{L:LoopState→Option JX→aj5}{K:IV→Store→Prop}:cm2 id L K .ret fr σ=(σ.obj id=some (L .busy none)∧K (.bool false) (σ.put id (L .done (some .ret)))):=nr rfl
theorem io4 {id i:Nat}{L:LoopState→Option JX→aj5}{K:IV→Store→Prop}:cm2 id L K (.exit i) fr σ=(σ.obj id=some (L .busy none)∧K (.bool false) (σ.put id (L .done (some (.exit i))))):=nr rfl
theorem gz5:cs8 fr [] []=fr:=nr rfl
theorem gz6 {p:Nat}{ps:List Nat}{v:IV}{vs:List IV}:cs8 fr (p::ps) (v::vs)=cs8 (fr.set p v) ps vs:=nr rfl
theorem io5 {p:Nat}{v:IV}:fr.set p v=(p,v)::fr:=nr rfl
def goQ (id n:Nat)(L:LoopState→Option JX→aj5)(J:List (List IV)→Store→Prop)(Q:Exit→Frm→Store→Prop)(fr:Frm)(rest:List (List IV)):IV→Store→Prop:=fun v s=>
 n≤s.next∧((v=.bool true∧s.obj id=some (L .ready none)∧J rest s)∨(v=.bool false∧∃ st pend,st≠.busy∧s.obj id=some (L st pend)∧gy1 Q fr (s.kill id) pend))
theorem cs7 {id n:Nat}{L:LoopState→Option JX→aj5}{J:List (List IV)→Store→Prop}{Q:Exit→Frm→Store→Prop}{rest:List (List IV)}(h1:n≤σ.next)(h2:σ.obj id=some (L .ready none))(h3:J rest σ):goQ id n L J Q fr rest (.bool true) σ:=⟨h1,.inl ⟨rfl,h2,h3⟩⟩
theorem cn2 {id n:Nat}{L:LoopState→Option JX→aj5}{J:List (List IV)→Store→Prop}{Q:Exit→Frm→Store→Prop}{rest:List (List IV)}(h1:n≤σ.next)(h2:σ.obj id=some (L .done (some .ret)))(h3:Q .ret fr (σ.kill id)):goQ id n L J Q fr rest (.bool false) σ:=⟨h1,.inr ⟨rfl,.done,some .ret,(fun h=>by cases h),h2,h3⟩⟩
theorem bx3 {g:IX}{ps:List Nat}{y x:IC}{Q:Exit→Frm→Store→Prop}{evs:List (List IV)}{own:Store→Prop}(hT:cn1 P E (g.ev E fr) evs own)
  (J:List (List IV)→Store→Prop) (hown:∀ rest s,J rest s→own s) (hstab:ik7 J) (hlen:∀ a∈evs,a.length=ps.length)
  (hinit:∀ o,J evs ⟨σ.next+1,(σ.put σ.next o).obj⟩)
  (hbody:∀ (L:LoopState→Option JX→aj5) (pre:List (List IV)) (a:List IV) (rest:List (List IV)) (s:Store),evs=pre++a::rest→J (a::rest) s→s.obj σ.next=some (L .ready none)→σ.next<s.next →
   wpT noP noC P E N s.next y (cs8 fr ps a) s (iv2 P E N s.next σ.next L x (goQ σ.next s.next L J Q fr rest)))
  (hend:∀ s o,J [] s→σ.next<s.next→s.obj σ.next=some o→Q .normal fr (s.kill σ.next)) :
  RI P E N n0 (.be5 g ps y x) fr σ Q:=by
 refine gd1 fun L hL=>?_
 let I:List (List IV)→Store→Prop:=fun rest s=>(∃ pre,evs=pre++rest)∧s.obj σ.next=some (L .ready none)∧σ.next<s.next∧J rest s
 let S:Store→Prop:=fun s=>∃ st pend,st≠.busy∧s.obj σ.next=some (L st pend)∧gy1 Q fr (s.kill σ.next) pend
 have hI:ik7 I:=by
  rintro rest s s' ⟨hp,h1,h2,h3⟩ hn hs;exact ⟨hp,by rw[hs _ h2]; exact h1,Nat.lt_of_lt_of_le h2 hn,hstab rest s s' h3 hn hs⟩
 have hst:ge6 P E σ.next I S:=by
  rintro a rest s ⟨⟨pre,hp⟩,h1,h2,h3⟩;refine ⟨by rw[h1]; rfl,?_⟩;have hb:=hbody L pre a rest s hp h3 h1 h2;refine hL s a _ (hlen a (by rw[hp]; simp)) h1 ?_;refine (bf6 y _ _ _ (bs8 y _ _ _ _ ?_ (ba6 noT y _ _ _ hb)));intro e f s1 q
  cases e with
  | normal=>
   refine ⟨rfl,q.1,?_⟩;refine (bf6 x _ _ _ (bs8 x _ _ _ _ ?_ (ba6 noT x _ _ _ q.2)))
   have hK:∀ v s2,goQ σ.next s.next L J Q fr rest v s2→s.next≤s2.next∧((v=.bool true∧I rest s2)∨(v=.bool false∧S s2)):=by
    rintro v s2 ⟨hn,h|h⟩
    ·exact ⟨hn,.inl ⟨h.1,⟨pre++[a],by rw[hp]; simp⟩,h.2.1,Nat.lt_of_lt_of_le h2 hn,h.2.2⟩⟩
    ·exact ⟨hn,.inr ⟨h.1,h.2⟩⟩
   intro e f s2 q2
   cases e with
   | normal=>exact ⟨q2.1,hK _ _ q2.2⟩
   | ret=>exact ⟨q2.1,hK _ _ q2.2⟩
   | exit i=>exact ⟨q2.1,hK _ _ q2.2⟩
   | _=>exact q2
  | _=>exact q.elim
 have h:=hT σ.next I S ⟨σ.next+1,(σ.put σ.next (L .ready none)).obj⟩ (fun rest s h=>hown rest s h.2.2.2) hI hst ⟨⟨[],rfl⟩,by simp only[aa2,if_true],Nat.lt_succ_self _,hinit _⟩;refine h.mono ?_;rintro v s ⟨hn,h|h⟩
 ·exact ⟨Nat.le_of_lt hn,.ready,none,(fun h=>by cases h),h.2.1,hend s _ h.2.2.2 h.2.2.1 h.2.1⟩
 ·exact ⟨Nat.le_of_lt hn,h⟩
theorem bx4 {yid:Nat}{I:List (List IV)→Store→Prop}{S:Store→Prop}{a:List IV}{rest:List (List IV)}{K:IV→Store→Prop}(h:ge6 P E yid I S)(hi:I (a::rest) σ)
  (h1:∀ s,σ.next≤s.next→I rest s→K (.bool true) s) (h2:∀ s,σ.next≤s.next→S s→K (.bool false) s):fo5 noC P E (.yield yid) a σ K:=by
 refine ⟨_,h a rest σ hi,?_⟩;rintro v s ⟨hn,⟨rfl,h⟩|⟨rfl,h⟩⟩
 ·exact ⟨hn,h1 s hn h⟩
 ·exact ⟨hn,h2 s hn h⟩
theorem fm7 {i:Nat}:(σ.kill i).next=σ.next:=nr rfl
theorem gf2 {i j:Nat}:(σ.kill i).obj j=if j=i then none else σ.obj j:=nr rfl
attribute [go_sem] fm7 gf2
attribute [go_sem] io1 io2 io3 io4 gz5 gz6 io5
end Go.Id
/- Rows that grow,one by one; what is done with,as trees. Conditions: none; over any program. -/
namespace Go.Id
open Go
variable {P:Program} {E:Nat→IV} {σ σ':Store} {N n0:Nat} {fr:Frm}
def io6 (σ:Store):IV→Prop
 | .ac5 _=>True
 | .ptr i _=>match σ.obj i with
  | some (.cells _)=>True
  | _=>False
 | _=>False
def iv3:Option aj5→Prop
 | some (.cells _)=>True
 | _=>False
theorem ia4 {ag:Option Nat}{x:IX}:bp8 E fr σ (.q (.load ag x))=io6 σ (x.ev E fr):=nr rfl
theorem b_t {cs:List IV}:io6 σ (.ac5 cs)=True:=nr rfl
theorem b_p {i o:Nat}:io6 σ (.ptr i o)=iv3 (σ.obj i):=nr rfl
theorem b_o {cs:List IV}:iv3 (some (.cells cs))=True:=nr rfl
theorem io7 {x:IX}:bp8 E fr σ (.q (.mov x))=True:=nr rfl
theorem gz7 {n:Nat}{x:IX}:bp8 E fr σ (.q (.ab3 n x))=True:=nr rfl
theorem ia5 {x:IX}:bp8 E fr σ (.q (.bd7 x))=True:=nr rfl
theorem io8 {n:Nat}{x:IX}:bp8 E fr σ (.q (.len n x))=True:=nr rfl
theorem io9 {n:Nat}{z:IV}{b:Bool}{x y:IX}:bp8 E fr σ (.q (.lkp n z b x y))=True:=nr rfl
theorem ip1 {z:List IV}{ps:List (Nat×Nat×IX)}:bp8 E fr σ (.q (.bld z ps))=True:=nr rfl
theorem ip2 {op:BinOp}{x y:IX}:bp8 E fr σ (.q (.bin op x y))=True:=nr rfl
theorem gz8 {n:Nat}{x y:IX}:bp8 E fr σ (.q (.ab5 n x y))=True:=nr rfl
theorem ia6 {k:IntKind}{x:IX}:bp8 E fr σ (.q (.conv k x))=True:=nr rfl
theorem ip3 {n:Nat}{x:IX}:bp8 E fr σ (.q (.ext n x))=True:=nr rfl
theorem ia7 {x y z:IX}:bp8 E fr σ (.q (.pick x y z))=True:=nr rfl
theorem ip4 {x:IX}:bp8 E fr σ (.q (.not x))=True:=nr rfl
theorem gz9 {f:Nat}{xs:List IX}:bp8 E fr σ (.ag4 f xs)=True:=nr rfl
theorem ia8 {e n:Nat}{z:List IV}{ps:List (Nat×Nat×IX)}:bp8 E fr σ (.ap7 e n z ps)=True:=nr rfl
theorem ip5 {e n:Nat}{z:List IV}{ps:List (Nat×Nat×IX)}:bp8 E fr σ (.bsl e n z ps)=True:=nr rfl
theorem ip6 {e:Nat}{x y:IX}:bp8 E fr σ (.app e x y)=True:=nr rfl
theorem ha5 {n:Nat}{x y:IX}:bp8 E fr σ (.store n x y)=True:=nr rfl
theorem ia9 {n:Nat}{x y z:IX}:bp8 E fr σ (.bx7 n x y z)=True:=nr rfl
theorem ha6 {z:List IV}:bp8 E fr σ (.alloc z)=True:=nr rfl
attribute [go_sem] ia4 b_t b_p b_o io7 gz7 ia5 io8 io9 ip1 ip2 gz8 ia6 ip3 ia7 ip4 gz9 ia8 ip5 ip6 ha5 ia9 ha6
def Grow (σ:Store)(v:IV)(esz:Nat)(es:List (List IV)):Prop :=
 (v=.aa1∧es=[])∨∃ id,v=.slice id 0 es.length esz∧σ.obj id=some (.row es.flatten)∧id<σ.next
def ah9 (v:IV)(σ:Store):Store:=match v with
 | .slice id _ _ _=>σ.kill id
 | _=>σ
theorem ar5 {esz:Nat}{es:List (List IV)}(h:∀ e∈es,e.length=esz):es.flatten.length=es.length*esz:=by
 induction es with
 | nil=>simp
 | cons e es ih=>simp[ih (fun x hx=>h x (List.mem_cons_of_mem _ hx)),h e (List.mem_cons_self ..),Nat.add_mul]; omega
theorem dq1 {esz:Nat}{es:List (List IV)}(h:∀ e∈es,e.length=esz)(i j:Nat)(hi:i<es.length)(hj:j<esz):es.flatten.getD (i*esz+j) .undef=(es.getD i []).getD j .undef:=by
 induction es generalizing i with
 | nil=>simp at hi
 | cons e es ih=>
  have he:=h e (List.mem_cons_self ..)
  cases i with
  | zero=>simp[List.getD_eq_getElem?_getD,List.getElem?_append,he,hj]
  | succ i=>
   have h1:¬ ((i+1)*esz+j<e.length):=by rw[he,Nat.add_mul]; omega
   have h2:(i+1)*esz+j-e.length=i*esz+j:=by rw[he,Nat.add_mul]; omega
   have:=ih (fun x hx=>h x (List.mem_cons_of_mem _ hx)) i (by simpa using hi);simp only[List.getD_eq_getElem?_getD,List.flatten_cons,List.getElem?_append,if_neg h1,h2,List.getElem?_cons_succ] at this ⊢;exact this
theorem cn3 {es:List (List IV)}(h:∀ e∈es,e.all IV.leaf=true):es.flatten.all IV.leaf=true:=by
 simp only[List.all_eq_true,List.mem_flatten];rintro c ⟨e,he,hc⟩;exact List.all_eq_true.1 (h e he) c hc
theorem an1 {v:IV}{esz nid:Nat}{es:List (List IV)}{e:List IV}(hg:Grow σ v esz es)(h:∀ x∈es,x.length=esz∧x.all IV.leaf=true)(he:e.length=esz∧e.all IV.leaf=true)(hn:es.length<2147483648) :
  bp4 σ nid esz v (.aa3 [e])=some (.slice nid 0 (es.length+1) esz,(ah9 v σ).put nid (.row (es++[e]).flatten)):=by
 have hsrc:bn9 σ esz (.aa3 [e])=some (1,e):=by simp[bn9,he.1]
 have hl:e.all IV.leaf=true:=he.2;rcases hg with ⟨rfl,rfl⟩|⟨id,rfl,ho,hid⟩
 ·unfold bp4;rw[hsrc];simp[hl,ah9]
 ·unfold bp4;rw[hsrc];have h1:es.flatten.all IV.leaf=true:=cn3 fun x hx=>(h x hx).2
  have h2:es.flatten.length=es.length*esz:=ar5 fun x hx=>(h x hx).1
  simp[hl,ho,ah9,h1,h2];omega
theorem Grow.new {v:IV}{esz nid:Nat}{es:List (List IV)}{e:List IV}(hlt:nid<σ'.next)(ho:σ'.obj nid=some (.row (es++[e]).flatten)):Grow σ' (.slice nid 0 (es.length+1) esz) esz (es++[e]):=
 .inr ⟨nid,by simp,ho,hlt⟩
theorem ae9 (v:IV):(ah9 v σ).next=σ.next:=by cases v<;>rfl
theorem ag8 {v:IV}{esz:Nat}{es:List (List IV)}(hg:Grow σ v esz es)(i:Nat)(o:aj5)(ho:σ.obj i=some o)(hr:∀ cs,o≠.row cs):(ah9 v σ).obj i=some o:=by
 rcases hg with ⟨rfl,rfl⟩|⟨id,rfl,ho',hid⟩
 ·exact ho
 ·show (if i=id then none else σ.obj i)=some o;rw[if_neg]
  ·exact ho
  ·intro e; subst e; rw[ho] at ho'; cases ho'; exact hr _ rfl
theorem Grow.frz {S:Nat→Prop}{v:IV}{esz:Nat}{es:List (List IV)}(hg:Grow σ v esz es)(h:∀ x∈es,x.length=esz)(hS:∀ id,v=.slice id 0 es.length esz→¬ S id)(hb:∀ e∈es,∀ c∈e,Nm S c):Frz σ S v (.aa3 es):=by
 rcases hg with ⟨rfl,rfl⟩|⟨id,rfl,ho,hid⟩
 ·exact .bw7
 ·refine .slice id 0 es.length esz es.flatten es (hS id rfl) (.inr ho) rfl (by rw[ar5 h]; omega) (fun i hi=>h _ (ac7 _ hi)) (fun i hi j hj=>?_);rw[Nat.zero_add,dq1 h i j hi hj];exact .keep _ (hb _ (ac7 _ hi) _ (ac7 _ (by rw[h _ (ac7 _ hi)]; exact hj)))
theorem Grow.mono {v:IV}{esz:Nat}{es:List (List IV)}(hg:Grow σ v esz es)(hn:σ.next≤σ'.next)(h:∀ id,v=.slice id 0 es.length esz→id<σ.next→σ'.obj id=σ.obj id):Grow σ' v esz es:=by
 rcases hg with h0|⟨id,rfl,ho,hid⟩
 ·exact .inl h0
 ·exact .inr ⟨id,rfl,by rw[h id rfl hid]; exact ho,Nat.lt_of_lt_of_le hid hn⟩
theorem Grow.ne {v:IV}{esz id:Nat}{es:List (List IV)}{i:Nat}{o:aj5}(hg:Grow σ v esz es)(hv:v=.slice id 0 es.length esz)(ho:σ.obj i=some o)(hr:∀ cs,o≠.row cs):id≠i:=by
 intro e;subst e;rcases hg with ⟨rfl,_⟩|⟨id',rfl,ho',_⟩
 ·cases hv
 ·cases hv;rw[ho] at ho';cases ho';exact hr _ rfl
theorem dg3 {did esz nid:Nat}{es:List (List IV)}(ho:σ.obj did=some (.row []))(hne:es≠[])(h:∀ x∈es,x.length=esz∧x.all IV.leaf=true)(hn:es.length≤2147483648) :
  bp4 σ nid esz (.slice did 0 0 esz) (.aa3 es)=some (.slice nid 0 es.length esz,(σ.kill did).put nid (.row es.flatten)):=by
 have hsrc:bn9 σ esz (.aa3 es)=some (es.length,es.flatten):=by
  simp only[bn9];rw[if_pos (by simpa using fun x hx=>(h x hx).1)]
 have h1:es.flatten.all IV.leaf=true:=cn3 fun x hx=>(h x hx).2
 have h0:es.length≠0:=fun e=>hne (List.length_eq_zero_iff.1 e)
 unfold bp4;rw[hsrc];simp[h1,ho,h0,hn]
theorem dg4 {did esz nid:Nat}{x:IV}(ho:σ.obj did=some (.row []))(hx:bn9 σ esz x=some (0,[])):bp4 σ nid esz (.slice did 0 0 esz) x=some (.slice did 0 0 esz,σ):=by
 unfold bp4;rw[hx];simp[ho]
theorem aw1 {esz:Nat}{es:List (List IV)}(h:∀ e∈es,e.length=esz)(j:Nat)(hj:j<es.length):(es.flatten.drop (j*esz)).take esz=es.getD j []:=by
 induction es generalizing j with
 | nil=>simp at hj
 | cons e es ih=>
  have he:=h e (List.mem_cons_self ..)
  cases j with
  | zero=>simp[he]
  | succ j=>
   have h2:(j+1)*esz=e.length+j*esz:=by rw[he,Nat.add_mul]; omega
   rw[List.flatten_cons,h2,List.drop_append,List.drop_of_length_le (by omega),List.nil_append,show e.length+j*esz-e.length=j*esz from by omega];exact ih (fun x hx=>h x (List.mem_cons_of_mem _ hx)) j (by simpa using hj)
theorem ba3 {l vs:List IV}{off:Nat}(h:(l.drop off).take vs.length=vs)(hl:off+vs.length≤l.length):am6 l off vs=l:=by
 unfold am6
 have h1:l.drop off=vs++l.drop (off+vs.length):=by
  rw[← List.drop_drop]
  conv=>lhs; rw[← List.take_append_drop vs.length (l.drop off)]
  rw[h]
 rw[List.append_assoc,← h1,List.take_append_drop]
theorem gf3 {f:Nat}{Q:IV→Store→Prop}(h1:C P E f [.aa1] σ Q)(h2:C P E f [.ae3] σ Q):C P E f [.aa3 []] σ Q:=by
 intro ρ w rargs hs hr;have hv:=gs2 hr;generalize hx:rargs.getD 0 undef=r at hv
 cases hv with
 | bv9=>exact h1 ρ w rargs hs (eg8 hr (by rw[hx]; exact .aa1))
 | aa3 es b o cap esz sp vs hf hsz hc hv hle=>exact h2 ρ w rargs hs (eg8 hr (by rw[hx]; exact .ae3 _ _))
inductive fz6 (σ:Store) (S:Nat→Prop):List IV→List IV→Prop
 | nil:fz6 σ S [] []
 | cons {v v':IV} {vs vs':List IV} (h:Frz σ S v v') (t:fz6 σ S vs vs'):fz6 σ S (v::vs) (v'::vs')
theorem fz6.at {S:Nat→Prop}{cs cs':List IV}(h:fz6 σ S cs cs'):cs'.length=cs.length∧∀ i,i<cs.length→Frz σ S (cs.getD i .undef) (cs'.getD i .undef):=by
 induction h with
 | nil=>exact ⟨rfl,fun i hi=>absurd hi (Nat.not_lt_zero _)⟩
 | cons h _ ih=>
  refine ⟨by simp only[List.length_cons,ih.1],fun i hi=>?_⟩
  cases i with
  | zero=>exact h
  | succ i=>exact ih.2 i (by simpa using hi)
theorem Frz.ik8 {S:Nat→Prop}{cs cs':List IV}(h:fz6 σ S cs cs'):Frz σ S (.agg cs) (.agg cs'):=.agg _ _ h.at.1 h.at.2
theorem Frz.cn4 {S:Nat→Prop}{cs cs':List IV}(h:fz6 σ S cs cs'):Frz σ S (.tuple cs) (.tuple cs'):=.tuple _ _ h.at.1 h.at.2
theorem ix9:((0:Nat):Int)=0:=nr rfl
theorem iy1:((1:Nat):Int)=1:=nr rfl
theorem iy2:((2:Nat):Int)=2:=nr rfl
theorem iy3:((3:Nat):Int)=3:=nr rfl
theorem iy4:((4:Nat):Int)=4:=nr rfl
theorem iy5:((5:Nat):Int)=5:=nr rfl
theorem iy6:((6:Nat):Int)=6:=nr rfl
theorem iy7:((7:Nat):Int)=7:=nr rfl
theorem iy8:((8:Nat):Int)=8:=nr rfl
theorem iy9:((9:Nat):Int)=9:=nr rfl
theorem ip7:((10:Nat):Int)=10:=nr rfl
theorem ip8:((11:Nat):Int)=11:=nr rfl
theorem ip9:((12:Nat):Int)=12:=nr rfl
theorem iq1:((13:Nat):Int)=13:=nr rfl
theorem iq2:((14:Nat):Int)=14:=nr rfl
theorem iq3:((15:Nat):Int)=15:=nr rfl
theorem iq4:((16:Nat):Int)=16:=nr rfl
attribute [go_sem] ix9 iy1 iy2 iy3 iy4 iy5 iy6 iy7 iy8 iy9 ip7 ip8 ip9 iq1 iq2 iq3 iq4 List.getD_cons_zero List.getD_cons_succ
theorem iz1:IntKind.i64.wrap 0=0:=nr rfl
theorem iz2:IntKind.i64.wrap 1=1:=nr rfl
theorem iz3:IntKind.i64.wrap 2=2:=nr rfl
theorem iz4:IntKind.i64.wrap 3=3:=nr rfl
theorem iz5:IntKind.i64.wrap 4=4:=nr rfl
theorem iz6:IntKind.i64.wrap 5=5:=nr rfl
theorem iz7:IntKind.i64.wrap 6=6:=nr rfl
theorem iz8:IntKind.i64.wrap 7=7:=nr rfl
theorem iz9:IntKind.i64.wrap 8=8:=nr rfl
theorem ja1:IntKind.i64.wrap 9=9:=nr rfl
theorem iq5:IntKind.i64.wrap 10=10:=nr rfl
theorem iq6:IntKind.i64.wrap 11=11:=nr rfl
theorem iq7:IntKind.i64.wrap 12=12:=nr rfl
theorem iq8:IntKind.i64.wrap 13=13:=nr rfl
theorem iq9:IntKind.i64.wrap 14=14:=nr rfl
theorem ir1:IntKind.i64.wrap 15=15:=nr rfl
theorem ir2:IntKind.i64.wrap 16=16:=nr rfl
attribute [go_sem] iz1 iz2 iz3 iz4 iz5 iz6 iz7 iz8 iz9 ja1 iq5 iq6 iq7 iq8 iq9 ir1 ir2
theorem ib5 {ag:Option Nat}{n m:Nat}:irL σ fr [.cell ag n,.t m]=(as4 σ ag (fr.get n)).map fun v=>[v,fr.get m]:=by
 simp only[irL,irV]; cases as4 σ ag (fr.get n)<;>rfl
attribute [go_sem] ib5 an6
end Go.Id
/- Answers that are known,looked up; and what they are good for. Conditions: none; over any program. -/
namespace Go.Id
open Go
variable {P:Program} {E:Nat→IV}
def cn5 (r:IV→IV→Bool):List IV→List IV→Bool
 | [],[]=>true
 | a::x,b::y=>r a b&&cn5 r x y
 | _,_=>false
theorem bc9 {r:IV→IV→Bool}(hr:∀ a b,r a b=true→a=b):∀ x y:List IV,cn5 r x y=true→x=y:=by
 intro x
 induction x with
 | nil=>intro y h; cases y with
  | nil=>rfl
  | cons b y=>cases h
 | cons a x ih=>intro y h; cases y with
  | nil=>cases h
  | cons b y=>
   simp only[cn5,Bool.and_eq_true] at h;rw[hr a b h.1,ih y h.2]
def dq2 (r:IV→IV→Bool):List (List IV)→List (List IV)→Bool
 | [],[]=>true
 | a::x,b::y=>cn5 r a b&&dq2 r x y
 | _,_=>false
theorem dq3 {r:IV→IV→Bool}(hr:∀ a b,r a b=true→a=b):∀ x y:List (List IV),dq2 r x y=true→x=y:=by
 intro x
 induction x with
 | nil=>intro y h; cases y with
  | nil=>rfl
  | cons b y=>cases h
 | cons a x ih=>intro y h; cases y with
  | nil=>cases h
  | cons b y=>
   simp only[dq2,Bool.and_eq_true] at h;rw[bc9 hr a b h.1,ih y h.2]
def gf4:List UInt8→List UInt8→Bool
 | [],[]=>true
 | a::x,b::y=>Nat.beq a.toNat b.toNat&&gf4 x y
 | _,_=>false
theorem gf5:∀ x y:List UInt8,gf4 x y=true→x=y:=by
 intro x
 induction x with
 | nil=>intro y h; cases y with
  | nil=>rfl
  | cons b y=>cases h
 | cons a x ih=>intro y h; cases y with
  | nil=>cases h
  | cons b y=>
   simp only[gf4,Bool.and_eq_true] at h;rw[UInt8.toNat_inj.1 (Nat.eq_of_beq_eq_true h.1),ih y h.2]
def gf6:Nat→IV→IV→Bool
 | 0,_,_=>false
 | n+1,a,b=>match a with
  | .bool x=>match b with
   | .bool y=>match x,y with
    | true,true=>true
    | false,false=>true
    | _,_=>false
   | _=>false
  | .int k x=>match b with
   | .int k' y=>decide (k=k')&&decide (x=y)
   | _=>false
  | .str x=>match b with
   | .str y=>gf4 x y
   | _=>false
  | .ae4=>match b with
   | .ae4=>true
   | _=>false
  | .ac5 x=>match b with
   | .ac5 y=>cn5 (gf6 n) x y
   | _=>false
  | .aa3 x=>match b with
   | .aa3 y=>dq2 (gf6 n) x y
   | _=>false
  | .agg x=>match b with
   | .agg y=>cn5 (gf6 n) x y
   | _=>false
  | .tuple x=>match b with
   | .tuple y=>cn5 (gf6 n) x y
   | _=>false
  | .iface t x=>match b with
   | .iface t' y=>Nat.beq t t'&&gf6 n x y
   | _=>false
  | .af8=>match b with
   | .af8=>true
   | _=>false
  | .ac9=>match b with
   | .ac9=>true
   | _=>false
  | .af5=>match b with
   | .af5=>true
   | _=>false
  | .aa1=>match b with
   | .aa1=>true
   | _=>false
  | _=>false
theorem ha7:∀ (n:Nat) (a b:IV),gf6 n a b=true→a=b:=by
 intro n
 induction n with
 | zero=>intro a b h; cases h
 | succ n ih=>
  intro a b h;cases a<;>simp only[gf6] at h<;>(try cases h)<;>split at h<;>(try cases h)<;>(try rfl)
  ·split at h<;>(try cases h)<;>rfl
  ·simp only[Bool.and_eq_true,decide_eq_true_eq] at h; rw[h.1,h.2]
  ·rw[gf5 _ _ h]
  ·rw[bc9 ih _ _ h]
  ·rw[dq3 ih _ _ h]
  ·simp only[Bool.and_eq_true] at h; rw[Nat.eq_of_beq_eq_true h.1,ih _ _ h.2]
  ·rw[bc9 ih _ _ h]
  ·rw[bc9 ih _ _ h]
abbrev ho9:=List (Nat×List IV×IV)
def ho9.get:ho9→Nat→List IV→Option IV
 | [],_,_=>none
 | (k,as,v)::r,f,args=>match Nat.beq k f with
  | true=>match cn5 (gf6 1000) as args with
   | true=>some v
   | false=>ho9.get r f args
  | false=>ho9.get r f args
def MOK (P:Program)(E:Nat→IV)(M:ho9):Prop:=∀ e∈M,okF P e.1=true∧PC P E e.1 e.2.1 e.2.2
theorem MOK.nil:MOK P E []:=fun _ h=>by cases h
theorem MOK.cons {M:ho9}{k:Nat}{as:List IV}{v:IV}(hk:okF P k=true)(h:PC P E k as v)(hM:MOK P E M):MOK P E ((k,as,v)::M):=fun e he=>by
 rcases List.mem_cons.1 he with rfl|he
 ·exact ⟨hk,h⟩
 ·exact hM e he
theorem ha8 {l:List (Nat×List IV)}(h:l.all (fun x=>x.2.all (ao6 1000))=true):∀ g,Bnd 0 (ey2 l g):=by
 intro g;unfold ey2
 cases hg:l.lookup g with
 | none=>exact .undef
 | some cs=>
  have hm:∃ x∈l,x.2=cs:=by
   clear h
   induction l with
   | nil=>cases hg
   | cons x l ih=>
    obtain ⟨a,b⟩:=x;simp only[List.lookup] at hg;split at hg
    ·cases hg; exact ⟨_,List.mem_cons_self ..,rfl⟩
    ·obtain ⟨x,h1,h2⟩:=ih hg; exact ⟨x,List.mem_cons_of_mem _ h1,h2⟩
  obtain ⟨x,h1,rfl⟩:=hm;exact .ac5 _ fun c hc=>aw3 1000 c (List.all_eq_true.1 (List.all_eq_true.1 h x h1) c hc)
end Go.Id
