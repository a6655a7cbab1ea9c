/- Loops that go up; rows read by their places; runes of a string; what a yield is told. Conditions: none; over any program. -/
import Derived.Test.YtphnnoolpagclaaGreatDoorFwV
import Derived.Test.YtphnnoolpagclaaGreatDoorT6
set_option linter.all false
namespace Go.Id
open Go
variable {P:Program} {E:Nat->IV} {σ σ':Store} {N n0:Nat} {fr:Frm}
def upQ (I:Nat->Frm->Store->Prop)(i n:Nat)(Q:Exit->Frm->Store->Prop):Exit->Frm->Store->Prop
 | .normal,fr,σ=>i<n/\I (i+1) fr σ
 | e,fr,σ=>Q e fr σ
theorem ik8 {I:Nat->Frm->Store->Prop}{i n:Nat}{Q:Exit->Frm->Store->Prop}:upQ I i n Q .normal fr σ=(i<n/\I (i+1) fr σ):=nr rfl
theorem ik9 {I:Nat->Frm->Store->Prop}{i n k:Nat}{Q:Exit->Frm->Store->Prop}:upQ I i n Q (.exit k) fr σ=Q (.exit k) fr σ:=nr rfl
theorem il1 {I:Nat->Frm->Store->Prop}{i n:Nat}{Q:Exit->Frm->Store->Prop}:upQ I i n Q .ret fr σ=Q .ret fr σ:=nr rfl
theorem ab5 {pt:PT}{ct:CT}(hT:TOK P E pt ct){x:IC}{Q:Exit->Frm->Store->Prop}(I:Nat->Frm->Store->Prop)(n:Nat)(h:I 0 fr σ)
  (hI:∀ i fr σ,i<=n->I i fr σ->wpT pt ct P E N n0 x fr σ (upQ I i n Q)):RI P E N n0 (.loop x) fr σ Q:=by
 refine fg6 (fun m fr σ=>∃ i,i<=n/\m=n-i/\I i fr σ) n ⟨0,Nat.zero_le _,rfl,h⟩ ?_;rintro m fr σ ⟨i,hi,rfl,hi0⟩;refine bs7 x fr σ _ _ ?_ (bg6 hT x fr σ _ (hI i fr σ hi hi0));intro e f s q
 cases e with
 | normal=>exact ⟨n-(i+1),by have:=q.1; omega,i+1,q.1,rfl,q.2⟩
 | _=>exact q
theorem ad5 {α:Type}(es:List α)(i:Nat)(h:i<es.length):∃ a,a∈es/\es[i]? = some a/\es.drop i=a::es.drop (i+1)/\(∀ (f:α->List IV),(es.map f).getD i []=f a)/\es.take (i+1)=es.take i++[a]:=
 ⟨es[i],List.getElem_mem h,List.getElem?_eq_getElem h,List.drop_eq_getElem_cons h,fun f=>by simp[List.getD_eq_getElem?_getD,h],by rw[List.take_add_one,List.getElem?_eq_getElem h]; rfl⟩
theorem fi3 (s:List UInt8)(i:Nat)(h:i<s.length):((⟨s.toArray⟩:ByteArray).get! i)=s[i]:=by
 show (s.toArray)[i]! = s[i];simp[h]
theorem en9 (s:List UInt8)(i:Nat)(h:i<s.length)(hb:s[i].toNat<128):Utf8.decode ⟨s.toArray⟩ i=(s[i].toNat,1):=by
 unfold Utf8.decode;simp only[Nat.add_zero,fi3 s i h];rw[if_pos hb]
theorem decode_high (s:List UInt8)(i:Nat)(h:i<s.length)(hb:¬ s[i].toNat<128):128<=(Utf8.decode ⟨s.toArray⟩ i).1:=by
 unfold Utf8.decode;simp only[Nat.add_zero,fi3 s i h];rw[if_neg hb];have e:Utf8.runeError=65533:=rfl
 repeat' split
 all_goals first|(rw[e]; omega)|(simp only[ge_iff_le,Bool.and_eq_true,decide_eq_true_eq] at *; omega)
def fx5 (P:Program)(E:Nat->IV)(id:Nat)(I:List (List IV)->Store->Prop)(S:Store->Prop):Prop :=
 ∀ a rest σ,I (a::rest) σ->CV P E (.yield id) a σ fun v s=>σ.next<=s.next/\((v=.bool true/\I rest s)\/(v=.bool false/\S s))
end Go.Id
/- The walk's rewriting rules,marked. Conditions: none; over any program. -/
namespace Go.Id
open Go
attribute [go_sem] cs9 ct1 bw7 bi9 ct2 bw8 ct3 bw9 ep3 gz1 eo8 eo9 ct4 bx2 ct5 bx3 bx4 bj1 ct6 w_q bx5 
 ep4 ep5 bx6 ep6 bx8 bj2 bx7 ct7 ct8 ct9 bx9 bj3 ep7 cu1 ep8 cu2 by1 by2 cu3 ep9 
 eq1 eq2 eq3 eq4 eq5 eq6 eq7 eq8 eq9 cu4 er1 cu5 er2 cu6 by3 cu7 cv3 er3 gz4 gz5 er4 er5 er6 er7 
 er8 er9 es3 es4 es5 es6 cv4 by4 bj4 bc3 by5 bj5 cu8 cu9 cv2 by6 gz2 gz3 bc5 bj9 
 bz8 bz9 ca1 bz7 cw7 e_t e_c e_g e_f es7 cv5 es8 es9 et1 ak2 et2 cv6 by7 et3 by8 et4 by9 
 bz1 et5 cv7 et6 cv8 et7 et8 et9 eu1 cv9 cw1 dw8 gk3 dn8 dw7 bz2 bz3 cw2 cw3 bz4 bz5 gz6 
 bj6 cw4 cw5 cw6 bj7 bz6 bc4 bj8 bk1 ca2 bk2 bk3 cw8 cw9 dw9 dx1 ca3 ca4 
 ca5 ca6 cx1 cx2 ca7 bk4 eu2 eu3 eu4 eu5 eu6 eu7 eu8 eu9 ev1 ev2 ev3 ev4 ev5 cx3 cx4 cx5 
 cx6 cx7 cx8 cx9 cy1 cy2 cy3 hl8 hl9 hm3 hm4 bf2 bk5 ca8 ca9 cb1 cy4 cy5 cy6 cy7 ev6 ev7 cy8 ev8 
 cb2 cb3 cb4 ew2 bg7 gk4 cz6 cb5 cb6 bk6 be5 bs8 ev9 cg6 bk7 ew1 cg7 bk8 bk9 cb7 
 cb8 cb9 cc1 bl4 cc2 cc3 bl5 bc6 aw7 bl6 cc4 bl7 cy9 cz1 cz2 cc5 bl8 
 cc6 cc7 bl9 bc7 aw8 bm1 cc8 bm2 cz3 cz4 cz5 Frm.bi8 Frm.get_nil ab4 aa7 ik8 ik9 
 il1 dw8 gk3 dn8 dw7 ig2 hl7 
attribute [go_sem] List.getElem?_cons_zero List.getElem?_cons_succ List.all_cons List.all_nil List.drop_zero List.drop_succ_cons List.head?_cons Bool.and_true Bool.and_self List.append_nil List.nil_append List.cons_append Bool.false_eq_true Bool.xor_false Bool.xor_true Bool.not_true Bool.not_false Nat.add_zero Nat.zero_add Nat.succ_ne_zero if_true if_false true_and and_true
end Go.Id
namespace Go.Id
open Go
variable {P:Program} {E:Nat->IV} {σ σ':Store} {N n0:Nat} {fr:Frm} {pf:List Nat}
theorem av4 {f:Nat}{ic:IC}{irs:List IR}{args:List IV}{v:IV}(hf:FOK P f (N,ic,irs))(hl:args.length<=N)
  (h:∀ σ,wpT noP noC P E N σ.next ic (bg3 args 0) σ (ga2 irs fun v' σ'=>v'=v/\σ'=σ)):PC P E f args v:=by
 obtain ⟨_,pf,an,h1⟩:=hf;exact in7 noT h1 hl h
theorem C_f {f:Nat}{ic:IC}{irs:List IR}{args:List IV}{Qc:IV->Store->Prop}(hf:FOK P f (N,ic,irs))(hl:args.length<=N)
  (h:wpT noP noC P E N σ.next ic (bg3 args 0) σ (ga2 irs Qc)):C P E f args σ Qc:=by
 obtain ⟨_,pf,an,h1⟩:=hf;exact C_T noT h1 hl h
def emp:Store:=⟨0,fun _=>none⟩
theorem fx6:emp.next=0:=nr rfl
theorem gp8 {i:Nat}:emp.obj i=none:=nr rfl
attribute [go_sem] fx6 gp8
theorem af5 {f:Nat}{ic:IC}{irs:List IR}{args:List IV}{v:IV}(hE:∀ g,Bnd 0 (E g))(hf:FOK P f (N,ic,irs))(hl:args.length<=N)(ha:∀ a∈args,Bnd 0 a)
  (h:wpT noP noC P E N 0 ic (bg3 args 0) emp (ga2 irs fun v' σ'=>dj1 σ' 0 v' v)):PC P E f args v :=
 ga5 hE ha (C_f (σ:=emp) hf hl h)
theorem aa4 {f:Nat}{e:FE}{args:List IV}{v:IV}{K:IV->Store->Prop}(hf:FOK P f e)(h:PC P E f args v)(hk:K v σ):ck8 P E none f args σ K :=
 an2 hf.1 (ew4 h) fun _ _ ⟨h1,h2⟩=>by subst h1; subst h2; exact ⟨Nat.le_refl _,hk⟩
theorem aj9 {f:Nat}{e:FE}{args:List IV}{Qc:IV->Store->Prop}{K:IV->Store->Prop}(hf:FOK P f e)(h:C P E f args σ Qc)(hk:∀ v s,Qc v s->σ.next<=s.next/\K v s):ck8 P E none f args σ K :=
 an2 hf.1 h hk
theorem ab6 {S:Nat->Prop}(b:Bool):Frz σ S (.bool b) (.bool b):=.keep _ (.bool _)
theorem ac7 {S:Nat->Prop}(k:IntKind)(n:Int):Frz σ S (.int k n) (.int k n):=.keep _ (.int _ _)
theorem be3 {S:Nat->Prop}(s:List UInt8):Frz σ S (.str s) (.str s):=.keep _ (.str _)
theorem gj5 {ρ:Rho}{w:World}{v:IV}{rargs:Array Value}(h:CR ρ w [v] rargs):VR ρ w v (rargs.getD 0 undef):=by
 have:=h.2 0 (Nat.zero_lt_one)
 simpa using this
theorem ed9 {ρ:Rho}{w:World}{u v:IV}{rargs:Array Value}(h:CR ρ w [u] rargs)(hv:VR ρ w v (rargs.getD 0 undef)):CR ρ w [v] rargs :=
 ⟨h.1,fun i hi=>by
  have:i=0:=by simp at hi; omega
  subst this
  simpa using hv⟩
theorem br7 {f:Nat}{v:IV}(h1:PC P E f [.aa1] v)(h2:PC P E f [.ae7] v):PC P E f [.aa5 []] v:=by
 intro σ ρ w rargs hs hr;have hv:=gj5 hr;generalize hx:rargs.getD 0 undef=r at hv
 cases hv with
 | bv3=>exact h1 σ ρ w rargs hs (ed9 hr (by rw[hx]; exact .aa1))
 | aa5 es b o cap esz sp vs hf hsz hc hv hle=>exact h2 σ ρ w rargs hs (ed9 hr (by rw[hx]; exact .ae7 _ _))
theorem ad9 {i:Nat}(h:i<2^62):IntKind.i64.wrap ((i:Int)+1)=((i+1:Nat):Int):=by
 rw[wrap64 (by omega) (by omega)]; omega
theorem gp9 {cs:List IV}:as5 cs []=some cs:=by simp only[as5]
theorem gq1 {cs:List IV}{off n:Nat}{v:IV}{ps:List (Nat×Nat×IV)}:as5 cs ((off,n,v)::ps)=if v.cs.length=n/\off+n<=cs.length/\v.cs.all IV.leaf=true then as5 (az3 cs off v.cs) ps else none:=by simp only[as5]
theorem he6 {c:IV}{cs:List IV}{vs:List IV}:az3 (c::cs) 0 vs=vs++(c::cs).drop vs.length:=by simp[az3]
theorem he7 {c:IV}{cs vs:List IV}{n:Nat}:az3 (c::cs) (n+1) vs=c::az3 cs n vs:=by simp[az3,Nat.add_right_comm]
theorem he8 {d:TypeId}{a:List IV}{as:List (List IV)}:co9 (.slice d) (.aa5 (a::as))=some false:=nr rfl
theorem he9 {d:TypeId}:co9 (.slice d) .aa1=some true:=nr rfl
theorem hf4 {d:TypeId}:co9 (.slice d) .ae7=some false:=nr rfl
theorem hf5 {d:TypeId}:co9 (.slice d) .ac5=some false:=nr rfl
theorem hf6 {d:TypeId}{i o l e:Nat}:co9 (.slice d) (.slice i o l e)=some false:=nr rfl
theorem ad3 {d:TypeId}:co9 (.pointer d) .ac2=some true:=nr rfl
theorem gq2 {d:TypeId}{cs:List IV}:co9 (.pointer d) (.ab7 cs)=some false:=nr rfl
theorem gq3 {d:TypeId}{i o:Nat}:co9 (.pointer d) (.ptr i o)=some false:=nr rfl
theorem fx7 {e:Nat}{l:List IV}:chunk e 0 l=[]:=nr rfl
theorem fx8 {e n:Nat}{l:List IV}:chunk e (n+1) l=l.take e::chunk e n (l.drop e):=nr rfl
theorem hf7 {z:List IV}:rep z 0=[]:=nr rfl
theorem hf8 {z:List IV}{n:Nat}:rep z (n+1)=z++rep z n:=nr rfl
theorem gq4 {off:Nat}{cs:List IV}:bb6 none off cs=cs[off]?:=nr rfl
theorem gq5 {off n:Nat}{cs:List IV}:bb6 (some n) off cs=if off+n<=cs.length then some (.agg ((cs.drop off).take n)) else none:=nr rfl
theorem hf9 {ag:Option Nat}{off:Nat}{cs:List IV}:gy5 ag off (.agg cs)=bb6 ag off cs:=nr rfl
theorem hg6 {ag:Option Nat}{n esz:Nat}{cs:List IV}{k:IntKind}{i:Int}:gn4 ag n esz (.agg cs) (.int k i)=if 0<=i/\i<n then bb6 ag (i.toNat*esz) cs else none:=nr rfl
theorem fx9 {n esz:Nat}{v:IV}{k:IntKind}{i:Int}:cr4 n esz v (.int k i)=if 0<=i/\i<n then ci8 (i.toNat*esz) v else none:=nr rfl
theorem ax2 {s:List UInt8}{k:IntKind}{i:Int}:dj3 (.str s) (.int k i)=if 0<=i then (s[i.toNat]?).map fun b=>.int .u8 b.toNat else none:=nr rfl
theorem gj6 {tags:List Nat}{neg:Bool}{xs ys:List IV}:ft5 tags true neg (.agg xs) (.agg ys)=(allEq tags xs ys).map fun b=>.bool (b ^^ neg):=nr rfl
theorem gj7:allEq [] [] []=some true:=nr rfl
def ia7:Option Bool->Option Bool->Option Bool
 | some a,some b=>some (a&&b)
 | _,_=>none
theorem hg7 {a b:Bool}:ia7 (some a) (some b)=some (a&&b):=nr rfl
theorem gj8 {t:Nat}{ts:List Nat}{x y:IV}{xs ys:List IV}:allEq (t::ts) (x::xs) (y::ys)=ia7 (ai2 t x y) (allEq ts xs ys):=by
 simp only[allEq]; cases ai2 t x y<;>cases allEq ts xs ys<;>rfl
theorem hg8 {k:IntKind}{a b:Int}:ai2 1 (.int k a) (.int k b)=some (decide (a=b)):=by simp[ai2]
theorem hg9 {a b:List UInt8}:ai2 2 (.str a) (.str b)=some (decide (a=b)):=nr rfl
theorem ee1 {a b:List UInt8}:am9 2 (.str a) (.str b)=some (decide (a=b)):=nr rfl
theorem hh2 {a b:Bool}:ai2 0 (.bool a) (.bool b)=some (a==b):=nr rfl
attribute [go_sem] gj6 gj7 gj8 hg7 hh2 hg8 hg9
attribute [go_sem] gp9 gq1 he6 he7 he8 he9 hf4 hf5 hf6 ad3 gq2 gq3 fx7 fx8 hf7 hf8 gq4 gq5 hf9 hg6 fx9 ax2
attribute [go_sem] Bool.true_or Bool.or_true Bool.false_or Bool.or_false Bool.true_and Bool.false_and Bool.and_false
attribute [go_sem] List.length_cons List.length_nil List.take_succ_cons List.take_zero List.length_map Int.toNat_natCast
end Go.Id
/- Ranging over functions that tell rows: tellers,and the loops over them. Conditions: none; over any program. -/
namespace Go.Id
open Go
variable {P:Program} {E:Nat->IV} {σ σ':Store} {N n0:Nat} {fr:Frm}
def hx8 (I:List (List IV)->Store->Prop):Prop:=∀ rest s s',I rest s->s.next<=s'.next->(∀ i,i<s.next->s'.obj i=s.obj i)->I rest s'
def hh4 (n:Nat)(I:List (List IV)->Store->Prop)(S:Store->Prop):IV->Store->Prop:=fun _ s=>n<=s.next/\(I [] s\/S s)
def ee2 (P:Program)(E:Nat->IV)(fv:IV)(evs:List (List IV))(own:Store->Prop):Prop :=
 ∀ (yid:Nat) (I:List (List IV)->Store->Prop) (S:Store->Prop) (σ:Store),(∀ rest s,I rest s->own s)->hx8 I->fx5 P E yid I S->I evs σ->CVf P E fv [.yield yid] σ (hh4 σ.next I S)
def ij1 (P:Program)(E:Nat->IV)(N n0:Nat)(id:Nat)(L:LoopState->Option JX->al1)(x:IC)(K:IV->Store->Prop):Exit->Frm->Store->Prop
 | .normal,f,s=>s.obj id=some (L .ready none)/\wpT noP noC P E N n0 x f (s.put id (L .busy none)) (cj9 id L K)
 | _,_,_=>False
theorem ia8 {id:Nat}{L:LoopState->Option JX->al1}{x:IC}{K:IV->Store->Prop}:ij1 P E N n0 id L x K .normal fr σ=(σ.obj id=some (L .ready none)/\wpT noP noC P E N n0 x fr (σ.put id (L .busy none)) (cj9 id L K)):=nr rfl
theorem ia9 {id:Nat}{L:LoopState->Option JX->al1}{K:IV->Store->Prop}:cj9 id L K .normal fr σ=(σ.obj id=some (L .busy none)/\K (.bool true) (σ.put id (L .ready none))):=nr rfl
theorem ib5 {id:Nat}{L:LoopState->Option JX->al1}{K:IV->Store->Prop}:cj9 id L K .ret fr σ=(σ.obj id=some (L .busy none)/\K (.bool false) (σ.put id (L .done (some .ret)))):=nr rfl
theorem ib6 {id i:Nat}{L:LoopState->Option JX->al1}{K:IV->Store->Prop}:cj9 id L K (.exit i) fr σ=(σ.obj id=some (L .busy none)/\K (.bool false) (σ.put id (L .done (some (.exit i))))):=nr rfl
theorem gq6:cp7 fr [] []=fr:=nr rfl
theorem gq7 {p:Nat}{ps:List Nat}{v:IV}{vs:List IV}:cp7 fr (p::ps) (v::vs)=cp7 (fr.set p v) ps vs:=nr rfl
theorem ib7 {p:Nat}{v:IV}:fr.set p v=(p,v)::fr:=nr rfl
def goQ (id n:Nat)(L:LoopState->Option JX->al1)(J:List (List IV)->Store->Prop)(Q:Exit->Frm->Store->Prop)(fr:Frm)(rest:List (List IV)):IV->Store->Prop:=fun v s=>
 n<=s.next/\((v=.bool true/\s.obj id=some (L .ready none)/\J rest s)\/(v=.bool false/\∃ st pend,st≠.busy/\s.obj id=some (L st pend)/\gp2 Q fr (s.kill id) pend))
theorem dv5 {id n:Nat}{L:LoopState->Option JX->al1}{J:List (List IV)->Store->Prop}{Q:Exit->Frm->Store->Prop}{rest:List (List IV)}(h1:n<=σ.next)(h2:σ.obj id=some (L .ready none))(h3:J rest σ):goQ id n L J Q fr rest (.bool true) σ:=⟨h1,.inl ⟨rfl,h2,h3⟩⟩
theorem ck3 {id n:Nat}{L:LoopState->Option JX->al1}{J:List (List IV)->Store->Prop}{Q:Exit->Frm->Store->Prop}{rest:List (List IV)}(h1:n<=σ.next)(h2:σ.obj id=some (L .done (some .ret)))(h3:Q .ret fr (σ.kill id)):goQ id n L J Q fr rest (.bool false) σ:=⟨h1,.inr ⟨rfl,.done,some .ret,(fun h=>by cases h),h2,h3⟩⟩
theorem de1 {g:IX}{ps:List Nat}{y x:IC}{Q:Exit->Frm->Store->Prop}{evs:List (List IV)}{own:Store->Prop}(hT:ee2 P E (g.ev E fr) evs own)
  (J:List (List IV)->Store->Prop) (hown:∀ rest s,J rest s->own s) (hstab:hx8 J) (hlen:∀ a∈evs,a.length=ps.length)
  (hinit:∀ o,J evs ⟨σ.next+1,(σ.put σ.next o).obj⟩)
  (hbody:∀ (L:LoopState->Option JX->al1) (pre:List (List IV)) (a:List IV) (rest:List (List IV)) (s:Store),evs=pre++a::rest->J (a::rest) s->s.obj σ.next=some (L .ready none)->σ.next<s.next ->
   wpT noP noC P E N s.next y (cp7 fr ps a) s (ij1 P E N s.next σ.next L x (goQ σ.next s.next L J Q fr rest)))
  (hend:∀ s o,J [] s->σ.next<s.next->s.obj σ.next=some o->Q .normal fr (s.kill σ.next)) :
  RI P E N n0 (.bn4 g ps y x) fr σ Q:=by
 refine fw4 fun L hL=>?_
 let I:List (List IV)->Store->Prop:=fun rest s=>(∃ pre,evs=pre++rest)/\s.obj σ.next=some (L .ready none)/\σ.next<s.next/\J rest s
 let S:Store->Prop:=fun s=>∃ st pend,st≠.busy/\s.obj σ.next=some (L st pend)/\gp2 Q fr (s.kill σ.next) pend
 have hI:hx8 I:=by
  rintro rest s s' ⟨hp,h1,h2,h3⟩ hn hs;exact ⟨hp,by rw[hs _ h2]; exact h1,Nat.lt_of_lt_of_le h2 hn,hstab rest s s' h3 hn hs⟩
 have hst:fx5 P E σ.next I S:=by
  rintro a rest s ⟨⟨pre,hp⟩,h1,h2,h3⟩;refine ⟨by rw[h1]; rfl,?_⟩;have hb:=hbody L pre a rest s hp h3 h1 h2;refine hL s a _ (hlen a (by rw[hp]; simp)) h1 ?_;refine (br1 y _ _ _ (bs7 y _ _ _ _ ?_ (bg6 noT y _ _ _ hb)));intro e f s1 q
  cases e with
  | normal=>
   refine ⟨rfl,q.1,?_⟩;refine (br1 x _ _ _ (bs7 x _ _ _ _ ?_ (bg6 noT x _ _ _ q.2)))
   have hK:∀ v s2,goQ σ.next s.next L J Q fr rest v s2->s.next<=s2.next/\((v=.bool true/\I rest s2)\/(v=.bool false/\S s2)):=by
    rintro v s2 ⟨hn,h|h⟩
    ·exact ⟨hn,.inl ⟨h.1,⟨pre++[a],by rw[hp]; simp⟩,h.2.1,Nat.lt_of_lt_of_le h2 hn,h.2.2⟩⟩
    ·exact ⟨hn,.inr ⟨h.1,h.2⟩⟩
   intro e f s2 q2
   cases e with
   | normal=>exact ⟨q2.1,hK _ _ q2.2⟩
   | ret=>exact ⟨q2.1,hK _ _ q2.2⟩
   | exit i=>exact ⟨q2.1,hK _ _ q2.2⟩
   | _=>exact q2
  | _=>exact q.elim
 have h:=hT σ.next I S ⟨σ.next+1,(σ.put σ.next (L .ready none)).obj⟩ (fun rest s h=>hown rest s h.2.2.2) hI hst ⟨⟨[],rfl⟩,by simp only[aa7,if_true],Nat.lt_succ_self _,hinit _⟩;refine h.mono ?_;rintro v s ⟨hn,h|h⟩
 ·exact ⟨Nat.le_of_lt hn,.ready,none,(fun h=>by cases h),h.2.1,hend s _ h.2.2.2 h.2.2.1 h.2.1⟩
 ·exact ⟨Nat.le_of_lt hn,h⟩
theorem cg2 {yid:Nat}{I:List (List IV)->Store->Prop}{S:Store->Prop}{a:List IV}{rest:List (List IV)}{K:IV->Store->Prop}(h:fx5 P E yid I S)(hi:I (a::rest) σ)
  (h1:∀ s,σ.next<=s.next->I rest s->K (.bool true) s) (h2:∀ s,σ.next<=s.next->S s->K (.bool false) s):fk1 noC P E (.yield yid) a σ K:=by
 refine ⟨_,h a rest σ hi,?_⟩;rintro v s ⟨hn,⟨rfl,h⟩|⟨rfl,h⟩⟩
 ·exact ⟨hn,h1 s hn h⟩
 ·exact ⟨hn,h2 s hn h⟩
theorem fi4 {i:Nat}:(σ.kill i).next=σ.next:=nr rfl
theorem fy1 {i j:Nat}:(σ.kill i).obj j=if j=i then none else σ.obj j:=nr rfl
attribute [go_sem] fi4 fy1
attribute [go_sem] ia8 ia9 ib5 ib6 gq6 gq7 ib7
end Go.Id
/- Rows that grow,one by one; what is done with,as trees. Conditions: none; over any program. -/
namespace Go.Id
open Go
variable {P:Program} {E:Nat->IV} {σ σ':Store} {N n0:Nat} {fr:Frm}
def ib8 (σ:Store):IV->Prop
 | .ab7 _=>True
 | .ptr i _=>match σ.obj i with
  | some (.cells _)=>True
  | _=>False
 | _=>False
def ij2:Option al1->Prop
 | some (.cells _)=>True
 | _=>False
theorem hh5 {ag:Option Nat}{x:IX}:bq3 E fr σ (.q (.load ag x))=ib8 σ (x.ev E fr):=nr rfl
theorem b_t {cs:List IV}:ib8 σ (.ab7 cs)=True:=nr rfl
theorem b_p {i o:Nat}:ib8 σ (.ptr i o)=ij2 (σ.obj i):=nr rfl
theorem b_o {cs:List IV}:ij2 (some (.cells cs))=True:=nr rfl
theorem ib9 {x:IX}:bq3 E fr σ (.q (.mov x))=True:=nr rfl
theorem gq8 {n:Nat}{x:IX}:bq3 E fr σ (.q (.aa6 n x))=True:=nr rfl
theorem hh6 {x:IX}:bq3 E fr σ (.q (.ak4 x))=True:=nr rfl
theorem ic1 {n:Nat}{x:IX}:bq3 E fr σ (.q (.len n x))=True:=nr rfl
theorem ic2 {n:Nat}{z:IV}{b:Bool}{x y:IX}:bq3 E fr σ (.q (.lkp n z b x y))=True:=nr rfl
theorem id3 {z:List IV}{ps:List (Nat×Nat×IX)}:bq3 E fr σ (.q (.bld z ps))=True:=nr rfl
theorem id4 {op:BinOp}{x y:IX}:bq3 E fr σ (.q (.bin op x y))=True:=nr rfl
theorem gq9 {n:Nat}{x y:IX}:bq3 E fr σ (.q (.ac8 n x y))=True:=nr rfl
theorem hh7 {k:IntKind}{x:IX}:bq3 E fr σ (.q (.conv k x))=True:=nr rfl
theorem id5 {n:Nat}{x:IX}:bq3 E fr σ (.q (.ext n x))=True:=nr rfl
theorem hh8 {x y z:IX}:bq3 E fr σ (.q (.pick x y z))=True:=nr rfl
theorem id6 {x:IX}:bq3 E fr σ (.q (.not x))=True:=nr rfl
theorem gr1 {f:Nat}{xs:List IX}:bq3 E fr σ (.af1 f xs)=True:=nr rfl
theorem hh9 {e n:Nat}{z:List IV}{ps:List (Nat×Nat×IX)}:bq3 E fr σ (.bb4 e n z ps)=True:=nr rfl
theorem id7 {e n:Nat}{z:List IV}{ps:List (Nat×Nat×IX)}:bq3 E fr σ (.bsl e n z ps)=True:=nr rfl
theorem id8 {e:Nat}{x y:IX}:bq3 E fr σ (.app e x y)=True:=nr rfl
theorem gr2 {n:Nat}{x y:IX}:bq3 E fr σ (.store n x y)=True:=nr rfl
theorem hi6 {n:Nat}{x y z:IX}:bq3 E fr σ (.di9 n x y z)=True:=nr rfl
theorem gr3 {z:List IV}:bq3 E fr σ (.alloc z)=True:=nr rfl
attribute [go_sem] hh5 b_t b_p b_o ib9 gq8 hh6 ic1 ic2 id3 id4 gq9 hh7 id5 hh8 id6 gr1 hh9 id7 id8 gr2 hi6 gr3
def Grow (σ:Store)(v:IV)(esz:Nat)(es:List (List IV)):Prop :=
 (v=.aa1/\es=[])\/∃ id,v=.slice id 0 es.length esz/\σ.obj id=some (.row es.flatten)/\id<σ.next
def ai4 (v:IV)(σ:Store):Store:=match v with
 | .slice id _ _ _=>σ.kill id
 | _=>σ
theorem au2 {esz:Nat}{es:List (List IV)}(h:∀ e∈es,e.length=esz):es.flatten.length=es.length*esz:=by
 induction es with
 | nil=>simp
 | cons e es ih=>simp[ih (fun x hx=>h x (List.mem_cons_of_mem _ hx)),h e (List.mem_cons_self ..),Nat.add_mul]; omega
theorem fi5 {esz:Nat}{es:List (List IV)}(h:∀ e∈es,e.length=esz)(i j:Nat)(hi:i<es.length)(hj:j<esz):es.flatten.getD (i*esz+j) .undef=(es.getD i []).getD j .undef:=by
 induction es generalizing i with
 | nil=>simp at hi
 | cons e es ih=>
  have he:=h e (List.mem_cons_self ..)
  cases i with
  | zero=>simp[List.getD_eq_getElem?_getD,List.getElem?_append,he,hj]
  | succ i=>
   have h1:¬ ((i+1)*esz+j<e.length):=by rw[he,Nat.add_mul]; omega
   have h2:(i+1)*esz+j-e.length=i*esz+j:=by rw[he,Nat.add_mul]; omega
   have:=ih (fun x hx=>h x (List.mem_cons_of_mem _ hx)) i (by simpa using hi);simp only[List.getD_eq_getElem?_getD,List.flatten_cons,List.getElem?_append,if_neg h1,h2,List.getElem?_cons_succ] at this ⊢;exact this
theorem br8 {es:List (List IV)}(h:∀ e∈es,e.all IV.leaf=true):es.flatten.all IV.leaf=true:=by
 simp only[List.all_eq_true,List.mem_flatten];rintro c ⟨e,he,hc⟩;exact List.all_eq_true.1 (h e he) c hc
theorem am2 {v:IV}{esz nid:Nat}{es:List (List IV)}{e:List IV}(hg:Grow σ v esz es)(h:∀ x∈es,x.length=esz/\x.all IV.leaf=true)(he:e.length=esz/\e.all IV.leaf=true)(hn:es.length<2147483648) :
  ba7 σ nid esz v (.aa5 [e])=some (.slice nid 0 (es.length+1) esz,(ai4 v σ).put nid (.row (es++[e]).flatten)):=by
 have hsrc:cf9 σ esz (.aa5 [e])=some (1,e):=by simp[cf9,he.1]
 have hl:e.all IV.leaf=true:=he.2;rcases hg with ⟨rfl,rfl⟩|⟨id,rfl,ho,hid⟩
 ·unfold ba7;rw[hsrc];simp[hl,ai4]
 ·unfold ba7;rw[hsrc];have h1:es.flatten.all IV.leaf=true:=br8 fun x hx=>(h x hx).2
  have h2:es.flatten.length=es.length*esz:=au2 fun x hx=>(h x hx).1
  simp[hl,ho,ai4,h1,h2];omega
theorem Grow.new {v:IV}{esz nid:Nat}{es:List (List IV)}{e:List IV}(hlt:nid<σ'.next)(ho:σ'.obj nid=some (.row (es++[e]).flatten)):Grow σ' (.slice nid 0 (es.length+1) esz) esz (es++[e]):=
 .inr ⟨nid,by simp,ho,hlt⟩
theorem ad8 (v:IV):(ai4 v σ).next=σ.next:=by cases v<;>rfl
theorem ai6 {v:IV}{esz:Nat}{es:List (List IV)}(hg:Grow σ v esz es)(i:Nat)(o:al1)(ho:σ.obj i=some o)(hr:∀ cs,o≠.row cs):(ai4 v σ).obj i=some o:=by
 rcases hg with ⟨rfl,rfl⟩|⟨id,rfl,ho',hid⟩
 ·exact ho
 ·show (if i=id then none else σ.obj i)=some o;rw[if_neg]
  ·exact ho
  ·intro e; subst e; rw[ho] at ho'; cases ho'; exact hr _ rfl
theorem Grow.frz {S:Nat->Prop}{v:IV}{esz:Nat}{es:List (List IV)}(hg:Grow σ v esz es)(h:∀ x∈es,x.length=esz)(hS:∀ id,v=.slice id 0 es.length esz->¬ S id)(hb:∀ e∈es,∀ c∈e,Nm S c):Frz σ S v (.aa5 es):=by
 rcases hg with ⟨rfl,rfl⟩|⟨id,rfl,ho,hid⟩
 ·exact .dd3
 ·refine .slice id 0 es.length esz es.flatten es (hS id rfl) (.inr ho) rfl (by rw[au2 h]; omega) (fun i hi=>h _ (ac9 _ hi)) (fun i hi j hj=>?_);rw[Nat.zero_add,fi5 h i j hi hj];exact .keep _ (hb _ (ac9 _ hi) _ (ac9 _ (by rw[h _ (ac9 _ hi)]; exact hj)))
theorem Grow.mono {v:IV}{esz:Nat}{es:List (List IV)}(hg:Grow σ v esz es)(hn:σ.next<=σ'.next)(h:∀ id,v=.slice id 0 es.length esz->id<σ.next->σ'.obj id=σ.obj id):Grow σ' v esz es:=by
 rcases hg with h0|⟨id,rfl,ho,hid⟩
 ·exact .inl h0
 ·exact .inr ⟨id,rfl,by rw[h id rfl hid]; exact ho,Nat.lt_of_lt_of_le hid hn⟩
theorem Grow.ne {v:IV}{esz id:Nat}{es:List (List IV)}{i:Nat}{o:al1}(hg:Grow σ v esz es)(hv:v=.slice id 0 es.length esz)(ho:σ.obj i=some o)(hr:∀ cs,o≠.row cs):id≠i:=by
 intro e;subst e;rcases hg with ⟨rfl,_⟩|⟨id',rfl,ho',_⟩
 ·cases hv
 ·cases hv;rw[ho] at ho';cases ho';exact hr _ rfl
theorem ck4 {did esz nid:Nat}{es:List (List IV)}(ho:σ.obj did=some (.row []))(hne:es≠[])(h:∀ x∈es,x.length=esz/\x.all IV.leaf=true)(hn:es.length<=2147483648) :
  ba7 σ nid esz (.slice did 0 0 esz) (.aa5 es)=some (.slice nid 0 es.length esz,(σ.kill did).put nid (.row es.flatten)):=by
 have hsrc:cf9 σ esz (.aa5 es)=some (es.length,es.flatten):=by
  simp only[cf9];rw[if_pos (by simpa using fun x hx=>(h x hx).1)]
 have h1:es.flatten.all IV.leaf=true:=br8 fun x hx=>(h x hx).2
 have h0:es.length≠0:=fun e=>hne (List.length_eq_zero_iff.1 e)
 unfold ba7;rw[hsrc];simp[h1,ho,h0,hn]
theorem br9 {did esz nid:Nat}{x:IV}(ho:σ.obj did=some (.row []))(hx:cf9 σ esz x=some (0,[])):ba7 σ nid esz (.slice did 0 0 esz) x=some (.slice did 0 0 esz,σ):=by
 unfold ba7;rw[hx];simp[ho]
theorem ax3 {esz:Nat}{es:List (List IV)}(h:∀ e∈es,e.length=esz)(j:Nat)(hj:j<es.length):(es.flatten.drop (j*esz)).take esz=es.getD j []:=by
 induction es generalizing j with
 | nil=>simp at hj
 | cons e es ih=>
  have he:=h e (List.mem_cons_self ..)
  cases j with
  | zero=>simp[he]
  | succ j=>
   have h2:(j+1)*esz=e.length+j*esz:=by rw[he,Nat.add_mul]; omega
   rw[List.flatten_cons,h2,List.drop_append,List.drop_of_length_le (by omega),List.nil_append,show e.length+j*esz-e.length=j*esz from by omega];exact ih (fun x hx=>h x (List.mem_cons_of_mem _ hx)) j (by simpa using hj)
theorem bc1 {l vs:List IV}{off:Nat}(h:(l.drop off).take vs.length=vs)(hl:off+vs.length<=l.length):az3 l off vs=l:=by
 unfold az3
 have h1:l.drop off=vs++l.drop (off+vs.length):=by
  rw[<- List.drop_drop]
  conv=>lhs; rw[<- List.take_append_drop vs.length (l.drop off)]
  rw[h]
 rw[List.append_assoc,<- h1,List.take_append_drop]
theorem fy2 {f:Nat}{Q:IV->Store->Prop}(h1:C P E f [.aa1] σ Q)(h2:C P E f [.ae7] σ Q):C P E f [.aa5 []] σ Q:=by
 intro ρ w rargs hs hr;have hv:=gj5 hr;generalize hx:rargs.getD 0 undef=r at hv
 cases hv with
 | bv3=>exact h1 ρ w rargs hs (ed9 hr (by rw[hx]; exact .aa1))
 | aa5 es b o cap esz sp vs hf hsz hc hv hle=>exact h2 ρ w rargs hs (ed9 hr (by rw[hx]; exact .ae7 _ _))
inductive fy3 (σ:Store) (S:Nat->Prop):List IV->List IV->Prop
 | nil:fy3 σ S [] []
 | cons {v v':IV} {vs vs':List IV} (h:Frz σ S v v') (t:fy3 σ S vs vs'):fy3 σ S (v::vs) (v'::vs')
theorem fy3.at {S:Nat->Prop}{cs cs':List IV}(h:fy3 σ S cs cs'):cs'.length=cs.length/\∀ i,i<cs.length->Frz σ S (cs.getD i .undef) (cs'.getD i .undef):=by
 induction h with
 | nil=>exact ⟨rfl,fun i hi=>absurd hi (Nat.not_lt_zero _)⟩
 | cons h _ ih=>
  refine ⟨by simp only[List.length_cons,ih.1],fun i hi=>?_⟩
  cases i with
  | zero=>exact h
  | succ i=>exact ih.2 i (by simpa using hi)
theorem Frz.il2 {S:Nat->Prop}{cs cs':List IV}(h:fy3 σ S cs cs'):Frz σ S (.agg cs) (.agg cs'):=.agg _ _ h.at.1 h.at.2
theorem Frz.cs6 {S:Nat->Prop}{cs cs':List IV}(h:fy3 σ S cs cs'):Frz σ S (.tuple cs) (.tuple cs'):=.tuple _ _ h.at.1 h.at.2
theorem il3:((0:Nat):Int)=0:=nr rfl
theorem il4:((1:Nat):Int)=1:=nr rfl
theorem il5:((2:Nat):Int)=2:=nr rfl
theorem il6:((3:Nat):Int)=3:=nr rfl
theorem il7:((4:Nat):Int)=4:=nr rfl
theorem il8:((5:Nat):Int)=5:=nr rfl
theorem il9:((6:Nat):Int)=6:=nr rfl
theorem im1:((7:Nat):Int)=7:=nr rfl
theorem im2:((8:Nat):Int)=8:=nr rfl
theorem im3:((9:Nat):Int)=9:=nr rfl
theorem id9:((10:Nat):Int)=10:=nr rfl
theorem ie1:((11:Nat):Int)=11:=nr rfl
theorem ie2:((12:Nat):Int)=12:=nr rfl
theorem ie3:((13:Nat):Int)=13:=nr rfl
theorem ie4:((14:Nat):Int)=14:=nr rfl
theorem ie5:((15:Nat):Int)=15:=nr rfl
theorem ie6:((16:Nat):Int)=16:=nr rfl
attribute [go_sem] il3 il4 il5 il6 il7 il8 il9 im1 im2 im3 id9 ie1 ie2 ie3 ie4 ie5 ie6 List.getD_cons_zero List.getD_cons_succ
theorem im4:IntKind.i64.wrap 0=0:=nr rfl
theorem im5:IntKind.i64.wrap 1=1:=nr rfl
theorem im6:IntKind.i64.wrap 2=2:=nr rfl
theorem im7:IntKind.i64.wrap 3=3:=nr rfl
theorem im8:IntKind.i64.wrap 4=4:=nr rfl
theorem im9:IntKind.i64.wrap 5=5:=nr rfl
theorem in1:IntKind.i64.wrap 6=6:=nr rfl
theorem in2:IntKind.i64.wrap 7=7:=nr rfl
theorem in3:IntKind.i64.wrap 8=8:=nr rfl
theorem in4:IntKind.i64.wrap 9=9:=nr rfl
theorem ie7:IntKind.i64.wrap 10=10:=nr rfl
theorem ie8:IntKind.i64.wrap 11=11:=nr rfl
theorem ie9:IntKind.i64.wrap 12=12:=nr rfl
theorem if1:IntKind.i64.wrap 13=13:=nr rfl
theorem if2:IntKind.i64.wrap 14=14:=nr rfl
theorem if3:IntKind.i64.wrap 15=15:=nr rfl
theorem if4:IntKind.i64.wrap 16=16:=nr rfl
attribute [go_sem] im4 im5 im6 im7 im8 im9 in1 in2 in3 in4 ie7 ie8 ie9 if1 if2 if3 if4
theorem hi8 {ag:Option Nat}{n m:Nat}:irL σ fr [.cell ag n,.t m]=(au4 σ ag (fr.get n)).map fun v=>[v,fr.get m]:=by
 simp only[irL,irV]; cases au4 σ ag (fr.get n)<;>rfl
attribute [go_sem] hi8 ak2
end Go.Id
/- Answers that are known,looked up; and what they are good for. Conditions: none; over any program. -/
namespace Go.Id
open Go
variable {P:Program} {E:Nat->IV}
def ck5 (r:IV->IV->Bool):List IV->List IV->Bool
 | [],[]=>true
 | a::x,b::y=>r a b&&ck5 r x y
 | _,_=>false
theorem be4 {r:IV->IV->Bool}(hr:∀ a b,r a b=true->a=b):∀ x y:List IV,ck5 r x y=true->x=y:=by
 intro x
 induction x with
 | nil=>intro y h; cases y with
  | nil=>rfl
  | cons b y=>cases h
 | cons a x ih=>intro y h; cases y with
  | nil=>cases h
  | cons b y=>
   simp only[ck5,Bool.and_eq_true] at h;rw[hr a b h.1,ih y h.2]
def dm7 (r:IV->IV->Bool):List (List IV)->List (List IV)->Bool
 | [],[]=>true
 | a::x,b::y=>ck5 r a b&&dm7 r x y
 | _,_=>false
theorem dm8 {r:IV->IV->Bool}(hr:∀ a b,r a b=true->a=b):∀ x y:List (List IV),dm7 r x y=true->x=y:=by
 intro x
 induction x with
 | nil=>intro y h; cases y with
  | nil=>rfl
  | cons b y=>cases h
 | cons a x ih=>intro y h; cases y with
  | nil=>cases h
  | cons b y=>
   simp only[dm7,Bool.and_eq_true] at h;rw[be4 hr a b h.1,ih y h.2]
def fy4:List UInt8->List UInt8->Bool
 | [],[]=>true
 | a::x,b::y=>Nat.beq a.toNat b.toNat&&fy4 x y
 | _,_=>false
theorem fy5:∀ x y:List UInt8,fy4 x y=true->x=y:=by
 intro x
 induction x with
 | nil=>intro y h; cases y with
  | nil=>rfl
  | cons b y=>cases h
 | cons a x ih=>intro y h; cases y with
  | nil=>cases h
  | cons b y=>
   simp only[fy4,Bool.and_eq_true] at h;rw[UInt8.toNat_inj.1 (Nat.eq_of_beq_eq_true h.1),ih y h.2]
def fy6:Nat->IV->IV->Bool
 | 0,_,_=>false
 | n+1,a,b=>match a with
  | .bool x=>match b with
   | .bool y=>match x,y with
    | true,true=>true
    | false,false=>true
    | _,_=>false
   | _=>false
  | .int k x=>match b with
   | .int k' y=>decide (k=k')&&decide (x=y)
   | _=>false
  | .str x=>match b with
   | .str y=>fy4 x y
   | _=>false
  | .ac2=>match b with
   | .ac2=>true
   | _=>false
  | .ab7 x=>match b with
   | .ab7 y=>ck5 (fy6 n) x y
   | _=>false
  | .aa5 x=>match b with
   | .aa5 y=>dm7 (fy6 n) x y
   | _=>false
  | .agg x=>match b with
   | .agg y=>ck5 (fy6 n) x y
   | _=>false
  | .tuple x=>match b with
   | .tuple y=>ck5 (fy6 n) x y
   | _=>false
  | .iface t x=>match b with
   | .iface t' y=>Nat.beq t t'&&fy6 n x y
   | _=>false
  | .ag2=>match b with
   | .ag2=>true
   | _=>false
  | .ah6=>match b with
   | .ah6=>true
   | _=>false
  | .ad4=>match b with
   | .ad4=>true
   | _=>false
  | .aa1=>match b with
   | .aa1=>true
   | _=>false
  | _=>false
theorem gr4:∀ (n:Nat) (a b:IV),fy6 n a b=true->a=b:=by
 intro n
 induction n with
 | zero=>intro a b h; cases h
 | succ n ih=>
  intro a b h;cases a<;>simp only[fy6] at h<;>(try cases h)<;>split at h<;>(try cases h)<;>(try rfl)
  ·split at h<;>(try cases h)<;>rfl
  ·simp only[Bool.and_eq_true,decide_eq_true_eq] at h; rw[h.1,h.2]
  ·rw[fy5 _ _ h]
  ·rw[be4 ih _ _ h]
  ·rw[dm8 ih _ _ h]
  ·simp only[Bool.and_eq_true] at h; rw[Nat.eq_of_beq_eq_true h.1,ih _ _ h.2]
  ·rw[be4 ih _ _ h]
  ·rw[be4 ih _ _ h]
abbrev gy8:=List (Nat×List IV×IV)
def gy8.get:gy8->Nat->List IV->Option IV
 | [],_,_=>none
 | (k,as,v)::r,f,args=>match Nat.beq k f with
  | true=>match ck5 (fy6 1000) as args with
   | true=>some v
   | false=>gy8.get r f args
  | false=>gy8.get r f args
def MOK (P:Program)(E:Nat->IV)(M:gy8):Prop:=∀ e∈M,okF P e.1=true/\PC P E e.1 e.2.1 e.2.2
theorem MOK.nil:MOK P E []:=fun _ h=>by cases h
theorem MOK.cons {M:gy8}{k:Nat}{as:List IV}{v:IV}(hk:okF P k=true)(h:PC P E k as v)(hM:MOK P E M):MOK P E ((k,as,v)::M):=fun e he=>by
 rcases List.mem_cons.1 he with rfl|he
 ·exact ⟨hk,h⟩
 ·exact hM e he
theorem gr5 {l:List (Nat×List IV)}(h:l.all (fun x=>x.2.all (aq2 1000))=true):∀ g,Bnd 0 (ew7 l g):=by
 intro g;unfold ew7
 cases hg:l.lookup g with
 | none=>exact .undef
 | some cs=>
  have hm:∃ x∈l,x.2=cs:=by
   clear h
   induction l with
   | nil=>cases hg
   | cons x l ih=>
    obtain ⟨a,b⟩:=x;simp only[List.lookup] at hg;split at hg
    ·cases hg; exact ⟨_,List.mem_cons_self ..,rfl⟩
    ·obtain ⟨x,h1,h2⟩:=ih hg; exact ⟨x,List.mem_cons_of_mem _ h1,h2⟩
  obtain ⟨x,h1,rfl⟩:=hm;exact .ab7 _ fun c hc=>as9 1000 c (List.all_eq_true.1 (List.all_eq_true.1 h x h1) c hc)
end Go.Id
