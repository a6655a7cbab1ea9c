/- Loops that go up; rows read by their places; runes of a string; what a yield is told. Conditions: none; over any program. -/
import Derived.Test.YtihiokikiejcpaaGreatDoorFwV
import Derived.Test.YtihiokikiejcpaaGreatDoorT6
set_option linter.all false
namespace Go.Id
open Go
variable {P:Program} {E:Nat->IV} {σ σ':Store} {N n0:Nat} {fr:Frm}
def upQ (I:Nat->Frm->Store->Prop)(i n:Nat)(Q:Exit->Frm->Store->Prop):Exit->Frm->Store->Prop
 | .normal,fr,σ=>i<n/\I (i+1) fr σ
 | e,fr,σ=>Q e fr σ
theorem iw2 {I:Nat->Frm->Store->Prop}{i n:Nat}{Q:Exit->Frm->Store->Prop}:upQ I i n Q .normal fr σ=(i<n/\I (i+1) fr σ):=nr rfl
theorem iw3 {I:Nat->Frm->Store->Prop}{i n k:Nat}{Q:Exit->Frm->Store->Prop}:upQ I i n Q (.exit k) fr σ=Q (.exit k) fr σ:=nr rfl
theorem iw4 {I:Nat->Frm->Store->Prop}{i n:Nat}{Q:Exit->Frm->Store->Prop}:upQ I i n Q .ret fr σ=Q .ret fr σ:=nr rfl
theorem ab3 {pt:PT}{ct:CT}(hT:TOK P E pt ct){x:IC}{Q:Exit->Frm->Store->Prop}(I:Nat->Frm->Store->Prop)(n:Nat)(h:I 0 fr σ)
  (hI:∀ i fr σ,i<=n->I i fr σ->wpT pt ct P E N n0 x fr σ (upQ I i n Q)):RI P E N n0 (.loop x) fr σ Q:=by
 refine fi3 (fun m fr σ=>∃ i,i<=n/\m=n-i/\I i fr σ) n ⟨0,Nat.zero_le _,rfl,h⟩ ?_;rintro m fr σ ⟨i,hi,rfl,hi0⟩;refine bt1 x fr σ _ _ ?_ (ba9 hT x fr σ _ (hI i fr σ hi hi0));intro e f s q
 cases e with
 | normal=>exact ⟨n-(i+1),by have:=q.1; omega,i+1,q.1,rfl,q.2⟩
 | _=>exact q
theorem ae8 {α:Type}(es:List α)(i:Nat)(h:i<es.length):∃ a,a∈es/\es[i]? = some a/\es.drop i=a::es.drop (i+1)/\(∀ (f:α->List IV),(es.map f).getD i []=f a)/\es.take (i+1)=es.take i++[a]:=
 ⟨es[i],List.getElem_mem h,List.getElem?_eq_getElem h,List.drop_eq_getElem_cons h,fun f=>by simp[List.getD_eq_getElem?_getD,h],by rw[List.take_add_one,List.getElem?_eq_getElem h]; rfl⟩
theorem fl1 (s:List UInt8)(i:Nat)(h:i<s.length):((⟨s.toArray⟩:ByteArray).get! i)=s[i]:=by
 show (s.toArray)[i]! = s[i];simp[h]
theorem eo1 (s:List UInt8)(i:Nat)(h:i<s.length)(hb:s[i].toNat<128):Utf8.decode ⟨s.toArray⟩ i=(s[i].toNat,1):=by
 unfold Utf8.decode;simp only[Nat.add_zero,fl1 s i h];rw[if_pos hb]
theorem decode_high (s:List UInt8)(i:Nat)(h:i<s.length)(hb:¬ s[i].toNat<128):128<=(Utf8.decode ⟨s.toArray⟩ i).1:=by
 unfold Utf8.decode;simp only[Nat.add_zero,fl1 s i h];rw[if_neg hb];have e:Utf8.runeError=65533:=rfl
 repeat' split
 all_goals first|(rw[e]; omega)|(simp only[ge_iff_le,Bool.and_eq_true,decide_eq_true_eq] at *; omega)
def gc7 (P:Program)(E:Nat->IV)(id:Nat)(I:List (List IV)->Store->Prop)(S:Store->Prop):Prop :=
 ∀ a rest σ,I (a::rest) σ->CV P E (.yield id) a σ fun v s=>σ.next<=s.next/\((v=.bool true/\I rest s)\/(v=.bool false/\S s))
end Go.Id
/- The walk's rewriting rules,marked. Conditions: none; over any program. -/
namespace Go.Id
open Go
attribute [go_sem] ct9 cu1 bx7 bj1 cu2 bx8 cu3 bx9 ep3 ho4 eo9 ep1 cu4 by1 cu5 by2 by3 bj2 cu6 w_q by4
 ep4 ep5 by5 ep6 by7 bj3 by6 cu7 cu8 cu9 by8 bj4 ep7 cv2 ep8 cv3 by9 bz1 cv4 ep9
 eq1 eq2 eq3 eq4 eq5 eq6 eq7 eq8 eq9 cv5 er1 cv6 er2 cv7 bz2 cv8 cw3 er3 ho7 ho8 er4 er5 er6 er7
 er8 er9 es3 es4 es5 es6 cw4 bz3 bj5 bb1 bz4 bj6 cv9 cw1 cw2 bz5 ho5 ho6 bb3 bk1
 ca7 ca8 ca9 ca6 cx7 e_t e_c e_g e_f es7 cw5 es8 es9 et1 ao1 et2 cw6 bz6 et3 bz7 et4 bz8
 bz9 et5 cw7 et6 cw8 et7 et8 et9 eu1 cw9 cx1 dx7 gr4 do7 dx6 ca1 ca2 cx2 cx3 ca3 ca4 ho9
 bj7 cx4 cx5 cx6 bj8 ca5 bb2 bj9 bk2 cb1 bk3 bk4 cx8 cx9 dx8 dx9 cb2 cb3
 cb4 cb5 cy1 cy2 cb6 bk5 eu2 eu3 eu4 eu5 eu6 eu7 eu8 eu9 ev1 ev2 ev3 do8 dy1 cy3 cy4 cy5
 cy6 cy7 cy8 cy9 cz1 cz2 cz3 ib7 ib8 ib9 ic1 bb4 bk6 cb7 cb8 cb9 cz4 cz5 cz6 cz7 ev4 ev5 cz8 ev6
 cc1 cc2 cc3 ev9 bg7 gr5 da6 cc4 cc5 bk7 bg6 bt2 ev7 ch7 bk8 ev8 ch8 bk9 bl4 cc6
 cc7 cc8 cc9 bl5 cd1 cd2 bl6 bb5 aw3 bl7 cd3 bl8 cz9 da1 da2 cd4 bl9
 cd5 cd6 bm1 bb6 aw4 bm2 cd7 bm3 da3 da4 da5 Frm.ay4 Frm.get_nil aa6 aa2 iw2 iw3
 iw4 dx7 gr4 do7 dx6 iq8 ib6 
attribute [go_sem] List.getElem?_cons_zero List.getElem?_cons_succ List.all_cons List.all_nil List.drop_zero List.drop_succ_cons List.head?_cons Bool.and_true Bool.and_self List.append_nil List.nil_append List.cons_append Bool.false_eq_true Bool.xor_false Bool.xor_true Bool.not_true Bool.not_false Nat.add_zero Nat.zero_add Nat.succ_ne_zero if_true if_false true_and and_true
end Go.Id
namespace Go.Id
open Go
variable {P:Program} {E:Nat->IV} {σ σ':Store} {N n0:Nat} {fr:Frm} {pf:List Nat}
theorem av1 {f:Nat}{ic:IC}{irs:List IR}{args:List IV}{v:IV}(hf:FOK P f (N,ic,irs))(hl:args.length<=N)
  (h:∀ σ,wpT noP noC P E N σ.next ic (bd5 args 0) σ (fm9 irs fun v' σ'=>v'=v/\σ'=σ)):PC P E f args v:=by
 obtain ⟨_,pf,an,h1⟩:=hf;exact iz1 noT h1 hl h
theorem C_f {f:Nat}{ic:IC}{irs:List IR}{args:List IV}{Qc:IV->Store->Prop}(hf:FOK P f (N,ic,irs))(hl:args.length<=N)
  (h:wpT noP noC P E N σ.next ic (bd5 args 0) σ (fm9 irs Qc)):C P E f args σ Qc:=by
 obtain ⟨_,pf,an,h1⟩:=hf;exact C_T noT h1 hl h
def emp:Store:=⟨0,fun _=>none⟩
theorem gc8:emp.next=0:=nr rfl
theorem gx7 {i:Nat}:emp.obj i=none:=nr rfl
attribute [go_sem] gc8 gx7
theorem ao4 {f:Nat}{ic:IC}{irs:List IR}{args:List IV}{v:IV}(hE:∀ g,Bnd 0 (E g))(hf:FOK P f (N,ic,irs))(hl:args.length<=N)(ha:∀ a∈args,Bnd 0 a)
  (h:wpT noP noC P E N 0 ic (bd5 args 0) emp (fm9 irs fun v' σ'=>dk5 σ' 0 v' v)):PC P E f args v :=
 ee8 hE ha (C_f (σ:=emp) hf hl h)
theorem aa5 {f:Nat}{e:FE}{args:List IV}{v:IV}{K:IV->Store->Prop}(hf:FOK P f e)(h:PC P E f args v)(hk:K v σ):cn6 P E none f args σ K :=
 as5 hf.1 (gf5 h) fun _ _ ⟨h1,h2⟩=>by subst h1; subst h2; exact ⟨Nat.le_refl _,hk⟩
theorem ad3 {f:Nat}{e:FE}{args:List IV}{Qc:IV->Store->Prop}{K:IV->Store->Prop}(hf:FOK P f e)(h:C P E f args σ Qc)(hk:∀ v s,Qc v s->σ.next<=s.next/\K v s):cn6 P E none f args σ K :=
 as5 hf.1 h hk
theorem ac4 {S:Nat->Prop}(b:Bool):Frz σ S (.bool b) (.bool b):=.keep _ (.bool _)
theorem ac8 {S:Nat->Prop}(k:IntKind)(n:Int):Frz σ S (.int k n) (.int k n):=.keep _ (.int _ _)
theorem bd3 {S:Nat->Prop}(s:List UInt8):Frz σ S (.str s) (.str s):=.keep _ (.str _)
theorem gq5 {ρ:Rho}{w:World}{v:IV}{rargs:Array Value}(h:CR ρ w [v] rargs):VR ρ w v (rargs.getD 0 undef):=by
 have:=h.2 0 (Nat.zero_lt_one)
 simpa using this
theorem ee4 {ρ:Rho}{w:World}{u v:IV}{rargs:Array Value}(h:CR ρ w [u] rargs)(hv:VR ρ w v (rargs.getD 0 undef)):CR ρ w [v] rargs :=
 ⟨h.1,fun i hi=>by
  have:i=0:=by simp at hi; omega
  subst this
  simpa using hv⟩
theorem dn7 {f:Nat}{v:IV}(h1:PC P E f [.aa1] v)(h2:PC P E f [.ae5] v):PC P E f [.aa3 []] v:=by
 intro σ ρ w rargs hs hr;have hv:=gq5 hr;generalize hx:rargs.getD 0 undef=r at hv
 cases hv with
 | bw1=>exact h1 σ ρ w rargs hs (ee4 hr (by rw[hx]; exact .aa1))
 | aa3 es b o cap esz sp vs hf hsz hc hv hle=>exact h2 σ ρ w rargs hs (ee4 hr (by rw[hx]; exact .ae5 _ _))
theorem ad2 {i:Nat}(h:i<2^62):IntKind.i64.wrap ((i:Int)+1)=((i+1:Nat):Int):=by
 rw[wrap64 (by omega) (by omega)]; omega
theorem gx8 {cs:List IV}:ap6 cs []=some cs:=by simp only[ap6]
theorem gx9 {cs:List IV}{off n:Nat}{v:IV}{ps:List (Nat×Nat×IV)}:ap6 cs ((off,n,v)::ps)=if v.cs.length=n/\off+n<=cs.length/\v.cs.all IV.leaf=true then ap6 (ap5 cs off v.cs) ps else none:=by simp only[ap6]
theorem hu9 {c:IV}{cs:List IV}{vs:List IV}:ap5 (c::cs) 0 vs=vs++(c::cs).drop vs.length:=by simp[ap5]
theorem hv8 {c:IV}{cs vs:List IV}{n:Nat}:ap5 (c::cs) (n+1) vs=c::ap5 cs n vs:=by simp[ap5,Nat.add_right_comm]
theorem hv9 {d:TypeId}{a:List IV}{as:List (List IV)}:dj9 (.slice d) (.aa3 (a::as))=some false:=nr rfl
theorem hw5 {d:TypeId}:dj9 (.slice d) .aa1=some true:=nr rfl
theorem hw6 {d:TypeId}:dj9 (.slice d) .ae5=some false:=nr rfl
theorem hw9 {d:TypeId}:dj9 (.slice d) .ac2=some false:=nr rfl
theorem hx8 {d:TypeId}{i o l e:Nat}:dj9 (.slice d) (.slice i o l e)=some false:=nr rfl
theorem gq6 {d:TypeId}:dj9 (.pointer d) .af2=some true:=nr rfl
theorem gy1 {d:TypeId}{cs:List IV}:dj9 (.pointer d) (.ad4 cs)=some false:=nr rfl
theorem gy2 {d:TypeId}{i o:Nat}:dj9 (.pointer d) (.ptr i o)=some false:=nr rfl
theorem gc9 {e:Nat}{l:List IV}:chunk e 0 l=[]:=nr rfl
theorem gd1 {e n:Nat}{l:List IV}:chunk e (n+1) l=l.take e::chunk e n (l.drop e):=nr rfl
theorem hx9 {z:List IV}:rep z 0=[]:=nr rfl
theorem hy5 {z:List IV}{n:Nat}:rep z (n+1)=z++rep z n:=nr rfl
theorem gy3 {off:Nat}{cs:List IV}:ba2 none off cs=cs[off]?:=nr rfl
theorem gy4 {off n:Nat}{cs:List IV}:ba2 (some n) off cs=if off+n<=cs.length then some (.agg ((cs.drop off).take n)) else none:=nr rfl
theorem hy6 {ag:Option Nat}{off:Nat}{cs:List IV}:hn5 ag off (.agg cs)=ba2 ag off cs:=nr rfl
theorem hy7 {ag:Option Nat}{n esz:Nat}{cs:List IV}{k:IntKind}{i:Int}:gv1 ag n esz (.agg cs) (.int k i)=if 0<=i/\i<n then ba2 ag (i.toNat*esz) cs else none:=nr rfl
theorem gd2 {n esz:Nat}{v:IV}{k:IntKind}{i:Int}:cs7 n esz v (.int k i)=if 0<=i/\i<n then ck8 (i.toNat*esz) v else none:=nr rfl
theorem aw8 {s:List UInt8}{k:IntKind}{i:Int}:dc9 (.str s) (.int k i)=if 0<=i then (s[i.toNat]?).map fun b=>.int .u8 b.toNat else none:=nr rfl
theorem hy8 {tags:List Nat}{neg:Bool}{xs ys:List IV}:gp4 tags true neg (.agg xs) (.agg ys)=(allEq tags xs ys).map fun b=>.bool (b ^^ neg):=nr rfl
theorem fl2:allEq [] [] []=some true:=nr rfl
def ij5:Option Bool->Option Bool->Option Bool
 | some a,some b=>some (a&&b)
 | _,_=>none
theorem hy9 {a b:Bool}:ij5 (some a) (some b)=some (a&&b):=nr rfl
theorem fl3 {t:Nat}{ts:List Nat}{x y:IV}{xs ys:List IV}:allEq (t::ts) (x::xs) (y::ys)=ij5 (ah4 t x y) (allEq ts xs ys):=by
 simp only[allEq]; cases ah4 t x y<;>cases allEq ts xs ys<;>rfl
theorem hz4 {k:IntKind}{a b:Int}:ah4 1 (.int k a) (.int k b)=some (decide (a=b)):=by simp[ah4]
theorem hz5 {a b:List UInt8}:ah4 2 (.str a) (.str b)=some (decide (a=b)):=nr rfl
theorem gq7 {a b:List UInt8}:ai4 2 (.str a) (.str b)=some (decide (a=b)):=nr rfl
theorem hz6 {a b:Bool}:ah4 0 (.bool a) (.bool b)=some (a==b):=nr rfl
attribute [go_sem] hy8 fl2 fl3 hy9 hz6 hz4 hz5
attribute [go_sem] gx8 gx9 hu9 hv8 hv9 hw5 hw6 hw9 hx8 gq6 gy1 gy2 gc9 gd1 hx9 hy5 gy3 gy4 hy6 hy7 gd2 aw8
attribute [go_sem] Bool.true_or Bool.or_true Bool.false_or Bool.or_false Bool.true_and Bool.false_and Bool.and_false
attribute [go_sem] List.length_cons List.length_nil List.take_succ_cons List.take_zero List.length_map Int.toNat_natCast
end Go.Id
/- Ranging over functions that tell rows: tellers,and the loops over them. Conditions: none; over any program. -/
namespace Go.Id
open Go
variable {P:Program} {E:Nat->IV} {σ σ':Store} {N n0:Nat} {fr:Frm}
def ij6 (I:List (List IV)->Store->Prop):Prop:=∀ rest s s',I rest s->s.next<=s'.next->(∀ i,i<s.next->s'.obj i=s.obj i)->I rest s'
def hz7 (n:Nat)(I:List (List IV)->Store->Prop)(S:Store->Prop):IV->Store->Prop:=fun _ s=>n<=s.next/\(I [] s\/S s)
def cm9 (P:Program)(E:Nat->IV)(fv:IV)(evs:List (List IV))(own:Store->Prop):Prop :=
 ∀ (yid:Nat) (I:List (List IV)->Store->Prop) (S:Store->Prop) (σ:Store),(∀ rest s,I rest s->own s)->ij6 I->gc7 P E yid I S->I evs σ->CVf P E fv [.yield yid] σ (hz7 σ.next I S)
def it8 (P:Program)(E:Nat->IV)(N n0:Nat)(id:Nat)(L:LoopState->Option JX->ak4)(x:IC)(K:IV->Store->Prop):Exit->Frm->Store->Prop
 | .normal,f,s=>s.obj id=some (L .ready none)/\wpT noP noC P E N n0 x f (s.put id (L .busy none)) (cm1 id L K)
 | _,_,_=>False
theorem im9 {id:Nat}{L:LoopState->Option JX->ak4}{x:IC}{K:IV->Store->Prop}:it8 P E N n0 id L x K .normal fr σ=(σ.obj id=some (L .ready none)/\wpT noP noC P E N n0 x fr (σ.put id (L .busy none)) (cm1 id L K)):=nr rfl
theorem in1 {id:Nat}{L:LoopState->Option JX->ak4}{K:IV->Store->Prop}:cm1 id L K .normal fr σ=(σ.obj id=some (L .busy none)/\K (.bool true) (σ.put id (L .ready none))):=nr rfl
theorem in2 {id:Nat}{L:LoopState->Option JX->ak4}{K:IV->Store->Prop}:cm1 id L K .ret fr σ=(σ.obj id=some (L .busy none)/\K (.bool false) (σ.put id (L .done (some .ret)))):=nr rfl
theorem in3 {id i:Nat}{L:LoopState->Option JX->ak4}{K:IV->Store->Prop}:cm1 id L K (.exit i) fr σ=(σ.obj id=some (L .busy none)/\K (.bool false) (σ.put id (L .done (some (.exit i))))):=nr rfl
theorem gy5:cr2 fr [] []=fr:=nr rfl
theorem gy6 {p:Nat}{ps:List Nat}{v:IV}{vs:List IV}:cr2 fr (p::ps) (v::vs)=cr2 (fr.set p v) ps vs:=nr rfl
theorem in4 {p:Nat}{v:IV}:fr.set p v=(p,v)::fr:=nr rfl
def goQ (id n:Nat)(L:LoopState->Option JX->ak4)(J:List (List IV)->Store->Prop)(Q:Exit->Frm->Store->Prop)(fr:Frm)(rest:List (List IV)):IV->Store->Prop:=fun v s=>
 n<=s.next/\((v=.bool true/\s.obj id=some (L .ready none)/\J rest s)\/(v=.bool false/\∃ st pend,st≠.busy/\s.obj id=some (L st pend)/\gx1 Q fr (s.kill id) pend))
theorem cr1 {id n:Nat}{L:LoopState->Option JX->ak4}{J:List (List IV)->Store->Prop}{Q:Exit->Frm->Store->Prop}{rest:List (List IV)}(h1:n<=σ.next)(h2:σ.obj id=some (L .ready none))(h3:J rest σ):goQ id n L J Q fr rest (.bool true) σ:=⟨h1,.inl ⟨rfl,h2,h3⟩⟩
theorem cn1 {id n:Nat}{L:LoopState->Option JX->ak4}{J:List (List IV)->Store->Prop}{Q:Exit->Frm->Store->Prop}{rest:List (List IV)}(h1:n<=σ.next)(h2:σ.obj id=some (L .done (some .ret)))(h3:Q .ret fr (σ.kill id)):goQ id n L J Q fr rest (.bool false) σ:=⟨h1,.inr ⟨rfl,.done,some .ret,(fun h=>by cases h),h2,h3⟩⟩
theorem bx3 {g:IX}{ps:List Nat}{y x:IC}{Q:Exit->Frm->Store->Prop}{evs:List (List IV)}{own:Store->Prop}(hT:cm9 P E (g.ev E fr) evs own)
  (J:List (List IV)->Store->Prop) (hown:∀ rest s,J rest s->own s) (hstab:ij6 J) (hlen:∀ a∈evs,a.length=ps.length)
  (hinit:∀ o,J evs ⟨σ.next+1,(σ.put σ.next o).obj⟩)
  (hbody:∀ (L:LoopState->Option JX->ak4) (pre:List (List IV)) (a:List IV) (rest:List (List IV)) (s:Store),evs=pre++a::rest->J (a::rest) s->s.obj σ.next=some (L .ready none)->σ.next<s.next ->
   wpT noP noC P E N s.next y (cr2 fr ps a) s (it8 P E N s.next σ.next L x (goQ σ.next s.next L J Q fr rest)))
  (hend:∀ s o,J [] s->σ.next<s.next->s.obj σ.next=some o->Q .normal fr (s.kill σ.next)) :
  RI P E N n0 (.be8 g ps y x) fr σ Q:=by
 refine gb2 fun L hL=>?_
 let I:List (List IV)->Store->Prop:=fun rest s=>(∃ pre,evs=pre++rest)/\s.obj σ.next=some (L .ready none)/\σ.next<s.next/\J rest s
 let S:Store->Prop:=fun s=>∃ st pend,st≠.busy/\s.obj σ.next=some (L st pend)/\gx1 Q fr (s.kill σ.next) pend
 have hI:ij6 I:=by
  rintro rest s s' ⟨hp,h1,h2,h3⟩ hn hs;exact ⟨hp,by rw[hs _ h2]; exact h1,Nat.lt_of_lt_of_le h2 hn,hstab rest s s' h3 hn hs⟩
 have hst:gc7 P E σ.next I S:=by
  rintro a rest s ⟨⟨pre,hp⟩,h1,h2,h3⟩;refine ⟨by rw[h1]; rfl,?_⟩;have hb:=hbody L pre a rest s hp h3 h1 h2;refine hL s a _ (hlen a (by rw[hp]; simp)) h1 ?_;refine (bf6 y _ _ _ (bt1 y _ _ _ _ ?_ (ba9 noT y _ _ _ hb)));intro e f s1 q
  cases e with
  | normal=>
   refine ⟨rfl,q.1,?_⟩;refine (bf6 x _ _ _ (bt1 x _ _ _ _ ?_ (ba9 noT x _ _ _ q.2)))
   have hK:∀ v s2,goQ σ.next s.next L J Q fr rest v s2->s.next<=s2.next/\((v=.bool true/\I rest s2)\/(v=.bool false/\S s2)):=by
    rintro v s2 ⟨hn,h|h⟩
    ·exact ⟨hn,.inl ⟨h.1,⟨pre++[a],by rw[hp]; simp⟩,h.2.1,Nat.lt_of_lt_of_le h2 hn,h.2.2⟩⟩
    ·exact ⟨hn,.inr ⟨h.1,h.2⟩⟩
   intro e f s2 q2
   cases e with
   | normal=>exact ⟨q2.1,hK _ _ q2.2⟩
   | ret=>exact ⟨q2.1,hK _ _ q2.2⟩
   | exit i=>exact ⟨q2.1,hK _ _ q2.2⟩
   | _=>exact q2
  | _=>exact q.elim
 have h:=hT σ.next I S ⟨σ.next+1,(σ.put σ.next (L .ready none)).obj⟩ (fun rest s h=>hown rest s h.2.2.2) hI hst ⟨⟨[],rfl⟩,by simp only[aa2,if_true],Nat.lt_succ_self _,hinit _⟩;refine h.mono ?_;rintro v s ⟨hn,h|h⟩
 ·exact ⟨Nat.le_of_lt hn,.ready,none,(fun h=>by cases h),h.2.1,hend s _ h.2.2.2 h.2.2.1 h.2.1⟩
 ·exact ⟨Nat.le_of_lt hn,h⟩
theorem bx4 {yid:Nat}{I:List (List IV)->Store->Prop}{S:Store->Prop}{a:List IV}{rest:List (List IV)}{K:IV->Store->Prop}(h:gc7 P E yid I S)(hi:I (a::rest) σ)
  (h1:∀ s,σ.next<=s.next->I rest s->K (.bool true) s) (h2:∀ s,σ.next<=s.next->S s->K (.bool false) s):fn1 noC P E (.yield yid) a σ K:=by
 refine ⟨_,h a rest σ hi,?_⟩;rintro v s ⟨hn,⟨rfl,h⟩|⟨rfl,h⟩⟩
 ·exact ⟨hn,h1 s hn h⟩
 ·exact ⟨hn,h2 s hn h⟩
theorem fl4 {i:Nat}:(σ.kill i).next=σ.next:=nr rfl
theorem gd3 {i j:Nat}:(σ.kill i).obj j=if j=i then none else σ.obj j:=nr rfl
attribute [go_sem] fl4 gd3
attribute [go_sem] im9 in1 in2 in3 gy5 gy6 in4
end Go.Id
/- Rows that grow,one by one; what is done with,as trees. Conditions: none; over any program. -/
namespace Go.Id
open Go
variable {P:Program} {E:Nat->IV} {σ σ':Store} {N n0:Nat} {fr:Frm}
def in5 (σ:Store):IV->Prop
 | .ad4 _=>True
 | .ptr i _=>match σ.obj i with
  | some (.cells _)=>True
  | _=>False
 | _=>False
def it9:Option ak4->Prop
 | some (.cells _)=>True
 | _=>False
theorem hz8 {ag:Option Nat}{x:IX}:bo1 E fr σ (.q (.load ag x))=in5 σ (x.ev E fr):=nr rfl
theorem b_t {cs:List IV}:in5 σ (.ad4 cs)=True:=nr rfl
theorem b_p {i o:Nat}:in5 σ (.ptr i o)=it9 (σ.obj i):=nr rfl
theorem b_o {cs:List IV}:it9 (some (.cells cs))=True:=nr rfl
theorem in6 {x:IX}:bo1 E fr σ (.q (.mov x))=True:=nr rfl
theorem gy7 {n:Nat}{x:IX}:bo1 E fr σ (.q (.ab1 n x))=True:=nr rfl
theorem hz9 {x:IX}:bo1 E fr σ (.q (.bq9 x))=True:=nr rfl
theorem in7 {n:Nat}{x:IX}:bo1 E fr σ (.q (.len n x))=True:=nr rfl
theorem in8 {n:Nat}{z:IV}{b:Bool}{x y:IX}:bo1 E fr σ (.q (.lkp n z b x y))=True:=nr rfl
theorem in9 {z:List IV}{ps:List (Nat×Nat×IX)}:bo1 E fr σ (.q (.bld z ps))=True:=nr rfl
theorem io1 {op:BinOp}{x y:IX}:bo1 E fr σ (.q (.bin op x y))=True:=nr rfl
theorem gy8 {n:Nat}{x y:IX}:bo1 E fr σ (.q (.ab6 n x y))=True:=nr rfl
theorem ia1 {k:IntKind}{x:IX}:bo1 E fr σ (.q (.conv k x))=True:=nr rfl
theorem io2 {n:Nat}{x:IX}:bo1 E fr σ (.q (.ext n x))=True:=nr rfl
theorem ia2 {x y z:IX}:bo1 E fr σ (.q (.pick x y z))=True:=nr rfl
theorem io3 {x:IX}:bo1 E fr σ (.q (.not x))=True:=nr rfl
theorem gy9 {f:Nat}{xs:List IX}:bo1 E fr σ (.ah5 f xs)=True:=nr rfl
theorem ia3 {e n:Nat}{z:List IV}{ps:List (Nat×Nat×IX)}:bo1 E fr σ (.aw2 e n z ps)=True:=nr rfl
theorem io4 {e n:Nat}{z:List IV}{ps:List (Nat×Nat×IX)}:bo1 E fr σ (.bsl e n z ps)=True:=nr rfl
theorem io5 {e:Nat}{x y:IX}:bo1 E fr σ (.app e x y)=True:=nr rfl
theorem gz1 {n:Nat}{x y:IX}:bo1 E fr σ (.store n x y)=True:=nr rfl
theorem ia4 {n:Nat}{x y z:IX}:bo1 E fr σ (.cr3 n x y z)=True:=nr rfl
theorem gz2 {z:List IV}:bo1 E fr σ (.alloc z)=True:=nr rfl
attribute [go_sem] hz8 b_t b_p b_o in6 gy7 hz9 in7 in8 in9 io1 gy8 ia1 io2 ia2 io3 gy9 ia3 io4 io5 gz1 ia4 gz2
def Grow (σ:Store)(v:IV)(esz:Nat)(es:List (List IV)):Prop :=
 (v=.aa1/\es=[])\/∃ id,v=.slice id 0 es.length esz/\σ.obj id=some (.row es.flatten)/\id<σ.next
def ad7 (v:IV)(σ:Store):Store:=match v with
 | .slice id _ _ _=>σ.kill id
 | _=>σ
theorem as3 {esz:Nat}{es:List (List IV)}(h:∀ e∈es,e.length=esz):es.flatten.length=es.length*esz:=by
 induction es with
 | nil=>simp
 | cons e es ih=>simp[ih (fun x hx=>h x (List.mem_cons_of_mem _ hx)),h e (List.mem_cons_self ..),Nat.add_mul]; omega
theorem fl5 {esz:Nat}{es:List (List IV)}(h:∀ e∈es,e.length=esz)(i j:Nat)(hi:i<es.length)(hj:j<esz):es.flatten.getD (i*esz+j) .undef=(es.getD i []).getD j .undef:=by
 induction es generalizing i with
 | nil=>simp at hi
 | cons e es ih=>
  have he:=h e (List.mem_cons_self ..)
  cases i with
  | zero=>simp[List.getD_eq_getElem?_getD,List.getElem?_append,he,hj]
  | succ i=>
   have h1:¬ ((i+1)*esz+j<e.length):=by rw[he,Nat.add_mul]; omega
   have h2:(i+1)*esz+j-e.length=i*esz+j:=by rw[he,Nat.add_mul]; omega
   have:=ih (fun x hx=>h x (List.mem_cons_of_mem _ hx)) i (by simpa using hi);simp only[List.getD_eq_getElem?_getD,List.flatten_cons,List.getElem?_append,if_neg h1,h2,List.getElem?_cons_succ] at this ⊢;exact this
theorem bg1 {es:List (List IV)}(h:∀ e∈es,e.all IV.leaf=true):es.flatten.all IV.leaf=true:=by
 simp only[List.all_eq_true,List.mem_flatten];rintro c ⟨e,he,hc⟩;exact List.all_eq_true.1 (h e he) c hc
theorem aj6 {v:IV}{esz nid:Nat}{es:List (List IV)}{e:List IV}(hg:Grow σ v esz es)(h:∀ x∈es,x.length=esz/\x.all IV.leaf=true)(he:e.length=esz/\e.all IV.leaf=true)(hn:es.length<2147483648) :
  an5 σ nid esz v (.aa3 [e])=some (.slice nid 0 (es.length+1) esz,(ad7 v σ).put nid (.row (es++[e]).flatten)):=by
 have hsrc:ax8 σ esz (.aa3 [e])=some (1,e):=by simp[ax8,he.1]
 have hl:e.all IV.leaf=true:=he.2;rcases hg with ⟨rfl,rfl⟩|⟨id,rfl,ho,hid⟩
 ·unfold an5;rw[hsrc];simp[hl,ad7]
 ·unfold an5;rw[hsrc];have h1:es.flatten.all IV.leaf=true:=bg1 fun x hx=>(h x hx).2
  have h2:es.flatten.length=es.length*esz:=as3 fun x hx=>(h x hx).1
  simp[hl,ho,ad7,h1,h2];omega
theorem Grow.new {v:IV}{esz nid:Nat}{es:List (List IV)}{e:List IV}(hlt:nid<σ'.next)(ho:σ'.obj nid=some (.row (es++[e]).flatten)):Grow σ' (.slice nid 0 (es.length+1) esz) esz (es++[e]):=
 .inr ⟨nid,by simp,ho,hlt⟩
theorem ac1 (v:IV):(ad7 v σ).next=σ.next:=by cases v<;>rfl
theorem af7 {v:IV}{esz:Nat}{es:List (List IV)}(hg:Grow σ v esz es)(i:Nat)(o:ak4)(ho:σ.obj i=some o)(hr:∀ cs,o≠.row cs):(ad7 v σ).obj i=some o:=by
 rcases hg with ⟨rfl,rfl⟩|⟨id,rfl,ho',hid⟩
 ·exact ho
 ·show (if i=id then none else σ.obj i)=some o;rw[if_neg]
  ·exact ho
  ·intro e; subst e; rw[ho] at ho'; cases ho'; exact hr _ rfl
theorem Grow.frz {S:Nat->Prop}{v:IV}{esz:Nat}{es:List (List IV)}(hg:Grow σ v esz es)(h:∀ x∈es,x.length=esz)(hS:∀ id,v=.slice id 0 es.length esz->¬ S id)(hb:∀ e∈es,∀ c∈e,Nm S c):Frz σ S v (.aa3 es):=by
 rcases hg with ⟨rfl,rfl⟩|⟨id,rfl,ho,hid⟩
 ·exact .dm9
 ·refine .slice id 0 es.length esz es.flatten es (hS id rfl) (.inr ho) rfl (by rw[as3 h]; omega) (fun i hi=>h _ (ad6 _ hi)) (fun i hi j hj=>?_);rw[Nat.zero_add,fl5 h i j hi hj];exact .keep _ (hb _ (ad6 _ hi) _ (ad6 _ (by rw[h _ (ad6 _ hi)]; exact hj)))
theorem Grow.mono {v:IV}{esz:Nat}{es:List (List IV)}(hg:Grow σ v esz es)(hn:σ.next<=σ'.next)(h:∀ id,v=.slice id 0 es.length esz->id<σ.next->σ'.obj id=σ.obj id):Grow σ' v esz es:=by
 rcases hg with h0|⟨id,rfl,ho,hid⟩
 ·exact .inl h0
 ·exact .inr ⟨id,rfl,by rw[h id rfl hid]; exact ho,Nat.lt_of_lt_of_le hid hn⟩
theorem Grow.ne {v:IV}{esz id:Nat}{es:List (List IV)}{i:Nat}{o:ak4}(hg:Grow σ v esz es)(hv:v=.slice id 0 es.length esz)(ho:σ.obj i=some o)(hr:∀ cs,o≠.row cs):id≠i:=by
 intro e;subst e;rcases hg with ⟨rfl,_⟩|⟨id',rfl,ho',_⟩
 ·cases hv
 ·cases hv;rw[ho] at ho';cases ho';exact hr _ rfl
theorem de5 {did esz nid:Nat}{es:List (List IV)}(ho:σ.obj did=some (.row []))(hne:es≠[])(h:∀ x∈es,x.length=esz/\x.all IV.leaf=true)(hn:es.length<=2147483648) :
  an5 σ nid esz (.slice did 0 0 esz) (.aa3 es)=some (.slice nid 0 es.length esz,(σ.kill did).put nid (.row es.flatten)):=by
 have hsrc:ax8 σ esz (.aa3 es)=some (es.length,es.flatten):=by
  simp only[ax8];rw[if_pos (by simpa using fun x hx=>(h x hx).1)]
 have h1:es.flatten.all IV.leaf=true:=bg1 fun x hx=>(h x hx).2
 have h0:es.length≠0:=fun e=>hne (List.length_eq_zero_iff.1 e)
 unfold an5;rw[hsrc];simp[h1,ho,h0,hn]
theorem de6 {did esz nid:Nat}{x:IV}(ho:σ.obj did=some (.row []))(hx:ax8 σ esz x=some (0,[])):an5 σ nid esz (.slice did 0 0 esz) x=some (.slice did 0 0 esz,σ):=by
 unfold an5;rw[hx];simp[ho]
theorem aw9 {esz:Nat}{es:List (List IV)}(h:∀ e∈es,e.length=esz)(j:Nat)(hj:j<es.length):(es.flatten.drop (j*esz)).take esz=es.getD j []:=by
 induction es generalizing j with
 | nil=>simp at hj
 | cons e es ih=>
  have he:=h e (List.mem_cons_self ..)
  cases j with
  | zero=>simp[he]
  | succ j=>
   have h2:(j+1)*esz=e.length+j*esz:=by rw[he,Nat.add_mul]; omega
   rw[List.flatten_cons,h2,List.drop_append,List.drop_of_length_le (by omega),List.nil_append,show e.length+j*esz-e.length=j*esz from by omega];exact ih (fun x hx=>h x (List.mem_cons_of_mem _ hx)) j (by simpa using hj)
theorem ba5 {l vs:List IV}{off:Nat}(h:(l.drop off).take vs.length=vs)(hl:off+vs.length<=l.length):ap5 l off vs=l:=by
 unfold ap5
 have h1:l.drop off=vs++l.drop (off+vs.length):=by
  rw[<- List.drop_drop]
  conv=>lhs; rw[<- List.take_append_drop vs.length (l.drop off)]
  rw[h]
 rw[List.append_assoc,<- h1,List.take_append_drop]
theorem gd4 {f:Nat}{Q:IV->Store->Prop}(h1:C P E f [.aa1] σ Q)(h2:C P E f [.ae5] σ Q):C P E f [.aa3 []] σ Q:=by
 intro ρ w rargs hs hr;have hv:=gq5 hr;generalize hx:rargs.getD 0 undef=r at hv
 cases hv with
 | bw1=>exact h1 ρ w rargs hs (ee4 hr (by rw[hx]; exact .aa1))
 | aa3 es b o cap esz sp vs hf hsz hc hv hle=>exact h2 ρ w rargs hs (ee4 hr (by rw[hx]; exact .ae5 _ _))
inductive gq8 (σ:Store) (S:Nat->Prop):List IV->List IV->Prop
 | nil:gq8 σ S [] []
 | cons {v v':IV} {vs vs':List IV} (h:Frz σ S v v') (t:gq8 σ S vs vs'):gq8 σ S (v::vs) (v'::vs')
theorem gq8.at {S:Nat->Prop}{cs cs':List IV}(h:gq8 σ S cs cs'):cs'.length=cs.length/\∀ i,i<cs.length->Frz σ S (cs.getD i .undef) (cs'.getD i .undef):=by
 induction h with
 | nil=>exact ⟨rfl,fun i hi=>absurd hi (Nat.not_lt_zero _)⟩
 | cons h _ ih=>
  refine ⟨by simp only[List.length_cons,ih.1],fun i hi=>?_⟩
  cases i with
  | zero=>exact h
  | succ i=>exact ih.2 i (by simpa using hi)
theorem Frz.io6 {S:Nat->Prop}{cs cs':List IV}(h:gq8 σ S cs cs'):Frz σ S (.agg cs) (.agg cs'):=.agg _ _ h.at.1 h.at.2
theorem Frz.cn2 {S:Nat->Prop}{cs cs':List IV}(h:gq8 σ S cs cs'):Frz σ S (.tuple cs) (.tuple cs'):=.tuple _ _ h.at.1 h.at.2
theorem iw5:((0:Nat):Int)=0:=nr rfl
theorem iw6:((1:Nat):Int)=1:=nr rfl
theorem iw7:((2:Nat):Int)=2:=nr rfl
theorem iw8:((3:Nat):Int)=3:=nr rfl
theorem iw9:((4:Nat):Int)=4:=nr rfl
theorem ix1:((5:Nat):Int)=5:=nr rfl
theorem ix2:((6:Nat):Int)=6:=nr rfl
theorem ix3:((7:Nat):Int)=7:=nr rfl
theorem ix4:((8:Nat):Int)=8:=nr rfl
theorem ix5:((9:Nat):Int)=9:=nr rfl
theorem io7:((10:Nat):Int)=10:=nr rfl
theorem io8:((11:Nat):Int)=11:=nr rfl
theorem io9:((12:Nat):Int)=12:=nr rfl
theorem ip1:((13:Nat):Int)=13:=nr rfl
theorem ip2:((14:Nat):Int)=14:=nr rfl
theorem ip3:((15:Nat):Int)=15:=nr rfl
theorem ip4:((16:Nat):Int)=16:=nr rfl
attribute [go_sem] iw5 iw6 iw7 iw8 iw9 ix1 ix2 ix3 ix4 ix5 io7 io8 io9 ip1 ip2 ip3 ip4 List.getD_cons_zero List.getD_cons_succ
theorem ix6:IntKind.i64.wrap 0=0:=nr rfl
theorem ix7:IntKind.i64.wrap 1=1:=nr rfl
theorem ix8:IntKind.i64.wrap 2=2:=nr rfl
theorem ix9:IntKind.i64.wrap 3=3:=nr rfl
theorem iy1:IntKind.i64.wrap 4=4:=nr rfl
theorem iy2:IntKind.i64.wrap 5=5:=nr rfl
theorem iy3:IntKind.i64.wrap 6=6:=nr rfl
theorem iy4:IntKind.i64.wrap 7=7:=nr rfl
theorem iy5:IntKind.i64.wrap 8=8:=nr rfl
theorem iy6:IntKind.i64.wrap 9=9:=nr rfl
theorem ip5:IntKind.i64.wrap 10=10:=nr rfl
theorem ip6:IntKind.i64.wrap 11=11:=nr rfl
theorem ip7:IntKind.i64.wrap 12=12:=nr rfl
theorem ip8:IntKind.i64.wrap 13=13:=nr rfl
theorem ip9:IntKind.i64.wrap 14=14:=nr rfl
theorem iq1:IntKind.i64.wrap 15=15:=nr rfl
theorem iq2:IntKind.i64.wrap 16=16:=nr rfl
attribute [go_sem] ix6 ix7 ix8 ix9 iy1 iy2 iy3 iy4 iy5 iy6 ip5 ip6 ip7 ip8 ip9 iq1 iq2
theorem ia5 {ag:Option Nat}{n m:Nat}:irL σ fr [.cell ag n,.t m]=(at5 σ ag (fr.get n)).map fun v=>[v,fr.get m]:=by
 simp only[irL,irV]; cases at5 σ ag (fr.get n)<;>rfl
attribute [go_sem] ia5 ao1
end Go.Id
/- Answers that are known,looked up; and what they are good for. Conditions: none; over any program. -/
namespace Go.Id
open Go
variable {P:Program} {E:Nat->IV}
def cn3 (r:IV->IV->Bool):List IV->List IV->Bool
 | [],[]=>true
 | a::x,b::y=>r a b&&cn3 r x y
 | _,_=>false
theorem bd4 {r:IV->IV->Bool}(hr:∀ a b,r a b=true->a=b):∀ x y:List IV,cn3 r x y=true->x=y:=by
 intro x
 induction x with
 | nil=>intro y h; cases y with
  | nil=>rfl
  | cons b y=>cases h
 | cons a x ih=>intro y h; cases y with
  | nil=>cases h
  | cons b y=>
   simp only[cn3,Bool.and_eq_true] at h;rw[hr a b h.1,ih y h.2]
def dn8 (r:IV->IV->Bool):List (List IV)->List (List IV)->Bool
 | [],[]=>true
 | a::x,b::y=>cn3 r a b&&dn8 r x y
 | _,_=>false
theorem dn9 {r:IV->IV->Bool}(hr:∀ a b,r a b=true->a=b):∀ x y:List (List IV),dn8 r x y=true->x=y:=by
 intro x
 induction x with
 | nil=>intro y h; cases y with
  | nil=>rfl
  | cons b y=>cases h
 | cons a x ih=>intro y h; cases y with
  | nil=>cases h
  | cons b y=>
   simp only[dn8,Bool.and_eq_true] at h;rw[bd4 hr a b h.1,ih y h.2]
def gd5:List UInt8->List UInt8->Bool
 | [],[]=>true
 | a::x,b::y=>Nat.beq a.toNat b.toNat&&gd5 x y
 | _,_=>false
theorem gd6:∀ x y:List UInt8,gd5 x y=true->x=y:=by
 intro x
 induction x with
 | nil=>intro y h; cases y with
  | nil=>rfl
  | cons b y=>cases h
 | cons a x ih=>intro y h; cases y with
  | nil=>cases h
  | cons b y=>
   simp only[gd5,Bool.and_eq_true] at h;rw[UInt8.toNat_inj.1 (Nat.eq_of_beq_eq_true h.1),ih y h.2]
def gd7:Nat->IV->IV->Bool
 | 0,_,_=>false
 | n+1,a,b=>match a with
  | .bool x=>match b with
   | .bool y=>match x,y with
    | true,true=>true
    | false,false=>true
    | _,_=>false
   | _=>false
  | .int k x=>match b with
   | .int k' y=>decide (k=k')&&decide (x=y)
   | _=>false
  | .str x=>match b with
   | .str y=>gd5 x y
   | _=>false
  | .af2=>match b with
   | .af2=>true
   | _=>false
  | .ad4 x=>match b with
   | .ad4 y=>cn3 (gd7 n) x y
   | _=>false
  | .aa3 x=>match b with
   | .aa3 y=>dn8 (gd7 n) x y
   | _=>false
  | .agg x=>match b with
   | .agg y=>cn3 (gd7 n) x y
   | _=>false
  | .tuple x=>match b with
   | .tuple y=>cn3 (gd7 n) x y
   | _=>false
  | .iface t x=>match b with
   | .iface t' y=>Nat.beq t t'&&gd7 n x y
   | _=>false
  | .af5=>match b with
   | .af5=>true
   | _=>false
  | .ae1=>match b with
   | .ae1=>true
   | _=>false
  | .af3=>match b with
   | .af3=>true
   | _=>false
  | .aa1=>match b with
   | .aa1=>true
   | _=>false
  | _=>false
theorem gz3:∀ (n:Nat) (a b:IV),gd7 n a b=true->a=b:=by
 intro n
 induction n with
 | zero=>intro a b h; cases h
 | succ n ih=>
  intro a b h;cases a<;>simp only[gd7] at h<;>(try cases h)<;>split at h<;>(try cases h)<;>(try rfl)
  ·split at h<;>(try cases h)<;>rfl
  ·simp only[Bool.and_eq_true,decide_eq_true_eq] at h; rw[h.1,h.2]
  ·rw[gd6 _ _ h]
  ·rw[bd4 ih _ _ h]
  ·rw[dn9 ih _ _ h]
  ·simp only[Bool.and_eq_true] at h; rw[Nat.eq_of_beq_eq_true h.1,ih _ _ h.2]
  ·rw[bd4 ih _ _ h]
  ·rw[bd4 ih _ _ h]
abbrev hn8:=List (Nat×List IV×IV)
def hn8.get:hn8->Nat->List IV->Option IV
 | [],_,_=>none
 | (k,as,v)::r,f,args=>match Nat.beq k f with
  | true=>match cn3 (gd7 1000) as args with
   | true=>some v
   | false=>hn8.get r f args
  | false=>hn8.get r f args
def MOK (P:Program)(E:Nat->IV)(M:hn8):Prop:=∀ e∈M,okF P e.1=true/\PC P E e.1 e.2.1 e.2.2
theorem MOK.nil:MOK P E []:=fun _ h=>by cases h
theorem MOK.cons {M:hn8}{k:Nat}{as:List IV}{v:IV}(hk:okF P k=true)(h:PC P E k as v)(hM:MOK P E M):MOK P E ((k,as,v)::M):=fun e he=>by
 rcases List.mem_cons.1 he with rfl|he
 ·exact ⟨hk,h⟩
 ·exact hM e he
theorem gz4 {l:List (Nat×List IV)}(h:l.all (fun x=>x.2.all (ap8 1000))=true):∀ g,Bnd 0 (ew5 l g):=by
 intro g;unfold ew5
 cases hg:l.lookup g with
 | none=>exact .undef
 | some cs=>
  have hm:∃ x∈l,x.2=cs:=by
   clear h
   induction l with
   | nil=>cases hg
   | cons x l ih=>
    obtain ⟨a,b⟩:=x;simp only[List.lookup] at hg;split at hg
    ·cases hg; exact ⟨_,List.mem_cons_self ..,rfl⟩
    ·obtain ⟨x,h1,h2⟩:=ih hg; exact ⟨x,List.mem_cons_of_mem _ h1,h2⟩
  obtain ⟨x,h1,rfl⟩:=hm;exact .ad4 _ fun c hc=>ax1 1000 c (List.all_eq_true.1 (List.all_eq_true.1 h x h1) c hc)
end Go.Id
