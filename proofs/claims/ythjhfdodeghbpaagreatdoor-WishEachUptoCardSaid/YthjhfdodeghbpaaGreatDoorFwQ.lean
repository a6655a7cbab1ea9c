/- Loops that go up; rows read by their places; runes of a string; what a yield is told. Conditions: none; over any program. -/
import Derived.Test.YthjhfdodeghbpaaGreatDoorT6
open Option renaming some→za,none→zd
open Bool renaming and_eq_true→zb
open List renaming mem_cons_of_mem→zc,mem_cons_self→ze,getD_eq_getElem?_getD→zf,all_eq_true→zg,getElem?_eq_getElem→zj,getElem?_cons_succ→zk,take_append_drop→zm,getElem?_append→zo,flatten_cons→zp
open Nat renaming lt_of_lt_of_le→zh,add_mul→zi,add_zero→zl,eq_of_beq_eq_true→zn
set_option linter.all false
namespace Go.Id
open Go
variable {P:Program} {E:Nat->IV} {σ σ':Store} {N n0:Nat} {fr:Frm}
def upQ (I:Nat->Frm->Store->Prop)(i n:Nat)(Q:Exit->Frm->Store->Prop):Exit->Frm->Store->Prop
 | .normal,fr,σ=>i<n/\I (i+1) fr σ
 | e,fr,σ=>Q e fr σ
def kz2 {I:Nat->Frm->Store->Prop}{i n:Nat}{Q:Exit->Frm->Store->Prop}:upQ I i n Q .normal fr σ=(i<n/\I (i+1) fr σ):=nr rfl
def kz3 {I:Nat->Frm->Store->Prop}{i n k:Nat}{Q:Exit->Frm->Store->Prop}:upQ I i n Q (.exit k) fr σ=Q (.exit k) fr σ:=nr rfl
def kz4 {I:Nat->Frm->Store->Prop}{i n:Nat}{Q:Exit->Frm->Store->Prop}:upQ I i n Q .ret fr σ=Q .ret fr σ:=nr rfl
def aa9 {b:PT}{c:CT}(d:TOK P E b c){x:IC}{Q:Exit->Frm->Store->Prop}(I:Nat->Frm->Store->Prop)(n:Nat)(h:I 0 fr σ)
  (g:∀i fr σ,i<=n->I i fr σ->wpT b c P E N n0 x fr σ (upQ I i n Q)):RI P E N n0 (.loop x) fr σ Q:=by
 refine gr3 (λm fr σ=>∃i,i<=n/\m=n-i/\I i fr σ) n ⟨0,Nat.zero_le _,rfl,h⟩ ?_;rintro m fr σ ⟨i,hi,rfl,a⟩;refine ce3 x fr σ _ _ ?_ (bj2 d x fr σ _ (g i fr σ hi a));intro e f s q
 cases e with
 | normal=>exact ⟨n-(i+1),by have:=q.1;omega,i+1,q.1,rfl,q.2⟩
 | _=>exact q
def ad3 {b:Type}(es:List b)(i:Nat)(h:i<es.length):∃a,a∈es/\es[i]? = za a/\es.drop i=a::es.drop (i+1)/\(∀(f:b->List IV),(es.map f).getD i []=f a)/\es.take (i+1)=es.take i++[a]:=
 ⟨es[i],List.getElem_mem h,zj h,List.drop_eq_getElem_cons h,λf=>by simp[zf,h],by rw[List.take_add_one,zj h];rfl⟩
def gt2 (s:List UInt8)(i:Nat)(h:i<s.length):((⟨s.toArray⟩:ByteArray).get! i)=s[i]:=by
 show (s.toArray)[i]! = s[i];simp[h]
def fw9 (s:List UInt8)(i:Nat)(h:i<s.length)(a:s[i].toNat<128):Utf8.decode ⟨s.toArray⟩ i=(s[i].toNat,1):=by
 unfold Utf8.decode;simp only[zl,gt2 s i h];rw[if_pos a]
def decode_high (s:List UInt8)(i:Nat)(h:i<s.length)(a:¬s[i].toNat<128):128<=(Utf8.decode ⟨s.toArray⟩ i).1:=by
 unfold Utf8.decode;simp only[zl,gt2 s i h];rw[if_neg a];have e:Utf8.runeError=65533:=rfl
 repeat' split
 all_goals first|(rw[e];omega)|(simp only[ge_iff_le,zb,decide_eq_true_eq] at *;omega)
def ih4 (P:Program)(E:Nat->IV)(id:Nat)(I:List (List IV)->Store->Prop)(S:Store->Prop):Prop :=
 ∀a rest σ,I (a::rest) σ->CV P E (.yield id) a σ λv s=>σ.next<=s.next/\((v=.bool true/\I rest s)\/(v=.bool false/\S s))
end Go.Id
namespace Go.Id
open Go
attribute [go_sem] dn7 dn8 ck7 bt4 dn9 ck8 do1 ck9 fx9 ju4 fx6 fx7 do2 cl1 do3 cl2 cl3 bt5 do4 w_q cl4
 fy1 fy2 cl5 fy3 cl7 bt6 cl6 do5 do6 do7 cl8 ik1 bt7 fy4 do8 fy5 do9 cl9 cm1 dp1 fy6
 fy7 fy8 fy9 fz1 fz2 fz3 fz4 fz5 fz6 dp2 fz7 dp3 fz8 dp4 cm2 dp5 dp9 fz9 ju7 ju8 ga1 ga2 ga3 ga4
 ga5 ga6 ga7 ga8 ga9 gb1 dq1 cm3 bt8 bj3 cm4 bt9 dp6 dp7 dp8 cm5 ju5 ju6 bj5 bu4
 cn7 cn8 cn9 cn6 dr4 e_t e_c e_g e_f gb2 dq2 gb3 gb4 gb5 aj9 gb6 dq3 cm6 gb7 cm7 gb8 cm8
 cm9 gb9 dq4 gc1 dq5 gc2 gc3 gc4 gc5 dq6 dq7 ey1 iz7 em1 ex9 cn1 cn2 dq8 dq9 cn3 cn4 ju9
 bu1 dr1 dr2 dr3 bu2 cn5 bj4 bu3 bu5 co1 bu6 gv6 bu7 dr5 dr6 ey2 ey3 co2 co3
 co4 co5 dr7 dr8 co6 bu8 gc6 gc7 gc8 gc9 gd1 gd2 gd3 gd4 gd5 gd6 gd7 em2 ey4 dc8 dr9 ds2
 ds4 ds5 ds6 ds7 ds8 ds9 dt1 ka7 ka8 ka9 kb1 dc9 bm8 co7 co8 co9 dt2 dt3 dt4 dt5 gd8 gd9 dt6 ge1
 cp1 cp3 cp4 ge4 bq3 iz8 du4 cp5 cp6 bu9 bx5 ce4 ge2 ey5 bv1 ge3 ey6 bv2 bv3 cp7
 cp8 cp9 cq1 bv4 cq2 cq3 bv5 bj6 bd1 bv6 cq4 bv7 dt7 dt8 dt9 cq5 bv8
 cq6 cq7 bv9 bj7 bd2 bw1 cq8 bw2 du1 du2 du3 Frm.bt2 Frm.get_nil aa7 aa3 kz2 kz3
 kz4 ey1 iz7 em1 ex9 ks2 ka6 
attribute [go_sem] List.getElem?_cons_zero zk List.all_cons List.all_nil List.drop_zero List.drop_succ_cons List.head?_cons Bool.and_true Bool.and_self List.append_nil List.nil_append List.cons_append Bool.false_eq_true Bool.xor_false Bool.xor_true Bool.not_true Bool.not_false zl Nat.zero_add Nat.succ_ne_zero if_true if_false true_and and_true
variable {P:Program} {E:Nat->IV} {σ σ':Store} {N n0:Nat} {fr:Frm} {pf:List Nat}
def aw8 {f:Nat}{ic:IC}{irs:List IR}{args:List IV}{v:IV}(hf:FOK P f (N,ic,irs))(hl:args.length<=N)
  (h:∀σ,wpT noP noC P E N σ.next ic (bm7 args 0) σ (gv2 irs λv' σ'=>v'=v/\σ'=σ)):PC P E f args v:=by
 have⟨_,pf,an,h1⟩:=hf;exact lb9 noT h1 hl h
def C_f {f:Nat}{b:IC}{a:List IR}{args:List IV}{c:IV->Store->Prop}(hf:FOK P f (N,b,a))(d:args.length<=N)
  (h:wpT noP noC P E N σ.next b (bm7 args 0) σ (gv2 a c)):C P E f args σ c:=by
 have⟨_,pf,an,e⟩:=hf;exact C_T noT e d h
def emp:Store:=⟨0,λ_=>zd⟩
def ih5:emp.next=0:=nr rfl
def jg5 {i:Nat}:emp.obj i=zd:=nr rfl
attribute [go_sem] ih5 jg5
def af5 {f:Nat}{ic:IC}{irs:List IR}{args:List IV}{v:IV}(hE:∀g,Bnd 0 (E g))(hf:FOK P f (N,ic,irs))(hl:args.length<=N)(ha:∀a∈args,Bnd 0 a)
  (h:wpT noP noC P E N 0 ic (bm7 args 0) emp (gv2 irs λv' σ'=>cc3 σ' 0 v' v)):PC P E f args v :=
 fj3 hE ha (C_f (σ:=emp) hf hl h)
def aa4 {f:Nat}{e:FE}{args:List IV}{v:IV}{K:IV->Store->Prop}(hf:FOK P f e)(h:PC P E f args v)(a:K v σ):dc7 P E zd f args σ K :=
 ak7 hf.1 (ey8 h) λ_ _ ⟨c,b⟩=>by subst c;subst b;exact ⟨Nat.le_refl _,a⟩
def ab8 {f:Nat}{e:FE}{args:List IV}{a:IV->Store->Prop}{K:IV->Store->Prop}(hf:FOK P f e)(h:C P E f args σ a)(b:∀v s,a v s->σ.next<=s.next/\K v s):dc7 P E zd f args σ K :=
 ak7 hf.1 h b
def ab6 {S:Nat->Prop}(b:Bool):Frz σ S (.bool b) (.bool b):=.keep _ (.bool _)
def ae5 {S:Nat->Prop}(k:IntKind)(n:Int):Frz σ S (.int k n) (.int k n):=.keep _ (.int _ _)
def bm4 {S:Nat->Prop}(s:List UInt8):Frz σ S (.str s) (.str s):=.keep _ (.str _)
def iy7 {ρ:Rho}{w:World}{v:IV}{a:Array Value}(h:CR ρ w [v] a):VR ρ w v (a.getD 0 undef):=by
 have:=h.2 0 (Nat.zero_lt_one)
 simpa using this
def fi3 {ρ:Rho}{w:World}{u v:IV}{a:Array Value}(h:CR ρ w [u] a)(b:VR ρ w v (a.getD 0 undef)):CR ρ w [v] a :=
 ⟨h.1,λi hi=>by
  have:i=0:=by simp at hi;omega
  subst this
  simpa using b⟩
def bp8 {f:Nat}{v:IV}(g:PC P E f [.aa5] v)(e:PC P E f [.af7] v):PC P E f [.aa2 []] v:=by
 intro σ ρ w a hs hr;have c:=iy7 hr;generalize d:a.getD 0 undef=r at c
 cases c with
 | ci6=>exact g σ ρ w a hs (fi3 hr (by rw[d];exact .aa5))
 | aa2 es b o cap esz sp vs hf hsz hc c hle=>exact e σ ρ w a hs (fi3 hr (by rw[d];exact .af7 _ _))
def ac6 {i:Nat}(h:i<2^62):IntKind.i64.wrap ((i:Int)+1)=((i+1:Nat):Int):=by
 rw[wrap64 (by omega) (by omega)];omega
def jg6 {cs:List IV}:au8 cs []=za cs:=by simp only[au8]
def jg7 {cs:List IV}{off n:Nat}{v:IV}{ps:List (Nat×Nat×IV)}:au8 cs ((off,n,v)::ps)=if v.cs.length=n/\off+n<=cs.length/\v.cs.all IV.leaf=true then au8 (ay4 cs off v.cs) ps else zd:=by simp only[au8]
def jx2 {c:IV}{cs:List IV}{vs:List IV}:ay4 (c::cs) 0 vs=vs++(c::cs).drop vs.length:=by simp[ay4]
def jx3 {c:IV}{cs vs:List IV}{n:Nat}:ay4 (c::cs) (n+1) vs=c::ay4 cs n vs:=by simp[ay4,Nat.add_right_comm]
def jx4 {d:TypeId}{a:List IV}{b:List (List IV)}:ci5 (.slice d) (.aa2 (a::b))=za false:=nr rfl
def jx5 {d:TypeId}:ci5 (.slice d) .aa5=za true:=nr rfl
def jx6 {d:TypeId}:ci5 (.slice d) .af7=za false:=nr rfl
def jx7 {d:TypeId}:ci5 (.slice d) .ad2=za false:=nr rfl
def jx8 {d:TypeId}{i o l e:Nat}:ci5 (.slice d) (.slice i o l e)=za false:=nr rfl
def an5 {d:TypeId}:ci5 (.pointer d) .ag2=za true:=nr rfl
def jg8 {d:TypeId}{cs:List IV}:ci5 (.pointer d) (.ab5 cs)=za false:=nr rfl
def jg9 {d:TypeId}{i o:Nat}:ci5 (.pointer d) (.ptr i o)=za false:=nr rfl
def ih6 {e:Nat}{l:List IV}:chunk e 0 l=[]:=nr rfl
def ih7 {e n:Nat}{l:List IV}:chunk e (n+1) l=l.take e::chunk e n (l.drop e):=nr rfl
def jx9 {z:List IV}:rep z 0=[]:=nr rfl
def jy1 {z:List IV}{n:Nat}:rep z (n+1)=z++rep z n:=nr rfl
def jh1 {off:Nat}{cs:List IV}:bi7 zd off cs=cs[off]?:=nr rfl
def jh2 {off n:Nat}{cs:List IV}:bi7 (za n) off cs=if off+n<=cs.length then za (.agg ((cs.drop off).take n)) else zd:=nr rfl
def jy2 {a:Option Nat}{off:Nat}{cs:List IV}:jt3 a off (.agg cs)=bi7 a off cs:=nr rfl
def jy3 {a:Option Nat}{n esz:Nat}{cs:List IV}{k:IntKind}{i:Int}:je2 a n esz (.agg cs) (.int k i)=if 0<=i/\i<n then bi7 a (i.toNat*esz) cs else zd:=nr rfl
def ih8 {n esz:Nat}{v:IV}{k:IntKind}{i:Int}:dm3 n esz v (.int k i)=if 0<=i/\i<n then ci9 (i.toNat*esz) v else zd:=nr rfl
def ck3 {s:List UInt8}{k:IntKind}{i:Int}:dy7 (.str s) (.int k i)=if 0<=i then (s[i.toNat]?).map λb=>.int .u8 b.toNat else zd:=nr rfl
def iy8 {a:List Nat}{neg:Bool}{xs c:List IV}:ib8 a true neg (.agg xs) (.agg c)=(allEq a xs c).map λb=>.bool (b ^^ neg):=nr rfl
def iy9:allEq [] [] []=za true:=nr rfl
def kn9:Option Bool->Option Bool->Option Bool
 | some a,za b=>za (a&&b)
 | _,_=>zd
def jy4 {a b:Bool}:kn9 (za a) (za b)=za (a&&b):=nr rfl
def iz1 {t:Nat}{ts:List Nat}{x y:IV}{xs a:List IV}:allEq (t::ts) (x::xs) (y::a)=kn9 (al1 t x y) (allEq ts xs a):=by
 simp only[allEq];cases al1 t x y<;>cases allEq ts xs a<;>rfl
def jy5 {k:IntKind}{a b:Int}:al1 1 (.int k a) (.int k b)=za (decide (a=b)):=by simp[al1]
def jy6 {a b:List UInt8}:al1 2 (.str a) (.str b)=za (decide (a=b)):=nr rfl
def dn1 {a b:List UInt8}:ao9 2 (.str a) (.str b)=za (decide (a=b)):=nr rfl
def jy7 {a b:Bool}:al1 0 (.bool a) (.bool b)=za (a==b):=nr rfl
attribute [go_sem] iy8 iy9 iz1 jy4 jy7 jy5 jy6
attribute [go_sem] jg6 jg7 jx2 jx3 jx4 jx5 jx6 jx7 jx8 an5 jg8 jg9 ih6 ih7 jx9 jy1 jh1 jh2 jy2 jy3 ih8 ck3
attribute [go_sem] Bool.true_or Bool.or_true Bool.false_or Bool.or_false Bool.true_and Bool.false_and Bool.and_false
attribute [go_sem] List.length_cons List.length_nil List.take_succ_cons List.take_zero List.length_map Int.toNat_natCast
end Go.Id
namespace Go.Id
open Go
variable {P:Program} {E:Nat->IV} {σ σ':Store} {N n0:Nat} {fr:Frm}
def kl7 (I:List (List IV)->Store->Prop):Prop:=∀rest s s',I rest s->s.next<=s'.next->(∀i,i<s.next->s'.obj i=s.obj i)->I rest s'
def jy8 (n:Nat)(I:List (List IV)->Store->Prop)(S:Store->Prop):IV->Store->Prop:=λ_ s=>n<=s.next/\(I [] s\/S s)
def fi4 (P:Program)(E:Nat->IV)(fv:IV)(evs:List (List IV))(own:Store->Prop):Prop :=
 ∀(yid:Nat) (I:List (List IV)->Store->Prop) (S:Store->Prop) (σ:Store),(∀rest s,I rest s->own s)->kl7 I->ih4 P E yid I S->I evs σ->CVf P E fv [.yield yid] σ (jy8 σ.next I S)
def kw6 (P:Program)(E:Nat->IV)(N n0:Nat)(id:Nat)(L:LoopState->Option JX->aj8)(x:IC)(K:IV->Store->Prop):Exit->Frm->Store->Prop
 | .normal,f,s=>s.obj id=za (L .ready zd)/\wpT noP noC P E N n0 x f (s.put id (L .busy zd)) (db6 id L K)
 | _,_,_=>False
def ko1 {id:Nat}{L:LoopState->Option JX->aj8}{x:IC}{K:IV->Store->Prop}:kw6 P E N n0 id L x K .normal fr σ=(σ.obj id=za (L .ready zd)/\wpT noP noC P E N n0 x fr (σ.put id (L .busy zd)) (db6 id L K)):=nr rfl
def ko2 {id:Nat}{L:LoopState->Option JX->aj8}{K:IV->Store->Prop}:db6 id L K .normal fr σ=(σ.obj id=za (L .busy zd)/\K (.bool true) (σ.put id (L .ready zd))):=nr rfl
def ko3 {id:Nat}{L:LoopState->Option JX->aj8}{K:IV->Store->Prop}:db6 id L K .ret fr σ=(σ.obj id=za (L .busy zd)/\K (.bool false) (σ.put id (L .done (za .ret)))):=nr rfl
def ko4 {id i:Nat}{L:LoopState->Option JX->aj8}{K:IV->Store->Prop}:db6 id L K (.exit i) fr σ=(σ.obj id=za (L .busy zd)/\K (.bool false) (σ.put id (L .done (za (.exit i))))):=nr rfl
def jh3:dj7 fr [] []=fr:=nr rfl
def jh4 {p:Nat}{ps:List Nat}{v:IV}{vs:List IV}:dj7 fr (p::ps) (v::vs)=dj7 (fr.set p v) ps vs:=nr rfl
def ko5 {p:Nat}{v:IV}:fr.set p v=(p,v)::fr:=nr rfl
def goQ (id n:Nat)(L:LoopState->Option JX->aj8)(J:List (List IV)->Store->Prop)(Q:Exit->Frm->Store->Prop)(fr:Frm)(rest:List (List IV)):IV->Store->Prop:=λv s=>
 n<=s.next/\((v=.bool true/\s.obj id=za (L .ready zd)/\J rest s)\/(v=.bool false/\∃st pend,st≠.busy/\s.obj id=za (L st pend)/\jf8 Q fr (s.kill id) pend))
def ea6 {id n:Nat}{L:LoopState->Option JX->aj8}{J:List (List IV)->Store->Prop}{Q:Exit->Frm->Store->Prop}{a:List (List IV)}(d:n<=σ.next)(c:σ.obj id=za (L .ready zd))(b:J a σ):goQ id n L J Q fr a (.bool true) σ:=⟨d,.inl ⟨rfl,c,b⟩⟩
def db9 {id n:Nat}{L:LoopState->Option JX->aj8}{J:List (List IV)->Store->Prop}{Q:Exit->Frm->Store->Prop}{a:List (List IV)}(d:n<=σ.next)(c:σ.obj id=za (L .done (za .ret)))(b:Q .ret fr (σ.kill id)):goQ id n L J Q fr a (.bool false) σ:=⟨d,.inr ⟨rfl,.done,za .ret,(λh=>by cases h),c,b⟩⟩
def dc1 {g:IX}{ps:List Nat}{y x:IC}{Q:Exit->Frm->Store->Prop}{evs:List (List IV)}{own:Store->Prop}(hT:fi4 P E (g.ev E fr) evs own)
  (J:List (List IV)->Store->Prop) (hown:∀rest s,J rest s->own s) (hstab:kl7 J) (hlen:∀a∈evs,a.length=ps.length)
  (hinit:∀o,J evs ⟨σ.next+1,(σ.put σ.next o).obj⟩)
  (hbody:∀(L:LoopState->Option JX->aj8) (pre:List (List IV)) (a:List IV) (rest:List (List IV)) (s:Store),evs=pre++a::rest->J (a::rest) s->s.obj σ.next=za (L .ready zd)->σ.next<s.next ->
   wpT noP noC P E N s.next y (dj7 fr ps a) s (kw6 P E N s.next σ.next L x (goQ σ.next s.next L J Q fr rest)))
  (hend:∀s o,J [] s->σ.next<s.next->s.obj σ.next=za o->Q .normal fr (s.kill σ.next)) :
  RI P E N n0 (.bz6 g ps y x) fr σ Q:=by
 refine ig1 λL hL=>?_
 let I:List (List IV)->Store->Prop:=λrest s=>(∃pre,evs=pre++rest)/\s.obj σ.next=za (L .ready zd)/\σ.next<s.next/\J rest s
 let S:Store->Prop:=λs=>∃st pend,st≠.busy/\s.obj σ.next=za (L st pend)/\jf8 Q fr (s.kill σ.next) pend
 have hI:kl7 I:=by
  rintro rest s s' ⟨hp,h1,h2,h3⟩ hn hs;exact ⟨hp,by rw[hs _ h2];exact h1,zh h2 hn,hstab rest s s' h3 hn hs⟩
 have hst:ih4 P E σ.next I S:=by
  rintro a rest s ⟨⟨pre,hp⟩,h1,h2,h3⟩;refine ⟨by rw[h1];rfl,?_⟩;have hb:=hbody L pre a rest s hp h3 h1 h2;refine hL s a _ (hlen a (by rw[hp];simp)) h1 ?_;refine (bp7 y _ _ _ (ce3 y _ _ _ _ ?_ (bj2 noT y _ _ _ hb)));intro e f s1 q
  cases e with
  | normal=>
   refine ⟨rfl,q.1,?_⟩;refine (bp7 x _ _ _ (ce3 x _ _ _ _ ?_ (bj2 noT x _ _ _ q.2)))
   have hK:∀v s2,goQ σ.next s.next L J Q fr rest v s2->s.next<=s2.next/\((v=.bool true/\I rest s2)\/(v=.bool false/\S s2)):=by
    rintro v s2 ⟨hn,h|h⟩
    .exact ⟨hn,.inl ⟨h.1,⟨pre++[a],by rw[hp];simp⟩,h.2.1,zh h2 hn,h.2.2⟩⟩
    .exact ⟨hn,.inr ⟨h.1,h.2⟩⟩
   intro e f s2 q2
   cases e with
   | normal=>exact ⟨q2.1,hK _ _ q2.2⟩
   | ret=>exact ⟨q2.1,hK _ _ q2.2⟩
   | exit i=>exact ⟨q2.1,hK _ _ q2.2⟩
   | _=>exact q2
  | _=>exact q.elim
 have h:=hT σ.next I S ⟨σ.next+1,(σ.put σ.next (L .ready zd)).obj⟩ (λrest s h=>hown rest s h.2.2.2) hI hst ⟨⟨[],rfl⟩,by simp only[aa3,if_true],Nat.lt_succ_self _,hinit _⟩;refine h.mono ?_;rintro v s ⟨hn,h|h⟩
 .exact ⟨Nat.le_of_lt hn,.ready,zd,(λh=>by cases h),h.2.1,hend s _ h.2.2.2 h.2.2.1 h.2.1⟩
 .exact ⟨Nat.le_of_lt hn,h⟩
def cw5 {c:Nat}{I:List (List IV)->Store->Prop}{S:Store->Prop}{a:List IV}{b:List (List IV)}{K:IV->Store->Prop}(h:ih4 P E c I S)(hi:I (a::b) σ)
  (f:∀s,σ.next<=s.next->I b s->K (.bool true) s) (e:∀s,σ.next<=s.next->S s->K (.bool false) s):gv3 noC P E (.yield c) a σ K:=by
 refine ⟨_,h a b σ hi,?_⟩;rintro v s ⟨d,⟨rfl,h⟩|⟨rfl,h⟩⟩
 .exact ⟨d,f s d h⟩
 .exact ⟨d,e s d h⟩
def gt3 {i:Nat}:(σ.kill i).next=σ.next:=nr rfl
def ih9 {i j:Nat}:(σ.kill i).obj j=if j=i then zd else σ.obj j:=nr rfl
attribute [go_sem] gt3 ih9
attribute [go_sem] ko1 ko2 ko3 ko4 jh3 jh4 ko5
end Go.Id
namespace Go.Id
open Go
variable {P:Program} {E:Nat->IV} {σ σ':Store} {N n0:Nat} {fr:Frm}
def ko6 (σ:Store):IV->Prop
 | .ab5 _=>True
 | .ptr i _=>match σ.obj i with
  | some (.cells _)=>True
  | _=>False
 | _=>False
def kw7:Option aj8->Prop
 | some (.cells _)=>True
 | _=>False
def jy9 {a:Option Nat}{x:IX}:bz9 E fr σ (.q (.load a x))=ko6 σ (x.ev E fr):=nr rfl
def b_t {cs:List IV}:ko6 σ (.ab5 cs)=True:=nr rfl
def b_p {i o:Nat}:ko6 σ (.ptr i o)=kw7 (σ.obj i):=nr rfl
def b_o {cs:List IV}:kw7 (za (.cells cs))=True:=nr rfl
def ko7 {x:IX}:bz9 E fr σ (.q (.mov x))=True:=nr rfl
def jh5 {n:Nat}{x:IX}:bz9 E fr σ (.q (.ev1 n x))=True:=nr rfl
def jz2 {x:IX}:bz9 E fr σ (.q (.jt8 x))=True:=nr rfl
def ko8 {n:Nat}{x:IX}:bz9 E fr σ (.q (.len n x))=True:=nr rfl
def ko9 {n:Nat}{z:IV}{b:Bool}{x y:IX}:bz9 E fr σ (.q (.lkp n z b x y))=True:=nr rfl
def kp1 {z:List IV}{ps:List (Nat×Nat×IX)}:bz9 E fr σ (.q (.bld z ps))=True:=nr rfl
def kp2 {op:BinOp}{x y:IX}:bz9 E fr σ (.q (.bin op x y))=True:=nr rfl
def jh6 {n:Nat}{x y:IX}:bz9 E fr σ (.q (.ev2 n x y))=True:=nr rfl
def jz3 {k:IntKind}{x:IX}:bz9 E fr σ (.q (.conv k x))=True:=nr rfl
def kp4 {n:Nat}{x:IX}:bz9 E fr σ (.q (.ext n x))=True:=nr rfl
def jz4 {x y z:IX}:bz9 E fr σ (.q (.pick x y z))=True:=nr rfl
def kp5 {x:IX}:bz9 E fr σ (.q (.not x))=True:=nr rfl
def jh7 {f:Nat}{xs:List IX}:bz9 E fr σ (.bo9 f xs)=True:=nr rfl
def jz5 {e n:Nat}{z:List IV}{ps:List (Nat×Nat×IX)}:bz9 E fr σ (.eb1 e n z ps)=True:=nr rfl
def kp6 {e n:Nat}{z:List IV}{ps:List (Nat×Nat×IX)}:bz9 E fr σ (.bsl e n z ps)=True:=nr rfl
def kp7 {e:Nat}{x y:IX}:bz9 E fr σ (.app e x y)=True:=nr rfl
def jh8 {n:Nat}{x y:IX}:bz9 E fr σ (.store n x y)=True:=nr rfl
def jz6 {n:Nat}{x y z:IX}:bz9 E fr σ (.gl8 n x y z)=True:=nr rfl
def jh9 {z:List IV}:bz9 E fr σ (.alloc z)=True:=nr rfl
def ii1 {x:IX}{xs:List IX}:bz9 E fr σ (.ay6 x xs)=True:=nr rfl
attribute [go_sem] ii1 jy9 b_t b_p b_o ko7 jh5 jz2 ko8 ko9 kp1 kp2 jh6 jz3 kp4 jz4 kp5 jh7 jz5 kp6 kp7 jh8 jz6 jh9
def Grow (σ:Store)(v:IV)(esz:Nat)(es:List (List IV)):Prop :=
 (v=.aa5/\es=[])\/∃id,v=.slice id 0 es.length esz/\σ.obj id=za (.row es.flatten)/\id<σ.next
def ad4 (v:IV)(σ:Store):Store:=match v with
 | .slice id _ _ _=>σ.kill id
 | _=>σ
def bc1 {esz:Nat}{es:List (List IV)}(h:∀e∈es,e.length=esz):es.flatten.length=es.length*esz:=by
 induction es with
 | nil=>simp
 | cons e es ih=>simp[ih (λx a=>h x (zc _ a)),h e (ze ..),zi];omega
def gt4 {esz:Nat}{es:List (List IV)}(h:∀e∈es,e.length=esz)(i j:Nat)(hi:i<es.length)(c:j<esz):es.flatten.getD (i*esz+j) .undef=(es.getD i []).getD j .undef:=by
 induction es generalizing i with
 | nil=>simp at hi
 | cons e es ih=>
  have a:=h e (ze ..)
  cases i with
  | zero=>simp[zf,zo,a,c]
  | succ i=>
   have f:¬((i+1)*esz+j<e.length):=by rw[a,zi];omega
   have d:(i+1)*esz+j-e.length=i*esz+j:=by rw[a,zi];omega
   have:=ih (λx b=>h x (zc _ b)) i (by simpa using hi);simp only[zf,zp,zo,if_neg f,d,zk] at this ⊢;exact this
def be3 {es:List (List IV)}(h:∀e∈es,e.all IV.leaf=true):es.flatten.all IV.leaf=true:=by
 simp only[zg,List.mem_flatten];rintro c ⟨e,a,hc⟩;exact zg.1 (h e a) c hc
def ai1 {v:IV}{esz nid:Nat}{es:List (List IV)}{e:List IV}(i:Grow σ v esz es)(h:∀x∈es,x.length=esz/\x.all IV.leaf=true)(d:e.length=esz/\e.all IV.leaf=true)(m:es.length<2147483648) :
  bb4 σ nid esz v (.aa2 [e])=za (.slice nid 0 (es.length+1) esz,(ad4 v σ).put nid (.row (es++[e]).flatten)):=by
 have a:bz5 σ esz (.aa2 [e])=za (1,e):=by simp[bz5,d.1]
 have c:e.all IV.leaf=true:=d.2;rcases i with ⟨rfl,rfl⟩|⟨id,rfl,f,g⟩
 .unfold bb4;rw[a];simp[c,ad4]
 .unfold bb4;rw[a];have k:es.flatten.all IV.leaf=true:=be3 λx b=>(h x b).2
  have j:es.flatten.length=es.length*esz:=bc1 λx b=>(h x b).1
  simp[c,f,ad4,k,j];omega
def Grow.new {v:IV}{esz nid:Nat}{es:List (List IV)}{e:List IV}(a:nid<σ'.next)(b:σ'.obj nid=za (.row (es++[e]).flatten)):Grow σ' (.slice nid 0 (es.length+1) esz) esz (es++[e]):=
 .inr ⟨nid,by simp,b,a⟩
def ac1 (v:IV):(ad4 v σ).next=σ.next:=by cases v<;>rfl
def ae4 {v:IV}{esz:Nat}{es:List (List IV)}(d:Grow σ v esz es)(i:Nat)(o:aj8)(b:σ.obj i=za o)(hr:∀cs,o≠.row cs):(ad4 v σ).obj i=za o:=by
 rcases d with ⟨rfl,rfl⟩|⟨id,rfl,a,c⟩
 .exact b
 .show (if i=id then zd else σ.obj i)=za o;rw[if_neg]
  .exact b
  .intro e;subst e;rw[b] at a;cases a;exact hr _ rfl
def Grow.frz {S:Nat->Prop}{v:IV}{esz:Nat}{es:List (List IV)}(f:Grow σ v esz es)(h:∀x∈es,x.length=esz)(k:∀id,v=.slice id 0 es.length esz->¬S id)(g:∀e∈es,∀c∈e,Nm S c):Frz σ S v (.aa2 es):=by
 rcases f with ⟨rfl,rfl⟩|⟨id,rfl,b,d⟩
 .exact .by1
 .refine .slice id 0 es.length esz es.flatten es (k id rfl) (.inr b) rfl (by rw[bc1 h];omega) (λi hi=>h _ (ad5 _ hi)) (λi hi j a=>?_);rw[Nat.zero_add,gt4 h i j hi a];exact .keep _ (g _ (ad5 _ hi) _ (ad5 _ (by rw[h _ (ad5 _ hi)];exact a)))
def Grow.mono {v:IV}{esz:Nat}{es:List (List IV)}(d:Grow σ v esz es)(c:σ.next<=σ'.next)(h:∀id,v=.slice id 0 es.length esz->id<σ.next->σ'.obj id=σ.obj id):Grow σ' v esz es:=by
 rcases d with h0|⟨id,rfl,b,a⟩
 .exact .inl h0
 .exact .inr ⟨id,rfl,by rw[h id rfl a];exact b,zh a c⟩
def Grow.ne {v:IV}{esz id:Nat}{es:List (List IV)}{i:Nat}{o:aj8}(d:Grow σ v esz es)(b:v=.slice id 0 es.length esz)(c:σ.obj i=za o)(hr:∀cs,o≠.row cs):id≠i:=by
 intro e;subst e;rcases d with ⟨rfl,_⟩|⟨id',rfl,a,_⟩
 .cases b
 .cases b;rw[c] at a;cases a;exact hr _ rfl
def bz8 {a esz nid:Nat}{es:List (List IV)}(f:σ.obj a=za (.row []))(d:es≠[])(h:∀x∈es,x.length=esz/\x.all IV.leaf=true)(g:es.length<=2147483648) :
  bb4 σ nid esz (.slice a 0 0 esz) (.aa2 es)=za (.slice nid 0 es.length esz,(σ.kill a).put nid (.row es.flatten)):=by
 have b:bz5 σ esz (.aa2 es)=za (es.length,es.flatten):=by
  simp only[bz5];rw[if_pos (by simpa using λx c=>(h x c).1)]
 have i:es.flatten.all IV.leaf=true:=be3 λx c=>(h x c).2
 have h0:es.length≠0:=λe=>d (List.length_eq_zero_iff.1 e)
 unfold bb4;rw[b];simp[i,f,h0,g]
def bm5 {a esz nid:Nat}{x:IV}(c:σ.obj a=za (.row []))(b:bz5 σ esz x=za (0,[])):bb4 σ nid esz (.slice a 0 0 esz) x=za (.slice a 0 0 esz,σ):=by
 unfold bb4;rw[b];simp[c]
def bp9 {esz:Nat}{es:List (List IV)}(h:∀e∈es,e.length=esz)(j:Nat)(a:j<es.length):(es.flatten.drop (j*esz)).take esz=es.getD j []:=by
 induction es generalizing j with
 | nil=>simp at a
 | cons e es ih=>
  have b:=h e (ze ..)
  cases j with
  | zero=>simp[b]
  | succ j=>
   have d:(j+1)*esz=e.length+j*esz:=by rw[b,zi];omega
   rw[zp,d,List.drop_append,List.drop_of_length_le (by omega),List.nil_append,show e.length+j*esz-e.length=j*esz from by omega];exact ih (λx c=>h x (zc _ c)) j (by simpa using a)
def gt5 {l vs:List IV}{off:Nat}(h:(l.drop off).take vs.length=vs)(b:off+vs.length<=l.length):ay4 l off vs=l:=by
 unfold ay4
 have a:l.drop off=vs++l.drop (off+vs.length):=by
  rw[<- List.drop_drop]
  conv=>lhs;rw[<- zm vs.length (l.drop off)]
  rw[h]
 rw[List.append_assoc,<- a,zm]
def fi5 {f:Nat}{Q:IV->Store->Prop}(g:C P E f [.aa5] σ Q)(e:C P E f [.af7] σ Q):C P E f [.aa2 []] σ Q:=by
 intro ρ w a hs hr;have c:=iy7 hr;generalize d:a.getD 0 undef=r at c
 cases c with
 | ci6=>exact g ρ w a hs (fi3 hr (by rw[d];exact .aa5))
 | aa2 es b o cap esz sp vs hf hsz hc c hle=>exact e ρ w a hs (fi3 hr (by rw[d];exact .af7 _ _))
inductive ic2 (σ:Store) (S:Nat->Prop):List IV->List IV->Prop
 | nil:ic2 σ S [] []
 | cons {v v':IV} {vs vs':List IV} (h:Frz σ S v v') (t:ic2 σ S vs vs'):ic2 σ S (v::vs) (v'::vs')
def ic2.at {S:Nat->Prop}{cs cs':List IV}(h:ic2 σ S cs cs'):cs'.length=cs.length/\∀i,i<cs.length->Frz σ S (cs.getD i .undef) (cs'.getD i .undef):=by
 induction h with
 | nil=>exact ⟨rfl,λi hi=>absurd hi (Nat.not_lt_zero _)⟩
 | cons h _ ih=>
  refine ⟨by simp only[List.length_cons,ih.1],λi hi=>?_⟩
  cases i with
  | zero=>exact h
  | succ i=>exact ih.2 i (by simpa using hi)
def Frz.kp8 {S:Nat->Prop}{cs cs':List IV}(h:ic2 σ S cs cs'):Frz σ S (.agg cs) (.agg cs'):=.agg _ _ h.at.1 h.at.2
def Frz.bo4 {S:Nat->Prop}{cs cs':List IV}(h:ic2 σ S cs cs'):Frz σ S (.tuple cs) (.tuple cs'):=.tuple _ _ h.at.1 h.at.2
def kz5:((0:Nat):Int)=0:=nr rfl
def kz6:((1:Nat):Int)=1:=nr rfl
def kz7:((2:Nat):Int)=2:=nr rfl
def kz8:((3:Nat):Int)=3:=nr rfl
def kz9:((4:Nat):Int)=4:=nr rfl
def la1:((5:Nat):Int)=5:=nr rfl
def la2:((6:Nat):Int)=6:=nr rfl
def la3:((7:Nat):Int)=7:=nr rfl
def la4:((8:Nat):Int)=8:=nr rfl
def la5:((9:Nat):Int)=9:=nr rfl
def kp9:((10:Nat):Int)=10:=nr rfl
def kq1:((11:Nat):Int)=11:=nr rfl
def kq2:((12:Nat):Int)=12:=nr rfl
def kq3:((13:Nat):Int)=13:=nr rfl
def kq4:((14:Nat):Int)=14:=nr rfl
def kq5:((15:Nat):Int)=15:=nr rfl
def kq6:((16:Nat):Int)=16:=nr rfl
attribute [go_sem] kz5 kz6 kz7 kz8 kz9 la1 la2 la3 la4 la5 kp9 kq1 kq2 kq3 kq4 kq5 kq6 List.getD_cons_zero List.getD_cons_succ
def la6:IntKind.i64.wrap 0=0:=nr rfl
def la7:IntKind.i64.wrap 1=1:=nr rfl
def la8:IntKind.i64.wrap 2=2:=nr rfl
def la9:IntKind.i64.wrap 3=3:=nr rfl
def lb1:IntKind.i64.wrap 4=4:=nr rfl
def lb2:IntKind.i64.wrap 5=5:=nr rfl
def lb3:IntKind.i64.wrap 6=6:=nr rfl
def lb4:IntKind.i64.wrap 7=7:=nr rfl
def lb5:IntKind.i64.wrap 8=8:=nr rfl
def lb6:IntKind.i64.wrap 9=9:=nr rfl
def kq7:IntKind.i64.wrap 10=10:=nr rfl
def kq8:IntKind.i64.wrap 11=11:=nr rfl
def kq9:IntKind.i64.wrap 12=12:=nr rfl
def kr1:IntKind.i64.wrap 13=13:=nr rfl
def kr2:IntKind.i64.wrap 14=14:=nr rfl
def kr3:IntKind.i64.wrap 15=15:=nr rfl
def kr4:IntKind.i64.wrap 16=16:=nr rfl
attribute [go_sem] la6 la7 la8 la9 lb1 lb2 lb3 lb4 lb5 lb6 kq7 kq8 kq9 kr1 kr2 kr3 kr4
def jz7 {a:Option Nat}{n m:Nat}:irL σ fr [.cell a n,.t m]=(ay8 σ a (fr.get n)).map λv=>[v,fr.get m]:=by
 simp only[irL,irV];cases ay8 σ a (fr.get n)<;>rfl
attribute [go_sem] jz7 aj9
end Go.Id
namespace Go.Id
open Go
variable {P:Program} {E:Nat->IV}
def dc2 (r:IV->IV->Bool):List IV->List IV->Bool
 | [],[]=>true
 | a::x,b::y=>r a b&&dc2 r x y
 | _,_=>false
def bm6 {r:IV->IV->Bool}(hr:∀a b,r a b=true->a=b):∀x y:List IV,dc2 r x y=true->x=y:=by
 intro x
 induction x with
 | nil=>intro y h;cases y with
  | nil=>rfl
  | cons b y=>cases h
 | cons a x ih=>intro y h;cases y with
  | nil=>cases h
  | cons b y=>
   simp only[dc2,zb] at h;rw[hr a b h.1,ih y h.2]
def ek4 (r:IV->IV->Bool):List (List IV)->List (List IV)->Bool
 | [],[]=>true
 | a::x,b::y=>dc2 r a b&&ek4 r x y
 | _,_=>false
def ek5 {r:IV->IV->Bool}(hr:∀a b,r a b=true->a=b):∀x y:List (List IV),ek4 r x y=true->x=y:=by
 intro x
 induction x with
 | nil=>intro y h;cases y with
  | nil=>rfl
  | cons b y=>cases h
 | cons a x ih=>intro y h;cases y with
  | nil=>cases h
  | cons b y=>
   simp only[ek4,zb] at h;rw[bm6 hr a b h.1,ih y h.2]
def ii2:List UInt8->List UInt8->Bool
 | [],[]=>true
 | a::x,b::y=>Nat.beq a.toNat b.toNat&&ii2 x y
 | _,_=>false
def ii3:∀x y:List UInt8,ii2 x y=true->x=y:=by
 intro x
 induction x with
 | nil=>intro y h;cases y with
  | nil=>rfl
  | cons b y=>cases h
 | cons a x ih=>intro y h;cases y with
  | nil=>cases h
  | cons b y=>
   simp only[ii2,zb] at h;rw[UInt8.toNat_inj.1 (zn h.1),ih y h.2]
def ii4:Nat->IV->IV->Bool
 | 0,_,_=>false
 | n+1,a,b=>match a with
  | .bool x=>match b with
   | .bool y=>match x,y with
    | true,true=>true
    | false,false=>true
    | _,_=>false
   | _=>false
  | .int k x=>match b with
   | .int k' y=>decide (k=k')&&decide (x=y)
   | _=>false
  | .str x=>match b with
   | .str y=>ii2 x y
   | _=>false
  | .ag2=>match b with
   | .ag2=>true
   | _=>false
  | .ab5 x=>match b with
   | .ab5 y=>dc2 (ii4 n) x y
   | _=>false
  | .aa2 x=>match b with
   | .aa2 y=>ek4 (ii4 n) x y
   | _=>false
  | .agg x=>match b with
   | .agg y=>dc2 (ii4 n) x y
   | _=>false
  | .tuple x=>match b with
   | .tuple y=>dc2 (ii4 n) x y
   | _=>false
  | .iface t x=>match b with
   | .iface t' y=>Nat.beq t t'&&ii4 n x y
   | _=>false
  | .ah6=>match b with
   | .ah6=>true
   | _=>false
  | .am1=>match b with
   | .am1=>true
   | _=>false
  | .ai8=>match b with
   | .ai8=>true
   | _=>false
  | .aa5=>match b with
   | .aa5=>true
   | _=>false
  | _=>false
def ji1:∀(n:Nat) (a b:IV),ii4 n a b=true->a=b:=by
 intro n
 induction n with
 | zero=>intro a b h;cases h
 | succ n ih=>
  intro a b h;cases a<;>simp only[ii4] at h<;>(try cases h)<;>split at h<;>(try cases h)<;>(try rfl)
  .split at h<;>(try cases h)<;>rfl
  .simp only[zb,decide_eq_true_eq] at h;rw[h.1,h.2]
  .rw[ii3 _ _ h]
  .rw[bm6 ih _ _ h]
  .rw[ek5 ih _ _ h]
  .simp only[zb] at h;rw[zn h.1,ih _ _ h.2]
  .rw[bm6 ih _ _ h]
  .rw[bm6 ih _ _ h]
abbrev ju1:=List (Nat×List IV×IV)
def ju1.get:ju1->Nat->List IV->Option IV
 | [],_,_=>zd
 | (k,as,v)::r,f,args=>match Nat.beq k f with
  | true=>match dc2 (ii4 1000) as args with
   | true=>za v
   | false=>ju1.get r f args
  | false=>ju1.get r f args
def MOK (P:Program)(E:Nat->IV)(M:ju1):Prop:=∀e∈M,okF P e.1=true/\PC P E e.1 e.2.1 e.2.2
def MOK.nil:MOK P E []:=λ_ h=>by cases h
def MOK.cons {M:ju1}{k:Nat}{b:List IV}{v:IV}(c:okF P k=true)(h:PC P E k b v)(d:MOK P E M):MOK P E ((k,b,v)::M):=λe a=>by
 rcases List.mem_cons.1 a with rfl|a
 .exact ⟨c,h⟩
 .exact d e a
def ji2 {l:List (Nat×List IV)}(h:l.all (λx=>x.2.all (au9 1000))=true):∀g,Bnd 0 (gf1 l g):=by
 intro g;unfold gf1
 cases d:l.lookup g with
 | none=>exact .undef
 | some cs=>
  have f:∃x∈l,x.2=cs:=by
   clear h
   induction l with
   | nil=>cases d
   | cons x l ih=>
    have⟨a,b⟩:=x;simp only[List.lookup] at d;split at d
    .cases d;exact ⟨_,ze ..,rfl⟩
    .have⟨x,e,i⟩:=ih d;exact ⟨x,zc _ e,i⟩
  obtain ⟨x,e,rfl⟩:=f;exact .ab5 _ λc hc=>az5 1000 c (zg.1 (zg.1 h x e) c hc)
end Go.Id
