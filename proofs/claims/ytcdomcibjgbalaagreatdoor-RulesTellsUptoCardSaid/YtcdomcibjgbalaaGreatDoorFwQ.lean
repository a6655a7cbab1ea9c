/- Loops that go up; rows read by their places; runes of a string; what a yield is told. Conditions: none; over any program. -/
import Derived.Test.YtcdomcibjgbalaaGreatDoorT6
open Option renaming some→za,none→zd
open Bool renaming and_eq_true→zb
open List renaming mem_cons_of_mem→zc,mem_cons_self→ze,getD_eq_getElem?_getD→zf,all_eq_true→zg,getElem?_eq_getElem→zj,getElem?_cons_succ→zk,take_append_drop→zm,getElem?_append→zo,flatten_cons→zp
open Nat renaming lt_of_lt_of_le→zh,add_mul→zi,add_zero→zl,eq_of_beq_eq_true→zn
set_option linter.all false
namespace Go.Id
open Go
variable {P:Program} {E:Nat->IV} {σ σ':Store} {N n0:Nat} {fr:Frm}
def upQ (I:Nat->Frm->Store->Prop)(i n:Nat)(Q:Exit->Frm->Store->Prop):Exit->Frm->Store->Prop
 | .normal,fr,σ=>i<n/\I (i+1) fr σ
 | e,fr,σ=>Q e fr σ
theorem ks8 {I:Nat->Frm->Store->Prop}{i n:Nat}{Q:Exit->Frm->Store->Prop}:upQ I i n Q .normal fr σ=(i<n/\I (i+1) fr σ):=nr rfl
theorem ks9 {I:Nat->Frm->Store->Prop}{i n k:Nat}{Q:Exit->Frm->Store->Prop}:upQ I i n Q (.exit k) fr σ=Q (.exit k) fr σ:=nr rfl
theorem kt1 {I:Nat->Frm->Store->Prop}{i n:Nat}{Q:Exit->Frm->Store->Prop}:upQ I i n Q .ret fr σ=Q .ret fr σ:=nr rfl
theorem ab1 {pt:PT}{ct:CT}(hT:TOK P E pt ct){x:IC}{Q:Exit->Frm->Store->Prop}(I:Nat->Frm->Store->Prop)(n:Nat)(h:I 0 fr σ)
  (hI:∀i fr σ,i<=n->I i fr σ->wpT pt ct P E N n0 x fr σ (upQ I i n Q)):RI P E N n0 (.loop x) fr σ Q:=by
 refine gm7 (λm fr σ=>∃i,i<=n/\m=n-i/\I i fr σ) n ⟨0,Nat.zero_le _,rfl,h⟩ ?_;rintro m fr σ ⟨i,hi,rfl,hi0⟩;refine cd9 x fr σ _ _ ?_ (bi1 hT x fr σ _ (hI i fr σ hi hi0));intro e f s q
 cases e with
 | normal=>exact ⟨n-(i+1),by have:=q.1;omega,i+1,q.1,rfl,q.2⟩
 | _=>exact q
theorem ad2 {α:Type}(es:List α)(i:Nat)(h:i<es.length):∃a,a∈es/\es[i]? = za a/\es.drop i=a::es.drop (i+1)/\(∀(f:α->List IV),(es.map f).getD i []=f a)/\es.take (i+1)=es.take i++[a]:=
 ⟨es[i],List.getElem_mem h,zj h,List.drop_eq_getElem_cons h,λf=>by simp[zf,h],by rw[List.take_add_one,zj h];rfl⟩
theorem gp5 (s:List UInt8)(i:Nat)(h:i<s.length):((⟨s.toArray⟩:ByteArray).get! i)=s[i]:=by
 show (s.toArray)[i]! = s[i];simp[h]
theorem ft5 (s:List UInt8)(i:Nat)(h:i<s.length)(hb:s[i].toNat<128):Utf8.decode ⟨s.toArray⟩ i=(s[i].toNat,1):=by
 unfold Utf8.decode;simp only[zl,gp5 s i h];rw[if_pos hb]
theorem decode_high (s:List UInt8)(i:Nat)(h:i<s.length)(hb:¬s[i].toNat<128):128<=(Utf8.decode ⟨s.toArray⟩ i).1:=by
 unfold Utf8.decode;simp only[zl,gp5 s i h];rw[if_neg hb];have e:Utf8.runeError=65533:=rfl
 repeat' split
 all_goals first|(rw[e];omega)|(simp only[ge_iff_le,zb,decide_eq_true_eq] at *;omega)
def hz7 (P:Program)(E:Nat->IV)(id:Nat)(I:List (List IV)->Store->Prop)(S:Store->Prop):Prop :=
 ∀a rest σ,I (a::rest) σ->CV P E (.yield id) a σ λv s=>σ.next<=s.next/\((v=.bool true/\I rest s)\/(v=.bool false/\S s))
end Go.Id
namespace Go.Id
open Go
attribute [go_sem] dm3 dm4 ck8 bs9 dm5 ck9 dm6 cl1 fu8 jk2 fu5 fu6 dm7 cl2 dm8 cl3 cl4 bt1 dm9 w_q cl5
 fu9 fv1 cl6 fv2 cl8 bt2 cl7 dn1 dn2 dn3 cl9 bt3 fv3 dn4 fv4 dn5 cm1 cm2 dn6 fv5
 fv6 fv7 fv8 fv9 fw1 fw2 fw3 fw4 fw5 dn7 fw6 dn8 fw7 dn9 cm3 do1 do5 fw8 jk5 jk6 fw9 fx1 fx2 fx3
 fx4 fx5 fx6 fx7 fx8 fx9 do6 cm4 bt4 bi2 cm5 bt5 do2 do3 do4 cm6 jk3 jk4 bi4 bt9
 cn8 cn9 co1 cn7 dp9 e_t e_c e_g e_f fy1 do7 fy2 fy3 fy4 ai7 fy5 do8 cm7 fy6 cm8 fy7 cm9
 cn1 fy8 do9 fy9 dp1 fz1 fz2 fz3 fz4 dp2 dp3 ew1 ir7 ek9 ev9 cn2 cn3 dp4 dp5 cn4 cn5 jk7
 bt6 dp6 dp7 dp8 bt7 cn6 bi3 bt8 bu1 co2 bu2 bu3 dq2 dq3 ew2 ew3 co3 co4
 co5 co6 dq4 dq5 co7 bu4 fz5 fz6 fz7 fz8 fz9 ga1 ga2 ga3 ga4 ga5 ga6 ga7 ga8 dc8 dq6 dq7
 dq8 dq9 dr1 dr2 dr3 dr4 dr5 jq6 jq7 jq8 jq9 dc9 bm1 co8 co9 cp1 dr6 dr7 dr8 dr9 ga9 gb1 ds2 gb2
 cp3 cp4 cp5 gb5 bp6 ir8 dt1 cp6 cp7 bu5 bx6 ce1 gb3 ew4 bu6 gb4 ew5 bu7 bu8 cp8
 cp9 cq1 cq2 bu9 cq3 cq4 bv1 bi5 bb9 bv2 cq5 bv3 ds4 ds5 ds6 cq6 bv4
 cq7 cq8 bv5 bi6 bc1 bv6 cq9 bv7 ds7 ds8 ds9 Frm.bs7 Frm.get_nil aa8 aa5 ks8 ks9
 kt1 ew1 ir7 ek9 ev9 kg3 jq5 
attribute [go_sem] List.getElem?_cons_zero zk List.all_cons List.all_nil List.drop_zero List.drop_succ_cons List.head?_cons Bool.and_true Bool.and_self List.append_nil List.nil_append List.cons_append Bool.false_eq_true Bool.xor_false Bool.xor_true Bool.not_true Bool.not_false zl Nat.zero_add Nat.succ_ne_zero if_true if_false true_and and_true
variable {P:Program} {E:Nat->IV} {σ σ':Store} {N n0:Nat} {fr:Frm} {pf:List Nat}
theorem ba9 {f:Nat}{ic:IC}{irs:List IR}{args:List IV}{v:IV}(hf:FOK P f (N,ic,irs))(hl:args.length<=N)
  (h:∀σ,wpT noP noC P E N σ.next ic (bl9 args 0) σ (gr4 irs λv' σ'=>v'=v/\σ'=σ)):PC P E f args v:=by
 obtain ⟨_,pf,an,h1⟩:=hf;exact kv6 noT h1 hl h
theorem C_f {f:Nat}{ic:IC}{irs:List IR}{args:List IV}{Qc:IV->Store->Prop}(hf:FOK P f (N,ic,irs))(hl:args.length<=N)
  (h:wpT noP noC P E N σ.next ic (bl9 args 0) σ (gr4 irs Qc)):C P E f args σ Qc:=by
 obtain ⟨_,pf,an,h1⟩:=hf;exact C_T noT h1 hl h
def emp:Store:=⟨0,λ_=>zd⟩
theorem hz8:emp.next=0:=nr rfl
theorem iy6 {i:Nat}:emp.obj i=zd:=nr rfl
attribute [go_sem] hz8 iy6
theorem af4 {f:Nat}{ic:IC}{irs:List IR}{args:List IV}{v:IV}(hE:∀g,Bnd 0 (E g))(hf:FOK P f (N,ic,irs))(hl:args.length<=N)(ha:∀a∈args,Bnd 0 a)
  (h:wpT noP noC P E N 0 ic (bl9 args 0) emp (gr4 irs λv' σ'=>cb5 σ' 0 v' v)):PC P E f args v :=
 fg6 hE ha (C_f (σ:=emp) hf hl h)
theorem aa4 {f:Nat}{e:FE}{args:List IV}{v:IV}{K:IV->Store->Prop}(hf:FOK P f e)(h:PC P E f args v)(hk:K v σ):dc7 P E zd f args σ K :=
 ap4 hf.1 (ew6 h) λ_ _ ⟨h1,h2⟩=>by subst h1;subst h2;exact ⟨Nat.le_refl _,hk⟩
theorem ac4 {f:Nat}{e:FE}{args:List IV}{Qc:IV->Store->Prop}{K:IV->Store->Prop}(hf:FOK P f e)(h:C P E f args σ Qc)(hk:∀v s,Qc v s->σ.next<=s.next/\K v s):dc7 P E zd f args σ K :=
 ap4 hf.1 h hk
theorem ab4 {S:Nat->Prop}(b:Bool):Frz σ S (.bool b) (.bool b):=.keep _ (.bool _)
theorem ad5 {S:Nat->Prop}(k:IntKind)(n:Int):Frz σ S (.int k n) (.int k n):=.keep _ (.int _ _)
theorem bl5 {S:Nat->Prop}(s:List UInt8):Frz σ S (.str s) (.str s):=.keep _ (.str _)
theorem iq7 {ρ:Rho}{w:World}{v:IV}{rargs:Array Value}(h:CR ρ w [v] rargs):VR ρ w v (rargs.getD 0 undef):=by
 have:=h.2 0 (Nat.zero_lt_one)
 simpa using this
theorem ff9 {ρ:Rho}{w:World}{u v:IV}{rargs:Array Value}(h:CR ρ w [u] rargs)(hv:VR ρ w v (rargs.getD 0 undef)):CR ρ w [v] rargs :=
 ⟨h.1,λi hi=>by
  have:i=0:=by simp at hi;omega
  subst this
  simpa using hv⟩
theorem bp2 {f:Nat}{v:IV}(h1:PC P E f [.aa1] v)(h2:PC P E f [.af6] v):PC P E f [.aa3 []] v:=by
 intro σ ρ w rargs hs hr;have hv:=iq7 hr;generalize hx:rargs.getD 0 undef=r at hv
 cases hv with
 | ci3=>exact h1 σ ρ w rargs hs (ff9 hr (by rw[hx];exact .aa1))
 | aa3 es b o cap esz sp vs hf hsz hc hv hle=>exact h2 σ ρ w rargs hs (ff9 hr (by rw[hx];exact .af6 _ _))
theorem ac3 {i:Nat}(h:i<2^62):IntKind.i64.wrap ((i:Int)+1)=((i+1:Nat):Int):=by
 rw[wrap64 (by omega) (by omega)];omega
theorem iy7 {cs:List IV}:at7 cs []=za cs:=by simp only[at7]
theorem iy8 {cs:List IV}{off n:Nat}{v:IV}{ps:List (Nat×Nat×IV)}:at7 cs ((off,n,v)::ps)=if v.cs.length=n/\off+n<=cs.length/\v.cs.all IV.leaf=true then at7 (be4 cs off v.cs) ps else zd:=by simp only[at7]
theorem jn1 {c:IV}{cs:List IV}{vs:List IV}:be4 (c::cs) 0 vs=vs++(c::cs).drop vs.length:=by simp[be4]
theorem jn2 {c:IV}{cs vs:List IV}{n:Nat}:be4 (c::cs) (n+1) vs=c::be4 cs n vs:=by simp[be4,Nat.add_right_comm]
theorem jn3 {d:TypeId}{a:List IV}{as:List (List IV)}:ct9 (.slice d) (.aa3 (a::as))=za false:=nr rfl
theorem jn4 {d:TypeId}:ct9 (.slice d) .aa1=za true:=nr rfl
theorem jn5 {d:TypeId}:ct9 (.slice d) .af6=za false:=nr rfl
theorem jn6 {d:TypeId}:ct9 (.slice d) .ac6=za false:=nr rfl
theorem jn7 {d:TypeId}{i o l e:Nat}:ct9 (.slice d) (.slice i o l e)=za false:=nr rfl
theorem ac2 {d:TypeId}:ct9 (.pointer d) .ae3=za true:=nr rfl
theorem iy9 {d:TypeId}{cs:List IV}:ct9 (.pointer d) (.ab8 cs)=za false:=nr rfl
theorem iz1 {d:TypeId}{i o:Nat}:ct9 (.pointer d) (.ptr i o)=za false:=nr rfl
theorem hz9 {e:Nat}{l:List IV}:chunk e 0 l=[]:=nr rfl
theorem ia1 {e n:Nat}{l:List IV}:chunk e (n+1) l=l.take e::chunk e n (l.drop e):=nr rfl
theorem jn8 {z:List IV}:rep z 0=[]:=nr rfl
theorem jn9 {z:List IV}{n:Nat}:rep z (n+1)=z++rep z n:=nr rfl
theorem iz2 {off:Nat}{cs:List IV}:bh5 zd off cs=cs[off]?:=nr rfl
theorem iz3 {off n:Nat}{cs:List IV}:bh5 (za n) off cs=if off+n<=cs.length then za (.agg ((cs.drop off).take n)) else zd:=nr rfl
theorem jo1 {ag:Option Nat}{off:Nat}{cs:List IV}:jj5 ag off (.agg cs)=bh5 ag off cs:=nr rfl
theorem jo2 {ag:Option Nat}{n esz:Nat}{cs:List IV}{k:IntKind}{i:Int}:iw5 ag n esz (.agg cs) (.int k i)=if 0<=i/\i<n then bh5 ag (i.toNat*esz) cs else zd:=nr rfl
theorem ia2 {n esz:Nat}{v:IV}{k:IntKind}{i:Int}:dk8 n esz v (.int k i)=if 0<=i/\i<n then da4 (i.toNat*esz) v else zd:=nr rfl
theorem bc7 {s:List UInt8}{k:IntKind}{i:Int}:eg8 (.str s) (.int k i)=if 0<=i then (s[i.toNat]?).map λb=>.int .u8 b.toNat else zd:=nr rfl
theorem iq8 {tags:List Nat}{neg:Bool}{xs ys:List IV}:ip5 tags true neg (.agg xs) (.agg ys)=(allEq tags xs ys).map λb=>.bool (b ^^ neg):=nr rfl
theorem iq9:allEq [] [] []=za true:=nr rfl
def kc3:Option Bool->Option Bool->Option Bool
 | some a,za b=>za (a&&b)
 | _,_=>zd
theorem jo3 {a b:Bool}:kc3 (za a) (za b)=za (a&&b):=nr rfl
theorem ir1 {t:Nat}{ts:List Nat}{x y:IV}{xs ys:List IV}:allEq (t::ts) (x::xs) (y::ys)=kc3 (ak4 t x y) (allEq ts xs ys):=by
 simp only[allEq];cases ak4 t x y<;>cases allEq ts xs ys<;>rfl
theorem jo4 {k:IntKind}{a b:Int}:ak4 1 (.int k a) (.int k b)=za (decide (a=b)):=by simp[ak4]
theorem jo5 {a b:List UInt8}:ak4 2 (.str a) (.str b)=za (decide (a=b)):=nr rfl
theorem dl8 {a b:List UInt8}:ao8 2 (.str a) (.str b)=za (decide (a=b)):=nr rfl
theorem jo6 {a b:Bool}:ak4 0 (.bool a) (.bool b)=za (a==b):=nr rfl
attribute [go_sem] iq8 iq9 ir1 jo3 jo6 jo4 jo5
attribute [go_sem] iy7 iy8 jn1 jn2 jn3 jn4 jn5 jn6 jn7 ac2 iy9 iz1 hz9 ia1 jn8 jn9 iz2 iz3 jo1 jo2 ia2 bc7
attribute [go_sem] Bool.true_or Bool.or_true Bool.false_or Bool.or_false Bool.true_and Bool.false_and Bool.and_false
attribute [go_sem] List.length_cons List.length_nil List.take_succ_cons List.take_zero List.length_map Int.toNat_natCast
end Go.Id
namespace Go.Id
open Go
variable {P:Program} {E:Nat->IV} {σ σ':Store} {N n0:Nat} {fr:Frm}
def jz8 (I:List (List IV)->Store->Prop):Prop:=∀rest s s',I rest s->s.next<=s'.next->(∀i,i<s.next->s'.obj i=s.obj i)->I rest s'
def jo7 (n:Nat)(I:List (List IV)->Store->Prop)(S:Store->Prop):IV->Store->Prop:=λ_ s=>n<=s.next/\(I [] s\/S s)
def fg1 (P:Program)(E:Nat->IV)(fv:IV)(evs:List (List IV))(own:Store->Prop):Prop :=
 ∀(yid:Nat) (I:List (List IV)->Store->Prop) (S:Store->Prop) (σ:Store),(∀rest s,I rest s->own s)->jz8 I->hz7 P E yid I S->I evs σ->CVf P E fv [.yield yid] σ (jo7 σ.next I S)
def kk4 (P:Program)(E:Nat->IV)(N n0:Nat)(id:Nat)(L:LoopState->Option JX->aj2)(x:IC)(K:IV->Store->Prop):Exit->Frm->Store->Prop
 | .normal,f,s=>s.obj id=za (L .ready zd)/\wpT noP noC P E N n0 x f (s.put id (L .busy zd)) (db4 id L K)
 | _,_,_=>False
theorem kc4 {id:Nat}{L:LoopState->Option JX->aj2}{x:IC}{K:IV->Store->Prop}:kk4 P E N n0 id L x K .normal fr σ=(σ.obj id=za (L .ready zd)/\wpT noP noC P E N n0 x fr (σ.put id (L .busy zd)) (db4 id L K)):=nr rfl
theorem kc5 {id:Nat}{L:LoopState->Option JX->aj2}{K:IV->Store->Prop}:db4 id L K .normal fr σ=(σ.obj id=za (L .busy zd)/\K (.bool true) (σ.put id (L .ready zd))):=nr rfl
theorem kc6 {id:Nat}{L:LoopState->Option JX->aj2}{K:IV->Store->Prop}:db4 id L K .ret fr σ=(σ.obj id=za (L .busy zd)/\K (.bool false) (σ.put id (L .done (za .ret)))):=nr rfl
theorem kc7 {id i:Nat}{L:LoopState->Option JX->aj2}{K:IV->Store->Prop}:db4 id L K (.exit i) fr σ=(σ.obj id=za (L .busy zd)/\K (.bool false) (σ.put id (L .done (za (.exit i))))):=nr rfl
theorem iz4:dj1 fr [] []=fr:=nr rfl
theorem iz5 {p:Nat}{ps:List Nat}{v:IV}{vs:List IV}:dj1 fr (p::ps) (v::vs)=dj1 (fr.set p v) ps vs:=nr rfl
theorem kc8 {p:Nat}{v:IV}:fr.set p v=(p,v)::fr:=nr rfl
def goQ (id n:Nat)(L:LoopState->Option JX->aj2)(J:List (List IV)->Store->Prop)(Q:Exit->Frm->Store->Prop)(fr:Frm)(rest:List (List IV)):IV->Store->Prop:=λv s=>
 n<=s.next/\((v=.bool true/\s.obj id=za (L .ready zd)/\J rest s)\/(v=.bool false/\∃st pend,st≠.busy/\s.obj id=za (L st pend)/\iy2 Q fr (s.kill id) pend))
theorem eu9 {id n:Nat}{L:LoopState->Option JX->aj2}{J:List (List IV)->Store->Prop}{Q:Exit->Frm->Store->Prop}{rest:List (List IV)}(h1:n<=σ.next)(h2:σ.obj id=za (L .ready zd))(h3:J rest σ):goQ id n L J Q fr rest (.bool true) σ:=⟨h1,.inl ⟨rfl,h2,h3⟩⟩
theorem dc3 {id n:Nat}{L:LoopState->Option JX->aj2}{J:List (List IV)->Store->Prop}{Q:Exit->Frm->Store->Prop}{rest:List (List IV)}(h1:n<=σ.next)(h2:σ.obj id=za (L .done (za .ret)))(h3:Q .ret fr (σ.kill id)):goQ id n L J Q fr rest (.bool false) σ:=⟨h1,.inr ⟨rfl,.done,za .ret,(λh=>by cases h),h2,h3⟩⟩
theorem dy8 {g:IX}{ps:List Nat}{y x:IC}{Q:Exit->Frm->Store->Prop}{evs:List (List IV)}{own:Store->Prop}(hT:fg1 P E (g.ev E fr) evs own)
  (J:List (List IV)->Store->Prop) (hown:∀rest s,J rest s->own s) (hstab:jz8 J) (hlen:∀a∈evs,a.length=ps.length)
  (hinit:∀o,J evs ⟨σ.next+1,(σ.put σ.next o).obj⟩)
  (hbody:∀(L:LoopState->Option JX->aj2) (pre:List (List IV)) (a:List IV) (rest:List (List IV)) (s:Store),evs=pre++a::rest->J (a::rest) s->s.obj σ.next=za (L .ready zd)->σ.next<s.next ->
   wpT noP noC P E N s.next y (dj1 fr ps a) s (kk4 P E N s.next σ.next L x (goQ σ.next s.next L J Q fr rest)))
  (hend:∀s o,J [] s->σ.next<s.next->s.obj σ.next=za o->Q .normal fr (s.kill σ.next)) :
  RI P E N n0 (.bx5 g ps y x) fr σ Q:=by
 refine hw5 λL hL=>?_
 let I:List (List IV)->Store->Prop:=λrest s=>(∃pre,evs=pre++rest)/\s.obj σ.next=za (L .ready zd)/\σ.next<s.next/\J rest s
 let S:Store->Prop:=λs=>∃st pend,st≠.busy/\s.obj σ.next=za (L st pend)/\iy2 Q fr (s.kill σ.next) pend
 have hI:jz8 I:=by
  rintro rest s s' ⟨hp,h1,h2,h3⟩ hn hs;exact ⟨hp,by rw[hs _ h2];exact h1,zh h2 hn,hstab rest s s' h3 hn hs⟩
 have hst:hz7 P E σ.next I S:=by
  rintro a rest s ⟨⟨pre,hp⟩,h1,h2,h3⟩;refine ⟨by rw[h1];rfl,?_⟩;have hb:=hbody L pre a rest s hp h3 h1 h2;refine hL s a _ (hlen a (by rw[hp];simp)) h1 ?_;refine (bo7 y _ _ _ (cd9 y _ _ _ _ ?_ (bi1 noT y _ _ _ hb)));intro e f s1 q
  cases e with
  | normal=>
   refine ⟨rfl,q.1,?_⟩;refine (bo7 x _ _ _ (cd9 x _ _ _ _ ?_ (bi1 noT x _ _ _ q.2)))
   have hK:∀v s2,goQ σ.next s.next L J Q fr rest v s2->s.next<=s2.next/\((v=.bool true/\I rest s2)\/(v=.bool false/\S s2)):=by
    rintro v s2 ⟨hn,h|h⟩
    ·exact ⟨hn,.inl ⟨h.1,⟨pre++[a],by rw[hp];simp⟩,h.2.1,zh h2 hn,h.2.2⟩⟩
    ·exact ⟨hn,.inr ⟨h.1,h.2⟩⟩
   intro e f s2 q2
   cases e with
   | normal=>exact ⟨q2.1,hK _ _ q2.2⟩
   | ret=>exact ⟨q2.1,hK _ _ q2.2⟩
   | exit i=>exact ⟨q2.1,hK _ _ q2.2⟩
   | _=>exact q2
  | _=>exact q.elim
 have h:=hT σ.next I S ⟨σ.next+1,(σ.put σ.next (L .ready zd)).obj⟩ (λrest s h=>hown rest s h.2.2.2) hI hst ⟨⟨[],rfl⟩,by simp only[aa5,if_true],Nat.lt_succ_self _,hinit _⟩;refine h.mono ?_;rintro v s ⟨hn,h|h⟩
 ·exact ⟨Nat.le_of_lt hn,.ready,zd,(λh=>by cases h),h.2.1,hend s _ h.2.2.2 h.2.2.1 h.2.1⟩
 ·exact ⟨Nat.le_of_lt hn,h⟩
theorem cw5 {yid:Nat}{I:List (List IV)->Store->Prop}{S:Store->Prop}{a:List IV}{rest:List (List IV)}{K:IV->Store->Prop}(h:hz7 P E yid I S)(hi:I (a::rest) σ)
  (h1:∀s,σ.next<=s.next->I rest s->K (.bool true) s) (h2:∀s,σ.next<=s.next->S s->K (.bool false) s):gr5 noC P E (.yield yid) a σ K:=by
 refine ⟨_,h a rest σ hi,?_⟩;rintro v s ⟨hn,⟨rfl,h⟩|⟨rfl,h⟩⟩
 ·exact ⟨hn,h1 s hn h⟩
 ·exact ⟨hn,h2 s hn h⟩
theorem gp6 {i:Nat}:(σ.kill i).next=σ.next:=nr rfl
theorem ia3 {i j:Nat}:(σ.kill i).obj j=if j=i then zd else σ.obj j:=nr rfl
attribute [go_sem] gp6 ia3
attribute [go_sem] kc4 kc5 kc6 kc7 iz4 iz5 kc8
end Go.Id
namespace Go.Id
open Go
variable {P:Program} {E:Nat->IV} {σ σ':Store} {N n0:Nat} {fr:Frm}
def kc9 (σ:Store):IV->Prop
 | .ab8 _=>True
 | .ptr i _=>match σ.obj i with
  | some (.cells _)=>True
  | _=>False
 | _=>False
def kk5:Option aj2->Prop
 | some (.cells _)=>True
 | _=>False
theorem jo8 {ag:Option Nat}{x:IX}:cb4 E fr σ (.q (.load ag x))=kc9 σ (x.ev E fr):=nr rfl
theorem b_t {cs:List IV}:kc9 σ (.ab8 cs)=True:=nr rfl
theorem b_p {i o:Nat}:kc9 σ (.ptr i o)=kk5 (σ.obj i):=nr rfl
theorem b_o {cs:List IV}:kk5 (za (.cells cs))=True:=nr rfl
theorem kd1 {x:IX}:cb4 E fr σ (.q (.mov x))=True:=nr rfl
theorem iz6 {n:Nat}{x:IX}:cb4 E fr σ (.q (.bg4 n x))=True:=nr rfl
theorem jo9 {x:IX}:cb4 E fr σ (.q (.ip6 x))=True:=nr rfl
theorem kd2 {n:Nat}{x:IX}:cb4 E fr σ (.q (.len n x))=True:=nr rfl
theorem kd3 {n:Nat}{z:IV}{b:Bool}{x y:IX}:cb4 E fr σ (.q (.lkp n z b x y))=True:=nr rfl
theorem kd4 {z:List IV}{ps:List (Nat×Nat×IX)}:cb4 E fr σ (.q (.bld z ps))=True:=nr rfl
theorem kd5 {op:BinOp}{x y:IX}:cb4 E fr σ (.q (.bin op x y))=True:=nr rfl
theorem iz7 {n:Nat}{x y:IX}:cb4 E fr σ (.q (.ei4 n x y))=True:=nr rfl
theorem jp1 {k:IntKind}{x:IX}:cb4 E fr σ (.q (.conv k x))=True:=nr rfl
theorem kd6 {n:Nat}{x:IX}:cb4 E fr σ (.q (.ext n x))=True:=nr rfl
theorem jp2 {x y z:IX}:cb4 E fr σ (.q (.pick x y z))=True:=nr rfl
theorem kd7 {x:IX}:cb4 E fr σ (.q (.not x))=True:=nr rfl
theorem iz8 {f:Nat}{xs:List IX}:cb4 E fr σ (.bb1 f xs)=True:=nr rfl
theorem jp3 {e n:Nat}{z:List IV}{ps:List (Nat×Nat×IX)}:cb4 E fr σ (.aj3 e n z ps)=True:=nr rfl
theorem kd8 {e n:Nat}{z:List IV}{ps:List (Nat×Nat×IX)}:cb4 E fr σ (.bsl e n z ps)=True:=nr rfl
theorem kd9 {e:Nat}{x y:IX}:cb4 E fr σ (.app e x y)=True:=nr rfl
theorem iz9 {n:Nat}{x y:IX}:cb4 E fr σ (.store n x y)=True:=nr rfl
theorem jp4 {n:Nat}{x y z:IX}:cb4 E fr σ (.ci4 n x y z)=True:=nr rfl
theorem ja1 {z:List IV}:cb4 E fr σ (.alloc z)=True:=nr rfl
attribute [go_sem] jo8 b_t b_p b_o kd1 iz6 jo9 kd2 kd3 kd4 kd5 iz7 jp1 kd6 jp2 kd7 iz8 jp3 kd8 kd9 iz9 jp4 ja1
def Grow (σ:Store)(v:IV)(esz:Nat)(es:List (List IV)):Prop :=
 (v=.aa1/\es=[])\/∃id,v=.slice id 0 es.length esz/\σ.obj id=za (.row es.flatten)/\id<σ.next
def ae9 (v:IV)(σ:Store):Store:=match v with
 | .slice id _ _ _=>σ.kill id
 | _=>σ
theorem bl6 {esz:Nat}{es:List (List IV)}(h:∀e∈es,e.length=esz):es.flatten.length=es.length*esz:=by
 induction es with
 | nil=>simp
 | cons e es ih=>simp[ih (λx hx=>h x (zc _ hx)),h e (ze ..),zi];omega
theorem gp7 {esz:Nat}{es:List (List IV)}(h:∀e∈es,e.length=esz)(i j:Nat)(hi:i<es.length)(hj:j<esz):es.flatten.getD (i*esz+j) .undef=(es.getD i []).getD j .undef:=by
 induction es generalizing i with
 | nil=>simp at hi
 | cons e es ih=>
  have he:=h e (ze ..)
  cases i with
  | zero=>simp[zf,zo,he,hj]
  | succ i=>
   have h1:¬((i+1)*esz+j<e.length):=by rw[he,zi];omega
   have h2:(i+1)*esz+j-e.length=i*esz+j:=by rw[he,zi];omega
   have:=ih (λx hx=>h x (zc _ hx)) i (by simpa using hi);simp only[zf,zp,zo,if_neg h1,h2,zk] at this ⊢;exact this
theorem cd1 {es:List (List IV)}(h:∀e∈es,e.all IV.leaf=true):es.flatten.all IV.leaf=true:=by
 simp only[zg,List.mem_flatten];rintro c ⟨e,he,hc⟩;exact zg.1 (h e he) c hc
theorem ai2 {v:IV}{esz nid:Nat}{es:List (List IV)}{e:List IV}(hg:Grow σ v esz es)(h:∀x∈es,x.length=esz/\x.all IV.leaf=true)(he:e.length=esz/\e.all IV.leaf=true)(hn:es.length<2147483648) :
  as2 σ nid esz v (.aa3 [e])=za (.slice nid 0 (es.length+1) esz,(ae9 v σ).put nid (.row (es++[e]).flatten)):=by
 have hsrc:bx4 σ esz (.aa3 [e])=za (1,e):=by simp[bx4,he.1]
 have hl:e.all IV.leaf=true:=he.2;rcases hg with ⟨rfl,rfl⟩|⟨id,rfl,ho,hid⟩
 ·unfold as2;rw[hsrc];simp[hl,ae9]
 ·unfold as2;rw[hsrc];have h1:es.flatten.all IV.leaf=true:=cd1 λx hx=>(h x hx).2
  have h2:es.flatten.length=es.length*esz:=bl6 λx hx=>(h x hx).1
  simp[hl,ho,ae9,h1,h2];omega
theorem Grow.new {v:IV}{esz nid:Nat}{es:List (List IV)}{e:List IV}(hlt:nid<σ'.next)(ho:σ'.obj nid=za (.row (es++[e]).flatten)):Grow σ' (.slice nid 0 (es.length+1) esz) esz (es++[e]):=
 .inr ⟨nid,by simp,ho,hlt⟩
theorem ab7 (v:IV):(ae9 v σ).next=σ.next:=by cases v<;>rfl
theorem af5 {v:IV}{esz:Nat}{es:List (List IV)}(hg:Grow σ v esz es)(i:Nat)(o:aj2)(ho:σ.obj i=za o)(hr:∀cs,o≠.row cs):(ae9 v σ).obj i=za o:=by
 rcases hg with ⟨rfl,rfl⟩|⟨id,rfl,ho',hid⟩
 ·exact ho
 ·show (if i=id then zd else σ.obj i)=za o;rw[if_neg]
  ·exact ho
  ·intro e;subst e;rw[ho] at ho';cases ho';exact hr _ rfl
theorem Grow.frz {S:Nat->Prop}{v:IV}{esz:Nat}{es:List (List IV)}(hg:Grow σ v esz es)(h:∀x∈es,x.length=esz)(hS:∀id,v=.slice id 0 es.length esz->¬S id)(hb:∀e∈es,∀c∈e,Nm S c):Frz σ S v (.aa3 es):=by
 rcases hg with ⟨rfl,rfl⟩|⟨id,rfl,ho,hid⟩
 ·exact .bz3
 ·refine .slice id 0 es.length esz es.flatten es (hS id rfl) (.inr ho) rfl (by rw[bl6 h];omega) (λi hi=>h _ (ad3 _ hi)) (λi hi j hj=>?_);rw[Nat.zero_add,gp7 h i j hi hj];exact .keep _ (hb _ (ad3 _ hi) _ (ad3 _ (by rw[h _ (ad3 _ hi)];exact hj)))
theorem Grow.mono {v:IV}{esz:Nat}{es:List (List IV)}(hg:Grow σ v esz es)(hn:σ.next<=σ'.next)(h:∀id,v=.slice id 0 es.length esz->id<σ.next->σ'.obj id=σ.obj id):Grow σ' v esz es:=by
 rcases hg with h0|⟨id,rfl,ho,hid⟩
 ·exact .inl h0
 ·exact .inr ⟨id,rfl,by rw[h id rfl hid];exact ho,zh hid hn⟩
theorem Grow.ne {v:IV}{esz id:Nat}{es:List (List IV)}{i:Nat}{o:aj2}(hg:Grow σ v esz es)(hv:v=.slice id 0 es.length esz)(ho:σ.obj i=za o)(hr:∀cs,o≠.row cs):id≠i:=by
 intro e;subst e;rcases hg with ⟨rfl,_⟩|⟨id',rfl,ho',_⟩
 ·cases hv
 ·cases hv;rw[ho] at ho';cases ho';exact hr _ rfl
theorem ck3 {did esz nid:Nat}{es:List (List IV)}(ho:σ.obj did=za (.row []))(hne:es≠[])(h:∀x∈es,x.length=esz/\x.all IV.leaf=true)(hn:es.length<=2147483648) :
  as2 σ nid esz (.slice did 0 0 esz) (.aa3 es)=za (.slice nid 0 es.length esz,(σ.kill did).put nid (.row es.flatten)):=by
 have hsrc:bx4 σ esz (.aa3 es)=za (es.length,es.flatten):=by
  simp only[bx4];rw[if_pos (by simpa using λx hx=>(h x hx).1)]
 have h1:es.flatten.all IV.leaf=true:=cd1 λx hx=>(h x hx).2
 have h0:es.length≠0:=λe=>hne (List.length_eq_zero_iff.1 e)
 unfold as2;rw[hsrc];simp[h1,ho,h0,hn]
theorem bl7 {did esz nid:Nat}{x:IV}(ho:σ.obj did=za (.row []))(hx:bx4 σ esz x=za (0,[])):as2 σ nid esz (.slice did 0 0 esz) x=za (.slice did 0 0 esz,σ):=by
 unfold as2;rw[hx];simp[ho]
theorem cd2 {esz:Nat}{es:List (List IV)}(h:∀e∈es,e.length=esz)(j:Nat)(hj:j<es.length):(es.flatten.drop (j*esz)).take esz=es.getD j []:=by
 induction es generalizing j with
 | nil=>simp at hj
 | cons e es ih=>
  have he:=h e (ze ..)
  cases j with
  | zero=>simp[he]
  | succ j=>
   have h2:(j+1)*esz=e.length+j*esz:=by rw[he,zi];omega
   rw[zp,h2,List.drop_append,List.drop_of_length_le (by omega),List.nil_append,show e.length+j*esz-e.length=j*esz from by omega];exact ih (λx hx=>h x (zc _ hx)) j (by simpa using hj)
theorem gp8 {l vs:List IV}{off:Nat}(h:(l.drop off).take vs.length=vs)(hl:off+vs.length<=l.length):be4 l off vs=l:=by
 unfold be4
 have h1:l.drop off=vs++l.drop (off+vs.length):=by
  rw[<- List.drop_drop]
  conv=>lhs;rw[<- zm vs.length (l.drop off)]
  rw[h]
 rw[List.append_assoc,<- h1,zm]
theorem fg2 {f:Nat}{Q:IV->Store->Prop}(h1:C P E f [.aa1] σ Q)(h2:C P E f [.af6] σ Q):C P E f [.aa3 []] σ Q:=by
 intro ρ w rargs hs hr;have hv:=iq7 hr;generalize hx:rargs.getD 0 undef=r at hv
 cases hv with
 | ci3=>exact h1 ρ w rargs hs (ff9 hr (by rw[hx];exact .aa1))
 | aa3 es b o cap esz sp vs hf hsz hc hv hle=>exact h2 ρ w rargs hs (ff9 hr (by rw[hx];exact .af6 _ _))
inductive ia4 (σ:Store) (S:Nat->Prop):List IV->List IV->Prop
 | nil:ia4 σ S [] []
 | cons {v v':IV} {vs vs':List IV} (h:Frz σ S v v') (t:ia4 σ S vs vs'):ia4 σ S (v::vs) (v'::vs')
theorem ia4.at {S:Nat->Prop}{cs cs':List IV}(h:ia4 σ S cs cs'):cs'.length=cs.length/\∀i,i<cs.length->Frz σ S (cs.getD i .undef) (cs'.getD i .undef):=by
 induction h with
 | nil=>exact ⟨rfl,λi hi=>absurd hi (Nat.not_lt_zero _)⟩
 | cons h _ ih=>
  refine ⟨by simp only[List.length_cons,ih.1],λi hi=>?_⟩
  cases i with
  | zero=>exact h
  | succ i=>exact ih.2 i (by simpa using hi)
theorem Frz.ke1 {S:Nat->Prop}{cs cs':List IV}(h:ia4 σ S cs cs'):Frz σ S (.agg cs) (.agg cs'):=.agg _ _ h.at.1 h.at.2
theorem Frz.by4 {S:Nat->Prop}{cs cs':List IV}(h:ia4 σ S cs cs'):Frz σ S (.tuple cs) (.tuple cs'):=.tuple _ _ h.at.1 h.at.2
theorem kt2:((0:Nat):Int)=0:=nr rfl
theorem kt3:((1:Nat):Int)=1:=nr rfl
theorem kt4:((2:Nat):Int)=2:=nr rfl
theorem kt5:((3:Nat):Int)=3:=nr rfl
theorem kt6:((4:Nat):Int)=4:=nr rfl
theorem kt7:((5:Nat):Int)=5:=nr rfl
theorem kt8:((6:Nat):Int)=6:=nr rfl
theorem kt9:((7:Nat):Int)=7:=nr rfl
theorem ku1:((8:Nat):Int)=8:=nr rfl
theorem ku2:((9:Nat):Int)=9:=nr rfl
theorem ke2:((10:Nat):Int)=10:=nr rfl
theorem ke3:((11:Nat):Int)=11:=nr rfl
theorem ke4:((12:Nat):Int)=12:=nr rfl
theorem ke5:((13:Nat):Int)=13:=nr rfl
theorem ke6:((14:Nat):Int)=14:=nr rfl
theorem ke7:((15:Nat):Int)=15:=nr rfl
theorem ke8:((16:Nat):Int)=16:=nr rfl
attribute [go_sem] kt2 kt3 kt4 kt5 kt6 kt7 kt8 kt9 ku1 ku2 ke2 ke3 ke4 ke5 ke6 ke7 ke8 List.getD_cons_zero List.getD_cons_succ
theorem ku3:IntKind.i64.wrap 0=0:=nr rfl
theorem ku4:IntKind.i64.wrap 1=1:=nr rfl
theorem ku5:IntKind.i64.wrap 2=2:=nr rfl
theorem ku6:IntKind.i64.wrap 3=3:=nr rfl
theorem ku7:IntKind.i64.wrap 4=4:=nr rfl
theorem ku8:IntKind.i64.wrap 5=5:=nr rfl
theorem ku9:IntKind.i64.wrap 6=6:=nr rfl
theorem kv1:IntKind.i64.wrap 7=7:=nr rfl
theorem kv2:IntKind.i64.wrap 8=8:=nr rfl
theorem kv3:IntKind.i64.wrap 9=9:=nr rfl
theorem ke9:IntKind.i64.wrap 10=10:=nr rfl
theorem kf1:IntKind.i64.wrap 11=11:=nr rfl
theorem kf2:IntKind.i64.wrap 12=12:=nr rfl
theorem kf3:IntKind.i64.wrap 13=13:=nr rfl
theorem kf4:IntKind.i64.wrap 14=14:=nr rfl
theorem kf5:IntKind.i64.wrap 15=15:=nr rfl
theorem kf6:IntKind.i64.wrap 16=16:=nr rfl
attribute [go_sem] ku3 ku4 ku5 ku6 ku7 ku8 ku9 kv1 kv2 kv3 ke9 kf1 kf2 kf3 kf4 kf5 kf6
theorem jp5 {ag:Option Nat}{n m:Nat}:irL σ fr [.cell ag n,.t m]=(ay7 σ ag (fr.get n)).map λv=>[v,fr.get m]:=by
 simp only[irL,irV];cases ay7 σ ag (fr.get n)<;>rfl
attribute [go_sem] jp5 ai7
end Go.Id
namespace Go.Id
open Go
variable {P:Program} {E:Nat->IV}
def dc4 (r:IV->IV->Bool):List IV->List IV->Bool
 | [],[]=>true
 | a::x,b::y=>r a b&&dc4 r x y
 | _,_=>false
theorem bl8 {r:IV->IV->Bool}(hr:∀a b,r a b=true->a=b):∀x y:List IV,dc4 r x y=true->x=y:=by
 intro x
 induction x with
 | nil=>intro y h;cases y with
  | nil=>rfl
  | cons b y=>cases h
 | cons a x ih=>intro y h;cases y with
  | nil=>cases h
  | cons b y=>
   simp only[dc4,zb] at h;rw[hr a b h.1,ih y h.2]
def ej9 (r:IV->IV->Bool):List (List IV)->List (List IV)->Bool
 | [],[]=>true
 | a::x,b::y=>dc4 r a b&&ej9 r x y
 | _,_=>false
theorem ek1 {r:IV->IV->Bool}(hr:∀a b,r a b=true->a=b):∀x y:List (List IV),ej9 r x y=true->x=y:=by
 intro x
 induction x with
 | nil=>intro y h;cases y with
  | nil=>rfl
  | cons b y=>cases h
 | cons a x ih=>intro y h;cases y with
  | nil=>cases h
  | cons b y=>
   simp only[ej9,zb] at h;rw[bl8 hr a b h.1,ih y h.2]
def ia5:List UInt8->List UInt8->Bool
 | [],[]=>true
 | a::x,b::y=>Nat.beq a.toNat b.toNat&&ia5 x y
 | _,_=>false
theorem ia6:∀x y:List UInt8,ia5 x y=true->x=y:=by
 intro x
 induction x with
 | nil=>intro y h;cases y with
  | nil=>rfl
  | cons b y=>cases h
 | cons a x ih=>intro y h;cases y with
  | nil=>cases h
  | cons b y=>
   simp only[ia5,zb] at h;rw[UInt8.toNat_inj.1 (zn h.1),ih y h.2]
def ia7:Nat->IV->IV->Bool
 | 0,_,_=>false
 | n+1,a,b=>match a with
  | .bool x=>match b with
   | .bool y=>match x,y with
    | true,true=>true
    | false,false=>true
    | _,_=>false
   | _=>false
  | .int k x=>match b with
   | .int k' y=>decide (k=k')&&decide (x=y)
   | _=>false
  | .str x=>match b with
   | .str y=>ia5 x y
   | _=>false
  | .ae3=>match b with
   | .ae3=>true
   | _=>false
  | .ab8 x=>match b with
   | .ab8 y=>dc4 (ia7 n) x y
   | _=>false
  | .aa3 x=>match b with
   | .aa3 y=>ej9 (ia7 n) x y
   | _=>false
  | .agg x=>match b with
   | .agg y=>dc4 (ia7 n) x y
   | _=>false
  | .tuple x=>match b with
   | .tuple y=>dc4 (ia7 n) x y
   | _=>false
  | .iface t x=>match b with
   | .iface t' y=>Nat.beq t t'&&ia7 n x y
   | _=>false
  | .ah2=>match b with
   | .ah2=>true
   | _=>false
  | .ah7=>match b with
   | .ah7=>true
   | _=>false
  | .ad7=>match b with
   | .ad7=>true
   | _=>false
  | .aa1=>match b with
   | .aa1=>true
   | _=>false
  | _=>false
theorem ja2:∀(n:Nat) (a b:IV),ia7 n a b=true->a=b:=by
 intro n
 induction n with
 | zero=>intro a b h;cases h
 | succ n ih=>
  intro a b h;cases a<;>simp only[ia7] at h<;>(try cases h)<;>split at h<;>(try cases h)<;>(try rfl)
  ·split at h<;>(try cases h)<;>rfl
  ·simp only[zb,decide_eq_true_eq] at h;rw[h.1,h.2]
  ·rw[ia6 _ _ h]
  ·rw[bl8 ih _ _ h]
  ·rw[ek1 ih _ _ h]
  ·simp only[zb] at h;rw[zn h.1,ih _ _ h.2]
  ·rw[bl8 ih _ _ h]
  ·rw[bl8 ih _ _ h]
abbrev jj8:=List (Nat×List IV×IV)
def jj8.get:jj8->Nat->List IV->Option IV
 | [],_,_=>zd
 | (k,as,v)::r,f,args=>match Nat.beq k f with
  | true=>match dc4 (ia7 1000) as args with
   | true=>za v
   | false=>jj8.get r f args
  | false=>jj8.get r f args
def MOK (P:Program)(E:Nat->IV)(M:jj8):Prop:=∀e∈M,okF P e.1=true/\PC P E e.1 e.2.1 e.2.2
theorem MOK.nil:MOK P E []:=λ_ h=>by cases h
theorem MOK.cons {M:jj8}{k:Nat}{as:List IV}{v:IV}(hk:okF P k=true)(h:PC P E k as v)(hM:MOK P E M):MOK P E ((k,as,v)::M):=λe he=>by
 rcases List.mem_cons.1 he with rfl|he
 ·exact ⟨hk,h⟩
 ·exact hM e he
theorem ja3 {l:List (Nat×List IV)}(h:l.all (λx=>x.2.all (au3 1000))=true):∀g,Bnd 0 (gc1 l g):=by
 intro g;unfold gc1
 cases hg:l.lookup g with
 | none=>exact .undef
 | some cs=>
  have hm:∃x∈l,x.2=cs:=by
   clear h
   induction l with
   | nil=>cases hg
   | cons x l ih=>
    obtain ⟨a,b⟩:=x;simp only[List.lookup] at hg;split at hg
    ·cases hg;exact ⟨_,ze ..,rfl⟩
    ·obtain ⟨x,h1,h2⟩:=ih hg;exact ⟨x,zc _ h1,h2⟩
  obtain ⟨x,h1,rfl⟩:=hm;exact .ab8 _ λc hc=>ax4 1000 c (zg.1 (zg.1 h x h1) c hc)
end Go.Id
