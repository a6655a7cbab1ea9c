/- Loops that go up; rows read by their places; runes of a string; what a yield is told. Conditions: none; over any program. -/
import Derived.Test.YtcdakaadeghccaaGreatDoorT6
open Option renaming some→za,none→zd
open Bool renaming and_eq_true→zb
open List renaming mem_cons_of_mem→zc,mem_cons_self→ze,getD_eq_getElem?_getD→zf,all_eq_true→zg,getElem?_eq_getElem→zj,getElem?_cons_succ→zk,take_append_drop→zm,getElem?_append→zo,flatten_cons→zp
open Nat renaming lt_of_lt_of_le→zh,add_mul→zi,add_zero→zl,eq_of_beq_eq_true→zn
set_option linter.all false
namespace Go.Id
open Go
variable {P:Program} {E:Nat->IV} {σ σ':Store} {N n0:Nat} {fr:Frm}
def upQ (I:Nat->Frm->Store->Prop)(i n:Nat)(Q:Exit->Frm->Store->Prop):Exit->Frm->Store->Prop
 | .normal,fr,σ=>i<n/\I (i+1) fr σ
 | e,fr,σ=>Q e fr σ
theorem ka8 {I:Nat->Frm->Store->Prop}{i n:Nat}{Q:Exit->Frm->Store->Prop}:upQ I i n Q .normal fr σ=(i<n/\I (i+1) fr σ):=nr rfl
theorem ka9 {I:Nat->Frm->Store->Prop}{i n k:Nat}{Q:Exit->Frm->Store->Prop}:upQ I i n Q (.exit k) fr σ=Q (.exit k) fr σ:=nr rfl
theorem kb1 {I:Nat->Frm->Store->Prop}{i n:Nat}{Q:Exit->Frm->Store->Prop}:upQ I i n Q .ret fr σ=Q .ret fr σ:=nr rfl
theorem ab1 {pt:PT}{ct:CT}(hT:TOK P E pt ct){x:IC}{Q:Exit->Frm->Store->Prop}(I:Nat->Frm->Store->Prop)(n:Nat)(h:I 0 fr σ)
  (hI:∀ i fr σ,i<=n->I i fr σ->wpT pt ct P E N n0 x fr σ (upQ I i n Q)):RI P E N n0 (.loop x) fr σ Q:=by
 refine gb5 (fun m fr σ=>∃ i,i<=n/\m=n-i/\I i fr σ) n ⟨0,Nat.zero_le _,rfl,h⟩ ?_;rintro m fr σ ⟨i,hi,rfl,hi0⟩;refine ca2 x fr σ _ _ ?_ (bf5 hT x fr σ _ (hI i fr σ hi hi0));intro e f s q
 cases e with
 | normal=>exact ⟨n-(i+1),by have:=q.1; omega,i+1,q.1,rfl,q.2⟩
 | _=>exact q
theorem ad6 {α:Type}(es:List α)(i:Nat)(h:i<es.length):∃ a,a∈es/\es[i]? = za a/\es.drop i=a::es.drop (i+1)/\(∀ (f:α->List IV),(es.map f).getD i []=f a)/\es.take (i+1)=es.take i++[a]:=
 ⟨es[i],List.getElem_mem h,zj h,List.drop_eq_getElem_cons h,fun f=>by simp[zf,h],by rw[List.take_add_one,zj h]; rfl⟩
theorem gd2 (s:List UInt8)(i:Nat)(h:i<s.length):((⟨s.toArray⟩:ByteArray).get! i)=s[i]:=by
 show (s.toArray)[i]! = s[i];simp[h]
theorem fi2 (s:List UInt8)(i:Nat)(h:i<s.length)(hb:s[i].toNat<128):Utf8.decode ⟨s.toArray⟩ i=(s[i].toNat,1):=by
 unfold Utf8.decode;simp only[zl,gd2 s i h];rw[if_pos hb]
theorem decode_high (s:List UInt8)(i:Nat)(h:i<s.length)(hb:¬ s[i].toNat<128):128<=(Utf8.decode ⟨s.toArray⟩ i).1:=by
 unfold Utf8.decode;simp only[zl,gd2 s i h];rw[if_neg hb];have e:Utf8.runeError=65533:=rfl
 repeat' split
 all_goals first|(rw[e]; omega)|(simp only[ge_iff_le,zb,decide_eq_true_eq] at *; omega)
def gx7 (P:Program)(E:Nat->IV)(id:Nat)(I:List (List IV)->Store->Prop)(S:Store->Prop):Prop :=
 ∀ a rest σ,I (a::rest) σ->CV P E (.yield id) a σ fun v s=>σ.next<=s.next/\((v=.bool true/\I rest s)\/(v=.bool false/\S s))
end Go.Id
namespace Go.Id
open Go
attribute [go_sem] de9 df1 cf8 bp8 df2 cf9 df3 cg1 fj5 iv2 fj1 fj3 df4 cg2 df5 cg3 cg5 bp9 df6 w_q cg6
 fj6 fj7 cg7 fj8 cg9 bq1 cg8 df7 df8 df9 ch1 bq2 fj9 dg1 fk1 dg2 ch2 ch3 dg3 fk2
 fk3 fk4 fk5 fk6 fk7 fk8 fk9 fl1 fl2 dg4 fl3 dg5 fl4 dg6 ch4 dg7 dh2 fl5 iv5 iv6 fl6 fl7 fl8 fl9
 fm1 fm2 fm3 fm4 fm5 fm6 dh3 ch5 bq3 bf6 ch6 bq4 dg8 dg9 dh1 ch7 iv3 iv4 bf8 bq8
 ci9 cj1 cj3 ci8 di6 e_t e_c e_g e_f fm7 dh4 fm8 fm9 fn1 al2 fn2 dh5 ch8 fn3 ch9 fn4 ci1
 ci2 fn5 dh6 fn6 dh7 fn8 fn9 fo1 fo2 dh8 dh9 em6 ib8 eb7 em5 ci3 ci4 di1 di2 ci5 ci6 iv7
 bq5 di3 di4 di5 bq6 ci7 bf7 bq7 bq9 cj4 br1 br2 di7 di8 em7 em8 cj5 cj6
 cj7 cj8 di9 dj1 cj9 br3 fo3 fo4 fo5 fo6 fo7 fo8 fo9 fp1 fp3 fp4 fp5 eb8 em9 dj2 dj3 dj4
 dj5 dj6 dj7 dj8 dj9 dk4 dk5 jc2 jc3 jc4 jc5 bk3 br4 ck3 ck4 ck5 dk6 dk7 dk8 dk9 fp6 fp7 dl1 fp8
 ck6 ck7 ck8 fq2 bm7 ib9 dl8 ck9 cl1 br5 bi7 ca3 fp9 cs7 br6 fq1 cs8 br7 br8 cl2
 cl3 cl4 cl5 br9 cl6 cl7 bs1 bf9 az9 bs2 cl8 bs3 dl2 dl3 dl4 cl9 bs4
 cm1 cm2 bs5 bg1 ba1 bs6 cm3 bs7 dl5 dl6 dl7 Frm.bp7 Frm.get_nil aa7 aa5 ka8 ka9
 kb1 em6 ib8 eb7 em5 jp8 jc1 
attribute [go_sem] List.getElem?_cons_zero zk List.all_cons List.all_nil List.drop_zero List.drop_succ_cons List.head?_cons Bool.and_true Bool.and_self List.append_nil List.nil_append List.cons_append Bool.false_eq_true Bool.xor_false Bool.xor_true Bool.not_true Bool.not_false zl Nat.zero_add Nat.succ_ne_zero if_true if_false true_and and_true
end Go.Id
namespace Go.Id
open Go
variable {P:Program} {E:Nat->IV} {σ σ':Store} {N n0:Nat} {fr:Frm} {pf:List Nat}
theorem av9 {f:Nat}{ic:IC}{irs:List IR}{args:List IV}{v:IV}(hf:FOK P f (N,ic,irs))(hl:args.length<=N)
  (h:∀ σ,wpT noP noC P E N σ.next ic (bk5 args 0) σ (gt5 irs fun v' σ'=>v'=v/\σ'=σ)):PC P E f args v:=by
 obtain ⟨_,pf,an,h1⟩:=hf;exact kd6 noT h1 hl h
theorem C_f {f:Nat}{ic:IC}{irs:List IR}{args:List IV}{Qc:IV->Store->Prop}(hf:FOK P f (N,ic,irs))(hl:args.length<=N)
  (h:wpT noP noC P E N σ.next ic (bk5 args 0) σ (gt5 irs Qc)):C P E f args σ Qc:=by
 obtain ⟨_,pf,an,h1⟩:=hf;exact C_T noT h1 hl h
def emp:Store:=⟨0,fun _=>zd⟩
theorem gx8:emp.next=0:=nr rfl
theorem ii8 {i:Nat}:emp.obj i=zd:=nr rfl
attribute [go_sem] gx8 ii8
theorem ae5 {f:Nat}{ic:IC}{irs:List IR}{args:List IV}{v:IV}(hE:∀ g,Bnd 0 (E g))(hf:FOK P f (N,ic,irs))(hl:args.length<=N)(ha:∀ a∈args,Bnd 0 a)
  (h:wpT noP noC P E N 0 ic (bk5 args 0) emp (gt5 irs fun v' σ'=>cs9 σ' 0 v' v)):PC P E f args v :=
 ha7 hE ha (C_f (σ:=emp) hf hl h)
theorem aa3 {f:Nat}{e:FE}{args:List IV}{v:IV}{K:IV->Store->Prop}(hf:FOK P f e)(h:PC P E f args v)(hk:K v σ):cx6 P E zd f args σ K :=
 aq1 hf.1 (en1 h) fun _ _ ⟨h1,h2⟩=>by subst h1; subst h2; exact ⟨Nat.le_refl _,hk⟩
theorem ad3 {f:Nat}{e:FE}{args:List IV}{Qc:IV->Store->Prop}{K:IV->Store->Prop}(hf:FOK P f e)(h:C P E f args σ Qc)(hk:∀ v s,Qc v s->σ.next<=s.next/\K v s):cx6 P E zd f args σ K :=
 aq1 hf.1 h hk
theorem ab8 {S:Nat->Prop}(b:Bool):Frz σ S (.bool b) (.bool b):=.keep _ (.bool _)
theorem ad1 {S:Nat->Prop}(k:IntKind)(n:Int):Frz σ S (.int k n) (.int k n):=.keep _ (.int _ _)
theorem bi4 {S:Nat->Prop}(s:List UInt8):Frz σ S (.str s) (.str s):=.keep _ (.str _)
theorem ia4 {ρ:Rho}{w:World}{v:IV}{rargs:Array Value}(h:CR ρ w [v] rargs):VR ρ w v (rargs.getD 0 undef):=by
 have:=h.2 0 (Nat.zero_lt_one)
 simpa using this
theorem ev6 {ρ:Rho}{w:World}{u v:IV}{rargs:Array Value}(h:CR ρ w [u] rargs)(hv:VR ρ w v (rargs.getD 0 undef)):CR ρ w [v] rargs :=
 ⟨h.1,fun i hi=>by
  have:i=0:=by simp at hi; omega
  subst this
  simpa using hv⟩
theorem bz3 {f:Nat}{v:IV}(h1:PC P E f [.aa1] v)(h2:PC P E f [.af6] v):PC P E f [.aa4 []] v:=by
 intro σ ρ w rargs hs hr;have hv:=ia4 hr;generalize hx:rargs.getD 0 undef=r at hv
 cases hv with
 | cd9=>exact h1 σ ρ w rargs hs (ev6 hr (by rw[hx]; exact .aa1))
 | aa4 es b o cap esz sp vs hf hsz hc hv hle=>exact h2 σ ρ w rargs hs (ev6 hr (by rw[hx]; exact .af6 _ _))
theorem ac4 {i:Nat}(h:i<2^62):IntKind.i64.wrap ((i:Int)+1)=((i+1:Nat):Int):=by
 rw[wrap64 (by omega) (by omega)]; omega
theorem ii9 {cs:List IV}:as8 cs []=za cs:=by simp only[as8]
theorem ij1 {cs:List IV}{off n:Nat}{v:IV}{ps:List (Nat×Nat×IV)}:as8 cs ((off,n,v)::ps)=if v.cs.length=n/\off+n<=cs.length/\v.cs.all IV.leaf=true then as8 (av1 cs off v.cs) ps else zd:=by simp only[as8]
theorem ix9 {c:IV}{cs:List IV}{vs:List IV}:av1 (c::cs) 0 vs=vs++(c::cs).drop vs.length:=by simp[av1]
theorem iy1 {c:IV}{cs vs:List IV}{n:Nat}:av1 (c::cs) (n+1) vs=c::av1 cs n vs:=by simp[av1,Nat.add_right_comm]
theorem iy2 {d:TypeId}{a:List IV}{as:List (List IV)}:ct5 (.slice d) (.aa4 (a::as))=za false:=nr rfl
theorem iy3 {d:TypeId}:ct5 (.slice d) .aa1=za true:=nr rfl
theorem iy4 {d:TypeId}:ct5 (.slice d) .af6=za false:=nr rfl
theorem iy5 {d:TypeId}:ct5 (.slice d) .ac8=za false:=nr rfl
theorem iy6 {d:TypeId}{i o l e:Nat}:ct5 (.slice d) (.slice i o l e)=za false:=nr rfl
theorem ac5 {d:TypeId}:ct5 (.pointer d) .ae7=za true:=nr rfl
theorem ij2 {d:TypeId}{cs:List IV}:ct5 (.pointer d) (.ab5 cs)=za false:=nr rfl
theorem ij3 {d:TypeId}{i o:Nat}:ct5 (.pointer d) (.ptr i o)=za false:=nr rfl
theorem gx9 {e:Nat}{l:List IV}:chunk e 0 l=[]:=nr rfl
theorem gy1 {e n:Nat}{l:List IV}:chunk e (n+1) l=l.take e::chunk e n (l.drop e):=nr rfl
theorem iy7 {z:List IV}:rep z 0=[]:=nr rfl
theorem iy8 {z:List IV}{n:Nat}:rep z (n+1)=z++rep z n:=nr rfl
theorem ij4 {off:Nat}{cs:List IV}:be8 zd off cs=cs[off]?:=nr rfl
theorem ij5 {off n:Nat}{cs:List IV}:be8 (za n) off cs=if off+n<=cs.length then za (.agg ((cs.drop off).take n)) else zd:=nr rfl
theorem iy9 {ag:Option Nat}{off:Nat}{cs:List IV}:iu6 ag off (.agg cs)=be8 ag off cs:=nr rfl
theorem iz1 {ag:Option Nat}{n esz:Nat}{cs:List IV}{k:IntKind}{i:Int}:ig1 ag n esz (.agg cs) (.int k i)=if 0<=i/\i<n then be8 ag (i.toNat*esz) cs else zd:=nr rfl
theorem gy2 {n esz:Nat}{v:IV}{k:IntKind}{i:Int}:dd9 n esz v (.int k i)=if 0<=i/\i<n then ce5 (i.toNat*esz) v else zd:=nr rfl
theorem ba7 {s:List UInt8}{k:IntKind}{i:Int}:do7 (.str s) (.int k i)=if 0<=i then (s[i.toNat]?).map fun b=>.int .u8 b.toNat else zd:=nr rfl
theorem ia5 {tags:List Nat}{neg:Bool}{xs ys:List IV}:gt2 tags true neg (.agg xs) (.agg ys)=(allEq tags xs ys).map fun b=>.bool (b ^^ neg):=nr rfl
theorem ia6:allEq [] [] []=za true:=nr rfl
def jl8:Option Bool->Option Bool->Option Bool
 | some a,za b=>za (a&&b)
 | _,_=>zd
theorem iz2 {a b:Bool}:jl8 (za a) (za b)=za (a&&b):=nr rfl
theorem ia7 {t:Nat}{ts:List Nat}{x y:IV}{xs ys:List IV}:allEq (t::ts) (x::xs) (y::ys)=jl8 (al4 t x y) (allEq ts xs ys):=by
 simp only[allEq]; cases al4 t x y<;>cases allEq ts xs ys<;>rfl
theorem iz3 {k:IntKind}{a b:Int}:al4 1 (.int k a) (.int k b)=za (decide (a=b)):=by simp[al4]
theorem iz4 {a b:List UInt8}:al4 2 (.str a) (.str b)=za (decide (a=b)):=nr rfl
theorem ev7 {a b:List UInt8}:ap9 2 (.str a) (.str b)=za (decide (a=b)):=nr rfl
theorem iz5 {a b:Bool}:al4 0 (.bool a) (.bool b)=za (a==b):=nr rfl
attribute [go_sem] ia5 ia6 ia7 iz2 iz5 iz3 iz4
attribute [go_sem] ii9 ij1 ix9 iy1 iy2 iy3 iy4 iy5 iy6 ac5 ij2 ij3 gx9 gy1 iy7 iy8 ij4 ij5 iy9 iz1 gy2 ba7
attribute [go_sem] Bool.true_or Bool.or_true Bool.false_or Bool.or_false Bool.true_and Bool.false_and Bool.and_false
attribute [go_sem] List.length_cons List.length_nil List.take_succ_cons List.take_zero List.length_map Int.toNat_natCast
end Go.Id
namespace Go.Id
open Go
variable {P:Program} {E:Nat->IV} {σ σ':Store} {N n0:Nat} {fr:Frm}
def jj8 (I:List (List IV)->Store->Prop):Prop:=∀ rest s s',I rest s->s.next<=s'.next->(∀ i,i<s.next->s'.obj i=s.obj i)->I rest s'
def iz6 (n:Nat)(I:List (List IV)->Store->Prop)(S:Store->Prop):IV->Store->Prop:=fun _ s=>n<=s.next/\(I [] s\/S s)
def ev8 (P:Program)(E:Nat->IV)(fv:IV)(evs:List (List IV))(own:Store->Prop):Prop :=
 ∀ (yid:Nat) (I:List (List IV)->Store->Prop) (S:Store->Prop) (σ:Store),(∀ rest s,I rest s->own s)->jj8 I->gx7 P E yid I S->I evs σ->CVf P E fv [.yield yid] σ (iz6 σ.next I S)
def js9 (P:Program)(E:Nat->IV)(N n0:Nat)(id:Nat)(L:LoopState->Option JX->al8)(x:IC)(K:IV->Store->Prop):Exit->Frm->Store->Prop
 | .normal,f,s=>s.obj id=za (L .ready zd)/\wpT noP noC P E N n0 x f (s.put id (L .busy zd)) (cw6 id L K)
 | _,_,_=>False
theorem jl9 {id:Nat}{L:LoopState->Option JX->al8}{x:IC}{K:IV->Store->Prop}:js9 P E N n0 id L x K .normal fr σ=(σ.obj id=za (L .ready zd)/\wpT noP noC P E N n0 x fr (σ.put id (L .busy zd)) (cw6 id L K)):=nr rfl
theorem jm1 {id:Nat}{L:LoopState->Option JX->al8}{K:IV->Store->Prop}:cw6 id L K .normal fr σ=(σ.obj id=za (L .busy zd)/\K (.bool true) (σ.put id (L .ready zd))):=nr rfl
theorem jm2 {id:Nat}{L:LoopState->Option JX->al8}{K:IV->Store->Prop}:cw6 id L K .ret fr σ=(σ.obj id=za (L .busy zd)/\K (.bool false) (σ.put id (L .done (za .ret)))):=nr rfl
theorem jm3 {id i:Nat}{L:LoopState->Option JX->al8}{K:IV->Store->Prop}:cw6 id L K (.exit i) fr σ=(σ.obj id=za (L .busy zd)/\K (.bool false) (σ.put id (L .done (za (.exit i))))):=nr rfl
theorem ij6:dc2 fr [] []=fr:=nr rfl
theorem ij7 {p:Nat}{ps:List Nat}{v:IV}{vs:List IV}:dc2 fr (p::ps) (v::vs)=dc2 (fr.set p v) ps vs:=nr rfl
theorem jm4 {p:Nat}{v:IV}:fr.set p v=(p,v)::fr:=nr rfl
def goQ (id n:Nat)(L:LoopState->Option JX->al8)(J:List (List IV)->Store->Prop)(Q:Exit->Frm->Store->Prop)(fr:Frm)(rest:List (List IV)):IV->Store->Prop:=fun v s=>
 n<=s.next/\((v=.bool true/\s.obj id=za (L .ready zd)/\J rest s)\/(v=.bool false/\∃ st pend,st≠.busy/\s.obj id=za (L st pend)/\ii2 Q fr (s.kill id) pend))
theorem dq7 {id n:Nat}{L:LoopState->Option JX->al8}{J:List (List IV)->Store->Prop}{Q:Exit->Frm->Store->Prop}{rest:List (List IV)}(h1:n<=σ.next)(h2:σ.obj id=za (L .ready zd))(h3:J rest σ):goQ id n L J Q fr rest (.bool true) σ:=⟨h1,.inl ⟨rfl,h2,h3⟩⟩
theorem cw7 {id n:Nat}{L:LoopState->Option JX->al8}{J:List (List IV)->Store->Prop}{Q:Exit->Frm->Store->Prop}{rest:List (List IV)}(h1:n<=σ.next)(h2:σ.obj id=za (L .done (za .ret)))(h3:Q .ret fr (σ.kill id)):goQ id n L J Q fr rest (.bool false) σ:=⟨h1,.inr ⟨rfl,.done,za .ret,(fun h=>by cases h),h2,h3⟩⟩
theorem cw8 {g:IX}{ps:List Nat}{y x:IC}{Q:Exit->Frm->Store->Prop}{evs:List (List IV)}{own:Store->Prop}(hT:ev8 P E (g.ev E fr) evs own)
  (J:List (List IV)->Store->Prop) (hown:∀ rest s,J rest s->own s) (hstab:jj8 J) (hlen:∀ a∈evs,a.length=ps.length)
  (hinit:∀ o,J evs ⟨σ.next+1,(σ.put σ.next o).obj⟩)
  (hbody:∀ (L:LoopState->Option JX->al8) (pre:List (List IV)) (a:List IV) (rest:List (List IV)) (s:Store),evs=pre++a::rest->J (a::rest) s->s.obj σ.next=za (L .ready zd)->σ.next<s.next ->
   wpT noP noC P E N s.next y (dc2 fr ps a) s (js9 P E N s.next σ.next L x (goQ σ.next s.next L J Q fr rest)))
  (hend:∀ s o,J [] s->σ.next<s.next->s.obj σ.next=za o->Q .normal fr (s.kill σ.next)) :
  RI P E N n0 (.bm3 g ps y x) fr σ Q:=by
 refine gw5 fun L hL=>?_
 let I:List (List IV)->Store->Prop:=fun rest s=>(∃ pre,evs=pre++rest)/\s.obj σ.next=za (L .ready zd)/\σ.next<s.next/\J rest s
 let S:Store->Prop:=fun s=>∃ st pend,st≠.busy/\s.obj σ.next=za (L st pend)/\ii2 Q fr (s.kill σ.next) pend
 have hI:jj8 I:=by
  rintro rest s s' ⟨hp,h1,h2,h3⟩ hn hs;exact ⟨hp,by rw[hs _ h2]; exact h1,zh h2 hn,hstab rest s s' h3 hn hs⟩
 have hst:gx7 P E σ.next I S:=by
  rintro a rest s ⟨⟨pre,hp⟩,h1,h2,h3⟩;refine ⟨by rw[h1]; rfl,?_⟩;have hb:=hbody L pre a rest s hp h3 h1 h2;refine hL s a _ (hlen a (by rw[hp]; simp)) h1 ?_;refine (bm2 y _ _ _ (ca2 y _ _ _ _ ?_ (bf5 noT y _ _ _ hb)));intro e f s1 q
  cases e with
  | normal=>
   refine ⟨rfl,q.1,?_⟩;refine (bm2 x _ _ _ (ca2 x _ _ _ _ ?_ (bf5 noT x _ _ _ q.2)))
   have hK:∀ v s2,goQ σ.next s.next L J Q fr rest v s2->s.next<=s2.next/\((v=.bool true/\I rest s2)\/(v=.bool false/\S s2)):=by
    rintro v s2 ⟨hn,h|h⟩
    ·exact ⟨hn,.inl ⟨h.1,⟨pre++[a],by rw[hp]; simp⟩,h.2.1,zh h2 hn,h.2.2⟩⟩
    ·exact ⟨hn,.inr ⟨h.1,h.2⟩⟩
   intro e f s2 q2
   cases e with
   | normal=>exact ⟨q2.1,hK _ _ q2.2⟩
   | ret=>exact ⟨q2.1,hK _ _ q2.2⟩
   | exit i=>exact ⟨q2.1,hK _ _ q2.2⟩
   | _=>exact q2
  | _=>exact q.elim
 have h:=hT σ.next I S ⟨σ.next+1,(σ.put σ.next (L .ready zd)).obj⟩ (fun rest s h=>hown rest s h.2.2.2) hI hst ⟨⟨[],rfl⟩,by simp only[aa5,if_true],Nat.lt_succ_self _,hinit _⟩;refine h.mono ?_;rintro v s ⟨hn,h|h⟩
 ·exact ⟨Nat.le_of_lt hn,.ready,zd,(fun h=>by cases h),h.2.1,hend s _ h.2.2.2 h.2.2.1 h.2.1⟩
 ·exact ⟨Nat.le_of_lt hn,h⟩
theorem cs4 {yid:Nat}{I:List (List IV)->Store->Prop}{S:Store->Prop}{a:List IV}{rest:List (List IV)}{K:IV->Store->Prop}(h:gx7 P E yid I S)(hi:I (a::rest) σ)
  (h1:∀ s,σ.next<=s.next->I rest s->K (.bool true) s) (h2:∀ s,σ.next<=s.next->S s->K (.bool false) s):ge7 noC P E (.yield yid) a σ K:=by
 refine ⟨_,h a rest σ hi,?_⟩;rintro v s ⟨hn,⟨rfl,h⟩|⟨rfl,h⟩⟩
 ·exact ⟨hn,h1 s hn h⟩
 ·exact ⟨hn,h2 s hn h⟩
theorem gd3 {i:Nat}:(σ.kill i).next=σ.next:=nr rfl
theorem gy3 {i j:Nat}:(σ.kill i).obj j=if j=i then zd else σ.obj j:=nr rfl
attribute [go_sem] gd3 gy3
attribute [go_sem] jl9 jm1 jm2 jm3 ij6 ij7 jm4
end Go.Id
namespace Go.Id
open Go
variable {P:Program} {E:Nat->IV} {σ σ':Store} {N n0:Nat} {fr:Frm}
def jm5 (σ:Store):IV->Prop
 | .ab5 _=>True
 | .ptr i _=>match σ.obj i with
  | some (.cells _)=>True
  | _=>False
 | _=>False
def jt1:Option al8->Prop
 | some (.cells _)=>True
 | _=>False
theorem iz7 {ag:Option Nat}{x:IX}:bw7 E fr σ (.q (.load ag x))=jm5 σ (x.ev E fr):=nr rfl
theorem b_t {cs:List IV}:jm5 σ (.ab5 cs)=True:=nr rfl
theorem b_p {i o:Nat}:jm5 σ (.ptr i o)=jt1 (σ.obj i):=nr rfl
theorem b_o {cs:List IV}:jt1 (za (.cells cs))=True:=nr rfl
theorem jm6 {x:IX}:bw7 E fr σ (.q (.mov x))=True:=nr rfl
theorem ij8 {n:Nat}{x:IX}:bw7 E fr σ (.q (.bd9 n x))=True:=nr rfl
theorem iz8 {x:IX}:bw7 E fr σ (.q (.ig7 x))=True:=nr rfl
theorem jm7 {n:Nat}{x:IX}:bw7 E fr σ (.q (.len n x))=True:=nr rfl
theorem jm8 {n:Nat}{z:IV}{b:Bool}{x y:IX}:bw7 E fr σ (.q (.lkp n z b x y))=True:=nr rfl
theorem jm9 {z:List IV}{ps:List (Nat×Nat×IX)}:bw7 E fr σ (.q (.bld z ps))=True:=nr rfl
theorem jn1 {op:BinOp}{x y:IX}:bw7 E fr σ (.q (.bin op x y))=True:=nr rfl
theorem ij9 {n:Nat}{x y:IX}:bw7 E fr σ (.q (.dy1 n x y))=True:=nr rfl
theorem iz9 {k:IntKind}{x:IX}:bw7 E fr σ (.q (.conv k x))=True:=nr rfl
theorem jn2 {n:Nat}{x:IX}:bw7 E fr σ (.q (.ext n x))=True:=nr rfl
theorem ja1 {x y z:IX}:bw7 E fr σ (.q (.pick x y z))=True:=nr rfl
theorem jn3 {x:IX}:bw7 E fr σ (.q (.not x))=True:=nr rfl
theorem ik1 {f:Nat}{xs:List IX}:bw7 E fr σ (.bi6 f xs)=True:=nr rfl
theorem ja2 {e n:Nat}{z:List IV}{ps:List (Nat×Nat×IX)}:bw7 E fr σ (.ax8 e n z ps)=True:=nr rfl
theorem jn4 {e n:Nat}{z:List IV}{ps:List (Nat×Nat×IX)}:bw7 E fr σ (.bsl e n z ps)=True:=nr rfl
theorem jn5 {e:Nat}{x y:IX}:bw7 E fr σ (.app e x y)=True:=nr rfl
theorem ik2 {n:Nat}{x y:IX}:bw7 E fr σ (.store n x y)=True:=nr rfl
theorem ja3 {n:Nat}{x y z:IX}:bw7 E fr σ (.dw4 n x y z)=True:=nr rfl
theorem ik3 {z:List IV}:bw7 E fr σ (.alloc z)=True:=nr rfl
attribute [go_sem] iz7 b_t b_p b_o jm6 ij8 iz8 jm7 jm8 jm9 jn1 ij9 iz9 jn2 ja1 jn3 ik1 ja2 jn4 jn5 ik2 ja3 ik3
def Grow (σ:Store)(v:IV)(esz:Nat)(es:List (List IV)):Prop :=
 (v=.aa1/\es=[])\/∃ id,v=.slice id 0 es.length esz/\σ.obj id=za (.row es.flatten)/\id<σ.next
def ag2 (v:IV)(σ:Store):Store:=match v with
 | .slice id _ _ _=>σ.kill id
 | _=>σ
theorem as6 {esz:Nat}{es:List (List IV)}(h:∀ e∈es,e.length=esz):es.flatten.length=es.length*esz:=by
 induction es with
 | nil=>simp
 | cons e es ih=>simp[ih (fun x hx=>h x (zc _ hx)),h e (ze ..),zi]; omega
theorem gd4 {esz:Nat}{es:List (List IV)}(h:∀ e∈es,e.length=esz)(i j:Nat)(hi:i<es.length)(hj:j<esz):es.flatten.getD (i*esz+j) .undef=(es.getD i []).getD j .undef:=by
 induction es generalizing i with
 | nil=>simp at hi
 | cons e es ih=>
  have he:=h e (ze ..)
  cases i with
  | zero=>simp[zf,zo,he,hj]
  | succ i=>
   have h1:¬ ((i+1)*esz+j<e.length):=by rw[he,zi]; omega
   have h2:(i+1)*esz+j-e.length=i*esz+j:=by rw[he,zi]; omega
   have:=ih (fun x hx=>h x (zc _ hx)) i (by simpa using hi);simp only[zf,zp,zo,if_neg h1,h2,zk] at this ⊢;exact this
theorem ba8 {es:List (List IV)}(h:∀ e∈es,e.all IV.leaf=true):es.flatten.all IV.leaf=true:=by
 simp only[zg,List.mem_flatten];rintro c ⟨e,he,hc⟩;exact zg.1 (h e he) c hc
theorem am4 {v:IV}{esz nid:Nat}{es:List (List IV)}{e:List IV}(hg:Grow σ v esz es)(h:∀ x∈es,x.length=esz/\x.all IV.leaf=true)(he:e.length=esz/\e.all IV.leaf=true)(hn:es.length<2147483648) :
  as5 σ nid esz v (.aa4 [e])=za (.slice nid 0 (es.length+1) esz,(ag2 v σ).put nid (.row (es++[e]).flatten)):=by
 have hsrc:bl8 σ esz (.aa4 [e])=za (1,e):=by simp[bl8,he.1]
 have hl:e.all IV.leaf=true:=he.2;rcases hg with ⟨rfl,rfl⟩|⟨id,rfl,ho,hid⟩
 ·unfold as5;rw[hsrc];simp[hl,ag2]
 ·unfold as5;rw[hsrc];have h1:es.flatten.all IV.leaf=true:=ba8 fun x hx=>(h x hx).2
  have h2:es.flatten.length=es.length*esz:=as6 fun x hx=>(h x hx).1
  simp[hl,ho,ag2,h1,h2];omega
theorem Grow.new {v:IV}{esz nid:Nat}{es:List (List IV)}{e:List IV}(hlt:nid<σ'.next)(ho:σ'.obj nid=za (.row (es++[e]).flatten)):Grow σ' (.slice nid 0 (es.length+1) esz) esz (es++[e]):=
 .inr ⟨nid,by simp,ho,hlt⟩
theorem ac9 (v:IV):(ag2 v σ).next=σ.next:=by cases v<;>rfl
theorem ah3 {v:IV}{esz:Nat}{es:List (List IV)}(hg:Grow σ v esz es)(i:Nat)(o:al8)(ho:σ.obj i=za o)(hr:∀ cs,o≠.row cs):(ag2 v σ).obj i=za o:=by
 rcases hg with ⟨rfl,rfl⟩|⟨id,rfl,ho',hid⟩
 ·exact ho
 ·show (if i=id then zd else σ.obj i)=za o;rw[if_neg]
  ·exact ho
  ·intro e; subst e; rw[ho] at ho'; cases ho'; exact hr _ rfl
theorem Grow.frz {S:Nat->Prop}{v:IV}{esz:Nat}{es:List (List IV)}(hg:Grow σ v esz es)(h:∀ x∈es,x.length=esz)(hS:∀ id,v=.slice id 0 es.length esz->¬ S id)(hb:∀ e∈es,∀ c∈e,Nm S c):Frz σ S v (.aa4 es):=by
 rcases hg with ⟨rfl,rfl⟩|⟨id,rfl,ho,hid⟩
 ·exact .dc1
 ·refine .slice id 0 es.length esz es.flatten es (hS id rfl) (.inr ho) rfl (by rw[as6 h]; omega) (fun i hi=>h _ (ae1 _ hi)) (fun i hi j hj=>?_);rw[Nat.zero_add,gd4 h i j hi hj];exact .keep _ (hb _ (ae1 _ hi) _ (ae1 _ (by rw[h _ (ae1 _ hi)]; exact hj)))
theorem Grow.mono {v:IV}{esz:Nat}{es:List (List IV)}(hg:Grow σ v esz es)(hn:σ.next<=σ'.next)(h:∀ id,v=.slice id 0 es.length esz->id<σ.next->σ'.obj id=σ.obj id):Grow σ' v esz es:=by
 rcases hg with h0|⟨id,rfl,ho,hid⟩
 ·exact .inl h0
 ·exact .inr ⟨id,rfl,by rw[h id rfl hid]; exact ho,zh hid hn⟩
theorem Grow.ne {v:IV}{esz id:Nat}{es:List (List IV)}{i:Nat}{o:al8}(hg:Grow σ v esz es)(hv:v=.slice id 0 es.length esz)(ho:σ.obj i=za o)(hr:∀ cs,o≠.row cs):id≠i:=by
 intro e;subst e;rcases hg with ⟨rfl,_⟩|⟨id',rfl,ho',_⟩
 ·cases hv
 ·cases hv;rw[ho] at ho';cases ho';exact hr _ rfl
theorem cf4 {did esz nid:Nat}{es:List (List IV)}(ho:σ.obj did=za (.row []))(hne:es≠[])(h:∀ x∈es,x.length=esz/\x.all IV.leaf=true)(hn:es.length<=2147483648) :
  as5 σ nid esz (.slice did 0 0 esz) (.aa4 es)=za (.slice nid 0 es.length esz,(σ.kill did).put nid (.row es.flatten)):=by
 have hsrc:bl8 σ esz (.aa4 es)=za (es.length,es.flatten):=by
  simp only[bl8];rw[if_pos (by simpa using fun x hx=>(h x hx).1)]
 have h1:es.flatten.all IV.leaf=true:=ba8 fun x hx=>(h x hx).2
 have h0:es.length≠0:=fun e=>hne (List.length_eq_zero_iff.1 e)
 unfold as5;rw[hsrc];simp[h1,ho,h0,hn]
theorem bp5 {did esz nid:Nat}{x:IV}(ho:σ.obj did=za (.row []))(hx:bl8 σ esz x=za (0,[])):as5 σ nid esz (.slice did 0 0 esz) x=za (.slice did 0 0 esz,σ):=by
 unfold as5;rw[hx];simp[ho]
theorem ay5 {esz:Nat}{es:List (List IV)}(h:∀ e∈es,e.length=esz)(j:Nat)(hj:j<es.length):(es.flatten.drop (j*esz)).take esz=es.getD j []:=by
 induction es generalizing j with
 | nil=>simp at hj
 | cons e es ih=>
  have he:=h e (ze ..)
  cases j with
  | zero=>simp[he]
  | succ j=>
   have h2:(j+1)*esz=e.length+j*esz:=by rw[he,zi]; omega
   rw[zp,h2,List.drop_append,List.drop_of_length_le (by omega),List.nil_append,show e.length+j*esz-e.length=j*esz from by omega];exact ih (fun x hx=>h x (zc _ hx)) j (by simpa using hj)
theorem bf3 {l vs:List IV}{off:Nat}(h:(l.drop off).take vs.length=vs)(hl:off+vs.length<=l.length):av1 l off vs=l:=by
 unfold av1
 have h1:l.drop off=vs++l.drop (off+vs.length):=by
  rw[<- List.drop_drop]
  conv=>lhs; rw[<- zm vs.length (l.drop off)]
  rw[h]
 rw[List.append_assoc,<- h1,zm]
theorem ev9 {f:Nat}{Q:IV->Store->Prop}(h1:C P E f [.aa1] σ Q)(h2:C P E f [.af6] σ Q):C P E f [.aa4 []] σ Q:=by
 intro ρ w rargs hs hr;have hv:=ia4 hr;generalize hx:rargs.getD 0 undef=r at hv
 cases hv with
 | cd9=>exact h1 ρ w rargs hs (ev6 hr (by rw[hx]; exact .aa1))
 | aa4 es b o cap esz sp vs hf hsz hc hv hle=>exact h2 ρ w rargs hs (ev6 hr (by rw[hx]; exact .af6 _ _))
inductive gt3 (σ:Store) (S:Nat->Prop):List IV->List IV->Prop
 | nil:gt3 σ S [] []
 | cons {v v':IV} {vs vs':List IV} (h:Frz σ S v v') (t:gt3 σ S vs vs'):gt3 σ S (v::vs) (v'::vs')
theorem gt3.at {S:Nat->Prop}{cs cs':List IV}(h:gt3 σ S cs cs'):cs'.length=cs.length/\∀ i,i<cs.length->Frz σ S (cs.getD i .undef) (cs'.getD i .undef):=by
 induction h with
 | nil=>exact ⟨rfl,fun i hi=>absurd hi (Nat.not_lt_zero _)⟩
 | cons h _ ih=>
  refine ⟨by simp only[List.length_cons,ih.1],fun i hi=>?_⟩
  cases i with
  | zero=>exact h
  | succ i=>exact ih.2 i (by simpa using hi)
theorem Frz.jt2 {S:Nat->Prop}{cs cs':List IV}(h:gt3 σ S cs cs'):Frz σ S (.agg cs) (.agg cs'):=.agg _ _ h.at.1 h.at.2
theorem Frz.cp9 {S:Nat->Prop}{cs cs':List IV}(h:gt3 σ S cs cs'):Frz σ S (.tuple cs) (.tuple cs'):=.tuple _ _ h.at.1 h.at.2
theorem kb2:((0:Nat):Int)=0:=nr rfl
theorem kb3:((1:Nat):Int)=1:=nr rfl
theorem kb4:((2:Nat):Int)=2:=nr rfl
theorem kb5:((3:Nat):Int)=3:=nr rfl
theorem kb6:((4:Nat):Int)=4:=nr rfl
theorem kb7:((5:Nat):Int)=5:=nr rfl
theorem kb8:((6:Nat):Int)=6:=nr rfl
theorem kb9:((7:Nat):Int)=7:=nr rfl
theorem kc1:((8:Nat):Int)=8:=nr rfl
theorem kc2:((9:Nat):Int)=9:=nr rfl
theorem jn6:((10:Nat):Int)=10:=nr rfl
theorem jn7:((11:Nat):Int)=11:=nr rfl
theorem jn8:((12:Nat):Int)=12:=nr rfl
theorem jn9:((13:Nat):Int)=13:=nr rfl
theorem jo1:((14:Nat):Int)=14:=nr rfl
theorem jo2:((15:Nat):Int)=15:=nr rfl
theorem jo3:((16:Nat):Int)=16:=nr rfl
attribute [go_sem] kb2 kb3 kb4 kb5 kb6 kb7 kb8 kb9 kc1 kc2 jn6 jn7 jn8 jn9 jo1 jo2 jo3 List.getD_cons_zero List.getD_cons_succ
theorem kc3:IntKind.i64.wrap 0=0:=nr rfl
theorem kc4:IntKind.i64.wrap 1=1:=nr rfl
theorem kc5:IntKind.i64.wrap 2=2:=nr rfl
theorem kc6:IntKind.i64.wrap 3=3:=nr rfl
theorem kc7:IntKind.i64.wrap 4=4:=nr rfl
theorem kc8:IntKind.i64.wrap 5=5:=nr rfl
theorem kc9:IntKind.i64.wrap 6=6:=nr rfl
theorem kd1:IntKind.i64.wrap 7=7:=nr rfl
theorem kd2:IntKind.i64.wrap 8=8:=nr rfl
theorem kd3:IntKind.i64.wrap 9=9:=nr rfl
theorem jo4:IntKind.i64.wrap 10=10:=nr rfl
theorem jo5:IntKind.i64.wrap 11=11:=nr rfl
theorem jo6:IntKind.i64.wrap 12=12:=nr rfl
theorem jo7:IntKind.i64.wrap 13=13:=nr rfl
theorem jo8:IntKind.i64.wrap 14=14:=nr rfl
theorem jo9:IntKind.i64.wrap 15=15:=nr rfl
theorem jp1:IntKind.i64.wrap 16=16:=nr rfl
attribute [go_sem] kc3 kc4 kc5 kc6 kc7 kc8 kc9 kd1 kd2 kd3 jo4 jo5 jo6 jo7 jo8 jo9 jp1
theorem ja4 {ag:Option Nat}{n m:Nat}:irL σ fr [.cell ag n,.t m]=(aw4 σ ag (fr.get n)).map fun v=>[v,fr.get m]:=by
 simp only[irL,irV]; cases aw4 σ ag (fr.get n)<;>rfl
attribute [go_sem] ja4 al2
end Go.Id
namespace Go.Id
open Go
variable {P:Program} {E:Nat->IV}
def cw9 (r:IV->IV->Bool):List IV->List IV->Bool
 | [],[]=>true
 | a::x,b::y=>r a b&&cw9 r x y
 | _,_=>false
theorem bi5 {r:IV->IV->Bool}(hr:∀ a b,r a b=true->a=b):∀ x y:List IV,cw9 r x y=true->x=y:=by
 intro x
 induction x with
 | nil=>intro y h; cases y with
  | nil=>rfl
  | cons b y=>cases h
 | cons a x ih=>intro y h; cases y with
  | nil=>cases h
  | cons b y=>
   simp only[cw9,zb] at h;rw[hr a b h.1,ih y h.2]
def ea6 (r:IV->IV->Bool):List (List IV)->List (List IV)->Bool
 | [],[]=>true
 | a::x,b::y=>cw9 r a b&&ea6 r x y
 | _,_=>false
theorem ea7 {r:IV->IV->Bool}(hr:∀ a b,r a b=true->a=b):∀ x y:List (List IV),ea6 r x y=true->x=y:=by
 intro x
 induction x with
 | nil=>intro y h; cases y with
  | nil=>rfl
  | cons b y=>cases h
 | cons a x ih=>intro y h; cases y with
  | nil=>cases h
  | cons b y=>
   simp only[ea6,zb] at h;rw[bi5 hr a b h.1,ih y h.2]
def gy4:List UInt8->List UInt8->Bool
 | [],[]=>true
 | a::x,b::y=>Nat.beq a.toNat b.toNat&&gy4 x y
 | _,_=>false
theorem gy5:∀ x y:List UInt8,gy4 x y=true->x=y:=by
 intro x
 induction x with
 | nil=>intro y h; cases y with
  | nil=>rfl
  | cons b y=>cases h
 | cons a x ih=>intro y h; cases y with
  | nil=>cases h
  | cons b y=>
   simp only[gy4,zb] at h;rw[UInt8.toNat_inj.1 (zn h.1),ih y h.2]
def gy6:Nat->IV->IV->Bool
 | 0,_,_=>false
 | n+1,a,b=>match a with
  | .bool x=>match b with
   | .bool y=>match x,y with
    | true,true=>true
    | false,false=>true
    | _,_=>false
   | _=>false
  | .int k x=>match b with
   | .int k' y=>decide (k=k')&&decide (x=y)
   | _=>false
  | .str x=>match b with
   | .str y=>gy4 x y
   | _=>false
  | .ae7=>match b with
   | .ae7=>true
   | _=>false
  | .ab5 x=>match b with
   | .ab5 y=>cw9 (gy6 n) x y
   | _=>false
  | .aa4 x=>match b with
   | .aa4 y=>ea6 (gy6 n) x y
   | _=>false
  | .agg x=>match b with
   | .agg y=>cw9 (gy6 n) x y
   | _=>false
  | .tuple x=>match b with
   | .tuple y=>cw9 (gy6 n) x y
   | _=>false
  | .iface t x=>match b with
   | .iface t' y=>Nat.beq t t'&&gy6 n x y
   | _=>false
  | .ah9=>match b with
   | .ah9=>true
   | _=>false
  | .aj6=>match b with
   | .aj6=>true
   | _=>false
  | .ad5=>match b with
   | .ad5=>true
   | _=>false
  | .aa1=>match b with
   | .aa1=>true
   | _=>false
  | _=>false
theorem ik4:∀ (n:Nat) (a b:IV),gy6 n a b=true->a=b:=by
 intro n
 induction n with
 | zero=>intro a b h; cases h
 | succ n ih=>
  intro a b h;cases a<;>simp only[gy6] at h<;>(try cases h)<;>split at h<;>(try cases h)<;>(try rfl)
  ·split at h<;>(try cases h)<;>rfl
  ·simp only[zb,decide_eq_true_eq] at h; rw[h.1,h.2]
  ·rw[gy5 _ _ h]
  ·rw[bi5 ih _ _ h]
  ·rw[ea7 ih _ _ h]
  ·simp only[zb] at h; rw[zn h.1,ih _ _ h.2]
  ·rw[bi5 ih _ _ h]
  ·rw[bi5 ih _ _ h]
abbrev iu9:=List (Nat×List IV×IV)
def iu9.get:iu9->Nat->List IV->Option IV
 | [],_,_=>zd
 | (k,as,v)::r,f,args=>match Nat.beq k f with
  | true=>match cw9 (gy6 1000) as args with
   | true=>za v
   | false=>iu9.get r f args
  | false=>iu9.get r f args
def MOK (P:Program)(E:Nat->IV)(M:iu9):Prop:=∀ e∈M,okF P e.1=true/\PC P E e.1 e.2.1 e.2.2
theorem MOK.nil:MOK P E []:=fun _ h=>by cases h
theorem MOK.cons {M:iu9}{k:Nat}{as:List IV}{v:IV}(hk:okF P k=true)(h:PC P E k as v)(hM:MOK P E M):MOK P E ((k,as,v)::M):=fun e he=>by
 rcases List.mem_cons.1 he with rfl|he
 ·exact ⟨hk,h⟩
 ·exact hM e he
theorem ik5 {l:List (Nat×List IV)}(h:l.all (fun x=>x.2.all (as9 1000))=true):∀ g,Bnd 0 (fq7 l g):=by
 intro g;unfold fq7
 cases hg:l.lookup g with
 | none=>exact .undef
 | some cs=>
  have hm:∃ x∈l,x.2=cs:=by
   clear h
   induction l with
   | nil=>cases hg
   | cons x l ih=>
    obtain ⟨a,b⟩:=x;simp only[List.lookup] at hg;split at hg
    ·cases hg; exact ⟨_,ze ..,rfl⟩
    ·obtain ⟨x,h1,h2⟩:=ih hg; exact ⟨x,zc _ h1,h2⟩
  obtain ⟨x,h1,rfl⟩:=hm;exact .ab5 _ fun c hc=>ax1 1000 c (zg.1 (zg.1 h x h1) c hc)
end Go.Id
