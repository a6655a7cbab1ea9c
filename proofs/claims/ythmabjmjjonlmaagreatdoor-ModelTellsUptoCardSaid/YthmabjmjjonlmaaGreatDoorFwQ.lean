/- Loops that go up; rows read by their places; runes of a string; what a yield is told. Conditions: none; over any program. -/
import Derived.Test.YthmabjmjjonlmaaGreatDoorT6
open Option renaming some→za,none→zd
open Bool renaming and_eq_true→zb
open List renaming mem_cons_of_mem→zc,mem_cons_self→ze,getD_eq_getElem?_getD→zf,all_eq_true→zg,getElem?_eq_getElem→zj,getElem?_cons_succ→zk,take_append_drop→zm,getElem?_append→zo,flatten_cons→zp
open Nat renaming lt_of_lt_of_le→zh,add_mul→zi,add_zero→zl,eq_of_beq_eq_true→zn
set_option linter.all false
namespace Go.Id
open Go
variable {P:Program} {E:Nat->IV} {σ σ':Store} {N n0:Nat} {fr:Frm}
def upQ (I:Nat->Frm->Store->Prop)(i n:Nat)(Q:Exit->Frm->Store->Prop):Exit->Frm->Store->Prop
 | .normal,fr,σ=>i<n/\I (i+1) fr σ
 | e,fr,σ=>Q e fr σ
theorem kh1 {I:Nat->Frm->Store->Prop}{i n:Nat}{Q:Exit->Frm->Store->Prop}:upQ I i n Q .normal fr σ=(i<n/\I (i+1) fr σ):=nr rfl
theorem kh2 {I:Nat->Frm->Store->Prop}{i n k:Nat}{Q:Exit->Frm->Store->Prop}:upQ I i n Q (.exit k) fr σ=Q (.exit k) fr σ:=nr rfl
theorem kh3 {I:Nat->Frm->Store->Prop}{i n:Nat}{Q:Exit->Frm->Store->Prop}:upQ I i n Q .ret fr σ=Q .ret fr σ:=nr rfl
theorem ab2 {pt:PT}{ct:CT}(hT:TOK P E pt ct){x:IC}{Q:Exit->Frm->Store->Prop}(I:Nat->Frm->Store->Prop)(n:Nat)(h:I 0 fr σ)
  (hI:∀ i fr σ,i<=n->I i fr σ->wpT pt ct P E N n0 x fr σ (upQ I i n Q)):RI P E N n0 (.loop x) fr σ Q:=by
 refine gh5 (fun m fr σ=>∃ i,i<=n/\m=n-i/\I i fr σ) n ⟨0,Nat.zero_le _,rfl,h⟩ ?_;rintro m fr σ ⟨i,hi,rfl,hi0⟩;refine cd4 x fr σ _ _ ?_ (bk1 hT x fr σ _ (hI i fr σ hi hi0));intro e f s q
 cases e with
 | normal=>exact ⟨n-(i+1),by have:=q.1; omega,i+1,q.1,rfl,q.2⟩
 | _=>exact q
theorem ac7 {α:Type}(es:List α)(i:Nat)(h:i<es.length):∃ a,a∈es/\es[i]? = za a/\es.drop i=a::es.drop (i+1)/\(∀ (f:α->List IV),(es.map f).getD i []=f a)/\es.take (i+1)=es.take i++[a]:=
 ⟨es[i],List.getElem_mem h,zj h,List.drop_eq_getElem_cons h,fun f=>by simp[zf,h],by rw[List.take_add_one,zj h]; rfl⟩
theorem gk2 (s:List UInt8)(i:Nat)(h:i<s.length):((⟨s.toArray⟩:ByteArray).get! i)=s[i]:=by
 show (s.toArray)[i]! = s[i];simp[h]
theorem fn9 (s:List UInt8)(i:Nat)(h:i<s.length)(hb:s[i].toNat<128):Utf8.decode ⟨s.toArray⟩ i=(s[i].toNat,1):=by
 unfold Utf8.decode;simp only[zl,gk2 s i h];rw[if_pos hb]
theorem decode_high (s:List UInt8)(i:Nat)(h:i<s.length)(hb:¬ s[i].toNat<128):128<=(Utf8.decode ⟨s.toArray⟩ i).1:=by
 unfold Utf8.decode;simp only[zl,gk2 s i h];rw[if_neg hb];have e:Utf8.runeError=65533:=rfl
 repeat' split
 all_goals first|(rw[e]; omega)|(simp only[ge_iff_le,zb,decide_eq_true_eq] at *; omega)
def hl7 (P:Program)(E:Nat->IV)(id:Nat)(I:List (List IV)->Store->Prop)(S:Store->Prop):Prop :=
 ∀ a rest σ,I (a::rest) σ->CV P E (.yield id) a σ fun v s=>σ.next<=s.next/\((v=.bool true/\I rest s)\/(v=.bool false/\S s))
end Go.Id
namespace Go.Id
open Go
attribute [go_sem] dj8 dj9 cj4 bt8 dk4 cj5 dk5 cj6 fp4 jc3 fo9 fp1 dk6 cj7 dk7 cj8 cj9 bt9 dk8 w_q ck3
 fp5 fp6 ck4 fp7 ck6 bu1 ck5 dk9 dl1 dl2 ck7 bu2 fp8 dl3 fp9 dl4 ck8 ck9 dl5 fq1
 fq2 fq3 fq4 fq5 fq6 fq7 fq8 fq9 fr3 dl6 fr4 dl7 fr5 dl8 cl1 dl9 dm4 fr6 jc6 jc7 fr7 fr8 fr9 fs1
 fs2 fs3 fs4 fs5 fs6 fs7 dm5 cl2 bu3 bk2 cl3 bu4 dm1 dm2 dm3 cl4 jc4 jc5 bk4 bu8
 cm6 cm7 cm8 cm5 dn8 e_t e_c e_g e_f fs8 dm6 fs9 ft1 ft2 aj6 ft3 dm7 cl5 ft4 cl6 ft5 cl7
 cl8 ft6 dm8 ft7 dm9 ft8 ft9 fu1 fu2 dn1 dn2 es5 ij9 ei6 es4 cl9 cm1 dn3 dn4 cm2 cm3 jc8
 bu5 dn5 dn6 dn7 bu6 cm4 bk3 bu7 bu9 cm9 bv1 bv2 dn9 do1 es6 es7 cn1 cn2
 cn3 cn4 do2 do3 cn5 bv3 fu3 fu4 fu5 fu6 fu7 fu8 fu9 fv1 fv2 fv3 fv4 fv5 fv6 do4 do5 do6
 do7 do8 do9 dp1 dp2 dp3 dp4 ji7 ji8 ji9 jj1 bo7 bn3 cn6 cn7 cn8 dp5 dp6 dp7 dp8 fv7 fv8 dp9 fv9
 cn9 co1 co2 fw3 bq9 ik1 dq8 co3 co4 bv4 bp3 cd5 fw1 cv3 bv5 fw2 cv4 bv6 bv7 co5
 co6 co7 co8 bv8 co9 cp1 bv9 bk5 bd9 bw1 cp3 bw2 dq2 dq3 dq4 cp4 bw3
 cp5 cp6 bw4 bk6 be1 bw5 cp7 bw6 dq5 dq6 dq7 Frm.bt7 Frm.get_nil ab7 aa5 kh1 kh2
 kh3 es5 ij9 ei6 es4 jw7 ji6 
attribute [go_sem] List.getElem?_cons_zero zk List.all_cons List.all_nil List.drop_zero List.drop_succ_cons List.head?_cons Bool.and_true Bool.and_self List.append_nil List.nil_append List.cons_append Bool.false_eq_true Bool.xor_false Bool.xor_true Bool.not_true Bool.not_false zl Nat.zero_add Nat.succ_ne_zero if_true if_false true_and and_true
end Go.Id
namespace Go.Id
open Go
variable {P:Program} {E:Nat->IV} {σ σ':Store} {N n0:Nat} {fr:Frm} {pf:List Nat}
theorem bc1 {f:Nat}{ic:IC}{irs:List IR}{args:List IV}{v:IV}(hf:FOK P f (N,ic,irs))(hl:args.length<=N)
  (h:∀ σ,wpT noP noC P E N σ.next ic (bn2 args 0) σ (gm1 irs fun v' σ'=>v'=v/\σ'=σ)):PC P E f args v:=by
 obtain ⟨_,pf,an,h1⟩:=hf;exact kj8 noT h1 hl h
theorem C_f {f:Nat}{ic:IC}{irs:List IR}{args:List IV}{Qc:IV->Store->Prop}(hf:FOK P f (N,ic,irs))(hl:args.length<=N)
  (h:wpT noP noC P E N σ.next ic (bn2 args 0) σ (gm1 irs Qc)):C P E f args σ Qc:=by
 obtain ⟨_,pf,an,h1⟩:=hf;exact C_T noT h1 hl h
def emp:Store:=⟨0,fun _=>zd⟩
theorem hl8:emp.next=0:=nr rfl
theorem iq2 {i:Nat}:emp.obj i=zd:=nr rfl
attribute [go_sem] hl8 iq2
theorem ad9 {f:Nat}{ic:IC}{irs:List IR}{args:List IV}{v:IV}(hE:∀ g,Bnd 0 (E g))(hf:FOK P f (N,ic,irs))(hl:args.length<=N)(ha:∀ a∈args,Bnd 0 a)
  (h:wpT noP noC P E N 0 ic (bn2 args 0) emp (gm1 irs fun v' σ'=>bw7 σ' 0 v' v)):PC P E f args v :=
 fc9 hE ha (C_f (σ:=emp) hf hl h)
theorem aa2 {f:Nat}{e:FE}{args:List IV}{v:IV}{K:IV->Store->Prop}(hf:FOK P f e)(h:PC P E f args v)(hk:K v σ):db6 P E zd f args σ K :=
 ao9 hf.1 (es8 h) fun _ _ ⟨h1,h2⟩=>by subst h1; subst h2; exact ⟨Nat.le_refl _,hk⟩
theorem ag1 {f:Nat}{e:FE}{args:List IV}{Qc:IV->Store->Prop}{K:IV->Store->Prop}(hf:FOK P f e)(h:C P E f args σ Qc)(hk:∀ v s,Qc v s->σ.next<=s.next/\K v s):db6 P E zd f args σ K :=
 ao9 hf.1 h hk
theorem ab3 {S:Nat->Prop}(b:Bool):Frz σ S (.bool b) (.bool b):=.keep _ (.bool _)
theorem ad5 {S:Nat->Prop}(k:IntKind)(n:Int):Frz σ S (.int k n) (.int k n):=.keep _ (.int _ _)
theorem bm9 {S:Nat->Prop}(s:List UInt8):Frz σ S (.str s) (.str s):=.keep _ (.str _)
theorem ij1 {ρ:Rho}{w:World}{v:IV}{rargs:Array Value}(h:CR ρ w [v] rargs):VR ρ w v (rargs.getD 0 undef):=by
 have:=h.2 0 (Nat.zero_lt_one)
 simpa using this
theorem fc2 {ρ:Rho}{w:World}{u v:IV}{rargs:Array Value}(h:CR ρ w [u] rargs)(hv:VR ρ w v (rargs.getD 0 undef)):CR ρ w [v] rargs :=
 ⟨h.1,fun i hi=>by
  have:i=0:=by simp at hi; omega
  subst this
  simpa using hv⟩
theorem bq5 {f:Nat}{v:IV}(h1:PC P E f [.aa1] v)(h2:PC P E f [.ag8] v):PC P E f [.aa4 []] v:=by
 intro σ ρ w rargs hs hr;have hv:=ij1 hr;generalize hx:rargs.getD 0 undef=r at hv
 cases hv with
 | ch1=>exact h1 σ ρ w rargs hs (fc2 hr (by rw[hx]; exact .aa1))
 | aa4 es b o cap esz sp vs hf hsz hc hv hle=>exact h2 σ ρ w rargs hs (fc2 hr (by rw[hx]; exact .ag8 _ _))
theorem ac2 {i:Nat}(h:i<2^62):IntKind.i64.wrap ((i:Int)+1)=((i+1:Nat):Int):=by
 rw[wrap64 (by omega) (by omega)]; omega
theorem iq3 {cs:List IV}:aw2 cs []=za cs:=by simp only[aw2]
theorem iq4 {cs:List IV}{off n:Nat}{v:IV}{ps:List (Nat×Nat×IV)}:aw2 cs ((off,n,v)::ps)=if v.cs.length=n/\off+n<=cs.length/\v.cs.all IV.leaf=true then aw2 (ay4 cs off v.cs) ps else zd:=by simp only[aw2]
theorem jf1 {c:IV}{cs:List IV}{vs:List IV}:ay4 (c::cs) 0 vs=vs++(c::cs).drop vs.length:=by simp[ay4]
theorem jf2 {c:IV}{cs vs:List IV}{n:Nat}:ay4 (c::cs) (n+1) vs=c::ay4 cs n vs:=by simp[ay4,Nat.add_right_comm]
theorem jf3 {d:TypeId}{a:List IV}{as:List (List IV)}:by9 (.slice d) (.aa4 (a::as))=za false:=nr rfl
theorem jf4 {d:TypeId}:by9 (.slice d) .aa1=za true:=nr rfl
theorem jf5 {d:TypeId}:by9 (.slice d) .ag8=za false:=nr rfl
theorem jf6 {d:TypeId}:by9 (.slice d) .ad4=za false:=nr rfl
theorem jf7 {d:TypeId}{i o l e:Nat}:by9 (.slice d) (.slice i o l e)=za false:=nr rfl
theorem ac4 {d:TypeId}:by9 (.pointer d) .af3=za true:=nr rfl
theorem iq5 {d:TypeId}{cs:List IV}:by9 (.pointer d) (.ab8 cs)=za false:=nr rfl
theorem iq6 {d:TypeId}{i o:Nat}:by9 (.pointer d) (.ptr i o)=za false:=nr rfl
theorem hl9 {e:Nat}{l:List IV}:chunk e 0 l=[]:=nr rfl
theorem hm3 {e n:Nat}{l:List IV}:chunk e (n+1) l=l.take e::chunk e n (l.drop e):=nr rfl
theorem jf8 {z:List IV}:rep z 0=[]:=nr rfl
theorem jf9 {z:List IV}{n:Nat}:rep z (n+1)=z++rep z n:=nr rfl
theorem iq7 {off:Nat}{cs:List IV}:bj4 zd off cs=cs[off]?:=nr rfl
theorem iq8 {off n:Nat}{cs:List IV}:bj4 (za n) off cs=if off+n<=cs.length then za (.agg ((cs.drop off).take n)) else zd:=nr rfl
theorem jg1 {ag:Option Nat}{off:Nat}{cs:List IV}:jb5 ag off (.agg cs)=bj4 ag off cs:=nr rfl
theorem jg2 {ag:Option Nat}{n esz:Nat}{cs:List IV}{k:IntKind}{i:Int}:in9 ag n esz (.agg cs) (.int k i)=if 0<=i/\i<n then bj4 ag (i.toNat*esz) cs else zd:=nr rfl
theorem hm4 {n esz:Nat}{v:IV}{k:IntKind}{i:Int}:di4 n esz v (.int k i)=if 0<=i/\i<n then cu5 (i.toNat*esz) v else zd:=nr rfl
theorem be5 {s:List UInt8}{k:IntKind}{i:Int}:ee6 (.str s) (.int k i)=if 0<=i then (s[i.toNat]?).map fun b=>.int .u8 b.toNat else zd:=nr rfl
theorem ij2 {tags:List Nat}{neg:Bool}{xs ys:List IV}:hf5 tags true neg (.agg xs) (.agg ys)=(allEq tags xs ys).map fun b=>.bool (b ^^ neg):=nr rfl
theorem ij3:allEq [] [] []=za true:=nr rfl
def js8:Option Bool->Option Bool->Option Bool
 | some a,za b=>za (a&&b)
 | _,_=>zd
theorem jg3 {a b:Bool}:js8 (za a) (za b)=za (a&&b):=nr rfl
theorem ij4 {t:Nat}{ts:List Nat}{x y:IV}{xs ys:List IV}:allEq (t::ts) (x::xs) (y::ys)=js8 (al5 t x y) (allEq ts xs ys):=by
 simp only[allEq]; cases al5 t x y<;>cases allEq ts xs ys<;>rfl
theorem jg4 {k:IntKind}{a b:Int}:al5 1 (.int k a) (.int k b)=za (decide (a=b)):=by simp[al5]
theorem jg5 {a b:List UInt8}:al5 2 (.str a) (.str b)=za (decide (a=b)):=nr rfl
theorem fc3 {a b:List UInt8}:aq2 2 (.str a) (.str b)=za (decide (a=b)):=nr rfl
theorem jg6 {a b:Bool}:al5 0 (.bool a) (.bool b)=za (a==b):=nr rfl
attribute [go_sem] ij2 ij3 ij4 jg3 jg6 jg4 jg5
attribute [go_sem] iq3 iq4 jf1 jf2 jf3 jf4 jf5 jf6 jf7 ac4 iq5 iq6 hl9 hm3 jf8 jf9 iq7 iq8 jg1 jg2 hm4 be5
attribute [go_sem] Bool.true_or Bool.or_true Bool.false_or Bool.or_false Bool.true_and Bool.false_and Bool.and_false
attribute [go_sem] List.length_cons List.length_nil List.take_succ_cons List.take_zero List.length_map Int.toNat_natCast
end Go.Id
namespace Go.Id
open Go
variable {P:Program} {E:Nat->IV} {σ σ':Store} {N n0:Nat} {fr:Frm}
def jq4 (I:List (List IV)->Store->Prop):Prop:=∀ rest s s',I rest s->s.next<=s'.next->(∀ i,i<s.next->s'.obj i=s.obj i)->I rest s'
def jg7 (n:Nat)(I:List (List IV)->Store->Prop)(S:Store->Prop):IV->Store->Prop:=fun _ s=>n<=s.next/\(I [] s\/S s)
def fc4 (P:Program)(E:Nat->IV)(fv:IV)(evs:List (List IV))(own:Store->Prop):Prop :=
 ∀ (yid:Nat) (I:List (List IV)->Store->Prop) (S:Store->Prop) (σ:Store),(∀ rest s,I rest s->own s)->jq4 I->hl7 P E yid I S->I evs σ->CVf P E fv [.yield yid] σ (jg7 σ.next I S)
def jz6 (P:Program)(E:Nat->IV)(N n0:Nat)(id:Nat)(L:LoopState->Option JX->al9)(x:IC)(K:IV->Store->Prop):Exit->Frm->Store->Prop
 | .normal,f,s=>s.obj id=za (L .ready zd)/\wpT noP noC P E N n0 x f (s.put id (L .busy zd)) (da3 id L K)
 | _,_,_=>False
theorem js9 {id:Nat}{L:LoopState->Option JX->al9}{x:IC}{K:IV->Store->Prop}:jz6 P E N n0 id L x K .normal fr σ=(σ.obj id=za (L .ready zd)/\wpT noP noC P E N n0 x fr (σ.put id (L .busy zd)) (da3 id L K)):=nr rfl
theorem jt1 {id:Nat}{L:LoopState->Option JX->al9}{K:IV->Store->Prop}:da3 id L K .normal fr σ=(σ.obj id=za (L .busy zd)/\K (.bool true) (σ.put id (L .ready zd))):=nr rfl
theorem jt2 {id:Nat}{L:LoopState->Option JX->al9}{K:IV->Store->Prop}:da3 id L K .ret fr σ=(σ.obj id=za (L .busy zd)/\K (.bool false) (σ.put id (L .done (za .ret)))):=nr rfl
theorem jt3 {id i:Nat}{L:LoopState->Option JX->al9}{K:IV->Store->Prop}:da3 id L K (.exit i) fr σ=(σ.obj id=za (L .busy zd)/\K (.bool false) (σ.put id (L .done (za (.exit i))))):=nr rfl
theorem iq9:dh1 fr [] []=fr:=nr rfl
theorem ir1 {p:Nat}{ps:List Nat}{v:IV}{vs:List IV}:dh1 fr (p::ps) (v::vs)=dh1 (fr.set p v) ps vs:=nr rfl
theorem jt4 {p:Nat}{v:IV}:fr.set p v=(p,v)::fr:=nr rfl
def goQ (id n:Nat)(L:LoopState->Option JX->al9)(J:List (List IV)->Store->Prop)(Q:Exit->Frm->Store->Prop)(fr:Frm)(rest:List (List IV)):IV->Store->Prop:=fun v s=>
 n<=s.next/\((v=.bool true/\s.obj id=za (L .ready zd)/\J rest s)\/(v=.bool false/\∃ st pend,st≠.busy/\s.obj id=za (L st pend)/\ip7 Q fr (s.kill id) pend))
theorem er1 {id n:Nat}{L:LoopState->Option JX->al9}{J:List (List IV)->Store->Prop}{Q:Exit->Frm->Store->Prop}{rest:List (List IV)}(h1:n<=σ.next)(h2:σ.obj id=za (L .ready zd))(h3:J rest σ):goQ id n L J Q fr rest (.bool true) σ:=⟨h1,.inl ⟨rfl,h2,h3⟩⟩
theorem db2 {id n:Nat}{L:LoopState->Option JX->al9}{J:List (List IV)->Store->Prop}{Q:Exit->Frm->Store->Prop}{rest:List (List IV)}(h1:n<=σ.next)(h2:σ.obj id=za (L .done (za .ret)))(h3:Q .ret fr (σ.kill id)):goQ id n L J Q fr rest (.bool false) σ:=⟨h1,.inr ⟨rfl,.done,za .ret,(fun h=>by cases h),h2,h3⟩⟩
theorem dw2 {g:IX}{ps:List Nat}{y x:IC}{Q:Exit->Frm->Store->Prop}{evs:List (List IV)}{own:Store->Prop}(hT:fc4 P E (g.ev E fr) evs own)
  (J:List (List IV)->Store->Prop) (hown:∀ rest s,J rest s->own s) (hstab:jq4 J) (hlen:∀ a∈evs,a.length=ps.length)
  (hinit:∀ o,J evs ⟨σ.next+1,(σ.put σ.next o).obj⟩)
  (hbody:∀ (L:LoopState->Option JX->al9) (pre:List (List IV)) (a:List IV) (rest:List (List IV)) (s:Store),evs=pre++a::rest->J (a::rest) s->s.obj σ.next=za (L .ready zd)->σ.next<s.next ->
   wpT noP noC P E N s.next y (dh1 fr ps a) s (jz6 P E N s.next σ.next L x (goQ σ.next s.next L J Q fr rest)))
  (hend:∀ s o,J [] s->σ.next<s.next->s.obj σ.next=za o->Q .normal fr (s.kill σ.next)) :
  RI P E N n0 (.by1 g ps y x) fr σ Q:=by
 refine hi6 fun L hL=>?_
 let I:List (List IV)->Store->Prop:=fun rest s=>(∃ pre,evs=pre++rest)/\s.obj σ.next=za (L .ready zd)/\σ.next<s.next/\J rest s
 let S:Store->Prop:=fun s=>∃ st pend,st≠.busy/\s.obj σ.next=za (L st pend)/\ip7 Q fr (s.kill σ.next) pend
 have hI:jq4 I:=by
  rintro rest s s' ⟨hp,h1,h2,h3⟩ hn hs;exact ⟨hp,by rw[hs _ h2]; exact h1,zh h2 hn,hstab rest s s' h3 hn hs⟩
 have hst:hl7 P E σ.next I S:=by
  rintro a rest s ⟨⟨pre,hp⟩,h1,h2,h3⟩;refine ⟨by rw[h1]; rfl,?_⟩;have hb:=hbody L pre a rest s hp h3 h1 h2;refine hL s a _ (hlen a (by rw[hp]; simp)) h1 ?_;refine (bp9 y _ _ _ (cd4 y _ _ _ _ ?_ (bk1 noT y _ _ _ hb)));intro e f s1 q
  cases e with
  | normal=>
   refine ⟨rfl,q.1,?_⟩;refine (bp9 x _ _ _ (cd4 x _ _ _ _ ?_ (bk1 noT x _ _ _ q.2)))
   have hK:∀ v s2,goQ σ.next s.next L J Q fr rest v s2->s.next<=s2.next/\((v=.bool true/\I rest s2)\/(v=.bool false/\S s2)):=by
    rintro v s2 ⟨hn,h|h⟩
    ·exact ⟨hn,.inl ⟨h.1,⟨pre++[a],by rw[hp]; simp⟩,h.2.1,zh h2 hn,h.2.2⟩⟩
    ·exact ⟨hn,.inr ⟨h.1,h.2⟩⟩
   intro e f s2 q2
   cases e with
   | normal=>exact ⟨q2.1,hK _ _ q2.2⟩
   | ret=>exact ⟨q2.1,hK _ _ q2.2⟩
   | exit i=>exact ⟨q2.1,hK _ _ q2.2⟩
   | _=>exact q2
  | _=>exact q.elim
 have h:=hT σ.next I S ⟨σ.next+1,(σ.put σ.next (L .ready zd)).obj⟩ (fun rest s h=>hown rest s h.2.2.2) hI hst ⟨⟨[],rfl⟩,by simp only[aa5,if_true],Nat.lt_succ_self _,hinit _⟩;refine h.mono ?_;rintro v s ⟨hn,h|h⟩
 ·exact ⟨Nat.le_of_lt hn,.ready,zd,(fun h=>by cases h),h.2.1,hend s _ h.2.2.2 h.2.2.1 h.2.1⟩
 ·exact ⟨Nat.le_of_lt hn,h⟩
theorem cu8 {yid:Nat}{I:List (List IV)->Store->Prop}{S:Store->Prop}{a:List IV}{rest:List (List IV)}{K:IV->Store->Prop}(h:hl7 P E yid I S)(hi:I (a::rest) σ)
  (h1:∀ s,σ.next<=s.next->I rest s->K (.bool true) s) (h2:∀ s,σ.next<=s.next->S s->K (.bool false) s):gm2 noC P E (.yield yid) a σ K:=by
 refine ⟨_,h a rest σ hi,?_⟩;rintro v s ⟨hn,⟨rfl,h⟩|⟨rfl,h⟩⟩
 ·exact ⟨hn,h1 s hn h⟩
 ·exact ⟨hn,h2 s hn h⟩
theorem gk3 {i:Nat}:(σ.kill i).next=σ.next:=nr rfl
theorem hm5 {i j:Nat}:(σ.kill i).obj j=if j=i then zd else σ.obj j:=nr rfl
attribute [go_sem] gk3 hm5
attribute [go_sem] js9 jt1 jt2 jt3 iq9 ir1 jt4
end Go.Id
namespace Go.Id
open Go
variable {P:Program} {E:Nat->IV} {σ σ':Store} {N n0:Nat} {fr:Frm}
def jt5 (σ:Store):IV->Prop
 | .ab8 _=>True
 | .ptr i _=>match σ.obj i with
  | some (.cells _)=>True
  | _=>False
 | _=>False
def jz7:Option al9->Prop
 | some (.cells _)=>True
 | _=>False
theorem jg8 {ag:Option Nat}{x:IX}:cb3 E fr σ (.q (.load ag x))=jt5 σ (x.ev E fr):=nr rfl
theorem b_t {cs:List IV}:jt5 σ (.ab8 cs)=True:=nr rfl
theorem b_p {i o:Nat}:jt5 σ (.ptr i o)=jz7 (σ.obj i):=nr rfl
theorem b_o {cs:List IV}:jz7 (za (.cells cs))=True:=nr rfl
theorem jt6 {x:IX}:cb3 E fr σ (.q (.mov x))=True:=nr rfl
theorem ir2 {n:Nat}{x:IX}:cb3 E fr σ (.q (.bm6 n x))=True:=nr rfl
theorem jg9 {x:IX}:cb3 E fr σ (.q (.io6 x))=True:=nr rfl
theorem jt7 {n:Nat}{x:IX}:cb3 E fr σ (.q (.len n x))=True:=nr rfl
theorem jt8 {n:Nat}{z:IV}{b:Bool}{x y:IX}:cb3 E fr σ (.q (.lkp n z b x y))=True:=nr rfl
theorem jt9 {z:List IV}{ps:List (Nat×Nat×IX)}:cb3 E fr σ (.q (.bld z ps))=True:=nr rfl
theorem ju1 {op:BinOp}{x y:IX}:cb3 E fr σ (.q (.bin op x y))=True:=nr rfl
theorem ir3 {n:Nat}{x y:IX}:cb3 E fr σ (.q (.eg2 n x y))=True:=nr rfl
theorem jh1 {k:IntKind}{x:IX}:cb3 E fr σ (.q (.conv k x))=True:=nr rfl
theorem ju2 {n:Nat}{x:IX}:cb3 E fr σ (.q (.ext n x))=True:=nr rfl
theorem jh2 {x y z:IX}:cb3 E fr σ (.q (.pick x y z))=True:=nr rfl
theorem ju3 {x:IX}:cb3 E fr σ (.q (.not x))=True:=nr rfl
theorem ir4 {f:Nat}{xs:List IX}:cb3 E fr σ (.bd1 f xs)=True:=nr rfl
theorem jh3 {e n:Nat}{z:List IV}{ps:List (Nat×Nat×IX)}:cb3 E fr σ (.ar9 e n z ps)=True:=nr rfl
theorem ju4 {e n:Nat}{z:List IV}{ps:List (Nat×Nat×IX)}:cb3 E fr σ (.bsl e n z ps)=True:=nr rfl
theorem ju5 {e:Nat}{x y:IX}:cb3 E fr σ (.app e x y)=True:=nr rfl
theorem ir5 {n:Nat}{x y:IX}:cb3 E fr σ (.store n x y)=True:=nr rfl
theorem jh4 {n:Nat}{x y z:IX}:cb3 E fr σ (.dj3 n x y z)=True:=nr rfl
theorem ir6 {z:List IV}:cb3 E fr σ (.alloc z)=True:=nr rfl
attribute [go_sem] jg8 b_t b_p b_o jt6 ir2 jg9 jt7 jt8 jt9 ju1 ir3 jh1 ju2 jh2 ju3 ir4 jh3 ju4 ju5 ir5 jh4 ir6
def Grow (σ:Store)(v:IV)(esz:Nat)(es:List (List IV)):Prop :=
 (v=.aa1/\es=[])\/∃ id,v=.slice id 0 es.length esz/\σ.obj id=za (.row es.flatten)/\id<σ.next
def aj5 (v:IV)(σ:Store):Store:=match v with
 | .slice id _ _ _=>σ.kill id
 | _=>σ
theorem an4 {esz:Nat}{es:List (List IV)}(h:∀ e∈es,e.length=esz):es.flatten.length=es.length*esz:=by
 induction es with
 | nil=>simp
 | cons e es ih=>simp[ih (fun x hx=>h x (zc _ hx)),h e (ze ..),zi]; omega
theorem eh5 {esz:Nat}{es:List (List IV)}(h:∀ e∈es,e.length=esz)(i j:Nat)(hi:i<es.length)(hj:j<esz):es.flatten.getD (i*esz+j) .undef=(es.getD i []).getD j .undef:=by
 induction es generalizing i with
 | nil=>simp at hi
 | cons e es ih=>
  have he:=h e (ze ..)
  cases i with
  | zero=>simp[zf,zo,he,hj]
  | succ i=>
   have h1:¬ ((i+1)*esz+j<e.length):=by rw[he,zi]; omega
   have h2:(i+1)*esz+j-e.length=i*esz+j:=by rw[he,zi]; omega
   have:=ih (fun x hx=>h x (zc _ hx)) i (by simpa using hi);simp only[zf,zp,zo,if_neg h1,h2,zk] at this ⊢;exact this
theorem cc5 {es:List (List IV)}(h:∀ e∈es,e.all IV.leaf=true):es.flatten.all IV.leaf=true:=by
 simp only[zg,List.mem_flatten];rintro c ⟨e,he,hc⟩;exact zg.1 (h e he) c hc
theorem al6 {v:IV}{esz nid:Nat}{es:List (List IV)}{e:List IV}(hg:Grow σ v esz es)(h:∀ x∈es,x.length=esz/\x.all IV.leaf=true)(he:e.length=esz/\e.all IV.leaf=true)(hn:es.length<2147483648) :
  ba5 σ nid esz v (.aa4 [e])=za (.slice nid 0 (es.length+1) esz,(aj5 v σ).put nid (.row (es++[e]).flatten)):=by
 have hsrc:ci3 σ esz (.aa4 [e])=za (1,e):=by simp[ci3,he.1]
 have hl:e.all IV.leaf=true:=he.2;rcases hg with ⟨rfl,rfl⟩|⟨id,rfl,ho,hid⟩
 ·unfold ba5;rw[hsrc];simp[hl,aj5]
 ·unfold ba5;rw[hsrc];have h1:es.flatten.all IV.leaf=true:=cc5 fun x hx=>(h x hx).2
  have h2:es.flatten.length=es.length*esz:=an4 fun x hx=>(h x hx).1
  simp[hl,ho,aj5,h1,h2];omega
theorem Grow.new {v:IV}{esz nid:Nat}{es:List (List IV)}{e:List IV}(hlt:nid<σ'.next)(ho:σ'.obj nid=za (.row (es++[e]).flatten)):Grow σ' (.slice nid 0 (es.length+1) esz) esz (es++[e]):=
 .inr ⟨nid,by simp,ho,hlt⟩
theorem ae7 (v:IV):(aj5 v σ).next=σ.next:=by cases v<;>rfl
theorem ag3 {v:IV}{esz:Nat}{es:List (List IV)}(hg:Grow σ v esz es)(i:Nat)(o:al9)(ho:σ.obj i=za o)(hr:∀ cs,o≠.row cs):(aj5 v σ).obj i=za o:=by
 rcases hg with ⟨rfl,rfl⟩|⟨id,rfl,ho',hid⟩
 ·exact ho
 ·show (if i=id then zd else σ.obj i)=za o;rw[if_neg]
  ·exact ho
  ·intro e; subst e; rw[ho] at ho'; cases ho'; exact hr _ rfl
theorem Grow.frz {S:Nat->Prop}{v:IV}{esz:Nat}{es:List (List IV)}(hg:Grow σ v esz es)(h:∀ x∈es,x.length=esz)(hS:∀ id,v=.slice id 0 es.length esz->¬ S id)(hb:∀ e∈es,∀ c∈e,Nm S c):Frz σ S v (.aa4 es):=by
 rcases hg with ⟨rfl,rfl⟩|⟨id,rfl,ho,hid⟩
 ·exact .by5
 ·refine .slice id 0 es.length esz es.flatten es (hS id rfl) (.inr ho) rfl (by rw[an4 h]; omega) (fun i hi=>h _ (ae5 _ hi)) (fun i hi j hj=>?_);rw[Nat.zero_add,eh5 h i j hi hj];exact .keep _ (hb _ (ae5 _ hi) _ (ae5 _ (by rw[h _ (ae5 _ hi)]; exact hj)))
theorem Grow.mono {v:IV}{esz:Nat}{es:List (List IV)}(hg:Grow σ v esz es)(hn:σ.next<=σ'.next)(h:∀ id,v=.slice id 0 es.length esz->id<σ.next->σ'.obj id=σ.obj id):Grow σ' v esz es:=by
 rcases hg with h0|⟨id,rfl,ho,hid⟩
 ·exact .inl h0
 ·exact .inr ⟨id,rfl,by rw[h id rfl hid]; exact ho,zh hid hn⟩
theorem Grow.ne {v:IV}{esz id:Nat}{es:List (List IV)}{i:Nat}{o:al9}(hg:Grow σ v esz es)(hv:v=.slice id 0 es.length esz)(ho:σ.obj i=za o)(hr:∀ cs,o≠.row cs):id≠i:=by
 intro e;subst e;rcases hg with ⟨rfl,_⟩|⟨id',rfl,ho',_⟩
 ·cases hv
 ·cases hv;rw[ho] at ho';cases ho';exact hr _ rfl
theorem bz8 {did esz nid:Nat}{es:List (List IV)}(ho:σ.obj did=za (.row []))(hne:es≠[])(h:∀ x∈es,x.length=esz/\x.all IV.leaf=true)(hn:es.length<=2147483648) :
  ba5 σ nid esz (.slice did 0 0 esz) (.aa4 es)=za (.slice nid 0 es.length esz,(σ.kill did).put nid (.row es.flatten)):=by
 have hsrc:ci3 σ esz (.aa4 es)=za (es.length,es.flatten):=by
  simp only[ci3];rw[if_pos (by simpa using fun x hx=>(h x hx).1)]
 have h1:es.flatten.all IV.leaf=true:=cc5 fun x hx=>(h x hx).2
 have h0:es.length≠0:=fun e=>hne (List.length_eq_zero_iff.1 e)
 unfold ba5;rw[hsrc];simp[h1,ho,h0,hn]
theorem bg8 {did esz nid:Nat}{x:IV}(ho:σ.obj did=za (.row []))(hx:ci3 σ esz x=za (0,[])):ba5 σ nid esz (.slice did 0 0 esz) x=za (.slice did 0 0 esz,σ):=by
 unfold ba5;rw[hx];simp[ho]
theorem ax8 {esz:Nat}{es:List (List IV)}(h:∀ e∈es,e.length=esz)(j:Nat)(hj:j<es.length):(es.flatten.drop (j*esz)).take esz=es.getD j []:=by
 induction es generalizing j with
 | nil=>simp at hj
 | cons e es ih=>
  have he:=h e (ze ..)
  cases j with
  | zero=>simp[he]
  | succ j=>
   have h2:(j+1)*esz=e.length+j*esz:=by rw[he,zi]; omega
   rw[zp,h2,List.drop_append,List.drop_of_length_le (by omega),List.nil_append,show e.length+j*esz-e.length=j*esz from by omega];exact ih (fun x hx=>h x (zc _ hx)) j (by simpa using hj)
theorem bj8 {l vs:List IV}{off:Nat}(h:(l.drop off).take vs.length=vs)(hl:off+vs.length<=l.length):ay4 l off vs=l:=by
 unfold ay4
 have h1:l.drop off=vs++l.drop (off+vs.length):=by
  rw[<- List.drop_drop]
  conv=>lhs; rw[<- zm vs.length (l.drop off)]
  rw[h]
 rw[List.append_assoc,<- h1,zm]
theorem dw3 {f:Nat}{Q:IV->Store->Prop}(h1:C P E f [.aa1] σ Q)(h2:C P E f [.ag8] σ Q):C P E f [.aa4 []] σ Q:=by
 intro ρ w rargs hs hr;have hv:=ij1 hr;generalize hx:rargs.getD 0 undef=r at hv
 cases hv with
 | ch1=>exact h1 ρ w rargs hs (fc2 hr (by rw[hx]; exact .aa1))
 | aa4 es b o cap esz sp vs hf hsz hc hv hle=>exact h2 ρ w rargs hs (fc2 hr (by rw[hx]; exact .ag8 _ _))
inductive hm6 (σ:Store) (S:Nat->Prop):List IV->List IV->Prop
 | nil:hm6 σ S [] []
 | cons {v v':IV} {vs vs':List IV} (h:Frz σ S v v') (t:hm6 σ S vs vs'):hm6 σ S (v::vs) (v'::vs')
theorem hm6.at {S:Nat->Prop}{cs cs':List IV}(h:hm6 σ S cs cs'):cs'.length=cs.length/\∀ i,i<cs.length->Frz σ S (cs.getD i .undef) (cs'.getD i .undef):=by
 induction h with
 | nil=>exact ⟨rfl,fun i hi=>absurd hi (Nat.not_lt_zero _)⟩
 | cons h _ ih=>
  refine ⟨by simp only[List.length_cons,ih.1],fun i hi=>?_⟩
  cases i with
  | zero=>exact h
  | succ i=>exact ih.2 i (by simpa using hi)
theorem Frz.jb8 {S:Nat->Prop}{cs cs':List IV}(h:hm6 σ S cs cs'):Frz σ S (.agg cs) (.agg cs'):=.agg _ _ h.at.1 h.at.2
theorem Frz.cs8 {S:Nat->Prop}{cs cs':List IV}(h:hm6 σ S cs cs'):Frz σ S (.tuple cs) (.tuple cs'):=.tuple _ _ h.at.1 h.at.2
theorem kh4:((0:Nat):Int)=0:=nr rfl
theorem kh5:((1:Nat):Int)=1:=nr rfl
theorem kh6:((2:Nat):Int)=2:=nr rfl
theorem kh7:((3:Nat):Int)=3:=nr rfl
theorem kh8:((4:Nat):Int)=4:=nr rfl
theorem kh9:((5:Nat):Int)=5:=nr rfl
theorem ki1:((6:Nat):Int)=6:=nr rfl
theorem ki2:((7:Nat):Int)=7:=nr rfl
theorem ki3:((8:Nat):Int)=8:=nr rfl
theorem ki4:((9:Nat):Int)=9:=nr rfl
theorem ju6:((10:Nat):Int)=10:=nr rfl
theorem ju7:((11:Nat):Int)=11:=nr rfl
theorem ju8:((12:Nat):Int)=12:=nr rfl
theorem ju9:((13:Nat):Int)=13:=nr rfl
theorem jv1:((14:Nat):Int)=14:=nr rfl
theorem jv2:((15:Nat):Int)=15:=nr rfl
theorem jv3:((16:Nat):Int)=16:=nr rfl
attribute [go_sem] kh4 kh5 kh6 kh7 kh8 kh9 ki1 ki2 ki3 ki4 ju6 ju7 ju8 ju9 jv1 jv2 jv3 List.getD_cons_zero List.getD_cons_succ
theorem ki5:IntKind.i64.wrap 0=0:=nr rfl
theorem ki6:IntKind.i64.wrap 1=1:=nr rfl
theorem ki7:IntKind.i64.wrap 2=2:=nr rfl
theorem ki8:IntKind.i64.wrap 3=3:=nr rfl
theorem ki9:IntKind.i64.wrap 4=4:=nr rfl
theorem kj1:IntKind.i64.wrap 5=5:=nr rfl
theorem kj2:IntKind.i64.wrap 6=6:=nr rfl
theorem kj3:IntKind.i64.wrap 7=7:=nr rfl
theorem kj4:IntKind.i64.wrap 8=8:=nr rfl
theorem kj5:IntKind.i64.wrap 9=9:=nr rfl
theorem jv4:IntKind.i64.wrap 10=10:=nr rfl
theorem jv5:IntKind.i64.wrap 11=11:=nr rfl
theorem jv6:IntKind.i64.wrap 12=12:=nr rfl
theorem jv7:IntKind.i64.wrap 13=13:=nr rfl
theorem jv8:IntKind.i64.wrap 14=14:=nr rfl
theorem jv9:IntKind.i64.wrap 15=15:=nr rfl
theorem jw1:IntKind.i64.wrap 16=16:=nr rfl
attribute [go_sem] ki5 ki6 ki7 ki8 ki9 kj1 kj2 kj3 kj4 kj5 jv4 jv5 jv6 jv7 jv8 jv9 jw1
theorem jh5 {ag:Option Nat}{n m:Nat}:irL σ fr [.cell ag n,.t m]=(ba8 σ ag (fr.get n)).map fun v=>[v,fr.get m]:=by
 simp only[irL,irV]; cases ba8 σ ag (fr.get n)<;>rfl
attribute [go_sem] jh5 aj6
end Go.Id
namespace Go.Id
open Go
variable {P:Program} {E:Nat->IV}
def db3 (r:IV->IV->Bool):List IV->List IV->Bool
 | [],[]=>true
 | a::x,b::y=>r a b&&db3 r x y
 | _,_=>false
theorem bn1 {r:IV->IV->Bool}(hr:∀ a b,r a b=true->a=b):∀ x y:List IV,db3 r x y=true->x=y:=by
 intro x
 induction x with
 | nil=>intro y h; cases y with
  | nil=>rfl
  | cons b y=>cases h
 | cons a x ih=>intro y h; cases y with
  | nil=>cases h
  | cons b y=>
   simp only[db3,zb] at h;rw[hr a b h.1,ih y h.2]
def eh6 (r:IV->IV->Bool):List (List IV)->List (List IV)->Bool
 | [],[]=>true
 | a::x,b::y=>db3 r a b&&eh6 r x y
 | _,_=>false
theorem eh7 {r:IV->IV->Bool}(hr:∀ a b,r a b=true->a=b):∀ x y:List (List IV),eh6 r x y=true->x=y:=by
 intro x
 induction x with
 | nil=>intro y h; cases y with
  | nil=>rfl
  | cons b y=>cases h
 | cons a x ih=>intro y h; cases y with
  | nil=>cases h
  | cons b y=>
   simp only[eh6,zb] at h;rw[bn1 hr a b h.1,ih y h.2]
def hm7:List UInt8->List UInt8->Bool
 | [],[]=>true
 | a::x,b::y=>Nat.beq a.toNat b.toNat&&hm7 x y
 | _,_=>false
theorem hm8:∀ x y:List UInt8,hm7 x y=true->x=y:=by
 intro x
 induction x with
 | nil=>intro y h; cases y with
  | nil=>rfl
  | cons b y=>cases h
 | cons a x ih=>intro y h; cases y with
  | nil=>cases h
  | cons b y=>
   simp only[hm7,zb] at h;rw[UInt8.toNat_inj.1 (zn h.1),ih y h.2]
def hm9:Nat->IV->IV->Bool
 | 0,_,_=>false
 | n+1,a,b=>match a with
  | .bool x=>match b with
   | .bool y=>match x,y with
    | true,true=>true
    | false,false=>true
    | _,_=>false
   | _=>false
  | .int k x=>match b with
   | .int k' y=>decide (k=k')&&decide (x=y)
   | _=>false
  | .str x=>match b with
   | .str y=>hm7 x y
   | _=>false
  | .af3=>match b with
   | .af3=>true
   | _=>false
  | .ab8 x=>match b with
   | .ab8 y=>db3 (hm9 n) x y
   | _=>false
  | .aa4 x=>match b with
   | .aa4 y=>eh6 (hm9 n) x y
   | _=>false
  | .agg x=>match b with
   | .agg y=>db3 (hm9 n) x y
   | _=>false
  | .tuple x=>match b with
   | .tuple y=>db3 (hm9 n) x y
   | _=>false
  | .iface t x=>match b with
   | .iface t' y=>Nat.beq t t'&&hm9 n x y
   | _=>false
  | .aj4=>match b with
   | .aj4=>true
   | _=>false
  | .ak4=>match b with
   | .ak4=>true
   | _=>false
  | .ac5=>match b with
   | .ac5=>true
   | _=>false
  | .aa1=>match b with
   | .aa1=>true
   | _=>false
  | _=>false
theorem ir7:∀ (n:Nat) (a b:IV),hm9 n a b=true->a=b:=by
 intro n
 induction n with
 | zero=>intro a b h; cases h
 | succ n ih=>
  intro a b h;cases a<;>simp only[hm9] at h<;>(try cases h)<;>split at h<;>(try cases h)<;>(try rfl)
  ·split at h<;>(try cases h)<;>rfl
  ·simp only[zb,decide_eq_true_eq] at h; rw[h.1,h.2]
  ·rw[hm8 _ _ h]
  ·rw[bn1 ih _ _ h]
  ·rw[eh7 ih _ _ h]
  ·simp only[zb] at h; rw[zn h.1,ih _ _ h.2]
  ·rw[bn1 ih _ _ h]
  ·rw[bn1 ih _ _ h]
abbrev jb9:=List (Nat×List IV×IV)
def jb9.get:jb9->Nat->List IV->Option IV
 | [],_,_=>zd
 | (k,as,v)::r,f,args=>match Nat.beq k f with
  | true=>match db3 (hm9 1000) as args with
   | true=>za v
   | false=>jb9.get r f args
  | false=>jb9.get r f args
def MOK (P:Program)(E:Nat->IV)(M:jb9):Prop:=∀ e∈M,okF P e.1=true/\PC P E e.1 e.2.1 e.2.2
theorem MOK.nil:MOK P E []:=fun _ h=>by cases h
theorem MOK.cons {M:jb9}{k:Nat}{as:List IV}{v:IV}(hk:okF P k=true)(h:PC P E k as v)(hM:MOK P E M):MOK P E ((k,as,v)::M):=fun e he=>by
 rcases List.mem_cons.1 he with rfl|he
 ·exact ⟨hk,h⟩
 ·exact hM e he
theorem ir8 {l:List (Nat×List IV)}(h:l.all (fun x=>x.2.all (aw5 1000))=true):∀ g,Bnd 0 (fw8 l g):=by
 intro g;unfold fw8
 cases hg:l.lookup g with
 | none=>exact .undef
 | some cs=>
  have hm:∃ x∈l,x.2=cs:=by
   clear h
   induction l with
   | nil=>cases hg
   | cons x l ih=>
    obtain ⟨a,b⟩:=x;simp only[List.lookup] at hg;split at hg
    ·cases hg; exact ⟨_,ze ..,rfl⟩
    ·obtain ⟨x,h1,h2⟩:=ih hg; exact ⟨x,zc _ h1,h2⟩
  obtain ⟨x,h1,rfl⟩:=hm;exact .ab8 _ fun c hc=>az5 1000 c (zg.1 (zg.1 h x h1) c hc)
end Go.Id
