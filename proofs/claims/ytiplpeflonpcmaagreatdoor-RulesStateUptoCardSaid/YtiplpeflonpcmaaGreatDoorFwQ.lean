/- Loops that go up; rows read by their places; runes of a string; what a yield is told. Conditions: none; over any program. -/
import Derived.Test.YtiplpeflonpcmaaGreatDoorT6
open Option renaming some→za,none→zd
open Bool renaming and_eq_true→zb
open List renaming mem_cons_of_mem→zc,mem_cons_self→ze,getD_eq_getElem?_getD→zf,all_eq_true→zg,getElem?_eq_getElem→zj,getElem?_cons_succ→zk,take_append_drop→zm,getElem?_append→zo,flatten_cons→zp
open Nat renaming lt_of_lt_of_le→zh,add_mul→zi,add_zero→zl,eq_of_beq_eq_true→zn
set_option linter.all false
namespace Go.Id
open Go
variable {P:Program} {E:Nat->IV} {σ σ':Store} {N n0:Nat} {fr:Frm}
def upQ (I:Nat->Frm->Store->Prop)(i n:Nat)(Q:Exit->Frm->Store->Prop):Exit->Frm->Store->Prop
 | .normal,fr,σ=>i<n/\I (i+1) fr σ
 | e,fr,σ=>Q e fr σ
theorem kq7 {I:Nat->Frm->Store->Prop}{i n:Nat}{Q:Exit->Frm->Store->Prop}:upQ I i n Q .normal fr σ=(i<n/\I (i+1) fr σ):=nr rfl
theorem kq8 {I:Nat->Frm->Store->Prop}{i n k:Nat}{Q:Exit->Frm->Store->Prop}:upQ I i n Q (.exit k) fr σ=Q (.exit k) fr σ:=nr rfl
theorem kq9 {I:Nat->Frm->Store->Prop}{i n:Nat}{Q:Exit->Frm->Store->Prop}:upQ I i n Q .ret fr σ=Q .ret fr σ:=nr rfl
theorem ab3 {pt:PT}{ct:CT}(hT:TOK P E pt ct){x:IC}{Q:Exit->Frm->Store->Prop}(I:Nat->Frm->Store->Prop)(n:Nat)(h:I 0 fr σ)
  (hI:∀ i fr σ,i<=n->I i fr σ->wpT pt ct P E N n0 x fr σ (upQ I i n Q)):RI P E N n0 (.loop x) fr σ Q:=by
 refine gk8 (fun m fr σ=>∃ i,i<=n/\m=n-i/\I i fr σ) n ⟨0,Nat.zero_le _,rfl,h⟩ ?_;rintro m fr σ ⟨i,hi,rfl,hi0⟩;refine ce2 x fr σ _ _ ?_ (bi4 hT x fr σ _ (hI i fr σ hi hi0));intro e f s q
 cases e with
 | normal=>exact ⟨n-(i+1),by have:=q.1; omega,i+1,q.1,rfl,q.2⟩
 | _=>exact q
theorem ad6 {α:Type}(es:List α)(i:Nat)(h:i<es.length):∃ a,a∈es/\es[i]? = za a/\es.drop i=a::es.drop (i+1)/\(∀ (f:α->List IV),(es.map f).getD i []=f a)/\es.take (i+1)=es.take i++[a]:=
 ⟨es[i],List.getElem_mem h,zj h,List.drop_eq_getElem_cons h,fun f=>by simp[zf,h],by rw[List.take_add_one,zj h]; rfl⟩
theorem gn5 (s:List UInt8)(i:Nat)(h:i<s.length):((⟨s.toArray⟩:ByteArray).get! i)=s[i]:=by
 show (s.toArray)[i]! = s[i];simp[h]
theorem fr4 (s:List UInt8)(i:Nat)(h:i<s.length)(hb:s[i].toNat<128):Utf8.decode ⟨s.toArray⟩ i=(s[i].toNat,1):=by
 unfold Utf8.decode;simp only[zl,gn5 s i h];rw[if_pos hb]
theorem decode_high (s:List UInt8)(i:Nat)(h:i<s.length)(hb:¬ s[i].toNat<128):128<=(Utf8.decode ⟨s.toArray⟩ i).1:=by
 unfold Utf8.decode;simp only[zl,gn5 s i h];rw[if_neg hb];have e:Utf8.runeError=65533:=rfl
 repeat' split
 all_goals first|(rw[e]; omega)|(simp only[ge_iff_le,zb,decide_eq_true_eq] at *; omega)
def ht6 (P:Program)(E:Nat->IV)(id:Nat)(I:List (List IV)->Store->Prop)(S:Store->Prop):Prop :=
 ∀ a rest σ,I (a::rest) σ->CV P E (.yield id) a σ fun v s=>σ.next<=s.next/\((v=.bool true/\I rest s)\/(v=.bool false/\S s))
end Go.Id
namespace Go.Id
open Go
attribute [go_sem] dn1 dn2 ck5 bt5 dn3 ck6 dn4 ck7 fs7 ji6 fs4 fs5 dn5 ck8 dn6 ck9 cl1 bt6 dn7 w_q cl2
 fs8 fs9 cl3 ft1 cl5 bt7 cl4 dn8 dn9 do1 cl6 bt8 ft2 do2 ft3 do3 cl7 cl8 do4 ft4
 ft5 ft6 ft7 ft8 ft9 fu1 fu2 fu3 fu4 do5 fu5 do6 fu6 do7 cl9 do8 dp3 fu7 ji9 jj1 fu8 fu9 fv1 fv2
 fv3 fv4 fv5 fv6 fv7 fv8 dp4 cm1 bt9 bi5 cm2 bu1 do9 dp1 dp2 cm3 ji7 ji8 bi7 bu5
 cn5 cn6 cn7 cn4 dq8 e_t e_c e_g e_f fv9 dp5 fw1 fw2 fw3 aj2 fw4 dp6 cm4 fw5 cm5 fw6 cm6
 cm7 fw7 dp7 fw8 dp8 fw9 fx1 fx2 fx3 dp9 dq2 ew2 iq6 em1 ew1 cm8 cm9 dq3 dq4 cn1 cn2 jj2
 bu2 dq5 dq6 dq7 bu3 cn3 bi6 bu4 bu6 cn8 bu7 bu8 dq9 dr1 ew3 ew4 cn9 co1
 co2 co3 dr2 dr3 co4 bu9 fx4 fx5 fx6 fx7 fx8 fx9 fy1 fy2 fy3 fy4 fy5 fy6 fy7 dd6 dr4 dr5
 dr6 dr7 dr8 dr9 ds2 ds4 ds5 jp2 jp3 jp4 jp5 bo1 bm2 co5 co6 co7 ds6 ds7 ds8 ds9 fy8 fy9 dt1 fz1
 co8 co9 cp1 fz4 bq5 iq7 dt8 cp3 cp4 bv1 bo9 ce3 fz2 cw7 bv2 fz3 cw8 bv3 bv4 cp5
 cp6 cp7 cp8 bv5 cp9 cq1 bv6 bi8 bc8 bv7 cq2 bv8 dt2 dt3 dt4 cq3 bv9
 cq4 cq5 bw1 bi9 bc9 bw2 cq6 bw3 dt5 dt6 dt7 Frm.bt3 Frm.get_nil ab2 aa5 kq7 kq8
 kq9 ew2 iq6 em1 ew1 ke9 jp1 
attribute [go_sem] List.getElem?_cons_zero zk List.all_cons List.all_nil List.drop_zero List.drop_succ_cons List.head?_cons Bool.and_true Bool.and_self List.append_nil List.nil_append List.cons_append Bool.false_eq_true Bool.xor_false Bool.xor_true Bool.not_true Bool.not_false zl Nat.zero_add Nat.succ_ne_zero if_true if_false true_and and_true
end Go.Id
namespace Go.Id
open Go
variable {P:Program} {E:Nat->IV} {σ σ':Store} {N n0:Nat} {fr:Frm} {pf:List Nat}
theorem ba5 {f:Nat}{ic:IC}{irs:List IR}{args:List IV}{v:IV}(hf:FOK P f (N,ic,irs))(hl:args.length<=N)
  (h:∀ σ,wpT noP noC P E N σ.next ic (bm1 args 0) σ (gp4 irs fun v' σ'=>v'=v/\σ'=σ)):PC P E f args v:=by
 obtain ⟨_,pf,an,h1⟩:=hf;exact kt5 noT h1 hl h
theorem C_f {f:Nat}{ic:IC}{irs:List IR}{args:List IV}{Qc:IV->Store->Prop}(hf:FOK P f (N,ic,irs))(hl:args.length<=N)
  (h:wpT noP noC P E N σ.next ic (bm1 args 0) σ (gp4 irs Qc)):C P E f args σ Qc:=by
 obtain ⟨_,pf,an,h1⟩:=hf;exact C_T noT h1 hl h
def emp:Store:=⟨0,fun _=>zd⟩
theorem ht8:emp.next=0:=nr rfl
theorem iw8 {i:Nat}:emp.obj i=zd:=nr rfl
attribute [go_sem] ht8 iw8
theorem ae6 {f:Nat}{ic:IC}{irs:List IR}{args:List IV}{v:IV}(hE:∀ g,Bnd 0 (E g))(hf:FOK P f (N,ic,irs))(hl:args.length<=N)(ha:∀ a∈args,Bnd 0 a)
  (h:wpT noP noC P E N 0 ic (bm1 args 0) emp (gp4 irs fun v' σ'=>cu4 σ' 0 v' v)):PC P E f args v :=
 fg6 hE ha (C_f (σ:=emp) hf hl h)
theorem aa3 {f:Nat}{e:FE}{args:List IV}{v:IV}{K:IV->Store->Prop}(hf:FOK P f e)(h:PC P E f args v)(hk:K v σ):dd5 P E zd f args σ K :=
 an2 hf.1 (em3 h) fun _ _ ⟨h1,h2⟩=>by subst h1; subst h2; exact ⟨Nat.le_refl _,hk⟩
theorem ac5 {f:Nat}{e:FE}{args:List IV}{Qc:IV->Store->Prop}{K:IV->Store->Prop}(hf:FOK P f e)(h:C P E f args σ Qc)(hk:∀ v s,Qc v s->σ.next<=s.next/\K v s):dd5 P E zd f args σ K :=
 an2 hf.1 h hk
theorem ab4 {S:Nat->Prop}(b:Bool):Frz σ S (.bool b) (.bool b):=.keep _ (.bool _)
theorem af2 {S:Nat->Prop}(k:IntKind)(n:Int):Frz σ S (.int k n) (.int k n):=.keep _ (.int _ _)
theorem bl7 {S:Nat->Prop}(s:List UInt8):Frz σ S (.str s) (.str s):=.keep _ (.str _)
theorem ip6 {ρ:Rho}{w:World}{v:IV}{rargs:Array Value}(h:CR ρ w [v] rargs):VR ρ w v (rargs.getD 0 undef):=by
 have:=h.2 0 (Nat.zero_lt_one)
 simpa using this
theorem ff9 {ρ:Rho}{w:World}{u v:IV}{rargs:Array Value}(h:CR ρ w [u] rargs)(hv:VR ρ w v (rargs.getD 0 undef)):CR ρ w [v] rargs :=
 ⟨h.1,fun i hi=>by
  have:i=0:=by simp at hi; omega
  subst this
  simpa using hv⟩
theorem bq1 {f:Nat}{v:IV}(h1:PC P E f [.aa1] v)(h2:PC P E f [.af7] v):PC P E f [.aa4 []] v:=by
 intro σ ρ w rargs hs hr;have hv:=ip6 hr;generalize hx:rargs.getD 0 undef=r at hv
 cases hv with
 | ch5=>exact h1 σ ρ w rargs hs (ff9 hr (by rw[hx]; exact .aa1))
 | aa4 es b o cap esz sp vs hf hsz hc hv hle=>exact h2 σ ρ w rargs hs (ff9 hr (by rw[hx]; exact .af7 _ _))
theorem ad1 {i:Nat}(h:i<2^62):IntKind.i64.wrap ((i:Int)+1)=((i+1:Nat):Int):=by
 rw[wrap64 (by omega) (by omega)]; omega
theorem iw9 {cs:List IV}:au4 cs []=za cs:=by simp only[au4]
theorem ix1 {cs:List IV}{off n:Nat}{v:IV}{ps:List (Nat×Nat×IV)}:au4 cs ((off,n,v)::ps)=if v.cs.length=n/\off+n<=cs.length/\v.cs.all IV.leaf=true then au4 (bb3 cs off v.cs) ps else zd:=by simp only[au4]
theorem jl6 {c:IV}{cs:List IV}{vs:List IV}:bb3 (c::cs) 0 vs=vs++(c::cs).drop vs.length:=by simp[bb3]
theorem jl7 {c:IV}{cs vs:List IV}{n:Nat}:bb3 (c::cs) (n+1) vs=c::bb3 cs n vs:=by simp[bb3,Nat.add_right_comm]
theorem jl8 {d:TypeId}{a:List IV}{as:List (List IV)}:cb6 (.slice d) (.aa4 (a::as))=za false:=nr rfl
theorem jl9 {d:TypeId}:cb6 (.slice d) .aa1=za true:=nr rfl
theorem jm1 {d:TypeId}:cb6 (.slice d) .af7=za false:=nr rfl
theorem jm2 {d:TypeId}:cb6 (.slice d) .ac6=za false:=nr rfl
theorem jm3 {d:TypeId}{i o l e:Nat}:cb6 (.slice d) (.slice i o l e)=za false:=nr rfl
theorem am5 {d:TypeId}:cb6 (.pointer d) .ad5=za true:=nr rfl
theorem ix2 {d:TypeId}{cs:List IV}:cb6 (.pointer d) (.ab9 cs)=za false:=nr rfl
theorem ix3 {d:TypeId}{i o:Nat}:cb6 (.pointer d) (.ptr i o)=za false:=nr rfl
theorem ht9 {e:Nat}{l:List IV}:chunk e 0 l=[]:=nr rfl
theorem hu4 {e n:Nat}{l:List IV}:chunk e (n+1) l=l.take e::chunk e n (l.drop e):=nr rfl
theorem jm4 {z:List IV}:rep z 0=[]:=nr rfl
theorem jm5 {z:List IV}{n:Nat}:rep z (n+1)=z++rep z n:=nr rfl
theorem ix4 {off:Nat}{cs:List IV}:bh7 zd off cs=cs[off]?:=nr rfl
theorem ix5 {off n:Nat}{cs:List IV}:bh7 (za n) off cs=if off+n<=cs.length then za (.agg ((cs.drop off).take n)) else zd:=nr rfl
theorem jm6 {ag:Option Nat}{off:Nat}{cs:List IV}:jh9 ag off (.agg cs)=bh7 ag off cs:=nr rfl
theorem jm7 {ag:Option Nat}{n esz:Nat}{cs:List IV}{k:IntKind}{i:Int}:iu7 ag n esz (.agg cs) (.int k i)=if 0<=i/\i<n then bh7 ag (i.toNat*esz) cs else zd:=nr rfl
theorem hu5 {n esz:Nat}{v:IV}{k:IntKind}{i:Int}:dl7 n esz v (.int k i)=if 0<=i/\i<n then cv9 (i.toNat*esz) v else zd:=nr rfl
theorem cj5 {s:List UInt8}{k:IntKind}{i:Int}:ei1 (.str s) (.int k i)=if 0<=i then (s[i.toNat]?).map fun b=>.int .u8 b.toNat else zd:=nr rfl
theorem ip7 {tags:List Nat}{neg:Bool}{xs ys:List IV}:io4 tags true neg (.agg xs) (.agg ys)=(allEq tags xs ys).map fun b=>.bool (b ^^ neg):=nr rfl
theorem ip8:allEq [] [] []=za true:=nr rfl
def kb1:Option Bool->Option Bool->Option Bool
 | some a,za b=>za (a&&b)
 | _,_=>zd
theorem jm8 {a b:Bool}:kb1 (za a) (za b)=za (a&&b):=nr rfl
theorem ip9 {t:Nat}{ts:List Nat}{x y:IV}{xs ys:List IV}:allEq (t::ts) (x::xs) (y::ys)=kb1 (ak4 t x y) (allEq ts xs ys):=by
 simp only[allEq]; cases ak4 t x y<;>cases allEq ts xs ys<;>rfl
theorem jm9 {k:IntKind}{a b:Int}:ak4 1 (.int k a) (.int k b)=za (decide (a=b)):=by simp[ak4]
theorem jn1 {a b:List UInt8}:ak4 2 (.str a) (.str b)=za (decide (a=b)):=nr rfl
theorem dm6 {a b:List UInt8}:ao3 2 (.str a) (.str b)=za (decide (a=b)):=nr rfl
theorem jn2 {a b:Bool}:ak4 0 (.bool a) (.bool b)=za (a==b):=nr rfl
attribute [go_sem] ip7 ip8 ip9 jm8 jn2 jm9 jn1
attribute [go_sem] iw9 ix1 jl6 jl7 jl8 jl9 jm1 jm2 jm3 am5 ix2 ix3 ht9 hu4 jm4 jm5 ix4 ix5 jm6 jm7 hu5 cj5
attribute [go_sem] Bool.true_or Bool.or_true Bool.false_or Bool.or_false Bool.true_and Bool.false_and Bool.and_false
attribute [go_sem] List.length_cons List.length_nil List.take_succ_cons List.take_zero List.length_map Int.toNat_natCast
end Go.Id
namespace Go.Id
open Go
variable {P:Program} {E:Nat->IV} {σ σ':Store} {N n0:Nat} {fr:Frm}
def jy6 (I:List (List IV)->Store->Prop):Prop:=∀ rest s s',I rest s->s.next<=s'.next->(∀ i,i<s.next->s'.obj i=s.obj i)->I rest s'
def jn3 (n:Nat)(I:List (List IV)->Store->Prop)(S:Store->Prop):IV->Store->Prop:=fun _ s=>n<=s.next/\(I [] s\/S s)
def fg1 (P:Program)(E:Nat->IV)(fv:IV)(evs:List (List IV))(own:Store->Prop):Prop :=
 ∀ (yid:Nat) (I:List (List IV)->Store->Prop) (S:Store->Prop) (σ:Store),(∀ rest s,I rest s->own s)->jy6 I->ht6 P E yid I S->I evs σ->CVf P E fv [.yield yid] σ (jn3 σ.next I S)
def ki2 (P:Program)(E:Nat->IV)(N n0:Nat)(id:Nat)(L:LoopState->Option JX->aj5)(x:IC)(K:IV->Store->Prop):Exit->Frm->Store->Prop
 | .normal,f,s=>s.obj id=za (L .ready zd)/\wpT noP noC P E N n0 x f (s.put id (L .busy zd)) (db7 id L K)
 | _,_,_=>False
theorem kb2 {id:Nat}{L:LoopState->Option JX->aj5}{x:IC}{K:IV->Store->Prop}:ki2 P E N n0 id L x K .normal fr σ=(σ.obj id=za (L .ready zd)/\wpT noP noC P E N n0 x fr (σ.put id (L .busy zd)) (db7 id L K)):=nr rfl
theorem kb3 {id:Nat}{L:LoopState->Option JX->aj5}{K:IV->Store->Prop}:db7 id L K .normal fr σ=(σ.obj id=za (L .busy zd)/\K (.bool true) (σ.put id (L .ready zd))):=nr rfl
theorem kb4 {id:Nat}{L:LoopState->Option JX->aj5}{K:IV->Store->Prop}:db7 id L K .ret fr σ=(σ.obj id=za (L .busy zd)/\K (.bool false) (σ.put id (L .done (za .ret)))):=nr rfl
theorem kb5 {id i:Nat}{L:LoopState->Option JX->aj5}{K:IV->Store->Prop}:db7 id L K (.exit i) fr σ=(σ.obj id=za (L .busy zd)/\K (.bool false) (σ.put id (L .done (za (.exit i))))):=nr rfl
theorem ix6:dk6 fr [] []=fr:=nr rfl
theorem ix7 {p:Nat}{ps:List Nat}{v:IV}{vs:List IV}:dk6 fr (p::ps) (v::vs)=dk6 (fr.set p v) ps vs:=nr rfl
theorem kb6 {p:Nat}{v:IV}:fr.set p v=(p,v)::fr:=nr rfl
def goQ (id n:Nat)(L:LoopState->Option JX->aj5)(J:List (List IV)->Store->Prop)(Q:Exit->Frm->Store->Prop)(fr:Frm)(rest:List (List IV)):IV->Store->Prop:=fun v s=>
 n<=s.next/\((v=.bool true/\s.obj id=za (L .ready zd)/\J rest s)\/(v=.bool false/\∃ st pend,st≠.busy/\s.obj id=za (L st pend)/\iw4 Q fr (s.kill id) pend))
theorem ev1 {id n:Nat}{L:LoopState->Option JX->aj5}{J:List (List IV)->Store->Prop}{Q:Exit->Frm->Store->Prop}{rest:List (List IV)}(h1:n<=σ.next)(h2:σ.obj id=za (L .ready zd))(h3:J rest σ):goQ id n L J Q fr rest (.bool true) σ:=⟨h1,.inl ⟨rfl,h2,h3⟩⟩
theorem dc7 {id n:Nat}{L:LoopState->Option JX->aj5}{J:List (List IV)->Store->Prop}{Q:Exit->Frm->Store->Prop}{rest:List (List IV)}(h1:n<=σ.next)(h2:σ.obj id=za (L .done (za .ret)))(h3:Q .ret fr (σ.kill id)):goQ id n L J Q fr rest (.bool false) σ:=⟨h1,.inr ⟨rfl,.done,za .ret,(fun h=>by cases h),h2,h3⟩⟩
theorem ea6 {g:IX}{ps:List Nat}{y x:IC}{Q:Exit->Frm->Store->Prop}{evs:List (List IV)}{own:Store->Prop}(hT:fg1 P E (g.ev E fr) evs own)
  (J:List (List IV)->Store->Prop) (hown:∀ rest s,J rest s->own s) (hstab:jy6 J) (hlen:∀ a∈evs,a.length=ps.length)
  (hinit:∀ o,J evs ⟨σ.next+1,(σ.put σ.next o).obj⟩)
  (hbody:∀ (L:LoopState->Option JX->aj5) (pre:List (List IV)) (a:List IV) (rest:List (List IV)) (s:Store),evs=pre++a::rest->J (a::rest) s->s.obj σ.next=za (L .ready zd)->σ.next<s.next ->
   wpT noP noC P E N s.next y (dk6 fr ps a) s (ki2 P E N s.next σ.next L x (goQ σ.next s.next L J Q fr rest)))
  (hend:∀ s o,J [] s->σ.next<s.next->s.obj σ.next=za o->Q .normal fr (s.kill σ.next)) :
  RI P E N n0 (.by1 g ps y x) fr σ Q:=by
 refine hq7 fun L hL=>?_
 let I:List (List IV)->Store->Prop:=fun rest s=>(∃ pre,evs=pre++rest)/\s.obj σ.next=za (L .ready zd)/\σ.next<s.next/\J rest s
 let S:Store->Prop:=fun s=>∃ st pend,st≠.busy/\s.obj σ.next=za (L st pend)/\iw4 Q fr (s.kill σ.next) pend
 have hI:jy6 I:=by
  rintro rest s s' ⟨hp,h1,h2,h3⟩ hn hs;exact ⟨hp,by rw[hs _ h2]; exact h1,zh h2 hn,hstab rest s s' h3 hn hs⟩
 have hst:ht6 P E σ.next I S:=by
  rintro a rest s ⟨⟨pre,hp⟩,h1,h2,h3⟩;refine ⟨by rw[h1]; rfl,?_⟩;have hb:=hbody L pre a rest s hp h3 h1 h2;refine hL s a _ (hlen a (by rw[hp]; simp)) h1 ?_;refine (bp6 y _ _ _ (ce2 y _ _ _ _ ?_ (bi4 noT y _ _ _ hb)));intro e f s1 q
  cases e with
  | normal=>
   refine ⟨rfl,q.1,?_⟩;refine (bp6 x _ _ _ (ce2 x _ _ _ _ ?_ (bi4 noT x _ _ _ q.2)))
   have hK:∀ v s2,goQ σ.next s.next L J Q fr rest v s2->s.next<=s2.next/\((v=.bool true/\I rest s2)\/(v=.bool false/\S s2)):=by
    rintro v s2 ⟨hn,h|h⟩
    ·exact ⟨hn,.inl ⟨h.1,⟨pre++[a],by rw[hp]; simp⟩,h.2.1,zh h2 hn,h.2.2⟩⟩
    ·exact ⟨hn,.inr ⟨h.1,h.2⟩⟩
   intro e f s2 q2
   cases e with
   | normal=>exact ⟨q2.1,hK _ _ q2.2⟩
   | ret=>exact ⟨q2.1,hK _ _ q2.2⟩
   | exit i=>exact ⟨q2.1,hK _ _ q2.2⟩
   | _=>exact q2
  | _=>exact q.elim
 have h:=hT σ.next I S ⟨σ.next+1,(σ.put σ.next (L .ready zd)).obj⟩ (fun rest s h=>hown rest s h.2.2.2) hI hst ⟨⟨[],rfl⟩,by simp only[aa5,if_true],Nat.lt_succ_self _,hinit _⟩;refine h.mono ?_;rintro v s ⟨hn,h|h⟩
 ·exact ⟨Nat.le_of_lt hn,.ready,zd,(fun h=>by cases h),h.2.1,hend s _ h.2.2.2 h.2.2.1 h.2.1⟩
 ·exact ⟨Nat.le_of_lt hn,h⟩
theorem cw4 {yid:Nat}{I:List (List IV)->Store->Prop}{S:Store->Prop}{a:List IV}{rest:List (List IV)}{K:IV->Store->Prop}(h:ht6 P E yid I S)(hi:I (a::rest) σ)
  (h1:∀ s,σ.next<=s.next->I rest s->K (.bool true) s) (h2:∀ s,σ.next<=s.next->S s->K (.bool false) s):gp5 noC P E (.yield yid) a σ K:=by
 refine ⟨_,h a rest σ hi,?_⟩;rintro v s ⟨hn,⟨rfl,h⟩|⟨rfl,h⟩⟩
 ·exact ⟨hn,h1 s hn h⟩
 ·exact ⟨hn,h2 s hn h⟩
theorem gn6 {i:Nat}:(σ.kill i).next=σ.next:=nr rfl
theorem hu6 {i j:Nat}:(σ.kill i).obj j=if j=i then zd else σ.obj j:=nr rfl
attribute [go_sem] gn6 hu6
attribute [go_sem] kb2 kb3 kb4 kb5 ix6 ix7 kb6
end Go.Id
namespace Go.Id
open Go
variable {P:Program} {E:Nat->IV} {σ σ':Store} {N n0:Nat} {fr:Frm}
def kb7 (σ:Store):IV->Prop
 | .ab9 _=>True
 | .ptr i _=>match σ.obj i with
  | some (.cells _)=>True
  | _=>False
 | _=>False
def ki3:Option aj5->Prop
 | some (.cells _)=>True
 | _=>False
theorem jn4 {ag:Option Nat}{x:IX}:cb8 E fr σ (.q (.load ag x))=kb7 σ (x.ev E fr):=nr rfl
theorem b_t {cs:List IV}:kb7 σ (.ab9 cs)=True:=nr rfl
theorem b_p {i o:Nat}:kb7 σ (.ptr i o)=ki3 (σ.obj i):=nr rfl
theorem b_o {cs:List IV}:ki3 (za (.cells cs))=True:=nr rfl
theorem kb8 {x:IX}:cb8 E fr σ (.q (.mov x))=True:=nr rfl
theorem ix8 {n:Nat}{x:IX}:cb8 E fr σ (.q (.bg6 n x))=True:=nr rfl
theorem jn5 {x:IX}:cb8 E fr σ (.q (.io5 x))=True:=nr rfl
theorem kb9 {n:Nat}{x:IX}:cb8 E fr σ (.q (.len n x))=True:=nr rfl
theorem kc1 {n:Nat}{z:IV}{b:Bool}{x y:IX}:cb8 E fr σ (.q (.lkp n z b x y))=True:=nr rfl
theorem kc2 {z:List IV}{ps:List (Nat×Nat×IX)}:cb8 E fr σ (.q (.bld z ps))=True:=nr rfl
theorem kc3 {op:BinOp}{x y:IX}:cb8 E fr σ (.q (.bin op x y))=True:=nr rfl
theorem ix9 {n:Nat}{x y:IX}:cb8 E fr σ (.q (.ej6 n x y))=True:=nr rfl
theorem jn6 {k:IntKind}{x:IX}:cb8 E fr σ (.q (.conv k x))=True:=nr rfl
theorem kc4 {n:Nat}{x:IX}:cb8 E fr σ (.q (.ext n x))=True:=nr rfl
theorem jn7 {x y z:IX}:cb8 E fr σ (.q (.pick x y z))=True:=nr rfl
theorem kc5 {x:IX}:cb8 E fr σ (.q (.not x))=True:=nr rfl
theorem iy1 {f:Nat}{xs:List IX}:cb8 E fr σ (.bb6 f xs)=True:=nr rfl
theorem jn8 {e n:Nat}{z:List IV}{ps:List (Nat×Nat×IX)}:cb8 E fr σ (.an5 e n z ps)=True:=nr rfl
theorem kc6 {e n:Nat}{z:List IV}{ps:List (Nat×Nat×IX)}:cb8 E fr σ (.bsl e n z ps)=True:=nr rfl
theorem kc7 {e:Nat}{x y:IX}:cb8 E fr σ (.app e x y)=True:=nr rfl
theorem iy2 {n:Nat}{x y:IX}:cb8 E fr σ (.store n x y)=True:=nr rfl
theorem jn9 {n:Nat}{x y z:IX}:cb8 E fr σ (.ch7 n x y z)=True:=nr rfl
theorem iy3 {z:List IV}:cb8 E fr σ (.alloc z)=True:=nr rfl
attribute [go_sem] jn4 b_t b_p b_o kb8 ix8 jn5 kb9 kc1 kc2 kc3 ix9 jn6 kc4 jn7 kc5 iy1 jn8 kc6 kc7 iy2 jn9 iy3
def Grow (σ:Store)(v:IV)(esz:Nat)(es:List (List IV)):Prop :=
 (v=.aa1/\es=[])\/∃ id,v=.slice id 0 es.length esz/\σ.obj id=za (.row es.flatten)/\id<σ.next
def ae7 (v:IV)(σ:Store):Store:=match v with
 | .slice id _ _ _=>σ.kill id
 | _=>σ
theorem at6 {esz:Nat}{es:List (List IV)}(h:∀ e∈es,e.length=esz):es.flatten.length=es.length*esz:=by
 induction es with
 | nil=>simp
 | cons e es ih=>simp[ih (fun x hx=>h x (zc _ hx)),h e (ze ..),zi]; omega
theorem gn7 {esz:Nat}{es:List (List IV)}(h:∀ e∈es,e.length=esz)(i j:Nat)(hi:i<es.length)(hj:j<esz):es.flatten.getD (i*esz+j) .undef=(es.getD i []).getD j .undef:=by
 induction es generalizing i with
 | nil=>simp at hi
 | cons e es ih=>
  have he:=h e (ze ..)
  cases i with
  | zero=>simp[zf,zo,he,hj]
  | succ i=>
   have h1:¬ ((i+1)*esz+j<e.length):=by rw[he,zi]; omega
   have h2:(i+1)*esz+j-e.length=i*esz+j:=by rw[he,zi]; omega
   have:=ih (fun x hx=>h x (zc _ hx)) i (by simpa using hi);simp only[zf,zp,zo,if_neg h1,h2,zk] at this ⊢;exact this
theorem cd4 {es:List (List IV)}(h:∀ e∈es,e.all IV.leaf=true):es.flatten.all IV.leaf=true:=by
 simp only[zg,List.mem_flatten];rintro c ⟨e,he,hc⟩;exact zg.1 (h e he) c hc
theorem aj8 {v:IV}{esz nid:Nat}{es:List (List IV)}{e:List IV}(hg:Grow σ v esz es)(h:∀ x∈es,x.length=esz/\x.all IV.leaf=true)(he:e.length=esz/\e.all IV.leaf=true)(hn:es.length<2147483648) :
  be9 σ nid esz v (.aa4 [e])=za (.slice nid 0 (es.length+1) esz,(ae7 v σ).put nid (.row (es++[e]).flatten)):=by
 have hsrc:ci8 σ esz (.aa4 [e])=za (1,e):=by simp[ci8,he.1]
 have hl:e.all IV.leaf=true:=he.2;rcases hg with ⟨rfl,rfl⟩|⟨id,rfl,ho,hid⟩
 ·unfold be9;rw[hsrc];simp[hl,ae7]
 ·unfold be9;rw[hsrc];have h1:es.flatten.all IV.leaf=true:=cd4 fun x hx=>(h x hx).2
  have h2:es.flatten.length=es.length*esz:=at6 fun x hx=>(h x hx).1
  simp[hl,ho,ae7,h1,h2];omega
theorem Grow.new {v:IV}{esz nid:Nat}{es:List (List IV)}{e:List IV}(hlt:nid<σ'.next)(ho:σ'.obj nid=za (.row (es++[e]).flatten)):Grow σ' (.slice nid 0 (es.length+1) esz) esz (es++[e]):=
 .inr ⟨nid,by simp,ho,hlt⟩
theorem ac2 (v:IV):(ae7 v σ).next=σ.next:=by cases v<;>rfl
theorem af8 {v:IV}{esz:Nat}{es:List (List IV)}(hg:Grow σ v esz es)(i:Nat)(o:aj5)(ho:σ.obj i=za o)(hr:∀ cs,o≠.row cs):(ae7 v σ).obj i=za o:=by
 rcases hg with ⟨rfl,rfl⟩|⟨id,rfl,ho',hid⟩
 ·exact ho
 ·show (if i=id then zd else σ.obj i)=za o;rw[if_neg]
  ·exact ho
  ·intro e; subst e; rw[ho] at ho'; cases ho'; exact hr _ rfl
theorem Grow.frz {S:Nat->Prop}{v:IV}{esz:Nat}{es:List (List IV)}(hg:Grow σ v esz es)(h:∀ x∈es,x.length=esz)(hS:∀ id,v=.slice id 0 es.length esz->¬ S id)(hb:∀ e∈es,∀ c∈e,Nm S c):Frz σ S v (.aa4 es):=by
 rcases hg with ⟨rfl,rfl⟩|⟨id,rfl,ho,hid⟩
 ·exact .ch6
 ·refine .slice id 0 es.length esz es.flatten es (hS id rfl) (.inr ho) rfl (by rw[at6 h]; omega) (fun i hi=>h _ (ad2 _ hi)) (fun i hi j hj=>?_);rw[Nat.zero_add,gn7 h i j hi hj];exact .keep _ (hb _ (ad2 _ hi) _ (ad2 _ (by rw[h _ (ad2 _ hi)]; exact hj)))
theorem Grow.mono {v:IV}{esz:Nat}{es:List (List IV)}(hg:Grow σ v esz es)(hn:σ.next<=σ'.next)(h:∀ id,v=.slice id 0 es.length esz->id<σ.next->σ'.obj id=σ.obj id):Grow σ' v esz es:=by
 rcases hg with h0|⟨id,rfl,ho,hid⟩
 ·exact .inl h0
 ·exact .inr ⟨id,rfl,by rw[h id rfl hid]; exact ho,zh hid hn⟩
theorem Grow.ne {v:IV}{esz id:Nat}{es:List (List IV)}{i:Nat}{o:aj5}(hg:Grow σ v esz es)(hv:v=.slice id 0 es.length esz)(ho:σ.obj i=za o)(hr:∀ cs,o≠.row cs):id≠i:=by
 intro e;subst e;rcases hg with ⟨rfl,_⟩|⟨id',rfl,ho',_⟩
 ·cases hv
 ·cases hv;rw[ho] at ho';cases ho';exact hr _ rfl
theorem cj6 {did esz nid:Nat}{es:List (List IV)}(ho:σ.obj did=za (.row []))(hne:es≠[])(h:∀ x∈es,x.length=esz/\x.all IV.leaf=true)(hn:es.length<=2147483648) :
  be9 σ nid esz (.slice did 0 0 esz) (.aa4 es)=za (.slice nid 0 es.length esz,(σ.kill did).put nid (.row es.flatten)):=by
 have hsrc:ci8 σ esz (.aa4 es)=za (es.length,es.flatten):=by
  simp only[ci8];rw[if_pos (by simpa using fun x hx=>(h x hx).1)]
 have h1:es.flatten.all IV.leaf=true:=cd4 fun x hx=>(h x hx).2
 have h0:es.length≠0:=fun e=>hne (List.length_eq_zero_iff.1 e)
 unfold be9;rw[hsrc];simp[h1,ho,h0,hn]
theorem bl8 {did esz nid:Nat}{x:IV}(ho:σ.obj did=za (.row []))(hx:ci8 σ esz x=za (0,[])):be9 σ nid esz (.slice did 0 0 esz) x=za (.slice did 0 0 esz,σ):=by
 unfold be9;rw[hx];simp[ho]
theorem aw3 {esz:Nat}{es:List (List IV)}(h:∀ e∈es,e.length=esz)(j:Nat)(hj:j<es.length):(es.flatten.drop (j*esz)).take esz=es.getD j []:=by
 induction es generalizing j with
 | nil=>simp at hj
 | cons e es ih=>
  have he:=h e (ze ..)
  cases j with
  | zero=>simp[he]
  | succ j=>
   have h2:(j+1)*esz=e.length+j*esz:=by rw[he,zi]; omega
   rw[zp,h2,List.drop_append,List.drop_of_length_le (by omega),List.nil_append,show e.length+j*esz-e.length=j*esz from by omega];exact ih (fun x hx=>h x (zc _ hx)) j (by simpa using hj)
theorem bi2 {l vs:List IV}{off:Nat}(h:(l.drop off).take vs.length=vs)(hl:off+vs.length<=l.length):bb3 l off vs=l:=by
 unfold bb3
 have h1:l.drop off=vs++l.drop (off+vs.length):=by
  rw[<- List.drop_drop]
  conv=>lhs; rw[<- zm vs.length (l.drop off)]
  rw[h]
 rw[List.append_assoc,<- h1,zm]
theorem fg2 {f:Nat}{Q:IV->Store->Prop}(h1:C P E f [.aa1] σ Q)(h2:C P E f [.af7] σ Q):C P E f [.aa4 []] σ Q:=by
 intro ρ w rargs hs hr;have hv:=ip6 hr;generalize hx:rargs.getD 0 undef=r at hv
 cases hv with
 | ch5=>exact h1 ρ w rargs hs (ff9 hr (by rw[hx]; exact .aa1))
 | aa4 es b o cap esz sp vs hf hsz hc hv hle=>exact h2 ρ w rargs hs (ff9 hr (by rw[hx]; exact .af7 _ _))
inductive hu7 (σ:Store) (S:Nat->Prop):List IV->List IV->Prop
 | nil:hu7 σ S [] []
 | cons {v v':IV} {vs vs':List IV} (h:Frz σ S v v') (t:hu7 σ S vs vs'):hu7 σ S (v::vs) (v'::vs')
theorem hu7.at {S:Nat->Prop}{cs cs':List IV}(h:hu7 σ S cs cs'):cs'.length=cs.length/\∀ i,i<cs.length->Frz σ S (cs.getD i .undef) (cs'.getD i .undef):=by
 induction h with
 | nil=>exact ⟨rfl,fun i hi=>absurd hi (Nat.not_lt_zero _)⟩
 | cons h _ ih=>
  refine ⟨by simp only[List.length_cons,ih.1],fun i hi=>?_⟩
  cases i with
  | zero=>exact h
  | succ i=>exact ih.2 i (by simpa using hi)
theorem Frz.jy7 {S:Nat->Prop}{cs cs':List IV}(h:hu7 σ S cs cs'):Frz σ S (.agg cs) (.agg cs'):=.agg _ _ h.at.1 h.at.2
theorem Frz.by5 {S:Nat->Prop}{cs cs':List IV}(h:hu7 σ S cs cs'):Frz σ S (.tuple cs) (.tuple cs'):=.tuple _ _ h.at.1 h.at.2
theorem kr1:((0:Nat):Int)=0:=nr rfl
theorem kr2:((1:Nat):Int)=1:=nr rfl
theorem kr3:((2:Nat):Int)=2:=nr rfl
theorem kr4:((3:Nat):Int)=3:=nr rfl
theorem kr5:((4:Nat):Int)=4:=nr rfl
theorem kr6:((5:Nat):Int)=5:=nr rfl
theorem kr7:((6:Nat):Int)=6:=nr rfl
theorem kr8:((7:Nat):Int)=7:=nr rfl
theorem kr9:((8:Nat):Int)=8:=nr rfl
theorem ks1:((9:Nat):Int)=9:=nr rfl
theorem kc8:((10:Nat):Int)=10:=nr rfl
theorem kc9:((11:Nat):Int)=11:=nr rfl
theorem kd1:((12:Nat):Int)=12:=nr rfl
theorem kd2:((13:Nat):Int)=13:=nr rfl
theorem kd3:((14:Nat):Int)=14:=nr rfl
theorem kd4:((15:Nat):Int)=15:=nr rfl
theorem kd5:((16:Nat):Int)=16:=nr rfl
attribute [go_sem] kr1 kr2 kr3 kr4 kr5 kr6 kr7 kr8 kr9 ks1 kc8 kc9 kd1 kd2 kd3 kd4 kd5 List.getD_cons_zero List.getD_cons_succ
theorem ks2:IntKind.i64.wrap 0=0:=nr rfl
theorem ks3:IntKind.i64.wrap 1=1:=nr rfl
theorem ks4:IntKind.i64.wrap 2=2:=nr rfl
theorem ks5:IntKind.i64.wrap 3=3:=nr rfl
theorem ks6:IntKind.i64.wrap 4=4:=nr rfl
theorem ks7:IntKind.i64.wrap 5=5:=nr rfl
theorem ks8:IntKind.i64.wrap 6=6:=nr rfl
theorem ks9:IntKind.i64.wrap 7=7:=nr rfl
theorem kt1:IntKind.i64.wrap 8=8:=nr rfl
theorem kt2:IntKind.i64.wrap 9=9:=nr rfl
theorem kd6:IntKind.i64.wrap 10=10:=nr rfl
theorem kd7:IntKind.i64.wrap 11=11:=nr rfl
theorem kd8:IntKind.i64.wrap 12=12:=nr rfl
theorem kd9:IntKind.i64.wrap 13=13:=nr rfl
theorem ke1:IntKind.i64.wrap 14=14:=nr rfl
theorem ke2:IntKind.i64.wrap 15=15:=nr rfl
theorem ke3:IntKind.i64.wrap 16=16:=nr rfl
attribute [go_sem] ks2 ks3 ks4 ks5 ks6 ks7 ks8 ks9 kt1 kt2 kd6 kd7 kd8 kd9 ke1 ke2 ke3
theorem jo1 {ag:Option Nat}{n m:Nat}:irL σ fr [.cell ag n,.t m]=(az4 σ ag (fr.get n)).map fun v=>[v,fr.get m]:=by
 simp only[irL,irV]; cases az4 σ ag (fr.get n)<;>rfl
attribute [go_sem] jo1 aj2
end Go.Id
namespace Go.Id
open Go
variable {P:Program} {E:Nat->IV}
def dc8 (r:IV->IV->Bool):List IV->List IV->Bool
 | [],[]=>true
 | a::x,b::y=>r a b&&dc8 r x y
 | _,_=>false
theorem bl9 {r:IV->IV->Bool}(hr:∀ a b,r a b=true->a=b):∀ x y:List IV,dc8 r x y=true->x=y:=by
 intro x
 induction x with
 | nil=>intro y h; cases y with
  | nil=>rfl
  | cons b y=>cases h
 | cons a x ih=>intro y h; cases y with
  | nil=>cases h
  | cons b y=>
   simp only[dc8,zb] at h;rw[hr a b h.1,ih y h.2]
def ek9 (r:IV->IV->Bool):List (List IV)->List (List IV)->Bool
 | [],[]=>true
 | a::x,b::y=>dc8 r a b&&ek9 r x y
 | _,_=>false
theorem el1 {r:IV->IV->Bool}(hr:∀ a b,r a b=true->a=b):∀ x y:List (List IV),ek9 r x y=true->x=y:=by
 intro x
 induction x with
 | nil=>intro y h; cases y with
  | nil=>rfl
  | cons b y=>cases h
 | cons a x ih=>intro y h; cases y with
  | nil=>cases h
  | cons b y=>
   simp only[ek9,zb] at h;rw[bl9 hr a b h.1,ih y h.2]
def hu8:List UInt8->List UInt8->Bool
 | [],[]=>true
 | a::x,b::y=>Nat.beq a.toNat b.toNat&&hu8 x y
 | _,_=>false
theorem hu9:∀ x y:List UInt8,hu8 x y=true->x=y:=by
 intro x
 induction x with
 | nil=>intro y h; cases y with
  | nil=>rfl
  | cons b y=>cases h
 | cons a x ih=>intro y h; cases y with
  | nil=>cases h
  | cons b y=>
   simp only[hu8,zb] at h;rw[UInt8.toNat_inj.1 (zn h.1),ih y h.2]
def hv8:Nat->IV->IV->Bool
 | 0,_,_=>false
 | n+1,a,b=>match a with
  | .bool x=>match b with
   | .bool y=>match x,y with
    | true,true=>true
    | false,false=>true
    | _,_=>false
   | _=>false
  | .int k x=>match b with
   | .int k' y=>decide (k=k')&&decide (x=y)
   | _=>false
  | .str x=>match b with
   | .str y=>hu8 x y
   | _=>false
  | .ad5=>match b with
   | .ad5=>true
   | _=>false
  | .ab9 x=>match b with
   | .ab9 y=>dc8 (hv8 n) x y
   | _=>false
  | .aa4 x=>match b with
   | .aa4 y=>ek9 (hv8 n) x y
   | _=>false
  | .agg x=>match b with
   | .agg y=>dc8 (hv8 n) x y
   | _=>false
  | .tuple x=>match b with
   | .tuple y=>dc8 (hv8 n) x y
   | _=>false
  | .iface t x=>match b with
   | .iface t' y=>Nat.beq t t'&&hv8 n x y
   | _=>false
  | .ah8=>match b with
   | .ah8=>true
   | _=>false
  | .ai4=>match b with
   | .ai4=>true
   | _=>false
  | .ac1=>match b with
   | .ac1=>true
   | _=>false
  | .aa1=>match b with
   | .aa1=>true
   | _=>false
  | _=>false
theorem iy4:∀ (n:Nat) (a b:IV),hv8 n a b=true->a=b:=by
 intro n
 induction n with
 | zero=>intro a b h; cases h
 | succ n ih=>
  intro a b h;cases a<;>simp only[hv8] at h<;>(try cases h)<;>split at h<;>(try cases h)<;>(try rfl)
  ·split at h<;>(try cases h)<;>rfl
  ·simp only[zb,decide_eq_true_eq] at h; rw[h.1,h.2]
  ·rw[hu9 _ _ h]
  ·rw[bl9 ih _ _ h]
  ·rw[el1 ih _ _ h]
  ·simp only[zb] at h; rw[zn h.1,ih _ _ h.2]
  ·rw[bl9 ih _ _ h]
  ·rw[bl9 ih _ _ h]
abbrev ji3:=List (Nat×List IV×IV)
def ji3.get:ji3->Nat->List IV->Option IV
 | [],_,_=>zd
 | (k,as,v)::r,f,args=>match Nat.beq k f with
  | true=>match dc8 (hv8 1000) as args with
   | true=>za v
   | false=>ji3.get r f args
  | false=>ji3.get r f args
def MOK (P:Program)(E:Nat->IV)(M:ji3):Prop:=∀ e∈M,okF P e.1=true/\PC P E e.1 e.2.1 e.2.2
theorem MOK.nil:MOK P E []:=fun _ h=>by cases h
theorem MOK.cons {M:ji3}{k:Nat}{as:List IV}{v:IV}(hk:okF P k=true)(h:PC P E k as v)(hM:MOK P E M):MOK P E ((k,as,v)::M):=fun e he=>by
 rcases List.mem_cons.1 he with rfl|he
 ·exact ⟨hk,h⟩
 ·exact hM e he
theorem iy5 {l:List (Nat×List IV)}(h:l.all (fun x=>x.2.all (au6 1000))=true):∀ g,Bnd 0 (fz9 l g):=by
 intro g;unfold fz9
 cases hg:l.lookup g with
 | none=>exact .undef
 | some cs=>
  have hm:∃ x∈l,x.2=cs:=by
   clear h
   induction l with
   | nil=>cases hg
   | cons x l ih=>
    obtain ⟨a,b⟩:=x;simp only[List.lookup] at hg;split at hg
    ·cases hg; exact ⟨_,ze ..,rfl⟩
    ·obtain ⟨x,h1,h2⟩:=ih hg; exact ⟨x,zc _ h1,h2⟩
  obtain ⟨x,h1,rfl⟩:=hm;exact .ab9 _ fun c hc=>ay2 1000 c (zg.1 (zg.1 h x h1) c hc)
end Go.Id
