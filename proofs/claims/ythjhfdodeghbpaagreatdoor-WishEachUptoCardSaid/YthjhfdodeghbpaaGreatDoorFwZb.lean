/- Codes by computation: which slots are kept behind each region is worked out here,and need not be written. Conditions: none; over any program. -/
import Derived.Test.YthjhfdodeghbpaaGreatDoorFwRo
import Derived.Test.YthjhfdodeghbpaaGreatDoorT6
import Derived.Test.YthjhfdodeghbpaaGreatDoorFwQ
import Derived.Shelf.Sort.Plain
import Derived.Shelf.Slices.In.SortNone
import Derived.SizedLaws
open Option renaming some→za,none→zi
open Bool renaming and_eq_true→zb
open List renaming length_map→zc,getD_eq_getElem?_getD→zf,mem_cons→zg,length_eq_zero_iff→zh,getElem?_map→zk
open Nat renaming le_refl→zd,not_lt_zero→ze,lt_of_lt_of_le→zj
set_option linter.all false
namespace Go.Id
open Go
def bX:IX->Nat
 | .t n=>(1 <<< n)
 | _=>0
def bXs:List IX->Nat
 | []=>0
 | x::l=>((bX x) ||| (bXs l))
def bPs:List (Nat×Nat×IX)->Nat
 | []=>0
 | x::l=>((bX x.2.2) ||| (bPs l))
def bO:Option IX->Nat
 | some x=>bX x
 | none=>0
def bQ:IQ->Nat
 | .mov x|.not x|.neg x|.fu6 _ _ x|.conv _ x|.gp4 x|.len _ x|.ev1 _ x|.fld _ _ x|.slz x|.ext _ x|.load _ x|.jt8 x|.ldt _ x=>bX x
 | .bin _ x y|.eqs _ _ _ x y|.ev2 _ x y|.fu7 _ _ x y|.idx _ _ _ x y|.jt6 x y|.mm _ x y|.lkp _ _ _ x y|.ibs x y=>((bX x) ||| (bX y))
 | .pick c a b=>((bX c) ||| (((bX a) ||| (bX b))))
 | .slc _ x lo hi=>((bX x) ||| (((bO lo) ||| (bO hi))))
 | .jt7 x lo hi=>((bX x) ||| (((bO lo) ||| (bO hi))))
 | .mkf _ a b=>((bXs a) ||| (bXs b))
 | .bld _ ps=>bPs ps
 | .clp _ x lo hi mx=>((((bX x) ||| (bX lo))) ||| (((bX hi) ||| (bX mx))))
def bK:IK->Nat
 | .q q=>bQ q
 | .alloc _|.dc4=>0
 | .box x|.bq1 x|.dj8 x|.el4 x|.bo5 x|.dc5 x|.gu4 x|.dn3 _ _ x|.clr _ _ x=>bX x
 | .bsl _ _ _ ps|.eb1 _ _ _ ps=>bPs ps
 | .store _ x y|.app _ x y=>((bX x) ||| (bX y))
 | .gl8 _ x k v=>((bX x) ||| (((bX k) ||| (bX v))))
 | .call _ l|.bo9 _ l|.st _ l=>bXs l
 | .dj9 x l|.ay6 x l=>((bX x) ||| (bXs l))
def kw2 (o:af1)(l:Nat):Nat :=
 ((bK o.op) ||| (((match o.guard with|some g=>(1 <<< g.1)|none=>0) ||| (match o.dst with|some d=>(l-((l &&& ((1 <<< d)))))|none=>l))))
def je6:List af1->Nat->Nat
 | [],l=>l
 | o::os,l=>kw2 o (je6 os l)
def kw3:List YO->Nat->Nat
 | [],l=>l
 | o::os,l=>kw2 o.2.1 (kw3 os l)
def atE:List (Nat×Nat)->Nat->Nat
 | [],_=>0
 | e::es,i=>match Nat.beq e.1 i with
  | true=>e.2
  | false=>atE es i
def orE:List (Nat×Nat)->Nat
 | []=>0
 | e::es=>(e.2 ||| (orE es))
def bNs:List Nat->Nat
 | []=>0
 | n::l=>(((1 <<< n)) ||| (bNs l))
def lvO:IC->Nat->List (Nat×Nat)->Nat->Nat
 | .skip,o,_,_=>o
 | .reg _ ops _,o,_,_=>je6 ops o
 | .ib9 _ ops _ _,o,_,_=>je6 ops o
 | .iy5 _ ops _,o,_,_=>kw3 ops o
 | .seq a b,o,ex,rt=>lvO a (lvO b o ex rt) ex rt
 | .cond x a b,o,ex,rt=>((bX x) ||| (((lvO a o ex rt) ||| (lvO b o ex rt))))
 | .block i a,o,ex,rt=>lvO a o ((i,o)::ex) rt
 | .loop a,_,ex,rt=>lvO a 0 ex rt
 | .exit i,_,ex,_=>atE ex i
 | .ret,_,_,rt=>rt
 | .bz6 g ps asg a,o,ex,rt=>
  let b:=lvO asg (lvO a 0 [] 0) [] 0
  ((bX g) ||| ((((b-((b &&& (bNs ps))))) ||| ((o ||| ((rt ||| (orE ex))))))))
 | .scope a,o,ex,rt=>lvO a o ex rt
def jv9:Nat->Nat->List Nat->List Nat
 | 0,_,acc=>acc
 | f+1,l,acc=>match l with
  | 0=>acc
  | l+1=>jv9 f (((l+1)-((1 <<< (Nat.log2 (l+1)))))) (Nat.log2 (l+1)::acc)
def bits (l:Nat):List Nat:=jv9 400 l []
def lvI:IC->Nat->List (Nat×Nat)->Nat->IC
 | .skip,_,_,_=>.skip
 | .reg i ops _,o,_,_=>.reg i ops (bits o)
 | .ib9 i ops B _,o,_,_=>.ib9 i ops B (bits o)
 | .iy5 i ops _,o,_,_=>.iy5 i ops (bits o)
 | .seq a b,o,ex,rt=>.seq (lvI a (lvO b o ex rt) ex rt) (lvI b o ex rt)
 | .cond x a b,o,ex,rt=>.cond x (lvI a o ex rt) (lvI b o ex rt)
 | .block i a,o,ex,rt=>.block i (lvI a o ((i,o)::ex) rt)
 | .loop a,_,ex,rt=>.loop (lvI a (lvO a 0 ex rt) ex rt)
 | .exit i,_,_,_=>.exit i
 | .ret,_,_,_=>.ret
 | .bz6 g ps asg a,_,_,_=>.bz6 g ps (lvI asg (lvO a 0 [] 0) [] 0) (lvI a 0 [] 0)
 | .scope a,o,ex,rt=>.scope (lvI a o ex rt)
def bRs:List IR->Nat
 | []=>0
 | .t n::l=>(((1 <<< n)) ||| (bRs l))
 | .cell _ n::l=>(((1 <<< n)) ||| (bRs l))
def km8 (P:Program)(fn:Func)(pf:List Nat)(N:Nat)(rs:List IR):IC:=match fn.body.bind (bh9 P pf N []) with
 | some ic=>lvI ic (bRs rs) [] (bRs rs)
 | none=>.skip
variable {P:Program}
def jt9:List Nat:=List.range 500
def cj (P:Program)(fn:Func)(pf:List Nat):Option IC:=match ex4 { P with cutTypes:=#[] } fn.results.toList with
 | some rs=>za (km8 { P with cutTypes:=#[] } fn pf fn.ntmps rs)
 | none=>zi
def ev (P:Program)(a:Func)(pf:List Nat){c:IC}(_:cj P a pf=za c:=by conv=>lhs;reduce):IC:=c
def u8l {n:Nat}{h:n<2^8}:UInt8.ofBitVec (BitVec.ofFin ⟨n,h⟩)=UInt8.ofNat n:=by
 apply UInt8.toNat_inj.1;show n=n%2^8;exact (Nat.mod_eq_of_lt h).symm
attribute [go_sem] ev u8l Int.reduceOfNat Int.reduceNegSucc UInt8.reduceOfNat
def fo (pf:List Nat)(a:IC){f N:Nat}{b:Func}{c:List IR}(h:P.funcs[f]? = za b)(d:okF P f=true:=by kernel_rfl)(e:b.ntmps=N:=by conv=>lhs;reduce)
  (hc:b.body.bind (bh9 P pf N (dd2 a))=za a:=by kernel_rfl)
  (hr:ex4 P b.results.toList=za c:=by conv=>lhs;reduce):FOK P f (N,a,c):=
 .mk (pf:=pf) (an:=dd2 a) d (ji8 h e hc hr)
end Go.Id
namespace Go.Id
open Go
noncomputable section
variable {E:Nat->IV} {fr:Frm}
end
end Go.Id
namespace Go.Id
open Go
variable {P:Program} {E:Nat->IV} {σ σ':Store} {N n0:Nat} {fr:Frm}
def ij3 (P:Program)(E:Nat->IV)(N n0:Nat)(b:IC)(Q:Exit->Frm->Store->Prop):Exit->Frm->Store->Prop
 | .normal,fr,σ=>RI P E N n0 b fr σ Q
 | e,fr,σ=>Q e fr σ
def kr7 {b:IC}{Q:Exit->Frm->Store->Prop}:ij3 P E N n0 b Q .normal fr σ=RI P E N n0 b fr σ Q:=nr rfl
def kr8 {b:IC}{Q:Exit->Frm->Store->Prop}:ij3 P E N n0 b Q .ret fr σ=Q .ret fr σ:=nr rfl
def kr9 {b:IC}{i:Nat}{Q:Exit->Frm->Store->Prop}:ij3 P E N n0 b Q (.exit i) fr σ=Q (.exit i) fr σ:=nr rfl
attribute [go_sem] kr7 kr8 kr9
def ac4 {x:IC}{Q:Exit->Frm->Store->Prop}(h:wpT noP noC P E N n0 x fr σ Q):RI P E N n0 x fr σ Q:=bp7 x fr σ Q (bj2 noT x fr σ Q h)
def ab7 {a b:IC}{Q:Exit->Frm->Store->Prop}(h:RI P E N n0 a fr σ (ij3 P E N n0 b Q)):RI P E N n0 (.seq a b) fr σ Q:=by
 intro pf an c hc
 cases c with
 | seq x y=>
  simp only[bh9] at hc;split at hc
  .rename_i k j i d;cases hc;refine jw2 ((h pf an x i).mono ?_);intro e f s q
   cases e with
   | normal=>exact q pf an y d
   | _=>exact q
  .cases hc
 | region id ops draw=>
  exfalso;simp only[bh9] at hc;split at hc
  .cases hc
  .split at hc<;>first|(cases hc;done)|(split at hc<;>cases hc)
  .cases hc
 | cond c a b=>simp only[bh9] at hc;split at hc<;>cases hc
 | block id a=>have⟨_,_,h⟩:=map_some hc;cases h
 | scope a=>have⟨_,_,h⟩:=map_some hc;cases h
 | loop a=>have⟨_,_,h⟩:=map_some hc;cases h
 | rangeFunc g ps a b=>
  simp only[bh9] at hc;split at hc
  .split at hc<;>cases hc
  .cases hc
 | _=>cases hc
def eb4 {f:Nat}{g:IC}{a:List IR}{args:List IV}{i:IV->Store->Prop}(hf:FOK P f (N,g,a))(m:args.length<=N)
  (h:RI P E N σ.next g (bm7 args 0) σ (gv2 a i)):C P E f args σ i:=by
 have⟨_,pf,an,r,p,o,b,n⟩:=hf
 cases d:r.body with
 | none=>rw[d] at b;cases b
 | some c=>
  rw[d] at b;refine jz9 p d o m ((h pf an c b).mono ?_);intro e fr' σ' q;have q:=dn6 q;cases e<;>first|(have⟨vs,k,j⟩:=q;exact ⟨vs,by rw[iz3 _ _ n];exact k,j⟩)|exact q
def ks1 {f:Nat}{ic:IC}{irs:List IR}{args:List IV}{v:IV}(hE:∀g,Bnd 0 (E g))(hf:FOK P f (N,ic,irs))(hl:args.length<=N)(ha:∀a∈args,Bnd 0 a)
  (h:RI P E N 0 ic (bm7 args 0) emp (gv2 irs λv' σ'=>cc3 σ' 0 v' v)):PC P E f args v :=
 fj3 hE ha (eb4 (σ:=emp) hf hl h)
def fx5 {S:Nat->Bool}:(σ.kills S).next=σ.next:=nr rfl
def el7 {S:Nat->Bool}{i:Nat}:(σ.kills S).obj i=if S i=true then σ.obj i else zi:=nr rfl
attribute [go_sem] fx5 el7
def ex3 {f:Nat}{args args':List IV}{v:IV}(a:args'.length=args.length)(b:∀σ i,i<args.length->Frz σ (λ_=>true=true) (args.getD i .undef) (args'.getD i .undef))(h:PC P E f args' v):PC P E f args v:=λσ=>
 fj4 (S:=λ_=>true) a (b σ) (h σ)
end Go.Id
namespace Go.Id
open Go
variable {P:Program} {E:Nat->IV} {σ σ':Store} {N n0:Nat} {fr:Frm}
end Go.Id
namespace Go.Id
open Go
def ea1 {P:Program}{E:Nat->IV}{N n0:Nat}{fr:Frm}{σ:Store}{x:IC}{Q:Exit->Frm->Store->Prop}(I:Nat->Frm->Store->Prop)(n:Nat)(h:I 0 fr σ)
  (b:∀i fr σ,i<=n->I i fr σ->RI P E N n0 x fr σ (upQ I i n Q)):RI P E N n0 (.loop x) fr σ Q:=by
 refine cx9 (λm fr σ=>∃i,i<=n/\m=n-i/\I i fr σ) n ⟨0,Nat.zero_le _,rfl,h⟩ ?_;rintro m fr σ ⟨i,hi,rfl,a⟩;refine ak9 (b i fr σ hi a) ?_;intro e f s q
 cases e with
 | normal=>exact ⟨n-(i+1),by have:=q.1;omega,i+1,q.1,rfl,q.2⟩
 | _=>exact q
section
def gr4 {s:Store}{v:IV}{esz nid:Nat}{es xs:List (List IV)}(n:Grow s v esz es)(h:∀x∈es,x.length=esz/\x.all IV.leaf=true)(k:∀x∈xs,x.length=esz/\x.all IV.leaf=true)(o:es.length+xs.length<=2147483648) :
  (xs=[]/\bb4 s nid esz v (.aa2 xs)=za (v,s))\/bb4 s nid esz v (.aa2 xs)=za (.slice nid 0 (es.length+xs.length) esz,(ad4 v s).put nid (.row (es++xs).flatten)):=by
 have a:bz5 s esz (.aa2 xs)=za (xs.length,xs.flatten):=by
  have p:xs.all (λe=>e.length==esz)=true:=List.all_eq_true.2 λx b=>by rw[(k x b).1];simp
  simp only[bz5,p,if_true]
 have m:xs.flatten.all IV.leaf=true:=be3 λx b=>(k x b).2
 have g:es.flatten.all IV.leaf=true:=be3 λx b=>(h x b).2
 have j:es.flatten.length=es.length*esz:=bc1 λx b=>(h x b).1
 have f:xs.length<=2147483648:=by omega
 by_cases h0:xs.length=0
 .have c:xs=[]:=zh.1 h0;subst c;refine .inl ⟨rfl,?_⟩;unfold bb4;rw[a];rcases n with ⟨rfl,rfl⟩|⟨id,rfl,d,i⟩
  .simp
  .simp[d]
 .refine .inr ?_;unfold bb4;rw[a];rcases n with ⟨rfl,rfl⟩|⟨id,rfl,d,i⟩
  .simp[m,h0,f,ad4]
  .simp[m,d,h0,j,g,o,ad4]
def ej6 {s:Store}{v:IV}{esz nid:Nat}{es xs:List (List IV)}(c:Grow s v esz es)(h:∀x∈es,x.length=esz/\x.all IV.leaf=true)(f:∀x∈xs,x.length=esz/\x.all IV.leaf=true)(j:es.length+xs.length<=2147483648)(a:nid<s.next) :
  ∃b s',bb4 s nid esz v (.aa2 xs)=za (b,s')/\s'.next=s.next/\Grow s' b esz (es++xs)/\(∀i,i≠nid->(∀k,v≠.slice i 0 k esz)->s'.obj i=s.obj i)/\(b=v\/b=.slice nid 0 (es.length+xs.length) esz):=by
 rcases gr4 (nid:=nid) c h f j with ⟨rfl,d⟩|d
 .exact ⟨v,s,d,rfl,by rw[List.append_nil];exact c,λ_ _ _=>rfl,.inl rfl⟩
 .refine ⟨_,_,d,by rw[aa7,ac1],.inr ⟨nid,by rw[List.length_append],by rw[aa3,if_pos rfl],by rw[aa7,ac1];exact a⟩,λi hi g=>?_,.inr rfl⟩;rw[aa3,if_neg hi];rcases c with ⟨rfl,_⟩|⟨id,rfl,_,_⟩
  .rfl
  .show (if i=id then zi else s.obj i)=_;rw[if_neg λe=>g _ (by rw[e])]
end
variable {P:Program} {E:Nat->IV} {σ σ':Store} {N n0:Nat} {fr:Frm}
def gt1 (P:Program)(E:Nat->IV)(base:Nat):List YO->Frm->Store->(Frm->Store->Prop)->Prop
 | [],fr,σ,K=>K fr σ
 | (i,o,m)::rest,fr,σ,K=>(m=0/\o.guard=zi)/\opT noP noC P E o.op (base+i) fr σ λv σ'=>gt1 P E base rest (fr.ba3 o.dst v) σ' K
def jx1 (P:Program)(E:Nat->IV)(base:Nat)(rest:List YO)(d:Option Nat)(fr:Frm)(K:Frm->Store->Prop):IV->Store->Prop:=λv σ'=>gt1 P E base rest (fr.ba3 d v) σ' K
variable {base i:Nat} {Kf:Frm->Store->Prop} {d:Option Nat} {rest:List YO}
def ky9:gt1 P E base [] fr σ Kf=Kf fr σ:=nr rfl
def kz1 {d:Nat}(v:IV):jx1 P E base rest (za d) fr Kf v σ=gt1 P E base rest ((d,v)::fr) σ Kf:=nr rfl
def kn6 (v:IV):jx1 P E base rest zi fr Kf v σ=gt1 P E base rest fr σ Kf:=nr rfl
def kn7:List.length ([]:List YO)=0:=nr rfl
def kn8 {y:YO}:List.length (y::rest)=rest.length+1:=nr rfl
attribute [go_sem] ky9  kz1 kn6 kn7 kn8
end Go.Id
namespace Go.Id
open Go Go.Sort
variable {P:Program} {w w':World} {ρ ρ':Rho} {E:Nat->IV} {σ:Store}
def dc6 (n k:Nat):Ext n ρ w ρ (Sort.ahead w k):=⟨zd _,λ_ _=>rfl,λ_ r _ _ h=>⟨r,h,rfl⟩,λi B d h=>.inl ⟨i,d,h⟩,λ_ _ _ h=>.inl h,λ_ h=>h,λ_ _ h=>h,rfl,rfl,rfl,λ_ L h=>⟨L,h⟩,rfl⟩
def gu8 (hs:Sim E ρ w σ)(k:Nat):Sim E ρ (Sort.ahead w k) σ :=
 ⟨hs.inj,hs.lt,λi B d h=>let ⟨o,h1,h2⟩:=hs.obj i B d h;⟨o,h1,h2.mono (dc6 0 k) rfl⟩,hs.dead,hs.fresh,hs.aw6,λg=>(hs.env g).mono (dc6 0 k),hs.nx,hs.xlt⟩
def eb3 (w:World)(a:Array Obj){b:Nat}(h:b<w.heap.size):(Sort.grow w a).heap[b]? = w.heap[b]?:=by
 show (w.heap++a)[b]? = _;rw[Array.getElem?_append_left h]
def gu9 {b:Nat}{o:Obj}(h:w.heap[b]? = za o):b<w.heap.size:=(Array.getElem?_eq_some_iff.1 h).1
def cd9 (n:Nat)(a:Array Obj):Ext n ρ w ρ (Sort.grow w a):=
 ⟨by show _<=(w.heap++a).size;simp,λb h=>eb3 w a h.1,λb r el b h=>⟨r,by rw[eb3 w a (gu9 h)];exact h,rfl⟩,λi B d h=>.inl ⟨i,d,h⟩,λ_ _ _ h=>.inl h,λ_ h=>h,λ_ _ h=>h,rfl,rfl,rfl,λl L h=>⟨L,by rw[eb3 w a (gu9 h)];exact h⟩,rfl⟩
def ij2 (hs:Sim E ρ w σ)(a:Array Obj):Sim E ρ (Sort.grow w a) σ :=
 ⟨hs.inj,λi B d h=>zj (hs.lt i B d h) (cd9 (ρ:=ρ) 0 a).size,λi B d h=>let ⟨o,h1,h2⟩:=hs.obj i B d h;⟨o,h1,h2.mono (cd9 0 a) (eb3 w a (hs.lt i B d h))⟩,hs.dead,hs.fresh,hs.aw6,λg=>(hs.env g).mono (cd9 0 a),hs.nx,λb h=>zj (hs.xlt b h) (cd9 (ρ:=ρ) (w:=w) 0 a).size⟩
def putRow_set {b:Type}[Inhabited b](enc:b->Value)(w:World)(B off:Nat)(d:Array b){a:Array Value}{el:TypeId}{e:Nat×Nat}(h:w.heap[B]? = za (.cells a el e)) :
  Sort.putRow enc w B off d=w.setRow B (Sort.putCells enc off d a):=by
 unfold Sort.putRow Sort.mapBlock World.setRow;congr 1;apply Array.ext_getElem?;intro k;simp only[Array.getElem?_modify];by_cases c:B=k
 .subst c;simp only[if_true,h,Option.map_some,Sort.onCells]
 .simp[c]
def ji5 {t:Type}[Inhabited t]{enc:t->Value}{en:t->IV}{srt:List t->List t}{f:Nat}
  (hv:∀(ρ:Rho) (w:World) (x:t),VR ρ w (en x) (enc x)) (L:∀(ρ:Rho) (w:World) (x:t) (r:Value),VR ρ w (en x) r->r=enc x)
  (hl:∀l,(srt l).length=l.length) (h0:srt []=[])
  (hk:∀(z off cap:Nat) (zs:List t) (w:World),Sort.Holds enc w z off zs.toArray->z<w.heap.size->zs.length<4611686018427387904->Calls P f #[.slice (za ⟨z,off,zi⟩) zs.length cap] w λe w'=>
   e=.returned (.tuple #[])/\∃n Q,w'=Sort.grow (Sort.putRow enc (Sort.ahead w n) z off (srt zs).toArray) Q)
  (hn:∀(p:Option Addr) (cap:Nat) (w:World),Calls P f #[.slice p 0 cap] w λe w'=>e=.returned (.tuple #[])/\w'=w)
  {id:Nat} {zs:List t} (hz:zs.length<4611686018427387904) (S:σ.obj id=za (.row (zs.map en))) :
  C P E f [.slice id 0 zs.length 1] σ λv s=>v=.tuple []/\s=σ.put id (.row ((srt zs).map en)):=by
 intro ρ w F hs hr;obtain ⟨X,W⟩:=hr;have c:=W 0 (by simp);obtain ⟨al⟩:=F
 match al,X,c with
 | [r],_,c=>
  have c:VR ρ w (.slice id 0 zs.length 1) r:=c
  have g:∀(p:Option Addr) (cap:Nat),r=.slice p 0 cap->zs.length=0->CallsIn Fence.wide 0 P f #[r] w λe w'=>∃v r ρ' σ',e=.returned r/\(v=IV.tuple []/\σ'=σ.put id (.row ((srt zs).map en)))/\Sim E ρ' w' σ'/\VR ρ' w' v r/\bh8 σ.next ρ w ρ' w':=by
   intro p cap er b;have b:zs=[]:=zh.1 b;subst b;rw[er];refine callsIn_wide.2 ((hn p cap w).mono ?_);rintro e w' ⟨rfl,rfl⟩
   have J:σ.put id (.row (([]:List t).map en))=σ:=by
    unfold Store.put;congr 1;funext i;by_cases h:i=id
    .subst h;simpa using S.symm
    .simp[h]
   exact ⟨.tuple [],_,ρ,σ,rfl,⟨rfl,by rw[h0];exact J.symm⟩,hs,.tuple [] #[] rfl (λi hi=>by simp at hi),bh8.refl _ _ _⟩
  by_cases b:zs.length=0
  .rw[b] at c
   cases c with
   | slice _ _ _ _ B d cap rcs el fz hid hb hsz hle=>exact g _ _ rfl b
   | am9 _ _ _ B d a hid=>exact g _ _ rfl b
   | am3 _ _ _ _ cap ad hid hle=>exact g _ _ rfl b
  .obtain ⟨m,Y⟩:∃m,m=zs.length:=⟨_,rfl⟩;rw[<- Y] at c
   cases c with
   | slice _ _ _ _ B d cap rcs el fz hid hb hsz hle=>
    subst Y;obtain ⟨o,h1,h2⟩:=hs.obj id B d hid;rw[S] at h1;cases h1;obtain ⟨aa,ae,M,A,I⟩:=h2;rw[hb] at M;cases M;rw[zc] at A I
    have H:∀j (h:j<zs.length),rcs[d+j]? = za (enc zs[j]):=λj h=>by
     have:=I j h;have e1:(zs.map en).getD j .undef=en zs[j]:=by simp[zf,h]
     rw[e1] at this;have:=L _ _ _ _ this;have u:d+j<rcs.size:=by omega
     rw[ae3 _ _ _ u] at this;rw[Array.getElem?_eq_getElem u,this]
    have hH:Sort.Holds enc w B (d+0) zs.toArray:=λj hj=>by
     have ac:j<zs.length:=by simpa using hj
     refine ⟨?_,?_⟩
     .simp only[World.cell?,hb,Option.isSome_none,Bool.false_eq_true,if_false,Nat.add_zero];rw[H j ac];congr 2;rw[getElem!_pos _ j hj];simp
     .simp[World.frozen?,hb]
    refine callsIn_wide.2 ((hk B (d+0) cap zs w hH (hs.lt id B d hid) hz).mono ?_);rintro e w' ⟨rfl,n,Q,rfl⟩;have y:(Sort.ahead w n).heap[B]? = za (.cells rcs el (0,0)):=hb;rw[putRow_set enc _ B _ _ y];have U:=gu8 hs n;generalize D:Sort.putCells enc (d+0) (srt zs).toArray rcs=new;have q:new.size=rcs.size:=by rw[<- D];simp[Sort.putCells]
    have T:∀m,Ext m ρ (Sort.ahead w n) ρ ((Sort.ahead w n).setRow B new):=λm=>az2 (n:=m) (new:=new) hid y q
    have V:Sim E ρ ((Sort.ahead w n).setRow B new) (σ.put id (.row ((srt zs).map en))):=by
     refine bs7 U hid y q ⟨new,el,setRow_heap _ B rcs new el (0,0) y,?_,λk K=>?_⟩
     .rw[q,zc,hl];exact A
     .rw[zc,hl] at K;have u:d+k<rcs.size:=by omega
      have ab:k<(srt zs).length:=by rw[hl];exact K
      have e1:((srt zs).map en).getD k .undef=en (srt zs)[k]:=by simp[zf,ab]
      have e2:new.getD (d+k) undef=enc (srt zs)[k]:=by
       rw[<- D];rw[ae3 _ _ _ (by simpa [Sort.putCells] using u)];have c1:d+0<=d+k/\d+k<d+0+(srt zs).toArray.size:=by simp;omega
       simp only[Sort.putCells,Array.getElem_mapIdx,c1,and_self,if_true];congr 1;rw[getElem!_pos _ _ (by simp;omega)];simp
      rw[e1,e2];exact hv _ _ _
    exact ⟨.tuple [],_,ρ,_,rfl,⟨rfl,rfl⟩,ij2 V Q,.tuple [] #[] rfl (λi hi=>by simp at hi),(((dc6 σ.next n).trans (T σ.next) (zd _)).trans (cd9 σ.next Q) (zd _)).weak (zd _)⟩
   | am9=>exact absurd Y.symm b
   | am3 _ _ _ _ cap ad hid hle=>rw[hs.dead id hid] at S;cases S
end Go.Id
namespace Go.Id
open Go
variable {P:Program} {E:Nat->IV} {σ σ':Store}
def ij4 (f:IV->IV->Bool):List (IV×IV)->List (IV×IV)->Bool
 | [],y=>match y with
  | []=>true
  | _=>false
 | a::aZ,y=>match y with
  | b::bs=>f a.1 b.1&&f a.2 b.2&&ij4 f aZ bs
  | _=>false
def ij5 {f:IV->IV->Bool}(hf:∀a b,f a b=true->a=b):∀x y,ij4 f x y=true->x=y:=by
 intro x
 induction x with
 | nil=>intro y h;cases y with
  | nil=>rfl
  | cons b y=>cases h
 | cons a x ih=>intro y h;cases y with
  | nil=>cases h
  | cons b y=>
   have⟨a1,a2⟩:=a;have⟨e,c⟩:=b;simp only[ij4,zb] at h;rw[hf _ _ h.1.1,hf _ _ h.1.2,ih y h.2]
def el8:Nat->IV->IV->Bool
 | 0,_,_=>false
 | n+1,a,b=>match a with
  | .am2 x=>match b with
   | .am2 y=>ij4 (el8 n) x y
   | _=>false
  | .ab5 x=>match b with
   | .ab5 y=>dc2 (el8 n) x y
   | _=>false
  | .aa2 x=>match b with
   | .aa2 y=>ek4 (el8 n) x y
   | _=>false
  | .agg x=>match b with
   | .agg y=>dc2 (el8 n) x y
   | _=>false
  | .tuple x=>match b with
   | .tuple y=>dc2 (el8 n) x y
   | _=>false
  | a=>ii4 (n+1) a b
def ij6:∀(n:Nat) (a b:IV),el8 n a b=true->a=b:=by
 intro n
 induction n with
 | zero=>intro a b h;cases h
 | succ n ih=>
  intro a b h
  cases a with
  | am2 x=>cases b with
   | am2 y=>rw[ij5 ih _ _ h]
   | _=>cases h
  | ab5 x=>cases b with
   | ab5 y=>rw[bm6 ih _ _ h]
   | _=>cases h
  | aa2 x=>cases b with
   | aa2 y=>rw[ek5 ih _ _ h]
   | _=>cases h
  | agg x=>cases b with
   | agg y=>rw[bm6 ih _ _ h]
   | _=>cases h
  | tuple x=>cases b with
   | tuple y=>rw[bm6 ih _ _ h]
   | _=>cases h
  | _=>exact ji1 (n+1) _ _ h
def wkL (f:IV->IV->Bool):List IV->List IV->Bool
 | [],y=>match y with
  | []=>true
  | _=>false
 | a::aZ,y=>match y with
  | b::bs=>f a b&&wkL f aZ bs
  | _=>false
def bg2 {f:IV->IV->Bool}:∀x y,wkL f x y=true->y.length=x.length/\∀i,i<x.length->f (x.getD i .undef) (y.getD i .undef)=true:=by
 intro x
 induction x with
 | nil=>intro y h;cases y with
  | nil=>exact ⟨rfl,λi hi=>absurd hi (ze _)⟩
  | cons b y=>cases h
 | cons a x ih=>intro y h;cases y with
  | nil=>cases h
  | cons b y=>
   simp only[wkL,zb] at h;have⟨e,c⟩:=ih y h.2;refine ⟨by simp[e],λi hi=>?_⟩
   cases i with
   | zero=>exact h.1
   | succ i=>exact c i (by simpa using hi)
def wkR (f:IV->IV->Bool):List (List IV)->List (List IV)->Bool
 | [],y=>match y with
  | []=>true
  | _=>false
 | a::aZ,y=>match y with
  | b::bs=>wkL f a b&&wkR f aZ bs
  | _=>false
def ij7 {f:IV->IV->Bool}:∀x y,wkR f x y=true->y.length=x.length/\∀i,i<x.length->wkL f (x.getD i []) (y.getD i [])=true:=by
 intro x
 induction x with
 | nil=>intro y h;cases y with
  | nil=>exact ⟨rfl,λi hi=>absurd hi (ze _)⟩
  | cons b y=>cases h
 | cons a x ih=>intro y h;cases y with
  | nil=>cases h
  | cons b y=>
   simp only[wkR,zb] at h;have⟨e,c⟩:=ih y h.2;refine ⟨by simp[e],λi hi=>?_⟩
   cases i with
   | zero=>exact h.1
   | succ i=>exact c i (by simpa using hi)
def wkB:Nat->IV->IV->Bool
 | 0,_,_=>false
 | n+1,a,b=>match a with
  | .aa5=>match b with
   | .aa2 y=>match y with
    | []=>true
    | _=>false
   | .aa5=>true
   | _=>false
  | .aa2 x=>match b with
   | .aa2 y=>wkR (wkB n) x y
   | _=>false
  | .agg x=>match b with
   | .agg y=>wkL (wkB n) x y
   | _=>false
  | .ab5 x=>match b with
   | .ab5 y=>wkL (wkB n) x y
   | _=>false
  | a=>au9 (n+1) a&&el8 (n+1) a b
def ji6:∀(n:Nat) (a b:IV),wkB n a b=true->∀(σ:Store) (S:Nat->Prop),Frz σ S a b:=by
 intro n
 induction n with
 | zero=>intro a b h;cases h
 | succ n ih=>
  intro a b h σ S
  have c:∀a b:IV,(au9 (n+1) a&&el8 (n+1) a b)=true->Frz σ S a b:=λa b h=>by
   simp only[zb] at h;rw[<- ij6 _ _ _ h.2];exact .keep _ ((az5 _ _ h.1).weak λi hi=>absurd hi (ze _))
  cases a with
  | aa5=>cases b with
   | aa2 y=>cases y with
    | nil=>exact .by1
    | cons _ _=>cases h
   | aa5=>exact .keep _ .aa5
   | _=>cases h
  | aa2 x=>cases b with
   | aa2 y=>
    have⟨g,e⟩:=ij7 _ _ h
    exact .aa2 _ _ g (λi hi=>(bg2 _ _ (e i hi)).1) λi hi j f=>ih _ _ ((bg2 _ _ (e i hi)).2 j f) σ S
   | _=>cases h
  | agg x=>cases b with
   | agg y=>exact .agg _ _ (bg2 _ _ h).1 λi hi=>ih _ _ ((bg2 _ _ h).2 i hi) σ S
   | _=>cases h
  | ab5 x=>cases b with
   | ab5 y=>exact .ab5 _ _ (bg2 _ _ h).1 λi hi=>ih _ _ ((bg2 _ _ h).2 i hi) σ S
   | _=>cases h
  | _=>exact c _ _ h
def ji7 {f:Nat}{args args':List IV}{v:IV}(a:wkL (wkB 1000) args args'=true)(h:PC P E f args' v):PC P E f args v :=
 ex3 (bg2 _ _ a).1 (λσ i hi=>ji6 1000 _ _ ((bg2 _ _ a).2 i hi) σ _) h
end Go.Id
namespace Go.Id
open Go
variable {H:Type} {enc:TypeId×Value->H} {P:Program} {w:World} {base:Nat} {sp:Nat->Bool} {held:Bool}
def Rdg (enc:TypeId×Value->H)(P:Program)(w:World)(base:Nat)(sp:Nat->Bool)(held:Bool)(n:Nat)(t:TypeId)(d:DataW H):Prop :=
 ∃cs ps,DataW.trod enc P w base sp held n t cs=za (d,ps)
def WT (P:Program)(t:TypeId)(d:DataW H):Prop:=∀k∈d.weights P t,k<=reachBytes
def bq6 {n:Nat}{t:TypeId}{d:DataW H}{k:IntKind}(a:P.underlying t=za (.int k))(h:Rdg enc P w base sp held n t d):∃z,d=.lit (.int k z)/\(Lit.int k z).wf=true/\∀m,n<=m->dv P m t d=za [.int k z]:=by
 have⟨cs,ps,h⟩:=h;have f:n≠0:=λe=>by subst e;simp[DataW.trod] at h
 obtain ⟨z,rfl,b,c⟩:=DataW.trod_int a h;cases b;refine ⟨z,rfl,c,λm g=>?_⟩
 cases m with
 | zero=>omega
 | succ m=>simp only[dv,a]
def dd5 {n:Nat}{t:TypeId}{d:DataW H}(a:P.underlying t=za .string)(h:Rdg enc P w base sp held n t d)(c:WT P t d):∃s:List UInt8,s.length<2^62/\∀m,n<=m->dv P m t d=za [.str s]:=by
 have⟨cs,ps,h⟩:=h;have f:n≠0:=λe=>by subst e;simp[DataW.trod] at h
 obtain ⟨s,rfl,b,_⟩:=DataW.trod_string a h;cases b;refine ⟨s.data.toList,?_,λm g=>?_⟩
 .have:=c s.data.toList.length (by simp[DataW.weights]);have:=reachBytes_lt;omega
 .cases m with
  | zero=>omega
  | succ m=>simp only[dv,a]
def ax1 {n:Nat}{t:TypeId}{d:DataW H}{e:Array Field}(g:P.underlying t=za (.struct e))(h:Rdg enc P w base sp held n t d)(p:WT P t d) :
  ∃n' ds,n=n'+1/\d=.agg ds/\ds.length=e.size/\∀(i:Nat) (f:Field) (c:DataW H),e[i]? = za f->ds[i]? = za c->Rdg enc P w base sp held n' f.type c/\WT P f.type c:=by
 have⟨cs,ps,h⟩:=h;obtain ⟨xs,n',rfl,o,_,q,hf⟩:=DataW.trod_struct g h;cases o;refine ⟨n',xs.map (·.1),rfl,rfl,by rw[zc,q],λi f c m b=>⟨?_,λk r=>?_⟩⟩
 .rw[zk] at b
  cases a:xs[i]? with
  | none=>rw[a] at b;cases b
  | some x=>
   rw[a] at b;cases b;exact ⟨_,x.2,by rw[hf i f m,a]⟩
 .refine p k ?_;simp only[DataW.weights,g];exact DataW.weights_mem_each (j:=i) (t:=f.type) (d:=c) (by rw[zk];simp[m]) b k r
def dk4 {e:TypeId}{k:Nat}:∀ {l:List (DataW H)} {d:DataW H},d∈l->k∈d.weights P e->k∈DataW.weightsAll P e l:=by
 intro l
 induction l with
 | nil=>intro d h;cases h
 | cons x xs ih=>
  intro d h a;simp only[DataW.weightsAll,List.mem_append];rcases zg.1 h with rfl|h
  .exact .inl a
  .exact .inr (ih h a)
def bg4 {u:Type}{n:Nat}{t e:TypeId}{d:DataW H}{c:Nat}(f:u->List IV)(ok:u->Prop)(p:P.underlying t=za (.slice e))(hc:P.cellsOf e=c)(J:c≠0)(s:1<=P.bytesOf e)(Y:∀a,(f a).length=c)
  (W:∀n' M,n'<n->Rdg enc P w base sp held n' e M->WT P e M->∃a,ok a/\∀m,n'<=m->dv P m e M=za (f a))
  (h:Rdg enc P w base sp held n t d) (T:WT P t d):∃l:List u,l.length<2^62/\(∀a∈l,ok a)/\∀m,n<=m->dv P m t d=za [.aa2 (l.map f)]:=by
 have⟨cs,ps,h⟩:=h;have hn:n≠0:=λe=>by subst e;simp[DataW.trod] at h
 rcases DataW.trod_slice p h with ⟨rfl,j⟩|⟨a,len,cap,g,rest,n',rfl,rfl,j,_,_,_,U,I,_,_⟩
 .cases j;refine ⟨[],by simp,λa K=>(by cases K),λm z=>?_⟩
  cases m with
  | zero=>omega
  | succ m=>simp only[dv,p];rfl
 .cases j
  have X:g.length<2^62:=by
   have L:=T ((g.length+rest.length)*P.bytesOf e) (by simp[DataW.weights,p]);have V:(g.length+rest.length)*1<=(g.length+rest.length)*P.bytesOf e:=Nat.mul_le_mul_left _ s;have:=reachBytes_lt;omega
  have r:∀x∈g,Rdg enc P w base sp held n' e x.1:=by
   intro x j;have⟨i,hi,he⟩:=List.mem_iff_getElem.1 j;have L:=I i (by omega);rw[List.getElem?_eq_getElem hi,he] at L;have⟨ci,_,V⟩:=Option.bind_eq_some_iff.1 L;exact ⟨ci,x.2,V⟩
  have F:∀x∈g,WT P e x.1:=by
   intro x j k hk;refine T k ?_;simp only[DataW.weights,p,zg,List.mem_append];exact .inr (.inl (dk4 (List.mem_map_of_mem (f:=λx:DataW H×List MemPlace=>x.1) j) hk))
  have D:∀o:List (DataW H×List MemPlace),(∀x∈o,x∈g)->∃l:List u,l.length=o.length/\(∀a∈l,ok a)/\∀m,n'<=m->dvS (dv P m e) c (o.map (·.1))=za (l.map f):=by
   intro o
   induction o with
   | nil=>intro _;exact ⟨[],rfl,λa K=>(by cases K),λm _=>rfl⟩
   | cons y o ih2=>
    intro q;have⟨l,Q,B,A⟩:=ih2 λx j=>q x (List.mem_cons_of_mem _ j)
    have S:=q y (List.mem_cons_self ..);have⟨a,a1,a2⟩:=W n' y.1 (Nat.lt_succ_self _) (r y S) (F y S);refine ⟨a::l,by simp[Q],λb s=>?_,λm z=>?_⟩
    .rcases zg.1 s with rfl|s
     .exact a1
     .exact B b s
    .simp only[List.map_cons,dvS,a2 m z,Y a,if_true,A m z]
  have⟨l,Q,B,A⟩:=D g λx j=>j
  refine ⟨l,by omega,B,λm z=>?_⟩
  cases m with
  | zero=>omega
  | succ m=>
   subst hc;simp only[dv,p,if_neg J,A m (by omega)]
end Go.Id
