/- Codes by computation: which slots are kept behind each region is worked out here,and need not be written. Conditions: none; over any program. -/
import Derived.Test.YtlpijcemoicebaaGreatDoorFwRo
import Derived.Test.YtlpijcemoicebaaGreatDoorFwQ
import Derived.Shelf.Sort.Plain
import Derived.Shelf.Slices.In.SortNone
import Derived.SizedLaws
open Option renaming some→za,none→zi
open Bool renaming and_eq_true→zb
open List renaming length_map→zc,getD_eq_getElem?_getD→zf,mem_cons→zg,length_eq_zero_iff→zh,getElem?_map→zk
open Nat renaming le_refl→zd,not_lt_zero→ze,lt_of_lt_of_le→zj
set_option linter.all false
namespace Go.Id
open Go
def bX:IX->Nat|.t n=>(1 <<< n)|_=>0
def bXs:List IX->Nat|[]=>0|x::l=>((bX x) |||(bXs l))
def bPs:List (Nat×Nat×IX)->Nat|[]=>0|x::l=>((bX x.2.2) |||(bPs l))
def bO:Option IX->Nat|some x=>bX x|none=>0
def bQ:IQ->Nat|.mJ x|.not x|.neg x|.BW _ _ x|.conv _ x|.Ex x|.len _ x|.wV _ x|.fld _ _ x|.slz x|.ext _ x|.load _ x|.Dg x|.ldt _ x=>bX x|.bin _ x y|.eqs _ _ _ x y|.wW _ x y|.BY _ _ x y|.idx _ _ _ x y|.De x y|.mm _ x y|.pY _ _ _ x y|.ibs x y=>((bX x) |||(bX y))|.pick c a b=>((bX c) |||(((bX a) |||(bX b))))|.slc _ x lo hi=>((bX x) |||(((bO lo) |||(bO hi))))|.Df x lo hi=>((bX x) |||(((bO lo) |||(bO hi))))|.mkf _ a b=>((bXs a) |||(bXs b))|.bld _ ps=>bPs ps|.clp _ x lo hi mx=>((((bX x) |||(bX lo))) |||(((bX hi) |||(bX mx))))
def bK:IK->Nat|.q q=>bQ q|.alloc _|.rX=>0|.box x|.rQ x|.sV x|.nk x|.qF x|.rY x|.sh x|.lu _ _ x|.clr _ _ x=>bX x|.mo _ _ _ ps|.lS _ _ _ ps=>bPs ps|.store _ x y|.app _ x y=>((bX x) |||(bX y))|.qP _ x k v=>((bX x) |||(((bX k) |||(bX v))))|.call _ l|.mr _ l|.st _ l=>bXs l|.sW x l|.mg x l=>((bX x) |||(bXs l))
def Rv(o:de)(l:Nat):Nat :=((bK o.op) |||(((match o.guard with|some g=>(1 <<< g.1)|none=>0) |||(match o.dst with|some d=>(l-((l &&& ((1 <<< d)))))|none=>l))))
def Kk:List de->Nat->Nat|[],l=>l|o::os,l=>Rv o (Kk os l)
def Rx:List YO->Nat->Nat|[],l=>l|o::os,l=>Rv o.2.1 (Rx os l)
def atE:List (Nat×Nat)->Nat->Nat|[],_=>0|e::es,i=>match Nat.beq e.1 i with|true=>e.2|false=>atE es i
def orE:List (Nat×Nat)->Nat|[]=>0|e::es=>(e.2 |||(orE es))
def bNs:List Nat->Nat|[]=>0|n::l=>(((1 <<< n)) |||(bNs l))
def qZ:IC->Nat->List (Nat×Nat)->Nat->Nat|.skip,o,_,_=>o|.mK _ ops _,o,_,_=>Kk ops o|.tc _ ops _ _,o,_,_=>Kk ops o|.vC _ ops _,o,_,_=>Rx ops o|.seq a b,o,ex,rt=>qZ a (qZ b o ex rt) ex rt|.cond x a b,o,ex,rt=>((bX x) |||(((qZ a o ex rt) |||(qZ b o ex rt))))|.block i a,o,ex,rt=>qZ a o ((i,o)::ex) rt|.loop a,_,ex,rt=>qZ a 0 ex rt|.exit i,_,ex,_=>atE ex i|.ret,_,_,rt=>rt|.oq g ps asg a,o,ex,rt=>let b:=qZ asg (qZ a 0 [] 0) [] 0;((bX g) |||((((b-((b &&& (bNs ps))))) |||((o |||((rt |||(orE ex))))))))|.scope a,o,ex,rt=>qZ a o ex rt
def QX:Nat->Nat->List Nat->List Nat|0,_,acc=>acc|f+1,l,acc=>match l with|0=>acc|l+1=>QX f (((l+1)-((1 <<< (Nat.log2 (l+1)))))) (Nat.log2 (l+1)::acc)
def bits (l:Nat):List Nat:=QX 400 l []
def lvI:IC->Nat->List (Nat×Nat)->Nat->IC|.skip,_,_,_=>.skip|.mK i ops _,o,_,_=>.mK i ops (bits o)|.tc i ops B _,o,_,_=>.tc i ops B (bits o)|.vC i ops _,o,_,_=>.vC i ops (bits o)|.seq a b,o,ex,rt=>.seq (lvI a (qZ b o ex rt) ex rt) (lvI b o ex rt)|.cond x a b,o,ex,rt=>.cond x (lvI a o ex rt) (lvI b o ex rt)|.block i a,o,ex,rt=>.block i (lvI a o ((i,o)::ex) rt)|.loop a,_,ex,rt=>.loop (lvI a (qZ a 0 ex rt) ex rt)|.exit i,_,_,_=>.exit i|.ret,_,_,_=>.ret|.oq g ps asg a,_,_,_=>.oq g ps (lvI asg (qZ a 0 [] 0) [] 0) (lvI a 0 [] 0)|.scope a,o,ex,rt=>.scope (lvI a o ex rt)
def bRs:List IR->Nat|[]=>0|.t n::l=>(((1 <<< n)) |||(bRs l))|.cell _ n::l=>(((1 <<< n)) |||(bRs l))
def lg5(P:Program)(fn:Func)(pf:List Nat)(N:Nat)(rs:List IR):IC:=match fn.body.bind (fg P pf N [])with|some ic=>lvI ic (bRs rs) [] (bRs rs)|none=>.skip
variable {P:Program}
def KL:List Nat:=List.range 500
def cj(P:Program)(fn:Func)(pf:List Nat):Option IC:=match wY { P with cutTypes:=#[] } fn.results.toList with|some rs=>za (lg5 { P with cutTypes:=#[] } fn pf fn.ntmps rs)|none=>zi
def u8l{n:Nat}{h:n<2^8}:UInt8.ofBitVec (BitVec.ofFin ⟨n,h⟩)=UInt8.ofNat n:=by apply UInt8.toNat_inj.1;show n=n%2^8;exact (Nat.mod_eq_of_lt h).symm
attribute [go_sem] u8l Int.reduceOfNat Int.reduceNegSucc UInt8.reduceOfNat
def fo(pf:List Nat){f N:Nat}{b:Func}{c:List IR}{a:IC}(h:P.funcs[f]? = za b)(_:cj P b pf=za a:=by conv=>lhs;reduce)(e:okF P f=true:=by kernel_rfl)(g:b.ntmps=N:=by conv=>lhs;reduce)(hc:b.body.bind (fg P pf N (se a))=za a:=by kernel_rfl)(d:wY P b.results.toList=za c:=by conv=>lhs;reduce):FOK P f (N,a,c):=.mk (pf:=pf) (an:=se a) e (kb3 h g hc d)
end Go.Id
namespace Go.Id
open Go
noncomputable section
variable {E:Nat->IV} {fr:bz}
end
end Go.Id
namespace Go.Id
open Go
variable {P:Program} {E:Nat->IV} {O O':aW} {N n0:Nat} {fr:bz}
def Hc(P:Program)(E:Nat->IV)(N n0:Nat)(b:IC)(Q:Exit->bz->aW->Prop):Exit->bz->aW->Prop|.normal,fr,O=>RI P E N n0 b fr O Q|e,fr,O=>Q e fr O
variable {b:IC}{Q:Exit->bz->aW->Prop}
def ll6:Hc P E N n0 b Q .normal fr O=RI P E N n0 b fr O Q:=nr rfl
def ll7:Hc P E N n0 b Q .ret fr O=Q .ret fr O:=nr rfl
variable {f:Nat}
def ll8:Hc P E N n0 b Q (.exit f) fr O=Q (.exit f) fr O:=nr rfl
attribute [go_sem] ll6 ll7 ll8
def cm(h:fI noP rj P E N n0 b fr O Q):RI P E N n0 b fr O Q:=DB b fr O Q (xY bN b fr O Q h)
def cd{a:IC}(h:RI P E N n0 b fr O (Hc P E N n0 a Q)):RI P E N n0 (.seq b a) fr O Q:=by intro pf an c hc;cases c with|seq x y=>simp only[fg]at hc;split at hc;{rename_i k j i d;cases hc;refine QZ ((h pf an x i).mono ?_);intro e f s q;cases e with|normal=>exact q pf an y d|_=>exact q};cases hc|region id ops draw=>exfalso;simp only[fg]at hc;split at hc;{cases hc};{split at hc<;>first|(cases hc;done)|(split at hc<;>cases hc)};cases hc|cond c b a=>simp only[fg]at hc;split at hc<;>cases hc|block id b=>have⟨_,_,h⟩:=map_some hc;cases h|scope b=>have⟨_,_,h⟩:=map_some hc;cases h|loop b=>have⟨_,_,h⟩:=map_some hc;cases h|rangeFunc g ps b a=>simp only[fg]at hc;split at hc;{split at hc<;>cases hc};cases hc|_=>cases hc
variable {a:List IV}
def ua{r:List IR}{i:IV->aW->Prop}(hf:FOK P f (N,b,r))(k:a.length<=N)(h:RI P E N O.aV b (lN a 0) O (sj r i)):C P E f a O i:=by have⟨_,pf,an,p,o,n,g,m⟩:=hf;cases d:p.body with|none=>rw[d]at g;cases g|some c=>rw[d]at g;refine Q6 o d n k ((h pf an c g).mono ?_);intro e fr' O' q;have q:=LO q;cases e<;>first|(have⟨vs,q1,j⟩:=q;exact ⟨vs,by rw[Qe _ _ m];exact q1,j⟩)|exact q
def Km{c:List IR}{v:IV}(hE:∀g,bZ 0 (E g))(hf:FOK P f (N,b,c))(e:a.length<=N)(i:∀j∈a,bZ 0 j)(h:RI P E N 0 b (lN a 0) emp (sj c λd O'=>gM O' 0 d v)):PC P E f a v :=NG hE i (ua (O:=emp) hf e h)
def UP {S:Nat->Bool}:(O.cq S).aV=O.aV:=nr rfl
def Iz{S:Nat->Bool}:(O.cq S).aY f=if S f=true then O.aY f else zi:=nr rfl
attribute [go_sem] UP Iz
def Jv{args':List IV}{v:IV}(c:args'.length=a.length)(b:∀O i,i<a.length->dz O (λ_=>true=true) (a.getD i .undef) (args'.getD i .undef))(h:PC P E f args' v):PC P E f a v:=λO=>El (S:=λ_=>true) c (b O) (h O)
end Go.Id
namespace Go.Id
open Go
variable {P:Program} {E:Nat->IV} {O O':aW} {N n0:Nat} {fr:bz}
end Go.Id
namespace Go.Id
open Go
def I3{P:Program}{E:Nat->IV}{N n0:Nat}{fr:bz}{O:aW}{x:IC}{Q:Exit->bz->aW->Prop}(I:Nat->bz->aW->Prop)(n:Nat)(h:I 0 fr O)(b:∀i fr O,i<=n->I i fr O->RI P E N n0 x fr O (upQ I i n Q)):RI P E N n0 (.loop x) fr O Q:=by refine F1 (λm fr O=>∃i,i<=n/\m=n-i/\I i fr O) n ⟨0,Nat.zero_le _,rfl,h⟩ ?_;rintro m fr O ⟨i,hi,rfl,a⟩;refine gS (b i fr O hi a) ?_;intro e f s q;cases e with|normal=>exact ⟨n-(i+1),by have:=q.1;omega,i+1,q.1,rfl,q.2⟩|_=>exact q
section
def Wt{s:aW}{v:IV}{esz nid:Nat}{es xs:List (List IV)}(n:Grow s v esz es)(h:∀x∈es,x.length=esz/\x.all IV.bn=true)(k:∀x∈xs,x.length=esz/\x.all IV.bn=true)(o:es.length+xs.length<=2147483648): (xs=[]/\di s nid esz v (.a8 xs)=za (v,s))\/di s nid esz v (.a8 xs)=za (.slice nid 0 (es.length+xs.length) esz,(cL v s).put nid (.row (es++xs).flatten)):=by have a:fY s esz (.a8 xs)=za (xs.length,xs.flatten):=(by have p:xs.all (λe=>e.length==esz)=true:=List.all_eq_true.2 λx b=>(by rw[(k x b).1];simp);simp only[fY,p,af]);have m:xs.flatten.all IV.bn=true:=vQ λx b=>(k x b).2;have g:es.flatten.all IV.bn=true:=vQ λx b=>(h x b).2;have j:es.flatten.length=es.length*esz:=tC λx b=>(h x b).1;have f:xs.length<=2147483648:=(by omega);by_cases h0:xs.length=0;{have c:xs=[]:=zh.1 h0;subst c;refine .inl ⟨rfl,?_⟩;unfold di;rw[a];rcases n with ⟨rfl,rfl⟩|⟨id,rfl,d,i⟩;{simp};simp[d]};refine .inr ?_;unfold di;rw[a];rcases n with ⟨rfl,rfl⟩|⟨id,rfl,d,i⟩;{simp[m,h0,f,cL]};simp[m,d,h0,j,g,o,cL]
def FC{s:aW}{v:IV}{esz nid:Nat}{es xs:List (List IV)}(c:Grow s v esz es)(h:∀x∈es,x.length=esz/\x.all IV.bn=true)(f:∀x∈xs,x.length=esz/\x.all IV.bn=true)(j:es.length+xs.length<=2147483648)(a:nid<s.aV): ∃b s',di s nid esz v (.a8 xs)=za (b,s')/\s'.aV=s.aV/\Grow s' b esz (es++xs)/\(∀i,i≠nid->(∀k,v≠.slice i 0 k esz)->s'.aY i=s.aY i)/\(b=v\/b=.slice nid 0 (es.length+xs.length) esz):=by rcases Wt (nid:=nid) c h f j with ⟨rfl,d⟩|d;{exact ⟨v,s,d,rfl,by rw[List.append_nil];exact c,λ_ _ _=>rfl,.inl rfl⟩};refine ⟨_,_,d,by rw[bU,fa],.inr ⟨nid,by rw[List.length_append],by rw[bq,ab rfl],by rw[bU,fa];exact a⟩,λi hi g=>?_,.inr rfl⟩;rw[bq,aa hi];rcases c with ⟨rfl,_⟩|⟨id,rfl,_,_⟩;{rfl};show (if i=id then zi else s.aY i)=_;rw[aa λe=>g _ (by rw[e])]
end
variable {P:Program} {E:Nat->IV} {O O':aW} {N n0:Nat} {fr:bz}
def EA(P:Program)(E:Nat->IV)(base:Nat):List YO->bz->aW->(bz->aW->Prop)->Prop|[],fr,O,K=>K fr O|(i,o,m)::rest,fr,O,K=>(m=0/\o.guard=zi)/\eZ noP rj P E o.op (base+i) fr O λv O'=>EA P E base rest (fr.dY o.dst v) O' K
def Q4 (P:Program)(E:Nat->IV)(base:Nat)(rest:List YO)(d:Option Nat)(fr:bz)(K:bz->aW->Prop):IV->aW->Prop:=λv O'=>EA P E base rest (fr.dY d v) O' K
variable {base i:Nat} {Kf:bz->aW->Prop} {d:Option Nat} {rest:List YO}
def lt4:EA P E base [] fr O Kf=Kf fr O:=nr rfl
def lt5 {d:Nat}(v:IV):Q4 P E base rest (za d) fr Kf v O=EA P E base rest ((d,v)::fr) O Kf:=nr rfl
def lh4 (v:IV):Q4 P E base rest zi fr Kf v O=EA P E base rest fr O Kf:=nr rfl
def lh5:List.length ([]:List YO)=0:=nr rfl
def lh6 {y:YO}:List.length (y::rest)=rest.length+1:=nr rfl
attribute [go_sem] lt4  lt5 lh4 lh5 lh6
end Go.Id
namespace Go.Id
open Go Go.Sort
variable {P:Program} {w w':World} {ρ ρ':b8} {E:Nat->IV} {O:aW}
def Iy (n k:Nat):Ext n ρ w ρ (Sort.ahead w k):=⟨zd _,λ_ _=>rfl,λ_ r _ _ h=>⟨r,h,rfl⟩,λi B d h=>.inl ⟨i,d,h⟩,λ_ _ _ h=>.inl h,λ_ h=>h,λ_ _ h=>h,rfl,rfl,rfl,λ_ L h=>⟨L,h⟩,rfl⟩
def WQ(hs:bY E ρ w O)(k:Nat):bY E ρ (Sort.ahead w k) O :=⟨hs.inj,hs.lt,λi B d h=>let ⟨o,h1,h2⟩:=hs.aY i B d h;⟨o,h1,h2.mono (Iy 0 k) rfl⟩,hs.dead,hs.fresh,hs.iI,λg=>(hs.env g).mono (Iy 0 k),hs.nx,hs.jT⟩
variable {b:Nat}
def Gw(w:World)(a:Array Obj)(h:b<w.heap.size):(Sort.grow w a).heap[b]? = w.heap[b]?:=by show (w.heap++a)[b]? = _;rw[Array.getElem?_append_left h]
def O5{o:Obj}(h:w.heap[b]? = za o):b<w.heap.size:=(Array.getElem?_eq_some_iff.1 h).1
def DR(n:Nat)(a:Array Obj):Ext n ρ w ρ (Sort.grow w a):=⟨by show _<=(w.heap++a).size;simp,λb h=>Gw w a h.1,λb r el c h=>⟨r,by rw[Gw w a (O5 h)];exact h,rfl⟩,λi B d h=>.inl ⟨i,d,h⟩,λ_ _ _ h=>.inl h,λ_ h=>h,λ_ _ h=>h,rfl,rfl,rfl,λl L h=>⟨L,by rw[Gw w a (O5 h)];exact h⟩,rfl⟩
def Y2(hs:bY E ρ w O)(a:Array Obj):bY E ρ (Sort.grow w a) O :=⟨hs.inj,λi B d h=>zj (hs.lt i B d h) (DR (ρ:=ρ) 0 a).size,λi B d h=>let ⟨o,h1,h2⟩:=hs.aY i B d h;⟨o,h1,h2.mono (DR 0 a) (Gw w a (hs.lt i B d h))⟩,hs.dead,hs.fresh,hs.iI,λg=>(hs.env g).mono (DR 0 a),hs.nx,λb h=>zj (hs.jT b h) (DR (ρ:=ρ) (w:=w) 0 a).size⟩
def putRow_set{b:Type}[Inhabited b](enc:b->Value)(w:World)(B off:Nat)(d:Array b){a:Array Value}{el:TypeId}{e:Nat×Nat}(h:w.heap[B]? = za (.cells a el e)): Sort.putRow enc w B off d=w.setRow B (Sort.putCells enc off d a):=by unfold Sort.putRow Sort.mapBlock World.setRow;congr 1;apply Array.ext_getElem?;intro k;simp only[Array.getElem?_modify];by_cases c:B=k;{subst c;simp only[af,h,Option.map_some,Sort.onCells]};simp[c]
def ka9{t:Type}[Inhabited t]{enc:t->Value}{en:t->IV}{srt:List t->List t}(hv:∀(ρ:b8)(w:World)(x:t),VR ρ w (en x) (enc x))(K:∀(ρ:b8)(w:World)(x:t)(r:Value),VR ρ w (en x) r->r=enc x)(Y:∀l,(srt l).length=l.length)(h0:srt []=[])(hk:∀(z off cap:Nat)(zs:List t)(w:World),Sort.Holds enc w z off zs.toArray->z<w.heap.size->zs.length<4611686018427387904->Calls P b #[.slice (za ⟨z,off,zi⟩) zs.length cap] w λe w'=>e=.returned (.tuple #[])/\∃n M,w'=Sort.grow (Sort.putRow enc (Sort.ahead w n) z off (srt zs).toArray) M)(hn:∀(p:Option Addr)(cap:Nat)(w:World),Calls P b #[.slice p 0 cap] w λe w'=>e=.returned (.tuple #[])/\w'=w){id:Nat}{zs:List t}(hz:zs.length<4611686018427387904)(Q:O.aY id=za (.row (zs.map en))): C P E b [.slice id 0 zs.length 1] O λv s=>v=.tuple []/\s=O.put id (.row ((srt zs).map en)):=by intro ρ w F hs hr;have⟨W,V⟩:=hr;have c:=V 0 (by simp);have⟨al⟩:=F;match al,W,c with|[r],_,c=>have c:VR ρ w (.slice id 0 zs.length 1) r:=c;have g:∀(p:Option Addr)(cap:Nat),r=.slice p 0 cap->zs.length=0->CallsIn Fence.wide 0 P b #[r] w λe w'=>∃v r ρ' O',e=.returned r/\(v=IV.tuple []/\O'=O.put id (.row ((srt zs).map en)))/\bY E ρ' w' O'/\VR ρ' w' v r/\fe O.aV ρ w ρ' w':=(by intro p cap er f;have f:zs=[]:=zh.1 f;subst f;rw[er];refine callsIn_wide.2 ((hn p cap w).mono ?_);rintro e w' ⟨rfl,rfl⟩;have I:O.put id (.row (([]:List t).map en))=O:=(by unfold aW.put;congr 1;funext i;by_cases h:i=id;{subst h;simpa using Q.symm};simp[h]);exact ⟨.tuple [],_,ρ,O,rfl,⟨rfl,by rw[h0];exact I.symm⟩,hs,.tuple [] #[] rfl (λi hi=>by simp at hi),fe.refl _ _ _⟩);by_cases f:zs.length=0;{rw[f]at c;cases c with|slice _ _ _ _ B d cap rcs el fz hid hb hsz hle=>exact g _ _ rfl f|iH _ _ _ B d a hid=>exact g _ _ rfl f|gY _ _ _ _ cap ad hid hle=>exact g _ _ rfl f};obtain ⟨m,X⟩:∃m,m=zs.length:=⟨_,rfl⟩;rw[<- X]at c;cases c with|slice _ _ _ _ B d cap rcs el fz hid hb hsz hle=>subst X;have⟨o,h1,h2⟩:=hs.aY id B d hid;rw[Q]at h1;cases h1;have⟨ac,ak,L,A,H⟩:=h2;rw[hb]at L;cases L;rw[zc]at A H;have G:∀j (h:j<zs.length),rcs[d+j]? = za (enc zs[j]):=λj h=>(by have:=H j h;have e1:(zs.map en).getD j .undef=en zs[j]:=(by simp[zf,h]);rw[e1]at this;have:=K _ _ _ _ this;have u:d+j<rcs.size:=(by omega);rw[jJ _ _ _ u]at this;rw[Array.getElem?_eq_getElem u,this]);have hH:Sort.Holds enc w B (d+0) zs.toArray:=λj hj=>(by have ag:j<zs.length:=(by simpa using hj);refine ⟨?_,?_⟩;{simp only[World.cell?,hb,Option.isSome_none,Bool.false_eq_true,ae,Nat.add_zero];rw[G j ag];congr 2;rw[getElem!_pos _ j hj];simp};simp[World.frozen?,hb]);refine callsIn_wide.2 ((hk B (d+0) cap zs w hH (hs.lt id B d hid) hz).mono ?_);rintro e w' ⟨rfl,n,M,rfl⟩;have y:(Sort.ahead w n).heap[B]? = za (.cells rcs el (0,0)):=hb;rw[putRow_set enc _ B _ _ y];have T:=WQ hs n;generalize D:Sort.putCells enc (d+0) (srt zs).toArray rcs=new;have q:new.size=rcs.size:=(by rw[<- D];simp[Sort.putCells]);have S:∀m,Ext m ρ (Sort.ahead w n) ρ ((Sort.ahead w n).setRow B new):=λm=>vO (n:=m) (new:=new) hid y q;have U:bY E ρ ((Sort.ahead w n).setRow B new) (O.put id (.row ((srt zs).map en))):=(by refine Fh T hid y q ⟨new,el,setRow_heap _ B rcs new el (0,0) y,?_,λk J=>?_⟩;{rw[q,zc,Y];exact A};rw[zc,Y]at J;have u:d+k<rcs.size:=(by omega);have Z:k<(srt zs).length:=(by rw[Y];exact J);have e1:((srt zs).map en).getD k .undef=en (srt zs)[k]:=(by simp[zf,Z]);have e2:new.getD (d+k) undef=enc (srt zs)[k]:=(by rw[<- D];rw[jJ _ _ _ (by simpa [Sort.putCells] using u)];have c1:d+0<=d+k/\d+k<d+0+(srt zs).toArray.size:=(by simp;omega);simp only[Sort.putCells,Array.getElem_mapIdx,c1,ai,af];congr 1;rw[getElem!_pos _ _ (by simp;omega)];simp);rw[e1,e2];exact hv _ _ _);exact ⟨.tuple [],_,ρ,_,rfl,⟨rfl,rfl⟩,Y2 U M,.tuple [] #[] rfl (λi hi=>by simp at hi),(((Iy O.aV n).trans (S O.aV) (zd _)).trans (DR O.aV M) (zd _)).dw (zd _)⟩|iH=>exact aw X.symm f|gY _ _ _ _ cap ad hid hle=>rw[hs.dead id hid]at Q;cases Q
end Go.Id
namespace Go.Id
open Go
variable {P:Program} {E:Nat->IV} {O O':aW}
def Hd(f:IV->IV->Bool):List (IV×IV)->List (IV×IV)->Bool|[],y=>(match y with|[]=>true|_=>false)|a::aZ,y=>match y with|b::bs=>f a.1 b.1&&f a.2 b.2&&Hd f aZ bs|_=>false
variable {f:IV->IV->Bool}
def Y3(hf:∀a b,f a b=true->a=b):∀x y,Hd f x y=true->x=y:=by intro x;induction x with|nil=>(intro y h;cases y with|nil=>rfl|cons b y=>cases h)|cons a x ih=>intro y h;cases y with|nil=>cases h|cons b y=>have⟨j,g⟩:=a;have⟨e,c⟩:=b;simp only[Hd,zb]at h;rw[hf _ _ h.1.1,hf _ _ h.1.2,ih y h.2]
def vi:Nat->IV->IV->Bool|0,_,_=>false|n+1,a,b=>match a with|.cH x=>(match b with|.cH y=>Hd (vi n) x y|_=>false)|.bj x=>(match b with|.bj y=>sU (vi n) x y|_=>false)|.a8 x=>(match b with|.a8 y=>Ej (vi n) x y|_=>false)|.agg x=>(match b with|.agg y=>sU (vi n) x y|_=>false)|.tuple x=>(match b with|.tuple y=>sU (vi n) x y|_=>false)|a=>vD (n+1) a b
def Y4:∀(n:Nat)(a b:IV),vi n a b=true->a=b:=by intro n;induction n with|zero=>intro a b h;cases h|succ n ih=>intro a b h;cases a with|cH x=>(cases b with|cH y=>rw[Y3 ih _ _ h]|_=>cases h)|bj x=>(cases b with|bj y=>rw[vY ih _ _ h]|_=>cases h)|a8 x=>(cases b with|a8 y=>rw[MB ih _ _ h]|_=>cases h)|agg x=>(cases b with|agg y=>rw[vY ih _ _ h]|_=>cases h)|tuple x=>(cases b with|tuple y=>rw[vY ih _ _ h]|_=>cases h)|_=>exact ka5 (n+1) _ _ h
def wkL(f:IV->IV->Bool):List IV->List IV->Bool|[],y=>(match y with|[]=>true|_=>false)|a::aZ,y=>match y with|b::bs=>f a b&&wkL f aZ bs|_=>false
def uO:∀x y,wkL f x y=true->y.length=x.length/\∀i,i<x.length->f (x.getD i .undef) (y.getD i .undef)=true:=by intro x;induction x with|nil=>(intro y h;cases y with|nil=>exact ⟨rfl,λi hi=>aw hi (ze _)⟩|cons b y=>cases h)|cons a x ih=>intro y h;cases y with|nil=>cases h|cons b y=>simp only[wkL,zb]at h;have⟨e,c⟩:=ih y h.2;refine ⟨by simp[e],λi hi=>?_⟩;cases i with|zero=>exact h.1|succ i=>exact c i (by simpa using hi)
def wkR(f:IV->IV->Bool):List (List IV)->List (List IV)->Bool|[],y=>(match y with|[]=>true|_=>false)|a::aZ,y=>match y with|b::bs=>wkL f a b&&wkR f aZ bs|_=>false
def Y5:∀x y,wkR f x y=true->y.length=x.length/\∀i,i<x.length->wkL f (x.getD i []) (y.getD i [])=true:=by intro x;induction x with|nil=>(intro y h;cases y with|nil=>exact ⟨rfl,λi hi=>aw hi (ze _)⟩|cons b y=>cases h)|cons a x ih=>intro y h;cases y with|nil=>cases h|cons b y=>simp only[wkR,zb]at h;have⟨e,c⟩:=ih y h.2;refine ⟨by simp[e],λi hi=>?_⟩;cases i with|zero=>exact h.1|succ i=>exact c i (by simpa using hi)
def wkB:Nat->IV->IV->Bool|0,_,_=>false|n+1,a,b=>match a with|.bA=>(match b with|.a8 y=>(match y with|[]=>true|_=>false)|.bA=>true|_=>false)|.a8 x=>(match b with|.a8 y=>wkR (wkB n) x y|_=>false)|.agg x=>(match b with|.agg y=>wkL (wkB n) x y|_=>false)|.bj x=>(match b with|.bj y=>wkL (wkB n) x y|_=>false)|a=>od (n+1) a&&vi (n+1) a b
def kb2:∀(n:Nat)(a b:IV),wkB n a b=true->∀(O:aW)(S:Nat->Prop),dz O S a b:=by intro n;induction n with|zero=>intro a b h;cases h|succ n ih=>intro a b h O S;have c:∀a b:IV,(od (n+1) a&&vi (n+1) a b)=true->dz O S a b:=λa b h=>(by simp only[zb]at h;rw[<- Y4 _ _ _ h.2];exact .bd _ ((xM _ _ h.1).dw λi hi=>aw hi (ze _)));cases a with|bA=>(cases b with|a8 y=>(cases y with|nil=>exact .fZ|cons _ _=>cases h)|bA=>exact .bd _ .bA|_=>cases h)|a8 x=>(cases b with|a8 y=>have⟨g,e⟩:=Y5 _ _ h;exact .a8 _ _ g (λi hi=>(uO _ _ (e i hi)).1) λi hi j f=>ih _ _ ((uO _ _ (e i hi)).2 j f) O S|_=>cases h)|agg x=>(cases b with|agg y=>exact .agg _ _ (uO _ _ h).1 λi hi=>ih _ _ ((uO _ _ h).2 i hi) O S|_=>cases h)|bj x=>(cases b with|bj y=>exact .bj _ _ (uO _ _ h).1 λi hi=>ih _ _ ((uO _ _ h).2 i hi) O S|_=>cases h)|_=>exact c _ _ h
def ll9{f:Nat}{args args':List IV}{v:IV}(a:wkL (wkB 1000) args args'=true)(h:PC P E f args' v):PC P E f args v :=Jv (uO _ _ a).1 (λO i hi=>kb2 1000 _ _ ((uO _ _ a).2 i hi) O _) h
end Go.Id
namespace Go.Id
open Go
variable {H:Type} {enc:TypeId×Value->H} {P:Program} {w:World} {base:Nat} {sp:Nat->Bool} {held:Bool}
def Rdg(enc:TypeId×Value->H)(P:Program)(w:World)(base:Nat)(sp:Nat->Bool)(held:Bool)(n:Nat)(t:TypeId)(d:DataW H):Prop :=∃cs ps,DataW.trod enc P w base sp held n t cs=za (d,ps)
def WT (P:Program)(t:TypeId)(d:DataW H):Prop:=∀k∈d.weights P t,k<=reachBytes
variable {n:Nat}{t:TypeId}
def rR{d:DataW H}{k:IntKind}(a:P.underlying t=za (.int k))(h:Rdg enc P w base sp held n t d):∃z,d=.lit (.int k z)/\(Lit.int k z).wf=true/\∀m,n<=m->dv P m t d=za [.int k z]:=by have⟨cs,ps,h⟩:=h;have f:n≠0:=λe=>(by subst e;simp[DataW.trod]at h);obtain ⟨z,rfl,b,c⟩:=DataW.trod_int a h;cases b;refine ⟨z,rfl,c,λm g=>?_⟩;cases m with|zero=>omega|succ m=>simp only[dv,a]
def wM{d:DataW H}(a:P.underlying t=za .string)(h:Rdg enc P w base sp held n t d)(c:WT P t d):∃s:List UInt8,s.length<2^62/\∀m,n<=m->dv P m t d=za [.str s]:=by have⟨cs,ps,h⟩:=h;have f:n≠0:=λe=>(by subst e;simp[DataW.trod]at h);obtain ⟨s,rfl,b,_⟩:=DataW.trod_string a h;cases b;refine ⟨s.data.toList,?_,λm g=>?_⟩;{have:=c s.data.toList.length (by simp[DataW.weights]);have:=reachBytes_lt;omega};cases m with|zero=>omega|succ m=>simp only[dv,a]
def tx{t:TypeId}{d:DataW H}{e:Array Field}(g:P.underlying t=za (.struct e))(h:Rdg enc P w base sp held n t d)(p:WT P t d): ∃n' ds,n=n'+1/\d=.agg ds/\ds.length=e.size/\∀(i:Nat)(f:Field)(c:DataW H),e[i]? = za f->ds[i]? = za c->Rdg enc P w base sp held n' f.type c/\WT P f.type c:=by have⟨cs,ps,h⟩:=h;obtain ⟨xs,n',rfl,o,_,q,hf⟩:=DataW.trod_struct g h;cases o;refine ⟨n',xs.map (·.1),rfl,rfl,by rw[zc,q],λi f c m b=>⟨?_,λk r=>?_⟩⟩;{rw[zk]at b;cases a:xs[i]? with|none=>rw[a]at b;cases b|some x=>rw[a]at b;cases b;exact ⟨_,x.2,by rw[hf i f m,a]⟩};refine p k ?_;simp only[DataW.weights,g];exact DataW.weights_mem_each (j:=i) (t:=f.type) (d:=c) (by rw[zk];simp[m]) b k r
def Se:∀ {l:List (DataW H)}{d:DataW H},d∈l->n∈d.weights P t->n∈DataW.weightsAll P t l:=by intro l;induction l with|nil=>intro d h;cases h|cons x xs ih=>intro d h a;simp only[DataW.weightsAll,List.mem_append];rcases zg.1 h with rfl|h;{exact .inl a};exact .inr (ih h a)
def uP{u:Type}{e:TypeId}{d:DataW H}{c:Nat}(f:u->List IV)(ok:u->Prop)(p:P.underlying t=za (.slice e))(hc:P.cellsOf e=c)(I:c≠0)(s:1<=P.bytesOf e)(X:∀a,(f a).length=c)(V:∀n' L,n'<n->Rdg enc P w base sp held n' e L->WT P e L->∃a,ok a/\∀m,n'<=m->dv P m e L=za (f a))(h:Rdg enc P w base sp held n t d)(S:WT P t d):∃l:List u,l.length<2^62/\(∀a∈l,ok a)/\∀m,n<=m->dv P m t d=za [.a8 (l.map f)]:=by
 have⟨cs,ps,h⟩:=h;have hn:n≠0:=λe=>by subst e;simp[DataW.trod]at h
 rcases DataW.trod_slice p h with ⟨rfl,j⟩|⟨a,len,cap,g,rest,n',rfl,rfl,j,_,_,_,T,G,_,_⟩;{cases j;refine ⟨[],by simp,λa J=>(by cases J),λm z=>?_⟩;cases m with|zero=>omega|succ m=>simp only[dv,p];rfl};cases j;have W:g.length<2^62:=by have K:=S ((g.length+rest.length)*P.bytesOf e) (by simp[DataW.weights,p]);have U:(g.length+rest.length)*1<=(g.length+rest.length)*P.bytesOf e:=Nat.mul_le_mul_left _ s;have:=reachBytes_lt;omega
 have r:∀x∈g,Rdg enc P w base sp held n' e x.1:=by intro x j;have⟨i,hi,Z⟩:=List.mem_iff_getElem.1 j;have K:=G i (by omega);rw[List.getElem?_eq_getElem hi,Z]at K;have⟨ci,_,U⟩:=Option.bind_eq_some_iff.1 K;exact ⟨ci,x.2,U⟩
 have F:∀x∈g,WT P e x.1:=by intro x j k Y;refine S k ?_;simp only[DataW.weights,p,zg,List.mem_append];exact .inr (.inl (Se (List.mem_map_of_mem (f:=λx:DataW H×List MemPlace=>x.1) j) Y))
 have D:∀o:List (DataW H×List MemPlace),(∀x∈o,x∈g)->∃l:List u,l.length=o.length/\(∀a∈l,ok a)/\∀m,n'<=m->dvS (dv P m e) c (o.map (·.1))=za (l.map f):=by intro o;induction o with|nil=>intro _;exact ⟨[],rfl,λa J=>(by cases J),λm _=>rfl⟩|cons y o ih2=>intro q;have⟨l,M,B,A⟩:=ih2 λx j=>q x (List.mem_cons_of_mem _ j);have Q:=q y (List.mem_cons_self ..);have⟨a,a1,a2⟩:=V n' y.1 (Nat.lt_succ_self _) (r y Q) (F y Q);refine ⟨a::l,by simp[M],λb s=>?_,λm z=>?_⟩;{rcases zg.1 s with rfl|s;{exact a1};exact B b s};simp only[List.map_cons,dvS,a2 m z,X a,af,A m z]
 have⟨l,M,B,A⟩:=D g λx j=>j;refine ⟨l,by omega,B,λm z=>?_⟩;cases m with|zero=>omega|succ m=>subst hc;simp only[dv,p,aa I,A m (by omega)]
end Go.Id
