/- Ranging over functions that tell rows,the round's code with open regions. Conditions: none; over any program. -/
import Derived.Test.YtoanajmmemjeeaaGreatDoorFwQ
import Derived.Test.YtoanajmmemjeeaaGreatDoorTp
import Derived.Test.YtoanajmmemjeeaaGreatDoorMte
import Derived.Test.YtoanajmmemjeeaaGreatDoorMuj
import Derived.Test.YtoanajmmemjeeaaGreatDoorMua
open Nat renaming le_refl→za,le_add_right→zc,mul_le_mul→zg,le_trans→zk,lt_of_lt_of_le→zt
open List renaming length_cons→zb,mem_cons_of_mem→zd,takeWhile_cons→ze,dropWhile_cons→zf,getElem?_eq_getElem→zh,map_cons→zi,mem_cons_self→zj,take_length→zl,sum_append→zm,map_append→zn,getD_eq_getElem?_getD→zo,mem_cons→zq,take_succ_cons→zr,drop_succ_cons→zs,take_add_one→zu
open Option renaming some→zp
set_option linter.all false
private theorem om{P:Prop}(h:P:=by omega):P:=h
namespace Go.Id
open Go
variable {P:Program} {E:Nat->IV} {O O':aQ} {N n0:Nat} {fr:a8}
def YH{g:IX}{ps:List Nat}{y x:IC}{Q:Exit->a8->aQ->Prop}{jP:List (List IV)}{own:aQ->Prop}(K:zE P E (g.ev E fr) jP own)(J:List (List IV)->aQ->Prop)(q:∀b s,J b s->own s)(j:vT J)(r:∀a∈jP,a.length=ps.length)(k:∀o,J jP ⟨O.aP+1,(O.put O.aP o).aR⟩)(m:∀(L:LoopState->Option JX->bU)(pre:List (List IV))(a:List IV)(b:List (List IV))(s:aQ),jP=pre++a::b->J (a::b) s->s.aR O.aP=zp (L .ready none)->O.aP<s.aP -> RI P E N s.aP y (rR fr ps a) s (λe f A=>e=.normal/\A.aR O.aP=zp (L .ready none)/\RI P E N s.aP x f (A.put O.aP (L .busy none)) (uX O.aP L (goQ O.aP s.aP L J Q fr b))))(t:∀s o,J [] s->O.aP<s.aP->s.aR O.aP=zp o->Q .normal fr (s.kill O.aP)): RI P E N n0 (.mu g ps y x) fr O Q:=by refine Mz λL M=>?_;let I:List (List IV)->aQ->Prop:=λb s=>(∃pre,jP=pre++b)/\s.aR O.aP=zp (L .ready none)/\O.aP<s.aP/\J b s;let S:aQ->Prop:=λs=>∃G d,G≠.busy/\s.aR O.aP=zp (L G d)/\Gs Q fr (s.kill O.aP) d;have T:vT I:=(by rintro b s s' ⟨p,z,u,F⟩ c hs;exact ⟨p,by rw[hs _ u];exact z,zt u c,j b s s' F c hs⟩);have B:AX P E O.aP I S:=(by rintro a b s ⟨⟨pre,p⟩,z,u,F⟩;refine ⟨by rw[z];rfl,?_⟩;have H:=m L pre a b s p F z u;refine M s a _ (r a (by rw[p];simp)) z (gM H ?_);rintro e f A ⟨rfl,q1,q2⟩;refine ⟨rfl,q1,gM q2 ?_⟩;have D:∀v n,goQ O.aP s.aP L J Q fr b v n->s.aP<=n.aP/\((v=.bool true/\I b n)\/(v=.bool false/\S n)):=(by rintro v n ⟨c,h|h⟩;{exact ⟨c,.inl ⟨h.1,⟨pre++[a],by rw[p];simp⟩,h.2.1,zt u c,h.2.2⟩⟩};exact ⟨c,.inr ⟨h.1,h.2⟩⟩);intro e f n q2;cases e with|normal=>exact ⟨q2.1,D _ _ q2.2⟩|ret=>exact ⟨q2.1,D _ _ q2.2⟩|exit i=>exact ⟨q2.1,D _ _ q2.2⟩|_=>exact q2);have h:=K O.aP I S ⟨O.aP+1,(O.put O.aP (L .ready none)).aR⟩ (λb s h=>q b s h.2.2.2) T B ⟨⟨[],rfl⟩,by simp only[aV,af],Nat.lt_succ_self _,k _⟩;refine h.mono ?_;rintro v s ⟨c,h|h⟩;{exact ⟨Nat.le_of_lt c,.ready,none,(λh=>by cases h),h.2.1,t s _ h.2.2.2 h.2.2.1 h.2.1⟩};exact ⟨Nat.le_of_lt c,h⟩
abbrev iL (M:Nat):Nat->Bool:=λi=>decide (i≠M)
def kr1{M e:Nat}{I:List (List IV)->aQ->Prop}{S:aQ->Prop}{a:List IV}{b:List (List IV)}{K:IV->aQ->Prop}(hE:∀g,bM 0 (E g))(h:AX P E e I S)(A:e≠M)(H:M<O.aP)(ha:∀x∈a,bM 0 x)(r:∀i o,i≠M->O.aR i=zp o->nn (λi=>iL M i=true) o)(hi:I (a::b) (O.only (iL M)))(G:∀s,O.aP<=s.aP->s.aR M=O.aR M->I b (s.only (iL M))->(∀i o,i≠M->s.aR i=zp o->nn (λi=>iL M i=true) o)->K (.bool true) s)(F:∀s,O.aP<=s.aP->S (s.only (iL M))->K (.bool false) s):F6 mI P E (.yield e) a O K:=by have p:=h a b _ hi;have j:(O.aR e).isSome=true:=(by have h:=p.1;simpa [aQ.only,iL,A] using h);have u:=Xd (O:=O) (S:=iL M) (by simp[iL,A]) (λi hi=>by have hi:O.aP<=i:=hi;simp[iL];omega) (λx B=>(ha x B).b9 λi h=>au h (Nat.not_lt_zero _)) (λk o f t=>r k o (by simpa [iL] using f) t) hE (by rintro v s ⟨h,_⟩;exact h) p.2;refine ⟨_,⟨j,u⟩,?_⟩;rintro v s ⟨O',⟨c,n⟩,rfl,D,q,m⟩;have c:O.aP<=O'.aP:=c;refine ⟨c,?_⟩;have d:(O'.back O (iL M)).only (iL M)=O':=(by cases O' with|mk nx ob=>unfold aQ.only aQ.back;congr 1;funext k;by_cases f:k=M;{have:=m k (by simp[iL,f]);simp[iL,f]at this ⊢;exact this.symm};simp[iL,f]);rcases n with ⟨rfl,z⟩|⟨rfl,y⟩;{refine G _ c (by simp[aQ.back,iL]) (by rw[d];exact z) λk o f t=>q k o (by simpa [iL] using f) ?_;simpa [aQ.back,iL,f] using t};exact F _ c (by rw[d];exact y)
end Go.Id
namespace Go.Id.Md
open Go Go.Id
def br.cr (x:br):List bR:=if x.kind=7 then [⟨1,x.p⟩] else if x.kind=6 then [⟨2,x.p⟩,⟨3,x.p⟩,⟨4,x.p⟩] else []
def lD(M:List bR):List bR->List bR|[]=>[]|e::es=>if e∈M then lD M es else e::lD (M++[e]) es
def fZ (items:List br):List bR:=lD [] (items.flatMap br.cr)
def eE (e:bR):IV×IV:=(.agg e.cs,.agg [])
def br.HL (x:br):x.cr.length<=3:=by unfold br.cr;split<;>(try split)<;>simp
def Ic(x y:bR):dR 5 (.agg x.cs) (.agg y.cs)=zp (decide (x=y)):=by have⟨a,b⟩:=x;have⟨c,d⟩:=y;by_cases f:a=c<;>by_cases e:b=d<;>simp[dR,bR.cs,allEq,fB,f,e]
def MY(x:bR):ld 5 (.agg x.cs)=true:=by show (dR 5 (.agg x.cs) (.agg x.cs)).isSome=true;rw[Ic];rfl
def jx5(e:bR):∀M:List bR,fh 5 (.agg e.cs) (M.map eE)=zp (if e∈M then zp (.agg []) else none):=by intro M;induction M with|nil=>simp[fh,MY]|cons x M ih=>simp only[zi,fh,show (eE x).1=.agg x.cs from rfl,Ic];by_cases a:e=x;{subst a;simp[eE]};simp only[a,aB];rw[ih];simp[a]
def kr2(e:bR):∀M:List bR,e ∉ M->gG 5 (.agg e.cs) (.agg []) (M.map eE)=zp ((M++[e]).map eE):=by intro M;induction M with|nil=>intro _;simp[gG,MY,eE]|cons x M ih=>intro h;have a:e≠x:=λq=>h (by simp[q]);have b:e ∉ M:=λq=>h (zd _ q);simp only[zi,gG,show (eE x).1=.agg x.cs from rfl,Ic,a,aB];rw[ih b];simp
def YI{x:bR}:∀(l M:List bR),x∈lD M l↔x∈l/\x ∉ M:=by intro l;induction l with|nil=>intro M;simp[lD]|cons e es ih=>intro M;unfold lD;split;{rename_i h;rw[ih];constructor;{rintro ⟨a,b⟩;exact ⟨zd _ a,b⟩};rintro ⟨a,b⟩;rcases zq.1 a with rfl|a;{exact au h b};exact ⟨a,b⟩};rename_i h;rw[zq,ih];simp only[List.mem_append,zq,List.not_mem_nil,aj,not_or];constructor;{rintro (rfl|⟨a,b,d⟩);{exact ⟨.inl rfl,h⟩};exact ⟨.inr a,b⟩};rintro ⟨rfl|a,b⟩;{exact .inl rfl};by_cases c:x=e;{exact .inl c};exact .inr ⟨a,b,c⟩
def YJ:∀(l M:List bR),(lD M l).length<=l.length:=by intro l;induction l with|nil=>intro M;simp[lD]|cons e es ih=>intro M;unfold lD;split;{exact Nat.le_succ_of_le (ih M)};exact Nat.succ_le_succ (ih _)
def MZ{x:bR}{items:List br}:x∈fZ items↔∃i∈items,x∈i.cr:=by unfold fZ;rw[YI,List.mem_flatMap];simp
def L4:∀items:List br,(items.flatMap br.cr).length<=3*items.length|[]=>by simp|x::xs=>by have:=x.HL;have:=L4 xs;rw[List.flatMap_cons,List.length_append,zb];omega
def Fi (items:List br):(fZ items).length<=3*items.length:=zk (YJ _ _) (L4 _)
namespace a7
variable {a:a7}
def cost (a:a7)(x:br):Nat:=if x.kind=2 then (a.nQ x).count else if x.kind=3 then (a.nE x).count else 0
def cU (a:a7)(xs:List br):Nat:=(xs.map a.cost).sum
def uC (xs b:List br):a.cU (xs++b)=a.cU xs+a.cU b:=by unfold cU;rw[zn,zm]
def EA{xs:List br}(h:∀x∈xs,x.kind≠2/\x.kind≠3):a.cU xs=0:=by unfold cU;induction xs with|nil=>rfl|cons x xs ih=>rw[zi,List.sum_cons,ih λy b=>h y (zd _ b)];have:=h x zj;unfold cost;rw[aa this.1,aa this.2]
section
variable (hO:nF a)
include hO
theorem Wl{x:br}(b:a.Has x){t:bL}(c:t.OK a.l.length):(a.fV x t).2.h<=t.h+a.cost x:=by by_cases g:x.kind=2;{cases b with|iU p q hp hq=>have⟨f,_,n⟩:=FD hO hp hq;exact (uH a.l (-1) _ (.inl f) t c).le.2|_=>simp at g};by_cases d:x.kind=3;{cases b with|fR p q hp hq=>have⟨f,_,n⟩:=Fg hO hp hq;exact (uH a.l p _ (.inl f) t c).le.2|_=>simp at d};have e:a.fV x t=(a.yW x,t):=(by unfold fV;rw[aa g,aa d]);rw[e];exact zc _ _
theorem Ug:∀(xs:List br),(∀x∈xs,a.Has x)->∀t:bL,t.OK a.l.length->(a.iH xs t).2.h<=t.h+a.cU xs:=by intro xs;induction xs with|nil=>intro _ t b;exact zc _ _|cons y ys ih=>intro h t b;have d:=(LX hO (h y zj) b).2.1;have f:=Wl hO (h y zj) b;have g:=ih (λx c=>h x (zd _ c)) _ d;show (a.iH ys (a.fV y t).2).2.h<=_;have e:a.cU (y::ys)=a.cost y+a.cU ys:=(by unfold cU;rw[zi,List.sum_cons]);omega
end
theorem Ek(l:List aS):∀n,n<=l.length->((List.range n).map λq=>(l.getD q default).count).sum=aS.counts (l.take n):=by intro n;induction n with|zero=>intro _;simp[aS.counts]|succ n ih=>intro c;have app:∀(A B:List aS),aS.counts (A++B)=aS.counts A+aS.counts B:=(by intro A B;induction A with|nil=>simp[aS.counts]|cons x A ih=>simp only[List.cons_append,aS.counts,ih];omega);have b:n<l.length:=om;rw[List.range_succ,zn,zm,ih om,zu,zh b,app];simp[aS.counts,zo,b]
def pn (p:ba):Nat:=aS.counts p.bq+aS.counts p.conflicts
theorem SC(p:Nat):a.cU (jX 2 p (a.pk p).bq.length)=aS.counts (a.pk p).bq:=by have h:=Ek (a.pk p).bq _ (za _);rw[zl]at h;rw[<- h];unfold cU jX;rw[List.map_map];rfl
theorem SD(p:Nat):a.cU (jX 3 p (a.pk p).conflicts.length)=aS.counts (a.pk p).conflicts:=by have h:=Ek (a.pk p).conflicts _ (za _);rw[zl]at h;rw[<- h];unfold cU jX;rw[List.map_map];rfl
theorem Wm(p:Nat):a.cU (a.pI p)=pn (a.pk p):=by unfold pI;rw[uC,uC,uC,SC,SD];have d:a.cU (a.kV p)=0:=EA λx b=>(by unfold kV at b;split at b;{cases b};rw[List.mem_singleton.1 b];exact ⟨(by decide:(1:Int)≠2),(by decide:(1:Int)≠3)⟩);have c:a.cU (jX 4 p (a.pk p).cR.length)=0:=EA λx b=>(by obtain ⟨q,_,rfl⟩:=qZ.1 b;exact ⟨(by decide:(4:Int)≠2),(by decide:(4:Int)≠3)⟩);rw[d,c];unfold pn;omega
theorem Uh:∀k,k<=a.l.length->a.cU (a.dq k)=((a.l.take k).map pn).sum:=by intro k;induction k with|zero=>intro _;rfl|succ k ih=>intro c;have b:k<a.l.length:=om;rw[CP,uC,ih om,Wm,zu,zh b,zn,zm];have e:a.pk (k:Int)=a.l[k]:=(by unfold pk;rw[Int.toNat_natCast,zo,zh b];rfl);rw[e];simp
theorem SE:a.cU a.items=(a.l.map pn).sum:=by unfold items;rw[uC,uC,uC,Uh _ (za _),zl];have pk:∀(f:Nat->Bool)(g:Nat->br)(n:Nat),(∀m,(g m).kind≠2/\(g m).kind≠3)->a.cU (iZ f g n)=0:=λf g n h=>EA λx b=>(by obtain ⟨m,_,_,rfl⟩:=oY.1 b;exact h m);have i:a.cU (a.jF a.l.length)=0:=EA λx b=>(by unfold jF at b;have⟨p,_,c⟩:=List.mem_flatMap.1 b;unfold Ca oE at c;obtain ⟨m,_,_,rfl⟩:=oY.1 c;exact ⟨(by decide:(5:Int)≠2),(by decide:(5:Int)≠3)⟩);have e:a.cU (a.mz a.p.aU.toNat)=0:=pk _ _ _ λm=>⟨(by decide:(6:Int)≠2),(by decide:(6:Int)≠3)⟩;have d:a.cU (a.oR a.r.bP.length)=0:=pk _ _ _ λm=>⟨(by decide:(7:Int)≠2),(by decide:(7:Int)≠3)⟩;rw[i,e,d];rfl
end a7
variable {n:Nat}
theorem nf.lw9{t:bL}(h:nf n t){b:List (List Int)}(e:∀q∈t.cl,q∈b):Eb (n+t.h) n b :=λF T j i g f=>h F T (λq d=>j q (e q d)) i g f
theorem jx6{m p:Nat}(h:n<=m):SB n p<=SB m p:=by unfold SB;exact Nat.add_le_add (zg (zg (za _) (zg (za _) h)) om) h
theorem YK{p q:Nat}(h:p<=q):SB n p<=SB n q:=by unfold SB;exact Nat.add_le_add (zg (zg (Nat.pow_le_pow_right om h) (za _)) (za _)) (za _)
theorem lx1:SB 207 7<=11075535:=by decide
def gZ:Nat->List aS->Nat->Nat->Nat|0,_,_,w=>w|_+1,[],_,w=>w|f+1,r::rs,n,w=>if w<n then gZ f rs n (w+1+gZ f r.args (n-w) 0) else w
theorem aS.uy(r:aS):r.count=1+aS.counts r.args:=by have⟨k,d,xs⟩:=r;simp only[aS.count,aS.args];omega
theorem HM:∀(f:Nat)(l:List aS)(n w:Nat),gZ f l n w<=w+aS.counts l:=by intro f;induction f with|zero=>intro l n w;exact zc _ _|succ f ih=>intro l n w;cases l with|nil=>exact zc _ _|cons r rs=>simp only[gZ];split;{have d:=ih rs n (w+1+gZ f r.args (n-w) 0);have c:=ih r.args (n-w) 0;have b:=r.uy;simp only[aS.counts];omega};exact zc _ _
theorem L5:∀(f:Nat)(l:List aS)(n w:Nat),w<=gZ f l n w:=by intro f;induction f with|zero=>intro l n w;exact za _|succ f ih=>intro l n w;cases l with|nil=>exact za _|cons r rs=>simp only[gZ];split;{have b:=ih rs n (w+1+gZ f r.args (n-w) 0);omega};exact za _
theorem K0:∀(f:Nat)(l:List aS)(n w:Nat),aS.counts l<f->gZ f l n w<n->gZ f l n w=w+aS.counts l:=by intro f;induction f with|zero=>intro l n w hf;omega|succ f ih=>intro l n w hf h;cases l with|nil=>rfl|cons r rs=>simp only[gZ]at h ⊢;have d:=r.uy;simp only[aS.counts]at hf ⊢;split at h;{rename_i b;rw[ab b];have g:=L5 f rs n (w+1+gZ f r.args (n-w) 0);have c:=ih r.args (n-w) 0 om om;rw[c]at h ⊢;rw[ih rs n _ om h];omega};omega
theorem SF:∀(f g:Nat)(l:List aS)(n w:Nat),aS.counts l<f->aS.counts l<g->gZ f l n w=gZ g l n w:=by intro f;induction f with|zero=>intro g l n w hf;omega|succ f ih=>intro g l n w hf b;cases g with|zero=>omega|succ g=>cases l with|nil=>rfl|cons r rs=>have c:=r.uy;simp only[aS.counts]at hf b;simp only[gZ];rw[ih g r.args (n-w) 0 om om,ih g rs n _ om om]
theorem Kn:∀(l:List aS)(i:Nat),i<=l.length->i+aS.counts (l.drop i)<=aS.counts l|[],i,h=>by simp at h;subst h;simp|r::rs,0,_=>by simp|r::rs,i+1,h=>by have c:=Kn rs i (by simpa using h);have b:=r.uy;simp only[zs,aS.counts];omega
variable {p:UInt8->Bool}
theorem Fj(l:bB):(l.dropWhile p).length<=l.length:=by induction l with|nil=>exact za _|cons a l ih=>rw[zf];split;{exact zk ih (Nat.le_succ _)};exact za _
theorem SG:∀(n m:Nat)(l:bB),l.length<=n->l.length<=m->lq n l=lq m l:=by intro n;induction n with|zero=>intro m l e _;have:l=[]:=List.length_eq_zero_iff.1 (Nat.le_zero.1 e);subst this;cases m<;>rfl|succ n ih=>intro m l e f;cases l with|nil=>cases m<;>rfl|cons b l=>cases m with|zero=>simp at f|succ m=>simp only[zb]at e f;have d:cL b=cL b->((b::l).dropWhile λc=>cL c==cL b).length<=l.length:=λ_=>(by rw[zf,ab (by simp)];exact Fj l);have d:=d rfl;simp only[lq];rw[ih m l om om,ih m _ (zk d om) (zk d om)]
def qU (b:UInt8)(l:bB):Nat:=(l.takeWhile λc=>cL c==cL b).length
variable {b:UInt8}
theorem YL{l:bB}(h:cL b=0):eo (b::l)=eo l:=by unfold eo;simp only[zb,lq,h,af]
theorem YM{l:bB}(h:cL b≠0)(c:cL b<4):eo (b::l)=⟨cL b,[]⟩::eo l:=by unfold eo;simp only[zb,lq,h,c,af,ae]
theorem Ie(p:UInt8->Bool)(l:bB):l.takeWhile p=l.take (l.takeWhile p).length/\l.dropWhile p=l.drop (l.takeWhile p).length:=by induction l with|nil=>exact ⟨rfl,rfl⟩|cons a l ih=>rw[ze,zf];cases h:p a with|true=>simp only[af,zb,zr,zs];exact ⟨by rw[<- ih.1],ih.2⟩|false=>simp
theorem YN{l:bB}(d:¬cL b<4):eo (b::l)=⟨cL b,if cL b=5 then ((b::l).take (qU b l+1)).dropWhile (· == 48) else (b::l).take (qU b l+1)⟩::eo (l.drop (qU b l)):=by have h0:cL b≠0:=om;unfold eo;simp only[zb,lq,h0,d,ae];have f:(b::l).takeWhile (λc=>cL c==cL b)=(b::l).take (qU b l+1):=(by rw[ze,ab (by simp),zr,(Ie (λc=>cL c==cL b) l).1];unfold qU;rw[<- (Ie (λc=>cL c==cL b) l).1]);have e:(b::l).dropWhile (λc=>cL c==cL b)=l.drop (qU b l):=(by rw[zf,ab (by simp)];exact (Ie (λc=>cL c==cL b) l).2);rw[f,e,SG l.length (l.drop (qU b l)).length _ (by rw[List.length_drop];omega) (za _)]
theorem lk7:∀(l:bB)(m:Nat),m<(l.takeWhile p).length->∃c,l[m]? = zp c/\p c=true:=by intro l;induction l with|nil=>intro m h;simp at h|cons a l ih=>intro m h;rw[ze]at h;cases b:p a with|false=>rw[b]at h;simp at h|true=>rw[b]at h;cases m with|zero=>exact ⟨a,rfl,b⟩|succ m=>exact ih m (by simpa using h)
theorem lk8:∀(l:bB)(c:UInt8),l[(l.takeWhile p).length]? = zp c->p c=false:=by intro l;induction l with|nil=>intro c h;simp at h|cons a l ih=>intro c h;rw[ze]at h;cases b:p a with|false=>rw[b]at h;simp at h;rw[<- h];exact b|true=>rw[b]at h;exact ih c (by simpa using h)
theorem kr3{b:UInt8}{l:bB}{m:Nat}(h:m<qU b l):∃c,l[m]? = zp c/\cL c=cL b:=by have⟨c,e,d⟩:=lk7 l m h;exact ⟨c,e,by simpa using d⟩
theorem kr4{l:bB}{c:UInt8}(h:l[qU b l]? = zp c):cL c≠cL b:=by have:=lk8 l c h;simpa using this
theorem kr5 (b:UInt8)(l:bB):qU b l<=l.length:=(List.takeWhile_sublist _).length_le
end Go.Id.Md
