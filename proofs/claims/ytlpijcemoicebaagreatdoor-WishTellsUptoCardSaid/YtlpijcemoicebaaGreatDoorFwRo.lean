/- Codes that are printed closely,walked. Conditions: none; over any program. -/
import Derived.Test.YtlpijcemoicebaaGreatDoorFwQ
import Derived.Test.YtlpijcemoicebaaGreatDoorMre
open List renaming length_map→za,getD_eq_getElem?_getD→ze,flatten_cons→zf,map_cons→zh,length_append→zi
open Nat renaming lt_of_lt_of_le→zb,le_trans→zc,le_add_right→zd
open Option renaming some→zg
set_option linter.all false
private theorem om{P:Prop}(h:P:=by omega):P:=h
namespace Go.Id
open Go
variable {d:Nat}
def lw7{q:IQ}:oQ d q=⟨zg d,none,.q q⟩:=nr rfl
def lw8{x:IX}:oM d x=⟨zg d,none,.q (.mJ x)⟩:=nr rfl
variable {k:IK}
def lw9:oK d k=⟨zg d,none,k⟩:=nr rfl
variable {s:Nat}{w:Bool}
def lx1{q:IQ}:gQ d s w q=⟨zg d,zg (s,w),.q q⟩:=nr rfl
def lx2:gK d s w k=⟨zg d,zg (s,w),k⟩:=nr rfl
def lx3:oN k=⟨none,none,k⟩:=nr rfl
variable {n:Int}
def lx4:cI n=.c (.int .i64 n):=nr rfl
def lx5:cB w=.c (.bool w):=nr rfl
def lx6:zI n=.int .i64 n:=nr rfl
def lx7:zU n=.int .u8 n:=nr rfl
attribute [go_sem] lw7 lw8 lw9 lx1 lx2 lx3 lx4 lx5 lx6 lx7
attribute [go_sem] decide_true decide_false reduceCtorEq Int.reduceLT Int.reduceLE Int.reduceToNat Int.reduceAdd Nat.reduceEqDiff Nat.reduceAdd Nat.reduceMul Nat.reduceLT Nat.reduceLeDiff
attribute [go_sem ↓] reduceIte
def nZ(h:Nat.ble d s=true):d<=s:=Nat.le_of_ble_eq_true h
variable {P:Program} {E:Nat->IV} {O:aW} {N n0 id:Nat} {fr:bz} {pt:PT} {ct:CT} {Q:Exit->bz->aW->Prop} {K:IV->aW->Prop}
variable {a:IV}
def dF{P:IV->Prop}(h:P a):∀v∈[a],P v:=by simpa using h
variable {b:IV}
def cM{P:IV->Prop}(h:P a)(c:P b):∀v∈[a,b],P v:=by simpa using ⟨h,c⟩
variable {c:IV}
def fR{P:IV->Prop}(h:P a)(e:P b)(d:P c):∀v∈[a,b,c],P v:=by simpa using ⟨h,e,d⟩
variable {e:IV}
def ud{P:IV->Prop}(h:P a)(g:P b)(f:P c)(d:P e):∀v∈[a,b,c,e],P v:=by simpa using ⟨h,g,f,d⟩
def Kq{P:IV->Prop}{d:IV}(h:P a)(j:P b)(i:P c)(g:P e)(f:P d):∀v∈[a,b,c,e,d],P v:=by simpa using ⟨h,j,i,g,f⟩
def lm4{P:IV->Prop}{d f:IV}(h:P a)(m:P b)(k:P c)(j:P e)(i:P d)(g:P f):∀v∈[a,b,c,e,d,f],P v:=by simpa using ⟨h,m,k,j,i,g⟩
def lm5 {a:Option Nat}{x:IX}:du E fr O (.ldt a x)=Dc a (x.ev E fr):=nr rfl
def ku9 {cs:List IV}:Dc none (.bj cs)=cs.head?:=nr rfl
def kv1{cs:List IV}:Dc (zg d) (.bj cs)=if d<=cs.length then zg (.agg (cs.take d)) else none:=nr rfl
attribute [go_sem] lm5 ku9 kv1
end Go.Id
namespace Go.Id
open Go Go.Id.Md
variable {P:Program} {E:Nat->IV} {O s t:aW} {v:IV} {zs:List Int} {lo:Nat}
abbrev dW (n:Int):IV:=.int .i64 n
def j5(s:aW)(lo:Nat)(v:IV)(zs:List Int):Prop :=(v=.bA/\zs=[])\/∃id cs,lo<=id/\id<s.aV/\v=.slice id 0 zs.length 1/\s.aY id=zg (.row cs)/\cs.take zs.length=zs.map dW/\zs.length<=cs.length
def cX(s:aW)(lo:Nat)(v:IV)(zs:List Int):Prop :=(v=.bA/\zs=[])\/∃id,lo<=id/\id<s.aV/\v=.slice id 0 zs.length 1/\s.aY id=zg (.row (zs.map dW))
def cX.w(h:cX s lo v zs):j5 s lo v zs:=by rcases h with h|⟨id,d,c,b,a⟩;{exact .inl h};exact .inr ⟨id,_,d,c,b,a,by rw[List.take_of_length_le (by simp)],by simp⟩
structure Kept (O s:aW):Prop where
 aV:O.aV<=s.aV
 aY:∀i,i<O.aV->s.aY i=O.aY i
def Kept.refl (O:aW):Kept O O:=⟨Nat.le_refl _,λ_ _=>rfl⟩
def Kept.trans (h:Kept O s)(a:Kept s t):Kept O t:=⟨zc h.aV a.aV,λi hi=>by rw[a.aY i (zb hi h.aV),h.aY i hi]⟩
def xB (O:aW)(zs:List Int)(v:IV)(s:aW):Prop:=Kept O s/\j5 s O.aV v zs
def ll (O:aW)(zs:List Int)(v:IV)(s:aW):Prop:=Kept O s/\cX s O.aV v zs
def ll.w (h:ll O zs v s):xB O zs v s:=⟨h.1,h.2.w⟩
variable {i:Nat}
def Gv{cs:List IV}(h:cs.take zs.length=zs.map dW)(hi:i<zs.length):cs.getD i .undef=dW zs[i]:=by have a:(cs.take zs.length)[i]? = (zs.map dW)[i]?:=(by rw[h]);rw[List.getElem?_take,ab hi,List.getElem?_map,List.getElem?_eq_getElem hi]at a;rw[ze,a];rfl
def j5.dN{S:Nat->Prop}(h:j5 s lo v zs)(b:∀i,lo<=i->¬S i):dz s S v (.a8 (zs.map Md.bw)):=by rcases h with ⟨rfl,rfl⟩|⟨id,cs,e,m,rfl,d,c,k⟩;{exact .fZ};refine .slice id 0 zs.length 1 cs (zs.map Md.bw) (b id e) (.inr d) (by rw[za]) om (λi hi=>?_) λi hi j g=>?_;{simp[ze,hi,Md.bw]};have a:j=0:=om;subst a;have f:((zs.map Md.bw).getD i []).getD 0 .undef=dW zs[i]:=(by simp[ze,hi,Md.bw]);rw[f,Nat.zero_add,Nat.mul_one,Nat.add_zero,Gv c hi];exact .bd _ (.int _ _)
def J1{args:List IV}(h:∀O,C P E i args O (xB O zs)):PC P E i args (.a8 (zs.map Md.bw)):=Qi λO _=>(h O).mono λv s ⟨a,c⟩=>⟨a.aY,a.aV,c.dN λf hi b=>Nat.lt_irrefl _ (zb b hi)⟩
def O4{args:List IV}(h:∀O,C P E i args O (ll O zs)):PC P E i args (.a8 (zs.map Md.bw)):=J1 λO=>(h O).mono λ_ _=>ll.w
def cX.gr(h:cX s lo v zs):Grow s v 1 (zs.map Md.bw):=by have a:∀zs:List Int,(zs.map Md.bw).flatten=zs.map dW:=λzs=>(by induction zs with|nil=>rfl|cons z zs ih=>simp only[zh,zf,ih];rfl);rcases h with ⟨rfl,rfl⟩|⟨id,d,c,rfl,b⟩;{exact .inl ⟨rfl,rfl⟩};exact .inr ⟨id,by rw[za],by rw[b,a],c⟩
def oc{nid:Nat}(h:cX s lo v zs)(n:Int)(b:zs.length<2147483648): di s nid 1 v (.a8 [[.int .i64 n]])=zg (.slice nid 0 (zs.length+1) 1,(cL v s).put nid (.row ((zs++[n]).map dW))):=by have c:=j9 (nid:=nid) (e:=[.int .i64 n]) h.gr (λx a=>by obtain ⟨y,_,rfl⟩:=List.mem_map.1 a;exact ⟨rfl,rfl⟩) ⟨rfl,rfl⟩ (by rw[za];exact b);rw[c,za];congr 4;rw[List.flatten_append,List.map_append];congr 1;generalize zs=l;induction l with|nil=>rfl|cons z zs ih=>simp only[zh,zf,ih];rfl
def Ix(h:cX s lo v zs)(hi:i<lo):(cL v s).aY i=s.aY i:=by rcases h with ⟨rfl,_⟩|⟨id,c,b,rfl,a⟩;{rfl};show (if i=id then none else s.aY i)=s.aY i;rw[aa om]
def Kept.up (h:Kept O s)(n:Nat):Kept O ⟨s.aV+n,s.aY⟩:=⟨zc h.aV (zd _ _),h.aY⟩
def cX.up(h:cX s lo v zs)(n:Nat):cX ⟨s.aV+n,s.aY⟩ lo v zs:=by rcases h with h|⟨id,d,c,b,a⟩;{exact .inl h};exact .inr ⟨id,d,zb c (zd _ _),b,a⟩
def cX.kept(h:cX s lo v zs)(a:Kept s t):cX t lo v zs:=by rcases h with h|⟨id,e,b,d,c⟩;{exact .inl h};exact .inr ⟨id,e,zb b a.aV,d,by rw[a.aY id b];exact c⟩
def Kept.low(h:Kept ⟨O.aV+i,O.aY⟩ s):Kept O s:=⟨zc (zd _ i) h.aV,λk hi=>h.aY k (zb hi (zd _ i))⟩
def cX.low(h:cX s lo v zs)(b:i<=lo):cX s i v zs:=by rcases h with h|⟨id,d,c⟩;{exact .inl h};exact .inr ⟨id,zc b d,c⟩
def j5.low(h:j5 s lo v zs)(b:i<=lo):j5 s i v zs:=by rcases h with h|⟨id,cs,d,c⟩;{exact .inl h};exact .inr ⟨id,cs,zc b d,c⟩
def Kept.box(t:aW)(A B:cx):Kept t ⟨t.aV+1,(((⟨t.aV+1,t.aY⟩:aW).put t.aV A).put t.aV B).aY⟩:=⟨Nat.le_succ _,λi hi=>by have h:¬i=t.aV:=om;show (if i=t.aV then _ else if i=t.aV then _ else t.aY i)=_;rw[aa h,aa h]⟩
def WN:∀zs:List Int,(zs.map Md.bw).flatten=zs.map dW:=λzs=>by induction zs with|nil=>rfl|cons z zs ih=>simp only[zh,zf,ih];rfl
def FG(zs:List Int):(zs.map dW).all IV.bn=true:=by rw[List.all_map];exact List.all_eq_true.2 λ_ _=>rfl
def Y1{nid:Nat}{xs:List Int}(h:cX s lo v zs)(q:zs.length+xs.length<=2147483648): ∃o O',di s nid 1 v (.a8 (xs.map Md.bw))=zg (o,O')/\O'.aV=s.aV/\(∀i,i<lo->i≠nid->O'.aY i=s.aY i)/\∀a:aW,a.aY=O'.aY->nid<a.aV->s.aV<=a.aV->lo<=nid->cX a lo o (zs++xs):=by
 have c:fY s 1 (.a8 (xs.map Md.bw))=zg (xs.length,xs.map dW):=by have b:(xs.map Md.bw).all (λe=>e.length==1)=true:=List.all_eq_true.2 λx z=>(by obtain ⟨y,_,rfl⟩:=List.mem_map.1 z;rfl);simp only[fY,b,af,za,WN]
 have g:¬((xs.map dW).all IV.bn=false):=by rw[FG];decide
 unfold di;rw[c];simp only[g,ae];by_cases h0:xs.length=0;{have f:xs=[]:=List.length_eq_zero_iff.1 h0;subst f;rw[List.append_nil];rcases h with ⟨rfl,m⟩|⟨id,p,u,rfl,d⟩;{exact ⟨.bA,s,rfl,rfl,λ_ _ _=>rfl,λa _ _ _ _=>.inl ⟨rfl,m⟩⟩};simp only[d,List.length_nil,ai,af];exact ⟨_,_,rfl,rfl,λ_ _ _=>rfl,λa b _ r _=>.inr ⟨id,p,om,rfl,by rw[b];exact d⟩⟩};rcases h with ⟨rfl,m⟩|⟨id,p,u,rfl,d⟩;{subst m;have k:xs.length<=2147483648:=(by simpa using q);simp only[h0,ae,k,af];refine ⟨_,_,rfl,rfl,λi _ hi=>aa hi,λa b B _ n=>.inr ⟨nid,n,B,by rw[List.nil_append],?_⟩⟩;rw[b,bq,ab rfl,List.nil_append]};have b:0+zs.length*1=(zs.map dW).length:=by rw[za];omega
 simp only[d,h0,and_false,ae,b,q,List.drop_zero,FG,ai,af];refine ⟨_,_,rfl,rfl,λi hi j=>?_,λa r n _ A=>.inr ⟨nid,A,n,by rw[zi],?_⟩⟩;{show (if i=nid then _ else if i=id then none else s.aY i)=_;rw[aa j,aa om]};rw[r,bq,ab rfl,List.map_append];try rfl
def NF{n:IV}{b nid k:Nat}{es:List (List IV)}{e cs:List IV}{A B:cx}(r:Grow s n i es)(h:∀x∈es,x.length=i/\x.all IV.bn=true)(u:e.length=i/\e.all IV.bn=true)(q:es.length<2147483648)(y:s.aY b=zg (.cells cs))(j:b<s.aV)(p:s.aV<nid): ∃c,di ⟨s.aV+1+k,(((⟨s.aV+1,s.aY⟩:aW).put s.aV A).put s.aV B).aY⟩ nid i n (.a8 [e])=zg (.slice nid 0 (es.length+1) i,c)/\c.aV=s.aV+1+k/\c.aY b=zg (.cells cs) /\ ∀cs' d,nid<d->Grow ⟨d,(c.put b (.cells cs')).aY⟩ (.slice nid 0 (es.length+1) i) i (es++[e]):=by have o:∀w,w<s.aV->(((⟨s.aV+1,s.aY⟩:aW).put s.aV A).put s.aV B).aY w=s.aY w:=λw hi=>(by show (if w=s.aV then _ else if w=s.aV then _ else s.aY w)=_;rw[aa om,aa om]);have a:Grow ⟨s.aV+1+k,(((⟨s.aV+1,s.aY⟩:aW).put s.aV A).put s.aV B).aY⟩ n i es:=Grow.mono (O:=s) r (by show s.aV<=s.aV+1+k;omega) λid _ g=>o id g;have m:(((⟨s.aV+1,s.aY⟩:aW).put s.aV A).put s.aV B).aY b=zg (.cells cs):=(by rw[o b j,y]);refine ⟨_,j9 a h u q,by rw[bU,fa],?_,λcs' d f=>?_⟩;{rw[bq,aa om];exact ji a b _ m (λ_ e=>by cases e)};refine Grow.new (v:=.bA) f ?_;show (if nid=b then _ else if nid=nid then _ else _)=_;rw[aa om,ab rfl]
def tD(b:Kept O s)(h:cX s O.aV v zs)(n:Int){a nid:Nat}(g:s.aV<=nid)(f:nid<s.aV+a){cs:List IV}(hc:cs=(zs++[n]).map dW): Kept O ((cL v ⟨s.aV+a,s.aY⟩).put nid (.row cs))/\cX ((cL v ⟨s.aV+a,s.aY⟩).put nid (.row cs)) O.aV (.slice nid 0 (zs.length+1) 1) (zs++[n]):=by subst hc;have d:(cL v ⟨s.aV+a,s.aY⟩).aV=s.aV+a:=fa v;refine ⟨⟨?_,λi hi=>?_⟩,.inr ⟨nid,zc b.aV g,?_,by rw[zi,List.length_singleton],?_⟩⟩;{show O.aV<=(cL v _).aV;rw[d];exact zc b.aV (zd _ _)};{have c:i≠nid:=λe=>(by have:=b.aV;omega);show (if i=nid then _ else (cL v ⟨s.aV+a,s.aY⟩).aY i)=_;rw[aa c,Ix (h.up a) hi];exact b.aY i hi};{show nid<(cL v _).aV;rw[d];exact f};show (if nid=nid then _ else _)=_;rw[ab rfl]
end Go.Id
