/- Codes that are printed closely,walked. Conditions: none; over any program. -/
import Derived.Test.YtoanajmmemjeeaaGreatDoorFwQ
import Derived.Test.YtoanajmmemjeeaaGreatDoorMte
open List renaming length_map→za,getD_eq_getElem?_getD→ze,flatten_cons→zf,map_cons→zh,length_append→zi
open Nat renaming lt_of_lt_of_le→zb,le_trans→zc,le_add_right→zd
open Option renaming some→zg
set_option linter.all false
private theorem om{P:Prop}(h:P:=by omega):P:=h
namespace Go.Id
open Go
variable {d:Nat}
def lv5{q:IQ}:oQ d q=⟨zg d,none,.q q⟩:=nr rfl
def lv6{x:IX}:oM d x=⟨zg d,none,.q (.lh x)⟩:=nr rfl
variable {k:IK}
def lv7:oK d k=⟨zg d,none,k⟩:=nr rfl
variable {s:Nat}{w:Bool}
def lv9{q:IQ}:gQ d s w q=⟨zg d,zg (s,w),.q q⟩:=nr rfl
def lw1:gK d s w k=⟨zg d,zg (s,w),k⟩:=nr rfl
def lw2:oN k=⟨none,none,k⟩:=nr rfl
variable {n:Int}
def lw3:cI n=.c (.int .i64 n):=nr rfl
def lw4:cB w=.c (.bool w):=nr rfl
def lw5:zI n=.int .i64 n:=nr rfl
def lw6:zU n=.int .u8 n:=nr rfl
attribute [go_sem] lv5 lv6 lv7 lv9 lw1 lw2 lw3 lw4 lw5 lw6
attribute [go_sem] decide_true decide_false reduceCtorEq Int.reduceLT Int.reduceLE Int.reduceToNat Int.reduceAdd Nat.reduceEqDiff Nat.reduceAdd Nat.reduceMul Nat.reduceLT Nat.reduceLeDiff
attribute [go_sem ↓] reduceIte
def nZ(h:Nat.ble d s=true):d<=s:=Nat.le_of_ble_eq_true h
variable {P:Program} {E:Nat->IV} {O:aQ} {N n0 id:Nat} {fr:a8} {pt:PT} {ct:CT} {Q:Exit->a8->aQ->Prop} {K:IV->aQ->Prop}
variable {a:IV}
def dY{P:IV->Prop}(h:P a):∀v∈[a],P v:=by simpa using h
variable {b:IV}
def dx{P:IV->Prop}(h:P a)(c:P b):∀v∈[a,b],P v:=by simpa using ⟨h,c⟩
variable {c:IV}
def rU{P:IV->Prop}(h:P a)(e:P b)(d:P c):∀v∈[a,b,c],P v:=by simpa using ⟨h,e,d⟩
variable {e:IV}
def Ju{P:IV->Prop}(h:P a)(g:P b)(f:P c)(d:P e):∀v∈[a,b,c,e],P v:=by simpa using ⟨h,g,f,d⟩
def P3{P:IV->Prop}{d:IV}(h:P a)(j:P b)(i:P c)(g:P e)(f:P d):∀v∈[a,b,c,e,d],P v:=by simpa using ⟨h,j,i,g,f⟩
def lj6{P:IV->Prop}{d f:IV}(h:P a)(m:P b)(k:P c)(j:P e)(i:P d)(g:P f):∀v∈[a,b,c,e,d,f],P v:=by simpa using ⟨h,m,k,j,i,g⟩
def lj7 {a:Option Nat}{x:IX}:cJ E fr O (.ldt a x)=Cd a (x.ev E fr):=nr rfl
def kn2 {cs:List IV}:Cd none (.bd cs)=cs.head?:=nr rfl
def kn3{cs:List IV}:Cd (zg d) (.bd cs)=if d<=cs.length then zg (.agg (cs.take d)) else none:=nr rfl
attribute [go_sem] lj7 kn2 kn3
end Go.Id
namespace Go.Id
open Go Go.Id.Md
variable {P:Program} {E:Nat->IV} {O s t:aQ} {v:IV} {zs:List Int} {lo:Nat}
abbrev bV (n:Int):IV:=.int .i64 n
def kI(s:aQ)(lo:Nat)(v:IV)(zs:List Int):Prop :=(v=.bc/\zs=[])\/∃id cs,lo<=id/\id<s.aP/\v=.slice id 0 zs.length 1/\s.aR id=zg (.row cs)/\cs.take zs.length=zs.map bV/\zs.length<=cs.length
def dw(s:aQ)(lo:Nat)(v:IV)(zs:List Int):Prop :=(v=.bc/\zs=[])\/∃id,lo<=id/\id<s.aP/\v=.slice id 0 zs.length 1/\s.aR id=zg (.row (zs.map bV))
def dw.w(h:dw s lo v zs):kI s lo v zs:=by rcases h with h|⟨id,d,c,b,a⟩;{exact .inl h};exact .inr ⟨id,_,d,c,b,a,by rw[List.take_of_length_le (by simp)],by simp⟩
structure Kept (O s:aQ):Prop where
 aP:O.aP<=s.aP
 aR:∀i,i<O.aP->s.aR i=O.aR i
def Kept.refl (O:aQ):Kept O O:=⟨Nat.le_refl _,λ_ _=>rfl⟩
def Kept.trans (h:Kept O s)(a:Kept s t):Kept O t:=⟨zc h.aP a.aP,λi hi=>by rw[a.aR i (zb hi h.aP),h.aR i hi]⟩
def GR (O:aQ)(zs:List Int)(v:IV)(s:aQ):Prop:=Kept O s/\kI s O.aP v zs
def lx (O:aQ)(zs:List Int)(v:IV)(s:aQ):Prop:=Kept O s/\dw s O.aP v zs
def lx.w (h:lx O zs v s):GR O zs v s:=⟨h.1,h.2.w⟩
variable {i:Nat}
def Fz{cs:List IV}(h:cs.take zs.length=zs.map bV)(hi:i<zs.length):cs.getD i .undef=bV zs[i]:=by have a:(cs.take zs.length)[i]? = (zs.map bV)[i]?:=(by rw[h]);rw[List.getElem?_take,ab hi,List.getElem?_map,List.getElem?_eq_getElem hi]at a;rw[ze,a];rfl
def kI.dJ{S:Nat->Prop}(h:kI s lo v zs)(b:∀i,lo<=i->¬S i):de s S v (.aW (zs.map Md.bu)):=by rcases h with ⟨rfl,rfl⟩|⟨id,cs,e,m,rfl,d,c,k⟩;{exact .jr};refine .slice id 0 zs.length 1 cs (zs.map Md.bu) (b id e) (.inr d) (by rw[za]) om (λi hi=>?_) λi hi j g=>?_;{simp[ze,hi,Md.bu]};have a:j=0:=om;subst a;have f:((zs.map Md.bu).getD i []).getD 0 .undef=bV zs[i]:=(by simp[ze,hi,Md.bu]);rw[f,Nat.zero_add,Nat.mul_one,Nat.add_zero,Fz c hi];exact .aT _ (.int _ _)
def OS{args:List IV}(h:∀O,C P E i args O (GR O zs)):PC P E i args (.aW (zs.map Md.bu)):=O3 λO _=>(h O).mono λv s ⟨a,c⟩=>⟨a.aR,a.aP,c.dJ λf hi b=>Nat.lt_irrefl _ (zb b hi)⟩
def IB{args:List IV}(h:∀O,C P E i args O (lx O zs)):PC P E i args (.aW (zs.map Md.bu)):=OS λO=>(h O).mono λ_ _=>lx.w
def dw.gr(h:dw s lo v zs):Grow s v 1 (zs.map Md.bu):=by have a:∀zs:List Int,(zs.map Md.bu).flatten=zs.map bV:=λzs=>(by induction zs with|nil=>rfl|cons z zs ih=>simp only[zh,zf,ih];rfl);rcases h with ⟨rfl,rfl⟩|⟨id,d,c,rfl,b⟩;{exact .inl ⟨rfl,rfl⟩};exact .inr ⟨id,by rw[za],by rw[b,a],c⟩
def nA{nid:Nat}(h:dw s lo v zs)(n:Int)(b:zs.length<2147483648): c8 s nid 1 v (.aW [[.int .i64 n]])=zg (.slice nid 0 (zs.length+1) 1,(cW v s).put nid (.row ((zs++[n]).map bV))):=by have c:=kP (nid:=nid) (e:=[.int .i64 n]) h.gr (λx a=>by obtain ⟨y,_,rfl⟩:=List.mem_map.1 a;exact ⟨rfl,rfl⟩) ⟨rfl,rfl⟩ (by rw[za];exact b);rw[c,za];congr 4;rw[List.flatten_append,List.map_append];congr 1;generalize zs=l;induction l with|nil=>rfl|cons z zs ih=>simp only[zh,zf,ih];rfl
def VH(h:dw s lo v zs)(hi:i<lo):(cW v s).aR i=s.aR i:=by rcases h with ⟨rfl,_⟩|⟨id,c,b,rfl,a⟩;{rfl};show (if i=id then none else s.aR i)=s.aR i;rw[aa om]
def Kept.up (h:Kept O s)(n:Nat):Kept O ⟨s.aP+n,s.aR⟩:=⟨zc h.aP (zd _ _),h.aR⟩
def dw.up(h:dw s lo v zs)(n:Nat):dw ⟨s.aP+n,s.aR⟩ lo v zs:=by rcases h with h|⟨id,d,c,b,a⟩;{exact .inl h};exact .inr ⟨id,d,zb c (zd _ _),b,a⟩
def dw.kept(h:dw s lo v zs)(a:Kept s t):dw t lo v zs:=by rcases h with h|⟨id,e,b,d,c⟩;{exact .inl h};exact .inr ⟨id,e,zb b a.aP,d,by rw[a.aR id b];exact c⟩
def Kept.low(h:Kept ⟨O.aP+i,O.aR⟩ s):Kept O s:=⟨zc (zd _ i) h.aP,λk hi=>h.aR k (zb hi (zd _ i))⟩
def dw.low(h:dw s lo v zs)(b:i<=lo):dw s i v zs:=by rcases h with h|⟨id,d,c⟩;{exact .inl h};exact .inr ⟨id,zc b d,c⟩
def kI.low(h:kI s lo v zs)(b:i<=lo):kI s i v zs:=by rcases h with h|⟨id,cs,d,c⟩;{exact .inl h};exact .inr ⟨id,cs,zc b d,c⟩
def Kept.box(t:aQ)(A B:bU):Kept t ⟨t.aP+1,(((⟨t.aP+1,t.aR⟩:aQ).put t.aP A).put t.aP B).aR⟩:=⟨Nat.le_succ _,λi hi=>by have h:¬i=t.aP:=om;show (if i=t.aP then _ else if i=t.aP then _ else t.aR i)=_;rw[aa h,aa h]⟩
def VI:∀zs:List Int,(zs.map Md.bu).flatten=zs.map bV:=λzs=>by induction zs with|nil=>rfl|cons z zs ih=>simp only[zh,zf,ih];rfl
def sw(zs:List Int):(zs.map bV).all IV.aY=true:=by rw[List.all_map];exact List.all_eq_true.2 λ_ _=>rfl
def XX{nid:Nat}{xs:List Int}(h:dw s lo v zs)(p:zs.length+xs.length<=2147483648): ∃n O',c8 s nid 1 v (.aW (xs.map Md.bu))=zg (n,O')/\O'.aP=s.aP/\(∀i,i<lo->i≠nid->O'.aR i=s.aR i)/\∀a:aQ,a.aR=O'.aR->nid<a.aP->s.aP<=a.aP->lo<=nid->dw a lo n (zs++xs):=by
 have c:dO s 1 (.aW (xs.map Md.bu))=zg (xs.length,xs.map bV):=by have b:(xs.map Md.bu).all (λe=>e.length==1)=true:=List.all_eq_true.2 λx u=>(by obtain ⟨y,_,rfl⟩:=List.mem_map.1 u;rfl);simp only[dO,b,af,za,VI]
 have g:¬((xs.map bV).all IV.aY=false):=by rw[sw];decide
 unfold c8;rw[c];simp only[g,ae];by_cases h0:xs.length=0;{have f:xs=[]:=List.length_eq_zero_iff.1 h0;subst f;rw[List.append_nil];rcases h with ⟨rfl,he⟩|⟨id,o,r,rfl,d⟩;{exact ⟨.bc,s,rfl,rfl,λ_ _ _=>rfl,λa _ _ _ _=>.inl ⟨rfl,he⟩⟩};simp only[d,List.length_nil,ai,af];exact ⟨_,_,rfl,rfl,λ_ _ _=>rfl,λa b _ q _=>.inr ⟨id,o,om,rfl,by rw[b];exact d⟩⟩};rcases h with ⟨rfl,he⟩|⟨id,o,r,rfl,d⟩;{subst he;have k:xs.length<=2147483648:=(by simpa using p);simp only[h0,ae,k,af];refine ⟨_,_,rfl,rfl,λi _ hi=>aa hi,λa b A _ m=>.inr ⟨nid,m,A,by rw[List.nil_append],?_⟩⟩;rw[b,aV,ab rfl,List.nil_append]};have b:0+zs.length*1=(zs.map bV).length:=by rw[za];omega
 simp only[d,h0,and_false,ae,b,p,List.drop_zero,sw,ai,af];refine ⟨_,_,rfl,rfl,λi hi j=>?_,λa q m _ z=>.inr ⟨nid,z,m,by rw[zi],?_⟩⟩;{show (if i=nid then _ else if i=id then none else s.aR i)=_;rw[aa j,aa om]};rw[q,aV,ab rfl,List.map_append];try rfl
def XY{o:IV}{b nid k:Nat}{es:List (List IV)}{e cs:List IV}{A B:bU}(u:Grow s o i es)(h:∀x∈es,x.length=i/\x.all IV.aY=true)(he:e.length=i/\e.all IV.aY=true)(r:es.length<2147483648)(y:s.aR b=zg (.cells cs))(m:b<s.aP)(q:s.aP<nid): ∃d,c8 ⟨s.aP+1+k,(((⟨s.aP+1,s.aR⟩:aQ).put s.aP A).put s.aP B).aR⟩ nid i o (.aW [e])=zg (.slice nid 0 (es.length+1) i,d)/\d.aP=s.aP+1+k/\d.aR b=zg (.cells cs) /\ ∀c f,nid<f->Grow ⟨f,(d.put b (.cells c)).aR⟩ (.slice nid 0 (es.length+1) i) i (es++[e]):=by have p:∀w,w<s.aP->(((⟨s.aP+1,s.aR⟩:aQ).put s.aP A).put s.aP B).aR w=s.aR w:=λw hi=>(by show (if w=s.aP then _ else if w=s.aP then _ else s.aR w)=_;rw[aa om,aa om]);have a:Grow ⟨s.aP+1+k,(((⟨s.aP+1,s.aR⟩:aQ).put s.aP A).put s.aP B).aR⟩ o i es:=Grow.mono (O:=s) u (by show s.aP<=s.aP+1+k;omega) λid _ j=>p id j;have n:(((⟨s.aP+1,s.aR⟩:aQ).put s.aP A).put s.aP B).aR b=zg (.cells cs):=(by rw[p b m,y]);refine ⟨_,kP a h he r,by rw[bH,gf],?_,λc f g=>?_⟩;{rw[aV,aa om];exact jC a b _ n (λ_ e=>by cases e)};refine Grow.new (v:=.bc) g ?_;show (if nid=b then _ else if nid=nid then _ else _)=_;rw[aa om,ab rfl]
def pR(b:Kept O s)(h:dw s O.aP v zs)(n:Int){a nid:Nat}(g:s.aP<=nid)(f:nid<s.aP+a){cs:List IV}(hc:cs=(zs++[n]).map bV): Kept O ((cW v ⟨s.aP+a,s.aR⟩).put nid (.row cs))/\dw ((cW v ⟨s.aP+a,s.aR⟩).put nid (.row cs)) O.aP (.slice nid 0 (zs.length+1) 1) (zs++[n]):=by subst hc;have d:(cW v ⟨s.aP+a,s.aR⟩).aP=s.aP+a:=gf v;refine ⟨⟨?_,λi hi=>?_⟩,.inr ⟨nid,zc b.aP g,?_,by rw[zi,List.length_singleton],?_⟩⟩;{show O.aP<=(cW v _).aP;rw[d];exact zc b.aP (zd _ _)};{have c:i≠nid:=λe=>(by have:=b.aP;omega);show (if i=nid then _ else (cW v ⟨s.aP+a,s.aR⟩).aR i)=_;rw[aa c,VH (h.up a) hi];exact b.aR i hi};{show nid<(cW v _).aP;rw[d];exact f};show (if nid=nid then _ else _)=_;rw[ab rfl]
end Go.Id
