/- Codes that are printed closely,walked. Conditions: none; over any program. -/
import Derived.Test.YthjhfdodeghbpaaGreatDoorT6
import Derived.Test.YthjhfdodeghbpaaGreatDoorMg
open Nat renaming lt_of_lt_of_le→za,le_add_right→zc,le_trans→zd
open List renaming length_map→zb,getD_eq_getElem?_getD→ze,flatten_cons→zf,map_cons→zg,length_append→zi
open Option renaming some→zh
set_option linter.all false
private theorem om{P:Prop}(h:P:=by omega):P:=h
private theorem sm{P:Prop}(h:P:=by simp):P:=h
namespace Go.Id
open Go
def lc1 {d:Nat}{q:IQ}:oQ d q=⟨zh d,none,.q q⟩:=nr rfl
def lc2 {d:Nat}{x:IX}:oM d x=⟨zh d,none,.q (.mov x)⟩:=nr rfl
def lc3 {d:Nat}{k:IK}:oK d k=⟨zh d,none,k⟩:=nr rfl
def lc4 {d s:Nat}{w:Bool}{q:IQ}:gQ d s w q=⟨zh d,zh (s,w),.q q⟩:=nr rfl
def lc5 {d s:Nat}{w:Bool}{k:IK}:gK d s w k=⟨zh d,zh (s,w),k⟩:=nr rfl
def lc6 {k:IK}:oN k=⟨none,none,k⟩:=nr rfl
def lc7 {n:Int}:cI n=.c (.int .i64 n):=nr rfl
def lc8 {b:Bool}:cB b=.c (.bool b):=nr rfl
def lc9 {n:Int}:zI n=.int .i64 n:=nr rfl
def ld2 {n:Int}:zU n=.int .u8 n:=nr rfl
attribute [go_sem] lc1 lc2 lc3 lc4 lc5 lc6 lc7 lc8 lc9 ld2
attribute [go_sem] decide_true decide_false reduceCtorEq Int.reduceLT Int.reduceLE Int.reduceToNat Int.reduceAdd Nat.reduceEqDiff Nat.reduceAdd Nat.reduceMul Nat.reduceLT Nat.reduceLeDiff
attribute [go_sem ↓] reduceIte
def nZ {a b:Nat} (h:Nat.ble a b=true):a<=b:=Nat.le_of_ble_eq_true h
variable {P:Program} {E:Nat->IV} {σ:Store} {N n0 id:Nat} {fr:Frm} {pt:PT} {ct:CT} {Q:Exit->Frm->Store->Prop} {K:IV->Store->Prop}
def al3 {P:IV->Prop}{a:IV}(h:P a):∀v∈[a],P v:=by simpa using h
def ag7 {P:IV->Prop}{a b:IV}(h:P a)(c:P b):∀v∈[a,b],P v:=by simpa using ⟨h,c⟩
def aw9 {P:IV->Prop}{a b c:IV}(h:P a)(e:P b)(d:P c):∀v∈[a,b,c],P v:=by simpa using ⟨h,e,d⟩
def gv8 {P:IV->Prop}{a b c d:IV}(h:P a)(g:P b)(f:P c)(e:P d):∀v∈[a,b,c,d],P v:=by simpa using ⟨h,g,f,e⟩
def kb2 {P:IV->Prop}{a b c d e:IV}(h:P a)(j:P b)(i:P c)(g:P d)(f:P e):∀v∈[a,b,c,d,e],P v:=by simpa using ⟨h,j,i,g,f⟩
def ks5 {P:IV->Prop}{a b c d e f:IV}(h:P a)(m:P b)(k:P c)(j:P d)(i:P e)(g:P f):∀v∈[a,b,c,d,e,f],P v:=by simpa using ⟨h,m,k,j,i,g⟩
def ks6 {a:Option Nat}{x:IX}:evq E fr σ (.ldt a x)=jt4 a (x.ev E fr):=nr rfl
def kb3 {cs:List IV}:jt4 none (.ab5 cs)=cs.head?:=nr rfl
def kb4 {n:Nat}{cs:List IV}:jt4 (zh n) (.ab5 cs)=if n<=cs.length then zh (.agg (cs.take n)) else none:=nr rfl
attribute [go_sem] ks6 kb3 kb4
end Go.Id
namespace Go.Id
open Go Go.Id.Md
variable {P:Program} {E:Nat->IV} {σ s t:Store} {v:IV} {zs:List Int} {lo:Nat}
abbrev bg1 (n:Int):IV:=.int .i64 n
def cb9 (s:Store)(lo:Nat)(v:IV)(zs:List Int):Prop :=
 (v=.aa5/\zs=[])\/∃id cs,lo<=id/\id<s.next/\v=.slice id 0 zs.length 1/\s.obj id=zh (.row cs)/\cs.take zs.length=zs.map bg1/\zs.length<=cs.length
def ah7 (s:Store)(lo:Nat)(v:IV)(zs:List Int):Prop :=
 (v=.aa5/\zs=[])\/∃id,lo<=id/\id<s.next/\v=.slice id 0 zs.length 1/\s.obj id=zh (.row (zs.map bg1))
def ah7.w (h:ah7 s lo v zs):cb9 s lo v zs:=by
 rcases h with h|⟨id,d,c,b,a⟩
 .exact .inl h
 .exact .inr ⟨id,_,d,c,b,a,by rw[List.take_of_length_le sm],by simp⟩
structure Kept (σ s:Store):Prop where
 next:σ.next<=s.next
 obj:∀i,i<σ.next->s.obj i=σ.obj i
def Kept.refl (σ:Store):Kept σ σ:=⟨Nat.le_refl _,λ_ _=>rfl⟩
def Kept.trans (h:Kept σ s)(a:Kept s t):Kept σ t:=⟨zd h.next a.next,λi hi=>by rw[a.obj i (za hi h.next),h.obj i hi]⟩
def ji4 (σ:Store)(zs:List Int)(v:IV)(s:Store):Prop:=Kept σ s/\cb9 s σ.next v zs
def bj1 (σ:Store)(zs:List Int)(v:IV)(s:Store):Prop:=Kept σ s/\ah7 s σ.next v zs
def bj1.w (h:bj1 σ zs v s):ji4 σ zs v s:=⟨h.1,h.2.w⟩
def eb2 {cs:List IV}(h:cs.take zs.length=zs.map bg1){i:Nat}(hi:i<zs.length):cs.getD i .undef=bg1 zs[i]:=by
 have a:(cs.take zs.length)[i]? = (zs.map bg1)[i]?:=by rw[h]
 rw[List.getElem?_take,if_pos hi,List.getElem?_map,List.getElem?_eq_getElem hi] at a;rw[ze,a];rfl
def cb9.frz {S:Nat->Prop}(h:cb9 s lo v zs)(b:∀i,lo<=i->¬S i):Frz s S v (.aa2 (zs.map Md.ad1)):=by
 rcases h with ⟨rfl,rfl⟩|⟨id,cs,e,k,rfl,d,c,g⟩
 .exact .by1
 .refine .slice id 0 zs.length 1 cs (zs.map Md.ad1) (b id e) (.inr d) (by rw[zb]) om (λi hi=>?_) λi hi j f=>?_
  .simp[ze,hi,Md.ad1]
  .have a:j=0:=om;subst a;have e2:((zs.map Md.ad1).getD i []).getD 0 .undef=bg1 zs[i]:=by simp[ze,hi,Md.ad1]
   rw[e2,Nat.zero_add,Nat.mul_one,Nat.add_zero,eb2 c hi];exact .keep _ (.int _ _)
def gu5 {f:Nat}{args:List IV}(h:∀σ,C P E f args σ (ji4 σ zs)):PC P E f args (.aa2 (zs.map Md.ad1)):=
 ja1 λσ _=>(h σ).mono λv s ⟨a,c⟩=>⟨a.obj,a.next,c.frz λi hi b=>Nat.lt_irrefl _ (za b hi)⟩
def gu6 {f:Nat}{args:List IV}(h:∀σ,C P E f args σ (bj1 σ zs)):PC P E f args (.aa2 (zs.map Md.ad1)):=
 gu5 λσ=>(h σ).mono λ_ _=>bj1.w
def ah7.grow (h:Grow s v 1 (zs.map Md.ad1))(a:∀id,v=.slice id 0 zs.length 1->lo<=id):ah7 s lo v zs:=by
 have c:∀zs:List Int,(zs.map Md.ad1).flatten=zs.map bg1:=λzs=>by
  induction zs with
  | nil=>rfl
  | cons z zs ih=>simp only[zg,zf,ih];rfl
 rcases h with ⟨rfl,h⟩|⟨id,rfl,d,b⟩
 .exact .inl ⟨rfl,List.map_eq_nil_iff.1 h⟩
 .rw[zb] at a;exact .inr ⟨id,a id rfl,b,by rw[zb],by rw[d,c]⟩
def ah7.gr (h:ah7 s lo v zs):Grow s v 1 (zs.map Md.ad1):=by
 have a:∀zs:List Int,(zs.map Md.ad1).flatten=zs.map bg1:=λzs=>by
  induction zs with
  | nil=>rfl
  | cons z zs ih=>simp only[zg,zf,ih];rfl
 rcases h with ⟨rfl,rfl⟩|⟨id,d,c,rfl,b⟩
 .exact .inl ⟨rfl,rfl⟩
 .exact .inr ⟨id,by rw[zb],by rw[b,a],c⟩
def az4 {nid:Nat}(h:ah7 s lo v zs)(n:Int)(b:zs.length<2147483648) :
  bb4 s nid 1 v (.aa2 [[.int .i64 n]])=zh (.slice nid 0 (zs.length+1) 1,(ad4 v s).put nid (.row ((zs++[n]).map bg1))):=by
 have c:=ai1 (nid:=nid) (e:=[.int .i64 n]) h.gr (λx a=>by obtain ⟨y,_,rfl⟩:=List.mem_map.1 a;exact ⟨rfl,rfl⟩) ⟨rfl,rfl⟩ (by rw[zb];exact b);rw[c,zb];congr 4;rw[List.flatten_append,List.map_append];congr 1;generalize zs=l
 induction l with
 | nil=>rfl
 | cons z zs ih=>simp only[zg,zf,ih];rfl
def el5 (h:ah7 s lo v zs){i:Nat}(hi:i<lo):(ad4 v s).obj i=s.obj i:=by
 rcases h with ⟨rfl,_⟩|⟨id,c,b,rfl,a⟩
 .rfl
 .show (if i=id then none else s.obj i)=s.obj i;rw[if_neg om]
def Kept.up (h:Kept σ s)(n:Nat):Kept σ ⟨s.next+n,s.obj⟩:=⟨zd h.next (zc _ _),h.obj⟩
def ah7.up (h:ah7 s lo v zs)(n:Nat):ah7 ⟨s.next+n,s.obj⟩ lo v zs:=by
 rcases h with h|⟨id,d,c,b,a⟩
 .exact .inl h
 .exact .inr ⟨id,d,za c (zc _ _),b,a⟩
def cb9.up (h:cb9 s lo v zs)(n:Nat):cb9 ⟨s.next+n,s.obj⟩ lo v zs:=by
 rcases h with h|⟨id,cs,d,c,b,a⟩
 .exact .inl h
 .exact .inr ⟨id,cs,d,za c (zc _ _),b,a⟩
def ah7.kept (h:ah7 s lo v zs)(a:Kept s t):ah7 t lo v zs:=by
 rcases h with h|⟨id,e,b,d,c⟩
 .exact .inl h
 .exact .inr ⟨id,e,za b a.next,d,by rw[a.obj id b];exact c⟩
def cb9.kept (h:cb9 s lo v zs)(a:Kept s t):cb9 t lo v zs:=by
 rcases h with h|⟨id,cs,f,b,e,d,c⟩
 .exact .inl h
 .exact .inr ⟨id,cs,f,za b a.next,e,by rw[a.obj id b];exact d,c⟩
def Kept.low {k:Nat}(h:Kept ⟨σ.next+k,σ.obj⟩ s):Kept σ s:=⟨zd (zc _ k) h.next,λi hi=>h.obj i (za hi (zc _ k))⟩
def ah7.low {a:Nat}(h:ah7 s lo v zs)(b:a<=lo):ah7 s a v zs:=by
 rcases h with h|⟨id,d,c⟩
 .exact .inl h
 .exact .inr ⟨id,zd b d,c⟩
def cb9.low {a:Nat}(h:cb9 s lo v zs)(b:a<=lo):cb9 s a v zs:=by
 rcases h with h|⟨id,cs,d,c⟩
 .exact .inl h
 .exact .inr ⟨id,cs,zd b d,c⟩
def Kept.box (t:Store)(A B:aj8):Kept t ⟨t.next+1,(((⟨t.next+1,t.obj⟩:Store).put t.next A).put t.next B).obj⟩:=⟨Nat.le_succ _,λi hi=>by
 have h:¬i=t.next:=om;show (if i=t.next then _ else if i=t.next then _ else t.obj i)=_;rw[if_neg h,if_neg h]⟩
def gu7:∀zs:List Int,(zs.map Md.ad1).flatten=zs.map bg1:=λzs=>by
 induction zs with
 | nil=>rfl
 | cons z zs ih=>simp only[zg,zf,ih];rfl
def el6 (zs:List Int):(zs.map bg1).all IV.leaf=true:=by
 rw[List.all_map];exact List.all_eq_true.2 λ_ _=>rfl
def ij1 {nid:Nat}{xs:List Int}(h:ah7 s lo v zs)(q:zs.length+xs.length<=2147483648) :
  ∃o σ',bb4 s nid 1 v (.aa2 (xs.map Md.ad1))=zh (o,σ')/\σ'.next=s.next/\(∀i,i<lo->i≠nid->σ'.obj i=s.obj i)/\∀c:Store,c.obj=σ'.obj->nid<c.next->s.next<=c.next->lo<=nid->ah7 c lo o (zs++xs):=by
 have b:bz5 s 1 (.aa2 (xs.map Md.ad1))=zh (xs.length,xs.map bg1):=by
  have a:(xs.map Md.ad1).all (λe=>e.length==1)=true:=List.all_eq_true.2 λx x=>by
   obtain ⟨y,_,rfl⟩:=List.mem_map.1 x;rfl
  simp only[bz5,a,if_true,zb,gu7]
 have g:¬((xs.map bg1).all IV.leaf=false):=by rw[el6];decide
 unfold bb4;rw[b];simp only[g,if_false];by_cases h0:xs.length=0
 .have f:xs=[]:=List.length_eq_zero_iff.1 h0;subst f;rw[List.append_nil];rcases h with ⟨rfl,m⟩|⟨id,p,u,rfl,d⟩
  .exact ⟨.aa5,s,rfl,rfl,λ_ _ _=>rfl,λτ _ _ _ _=>.inl ⟨rfl,m⟩⟩
  .simp only[d,List.length_nil,and_self,if_true];exact ⟨_,_,rfl,rfl,λ_ _ _=>rfl,λτ a _ r _=>.inr ⟨id,p,om,rfl,by rw[a];exact d⟩⟩
 .rcases h with ⟨rfl,m⟩|⟨id,p,u,rfl,d⟩
  .subst m;have k:xs.length<=2147483648:=by simpa using q
   simp only[h0,if_false,k,if_true];refine ⟨_,_,rfl,rfl,λi _ hi=>if_neg hi,λτ a A _ n=>.inr ⟨nid,n,A,by rw[List.nil_append],?_⟩⟩;rw[a,aa3,if_pos rfl,List.nil_append]
  .have a:0+zs.length*1=(zs.map bg1).length:=by rw[zb];omega
   simp only[d,h0,and_false,if_false,a,q,List.drop_zero,el6,and_self,if_true];refine ⟨_,_,rfl,rfl,λi hi j=>?_,λτ r n _ z=>.inr ⟨nid,z,n,by rw[zi],?_⟩⟩
   .show (if i=nid then _ else if i=id then none else s.obj i)=_;rw[if_neg j,if_neg om]
   .rw[r,aa3,if_pos rfl,List.map_append]
    try rfl
def fi9 {n:IV}{esz b nid k:Nat}{es:List (List IV)}{e cs:List IV}{A B:aj8}(r:Grow s n esz es)(h:∀x∈es,x.length=esz/\x.all IV.leaf=true)(u:e.length=esz/\e.all IV.leaf=true)(q:es.length<2147483648)
  (y:s.obj b=zh (.cells cs)) (j:b<s.next) (p:s.next<nid) :
  ∃c,bb4 ⟨s.next+1+k,(((⟨s.next+1,s.obj⟩:Store).put s.next A).put s.next B).obj⟩ nid esz n (.aa2 [e])=zh (.slice nid 0 (es.length+1) esz,c)/\c.next=s.next+1+k/\c.obj b=zh (.cells cs) /\
   ∀cs' d,nid<d->Grow ⟨d,(c.put b (.cells cs')).obj⟩ (.slice nid 0 (es.length+1) esz) esz (es++[e]):=by
 have o:∀i,i<s.next->(((⟨s.next+1,s.obj⟩:Store).put s.next A).put s.next B).obj i=s.obj i:=λi hi=>by
  show (if i=s.next then _ else if i=s.next then _ else s.obj i)=_;rw[if_neg om,if_neg om]
 have a:Grow ⟨s.next+1+k,(((⟨s.next+1,s.obj⟩:Store).put s.next A).put s.next B).obj⟩ n esz es:=Grow.mono (σ:=s) r (by show s.next<=s.next+1+k;omega) λid _ g=>o id g
 have m:(((⟨s.next+1,s.obj⟩:Store).put s.next A).put s.next B).obj b=zh (.cells cs):=by rw[o b j,y]
 refine ⟨_,ai1 a h u q,by rw[aa7,ac1],?_,λcs' d f=>?_⟩
 .rw[aa3,if_neg om];exact ae4 a b _ m (λ_ e=>by cases e)
 .refine Grow.new (v:=.aa5) f ?_;show (if nid=b then _ else if nid=nid then _ else _)=_;rw[if_neg om,if_pos rfl]
def bc2 (b:Kept σ s)(h:ah7 s σ.next v zs)(n:Int){a nid:Nat}(f:s.next<=nid)(e:nid<s.next+a){cs:List IV}(hc:cs=(zs++[n]).map bg1) :
  Kept σ ((ad4 v ⟨s.next+a,s.obj⟩).put nid (.row cs))/\ah7 ((ad4 v ⟨s.next+a,s.obj⟩).put nid (.row cs)) σ.next (.slice nid 0 (zs.length+1) 1) (zs++[n]):=by
 subst hc;have d:(ad4 v ⟨s.next+a,s.obj⟩).next=s.next+a:=ac1 v;refine ⟨⟨?_,λi hi=>?_⟩,.inr ⟨nid,zd b.next f,?_,by rw[zi,List.length_singleton],?_⟩⟩
 .show σ.next<=(ad4 v _).next;rw[d];exact zd b.next (zc _ _)
 .have c:i≠nid:=λe=>by have:=b.next;omega
  show (if i=nid then _ else (ad4 v ⟨s.next+a,s.obj⟩).obj i)=_;rw[if_neg c,el5 (h.up a) hi];exact b.obj i hi
 .show nid<(ad4 v _).next;rw[d];exact e
 .show (if nid=nid then _ else _)=_;rw[if_pos rfl]
end Go.Id
