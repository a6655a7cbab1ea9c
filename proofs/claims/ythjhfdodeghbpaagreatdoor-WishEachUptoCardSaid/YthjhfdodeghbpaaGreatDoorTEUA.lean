/- wish: ae8 of some kinds; a wish with a way for each of some packages. Conditions: sizes that fit. -/
import Derived.Test.YthjhfdodeghbpaaGreatDoorTEQO
import Derived.Test.YthjhfdodeghbpaaGreatDoorTEYJ
import Derived.Test.YthjhfdodeghbpaaGreatDoorTEYW
import Derived.Test.YthjhfdodeghbpaaGreatDoorMwa
import Derived.Test.YthjhfdodeghbpaaGreatDoorFwRo
import Derived.Shelf.SlSortCmp.Insertion
import Derived.Sort.LotA
import Derived.Sort.LotB
open List renaming length_map→za,getD_eq_getElem?_getD→zc,length_singleton→ze,length_take→zg,getElem_mem→zh,length_append→zj,getElem?_eq_getElem→zl,mem_of_mem_take→zo,append_nil→zp,mem_map→zq,all_eq_true→zv,map_append→zx,take_add_one→zz,take_length→z1,not_mem_nil→z2,flatMap_nil→z3,drop_append_of_le_length→z4,mem_filter→z5,mem_cons→z7,length_eq_zero_iff→z9,take_of_length_le→qa,mem_iff_getElem→qb,map_eq_nil_iff→qd,flatMap_append→qe,flatMap_cons→qh,append_assoc→qi
open Nat renaming le_refl→zb,not_lt_zero→zd,mul_one→zi,lt_succ_self→zn,le_trans→zr,zero_add→zw,mul_le_mul→zy,zero_le→qc,lt_of_lt_of_le→qg
open Option renaming some→zf
open Bool renaming and_eq_true→zk,false_eq_true→zt,not_false→z6,not_true→z8
open Int renaming toNat_natCast→zm
open Array renaming size_setIfInBounds→zu,extract_size→qf
set_option linter.all false
set_option maxRecDepth 100000
set_option maxHeartbeats 1000000
private theorem om{P:Prop}(h:P:=by omega):P:=h
private theorem sm{P:Prop}(h:P:=by simp):P:=h
namespace Go.Id.Tryz
open Go Go.Id Go.Proofs Go.Shelf Go.Id.Md
def u8C (n:Int):List IV:=[.int .u8 n]
def gj8 (l:List Int)(n:Int)(p:l.length<2^40):Pq 205 [.aa2 (l.map u8C),.int .u8 n] (.int .i64 (idxOf n l 0)):=by
 refine aw8 fok205 (nZ rfl) λσ=>?_
 simp only[ic205,go_sem];refine aa9 noT (λi fr s=>fr=[(0,.aa2 (l.map u8C)),(1,.int .u8 n),(7,.int .i64 l.length),(8,.int .i64 i)]/\s=σ/\idxOf n l 0=idxOf n (l.drop i) i) l.length ⟨rfl,rfl,rfl⟩ ?_;rintro i fr s m ⟨rfl,rfl,a⟩;by_cases c:i<l.length
 .have⟨x,o,_,g,b,k⟩:=ad3 l i c;have d:(i:Int)<l.length:=om;have h:(0:Int)<=i:=om;have j:=ac6 (i:=i) om;rw[g,idxOf] at a;by_cases e:n=x
  .rw[if_pos e] at a;subst e;have a:idxOf n l 0=(i:Int):=a;simp only[go_sem,d,h,b,u8C,a,and_self]
  .rw[if_neg e] at a;simp only[go_sem,d,h,b,u8C,e,j];exact ⟨c,a⟩
 .have f:i=l.length:=om;subst f;have d:¬(l.length:Int)<l.length:=om;rw[List.drop_length,idxOf] at a;simp only[go_sem,d,a,and_self]
def it2 (l:List Int)(n:Int)(a:l.length<2^40):Pq 146 [.aa2 (l.map u8C),.int .u8 n] (.bool (decide (n∈l))):=by
 refine aw8 fok146 (nZ rfl) λσ=>?_
 simp only[ic146,go_sem];refine aa4 fok205 (gj8 l n a) ?_
 have e:decide (0<=idxOf n l 0)=decide (n∈l):=by
  by_cases h:n∈l
  .simp[h,(bw8 n l 0).2 h]
  .rw[decide_eq_false h,decide_eq_false (λx=>h ((bw8 n l 0).1 x))]
 simp only[go_sem,e,and_self]
def kh4 {σ:Store}{f:Nat}{args:List IV}{zs:List Int}(h:Cq f args σ (bj1 σ zs)):Cq f args σ λv s=>v=.aa2 (zs.map Md.ad1)/\Kept σ s:=by
 refine ha5 h ?_;rintro v s ⟨a,hr⟩;refine ⟨bp3 v,_,df1 hr.w,rfl,a.next,λi hi=>?_⟩;show (if bp3 v i=true then s.obj i else none)=_
 cases b:bp3 v i with
 | true=>rw[if_pos rfl,a.obj i hi]
 | false=>have:=(df2 hr.w b).1;omega
def dl6 (a:ac2)(ks:List Int):List Int:=aj5 (λi=>decide ((a.jb i).kind∈ks)&&!a.dropped i) a.r.ae8.length
def jd2 (a:ac2)(B:AOK a)(ks:List Int)(x:ks.length<2^40)(σ:Store)(d:Nat)(P N M L K J:IV)(hc:σ.obj d=zf (.cells [a.v,P,N,M,L,K,J]))(t:d<σ.next) :
  Cq 85 [.ptr d 0,.aa2 (ks.map u8C)] σ λv s=>v=.aa2 ((dl6 a ks).map Md.ad1)/\Kept σ s:=by
 refine kh4 ?_;refine C_f fok85 (nZ rfl) ?_;have H:=as4 a B;have F:=B.ae8;have S:a.r.cs[2]? = zf (ax2 a.r.ae8):=rfl;have Q:a.r.cs.length=5:=rfl;have T:ax2 a.r.ae8=.aa2 (a.r.ae8.map Job.cs):=rfl
 have n:∀i (h:i<a.r.ae8.length),(a.r.ae8.map Job.cs).getD i []=(a.jb i).cs:=λi h=>by
  simp[ac2.jb,zc,h]
 simp only[ic85,go_sem,hc]
 first|refine aa4 fok75 (H) ?_|refine aa8 (H) ?_
 simp only[go_sem,S,Q,T,za];refine aa9 noT (λi fr s=>∃m,fr=[(0,.ptr d 0),(1,.aa2 (ks.map u8C)),(5,m),(13,.aa2 (a.r.ae8.map Job.cs)),(14,.int .i64 a.r.ae8.length),(15,.int .i64 (i:Int))]/\Kept σ s/\ah7 s σ.next m (aj5 (λi=>decide ((a.jb i).kind∈ks)&&!a.dropped i) i)) a.r.ae8.length ⟨.aa5,rfl,Kept.refl σ,.inl ⟨rfl,rfl⟩⟩ ?_;rintro i fr s Y ⟨m,rfl,k,o⟩;by_cases c:i<a.r.ae8.length
 .have g:(i:Int)<a.r.ae8.length:=om;have D:(0:Int)<=(i:Int):=om;have p:=ac6 (i:=i) om;have z:=n i c;have I:=bo1 a i B;have hH:=it2 ks (a.jb i).kind x;have e:=bd3 (λi=>decide ((a.jb i).kind∈ks)&&!a.dropped i) i;have X:=ai3 (λi=>decide ((a.jb i).kind∈ks)&&!a.dropped i) i;have U:(a.jb i).cs.head? = zf (.int .u8 (a.jb i).kind):=rfl;have f:=Kept.box s (.cells [.int .u8 0,.str [],.int .u8 0,.int .i64 0,.str [],.str []]) (.cells (a.jb i).cs);have A:s.obj d=zf (.cells [a.v,P,N,M,L,K,J]):=by rw[k.obj d t,hc]
  have q:¬d=s.next:=by have:=k.next;omega
  have b:∀w:Bool,(decide ((a.jb i).kind∈ks)&&!a.dropped i)=w->w=false->∀u:Store,Kept s u->ah7 u σ.next m (aj5 (λi=>decide ((a.jb i).kind∈ks)&&!a.dropped i) (i+1)):=λw V hf u W=>by
   rw[e,V,hf];simp only[zt,if_false,zp];exact o.kept W
  generalize aj5 (λi=>decide ((a.jb i).kind∈ks)&&!a.dropped i) i=N0 at *;generalize aa:a.dropped i=dr at *;generalize a.jb i=j at *;simp only[go_sem,g,D,z,ax9,bh5,au7,U];refine aa4 fok146 (hH) ?_;by_cases e1:j.kind∈ks
  .simp only[go_sem,e1,A,q]
   first|refine aa4 fok117 (I) ?_|refine aa8 (I) ?_
   cases dr with
   | true=>
    simp only[go_sem,p]
    exact ⟨c,m,rfl,k.trans f,b _ rfl sm _ f⟩
   | false=>
    rw[if_pos (by simp[e1])] at e;simp only[go_sem];rw[az4 (s:=⟨s.next+1+1,_⟩) (lo:=σ.next) (zs:=N0) ((o.kept f).up 1) (i:Int) om];simp only[go_sem,p];have E:=bc2 (k.trans f) (o.kept f) (i:Int) (a:=1) (nid:=s.next+1) (zb _) (zn _) rfl;rw[e];exact ⟨c,_,rfl,E.1,E.2⟩
  .simp only[go_sem,e1,p];exact ⟨c,m,rfl,k.trans f,b _ rfl (by simp[e1]) _ f⟩
 .have y:i=a.r.ae8.length:=om;subst y;have g:¬(a.r.ae8.length:Int)<a.r.ae8.length:=om;simp only[go_sem,g];exact ⟨k,o⟩
def aq9 (l:List Int):List (List (List Int)):=l.map λn=>[[n+1]]
def jd3 (σ:Store)(lp:Nat)(c0 c1 c2 c3 c4 c5 ov:IV)(W:List ai7)(s:Store):Prop:=∃ov',LI s lp c0 c1 c2 c3 c4 c5 ov' W/\eo6 σ s lp ov ov'
def hr7 {σ s:Store}{b:Nat}{a:IV}(c:Kept σ s)(h:σ.next<=b)(hi:∀i k,a=.slice i 0 k 1->σ.next<=i)(h0:∃t es,Grow t a 1 es):Kept σ (s.kills λi=>bp3 a i&&!decide (i=b)):=⟨c.next,λi d=>by
 show (if (bp3 a i&&!decide (i=b))=true then s.obj i else none)=_
 have g:bp3 a i=true:=by
  have⟨t,es,e⟩:=h0;rcases e with ⟨rfl,_⟩|⟨id,rfl,_,_⟩
  .rfl
  .have:=hi id _ rfl;simp only[bp3,decide_eq_true_eq];omega
 have f:¬i=b:=om;rw[g,decide_eq_false f];exact (if_pos rfl).trans (c.obj i d)⟩
def eg1 (k p:Int)(a:List Int)(hw:a.length<2^30)(hr:∀x∈a,-(2^40)<=x/\x<=2^40)(σ:Store)(t:Nat)(c0 c1 c2 c3 Y X T:IV)(W:List ai7)(h:LI σ t c0 c1 c2 c3 Y X T W)(hW:W.length<2^30) :
  Cq 86 [.ptr t 0,.int .u8 k,.int .i64 p,.aa2 (a.map Md.ad1)] σ λv s=>v=.tuple []/\jd3 σ t c0 c1 c2 c3 Y X T (W++[⟨k,p,aq9 a⟩]) s:=by
 refine eb4 fok86 (nZ rfl) ?_;simp only[ic86,ev];refine ab7 (ac4 ?_);simp only[go_sem];refine ab7 (ab7 (ac4 ?_));simp only[go_sem]
 refine aj4 (ak9 (Q:=λe f s=>e=.exit 0/\∃b o,f=(0,.ptr t 0)::(8,.ptr σ.next 0)::o/\Kept σ s/\σ.next<s.next/\s.obj σ.next=zf (.cells [.int .u8 k,.int .i64 p,b])/\Grow s b 1 ((aq9 a).map cf6)/\∀i m,b=.slice i 0 m 1->σ.next<i)
  (aa9 noT (λi fr s=>∃b,fr=[(0,.ptr t 0),(8,.ptr σ.next 0),(14,.aa2 (a.map Md.ad1)),(15,.int .i64 a.length),(16,.int .i64 (i:Int))]/\Kept σ s/\σ.next<s.next/\s.obj σ.next=zf (.cells [.int .u8 k,.int .i64 p,b])/\Grow s b 1 ((aq9 (a.take i)).map cf6)/\∀i m,b=.slice i 0 m 1->σ.next<i)
   a.length ⟨.aa5,rfl,Kept.box σ _ _,zn _,by simp only[aa3,if_true],.inl ⟨rfl,rfl⟩,λ_ _ e=>by cases e⟩ ?_) ?_)
 .rintro i fr u ab ⟨b,rfl,F,d,E,r,hi⟩;by_cases y:i<a.length
  .have⟨n,hn,_,ae,B,I⟩:=ad3 a i y;have a1:(i:Int)<a.length:=om;have a2:(0:Int)<=i:=om;have wi:=ac6 (i:=i) om;have aa:=hr n hn;have wn:IntKind.wrap .i64 (n+1)=n+1:=wrap64 om om;have⟨e1,A,D,ad⟩:=ha6 (k:=1) (nid:=u.next) (e:=cf6 [[n+1]]) F r (λi m e=>by have:=hi i m e;omega) (hd8 _) ⟨rfl,rfl⟩ (by simp only[aq9,za,zg];omega) (zb _) (zn _);have g:cf6 [[n+1]]=[.aa2 [[.aa2 [[.int .i64 (n+1)]]]]]:=rfl;rw[g] at e1
   have J:((ad4 b ⟨u.next+1,u.obj⟩).put u.next (.row ((aq9 (a.take i)).map cf6++[cf6 [[n+1]]]).flatten)).obj σ.next=zf (.cells [.int .u8 k,.int .i64 p,b]):=by
    rw[aa3,if_neg om];exact ae4 (σ:=⟨u.next+1,u.obj⟩) (r.mono (Nat.le_add_right _ _) λ_ _ _=>rfl) _ _ E λ_ e=>by cases e
   have H:(aq9 (a.take (i+1))).map cf6=(aq9 (a.take i)).map cf6++[cf6 [[n+1]]]:=by rw[I];simp[aq9]
   have hS:((ad4 b ⟨u.next+1,u.obj⟩).put u.next (.row ((aq9 (a.take i)).map cf6++[cf6 [[n+1]]]).flatten)).next=u.next+1:=by rw[aa7,ac1]
   rw[<- g] at e1;rw[za] at e1 D;generalize ((ad4 b ⟨u.next+1,u.obj⟩).put u.next (.row ((aq9 (a.take i)).map cf6++[cf6 [[n+1]]]).flatten))=S at *;rw[g] at e1;simp only[go_sem,a1,a2,B,Md.ad1,E,wn,e1,J,wi];have nu:¬u.next=σ.next:=om;refine ⟨y,.slice u.next 0 ((aq9 (a.take i)).length+1) 1,⟨A.next,λj L=>?_⟩,by show σ.next<S.next;omega,rfl,?_,λj m e=>by cases e;exact d⟩
   .rw[aa3,if_neg om];exact A.obj j L
   .rw[H]
    exact D.mono (zb _) λid hv ac=>by
     obtain rfl:u.next=id:=by injection hv
     rw[aa3,if_neg nu]
  .have M:i=a.length:=om;subst M;have a1:¬(a.length:Int)<a.length:=om;rw[z1] at r;simp only[go_sem,a1];exact ⟨b,_,rfl,F,d,E,r,hi⟩
 rintro e f u ⟨rfl,b,o,rfl,F,d,E,r,hi⟩;simp only[go_sem];refine fj5 (S:=λi=>bp3 b i&&!decide (i=σ.next)) (fr':=(0,.ptr t 0)::(8,.ab5 [.int .u8 k,.int .i64 p,.aa2 ((aq9 a).map cf6)])::o) (λm=>?_) (ac4 ?_)
 .by_cases U:m=8
  .subst U;refine .inr (.ptr σ.next 0 _ _ sm (.inl E) (zb _) λj L=>?_)
   match j,L with
   | 0,_=>exact .keep _ (.int _ _)
   | 1,_=>exact .keep _ (.int _ _)
   | 2,_=>
    exact r.frz (λx hx=>(hd8 _ x hx).1) (λid e=>by rw[e];simp[bp3]) λe he c hc=>by
     obtain ⟨q,_,rfl⟩:=zq.1 he;rw[cf6,List.mem_singleton] at hc;subst hc;exact (df4 q).weak λi h=>absurd h (zd _)
  .left;have e:(m==8)=false:=by simpa using U
   simp only[Frm.get,List.lookup,e]
   try rfl
 have z:=hr7 F (zb _) (λi m e=>by have:=hi i m e;omega) ⟨_,_,r⟩;generalize u.kills (λi=>bp3 b i&&!decide (i=σ.next))=K at *;have V:=h.kept z;have⟨S1,e1,e2,e3,N,P⟩:=fb9 (nid:=K.next+7) (k:=11) V ⟨k,p,aq9 a⟩ om om om;have g:ai7.cs ⟨k,p,aq9 a⟩=[.int .u8 k,.int .i64 p,.aa2 ((aq9 a).map cf6)]:=rfl;rw[g] at e1;have hc:=V.cell;generalize (aq9 a).map cf6=rowV at *;simp only[go_sem,hc,e1,e3];exact ⟨_,N,(eo6.kept z).trans P⟩
structure PF (u:Store) (m ga:Nat) (F C0:List IV) (Tv iv av:IV) (zs:List Int) (D:List Dep):Prop where
 nx:m+1<u.next
 gm:0<ga/\ga<m
 o0:u.obj 0=zf (.cells C0)
 oF:u.obj ga=zf (.row F)
 o8:u.obj m=zf (.cells [Tv])
 o10:u.obj (m+1)=zf (.cells [iv])
 hi:ah7 u (m+2) iv zs
 ha:Grow u av 5 (D.map Dep.cs)
 la:∀id k,av=.slice id 0 k 5->m+1<id
 ne:∀i j k k',iv=.slice i 0 k 1->av=.slice j 0 k' 5->i≠j
variable {u u':Store} {m ga:Nat} {F C0:List IV} {Tv iv av:IV} {zs:List Int} {D:List Dep}
def kh5 {s:Store}{lo:Nat}{v:IV}{zs:List Int}(h:ah7 s lo v zs):∀i k,v=.slice i 0 k 1->lo<=i/\i<s.next:=λi k a=>by
 rcases h with ⟨rfl,_⟩|⟨id,c,b,rfl,_⟩
 .cases a
 .cases a;exact ⟨c,b⟩
def jp5 {s:Store}{v:IV}{e:Nat}{es:List (List IV)}(h:Grow s v e es):∀i k,v=.slice i 0 k e->i<s.next:=λi k a=>by
 rcases h with ⟨rfl,_⟩|⟨id,rfl,_,b⟩
 .cases a
 .cases a;exact b
def PF.mono (h:PF u m ga F C0 Tv iv av zs D)(b:u.next<=u'.next)(a:∀i,i<u.next->u'.obj i=u.obj i):PF u' m ga F C0 Tv iv av zs D where
 nx:=qg h.nx b
 gm:=h.gm
 o0:=by rw[a _ (by have:=h.nx;omega)];exact h.o0
 oF:=by rw[a _ (by have:=h.nx;have:=h.gm;omega)];exact h.oF
 o8:=by rw[a _ (by have:=h.nx;omega)];exact h.o8
 o10:=by rw[a _ h.nx];exact h.o10
 hi:=h.hi.kept ⟨b,a⟩
 ha:=h.ha.mono b λid _ c=>a id c
 la:=h.la
 ne:=h.ne
def PF.inp (h:PF u m ga F C0 Tv iv av zs D)(n:Int){k nid:Nat}(A:u.next<=nid)(s:nid<u.next+k) :
  PF ((ad4 iv ⟨u.next+k,u.obj⟩).put nid (.row ((zs++[n]).map bg1)) |>.put (m+1) (.cells [.slice nid 0 (zs.length+1) 1])) m ga F C0 Tv (.slice nid 0 (zs.length+1) 1) av (zs++[n]) D:=by
 have y:=h.nx;have r:=h.gm;have b:(ad4 iv ⟨u.next+k,u.obj⟩).next=u.next+k:=ac1 iv;have c:∀i,i<m+2->(ad4 iv ⟨u.next+k,u.obj⟩).obj i=u.obj i:=λi hi=>el5 (h.hi.up k) hi
 have f:∀i,i<m+2->i≠m+1->((ad4 iv ⟨u.next+k,u.obj⟩).put nid (.row ((zs++[n]).map bg1)) |>.put (m+1) (.cells [.slice nid 0 (zs.length+1) 1])).obj i=u.obj i:=λi hi g=>by
  rw[aa3,if_neg g,aa3,if_neg om,c i hi]
 refine ⟨?_,r,?_,?_,?_,?_,?_,?_,h.la,?_⟩
 .rw[aa7,aa7,b];omega
 .rw[f 0 om om];exact h.o0
 .rw[f ga om om];exact h.oF
 .rw[f m om om];exact h.o8
 .rw[aa3,if_pos rfl]
 .refine .inr ⟨nid,om,by rw[aa7,aa7,b];exact s,by rw[zj,ze],?_⟩;rw[aa3,if_neg om,aa3,if_pos rfl]
 .refine (h.ha).mono (σ:=u) (by rw[aa7,aa7,b];omega) λid o q=>?_
  have z:=h.la _ _ o;rw[aa3,if_neg om,aa3,if_neg om];rcases h.hi with ⟨a,_⟩|⟨d,_,_,a,_⟩
  .rw[a];rfl
  .have:=h.ne _ _ _ _ a o;rw[a];show (if id=d then none else u.obj id)=u.obj id;rw[if_neg λe=>this e.symm]
 .intro i j x t hi p e;cases hi;subst e;have:=jp5 h.ha _ _ p;omega
def hr8 {s:Store}{v:IV}{esz nid:Nat}{es xs:List (List IV)}(o:Grow s v esz es)(h:∀x∈es,x.length=esz/\x.all IV.leaf=true)(k:∀x∈xs,x.length=esz/\x.all IV.leaf=true)(p:es.length+xs.length<=2147483648) :
  (xs=[]/\bb4 s nid esz v (.aa2 xs)=zf (v,s))\/bb4 s nid esz v (.aa2 xs)=zf (.slice nid 0 (es.length+xs.length) esz,(ad4 v s).put nid (.row (es++xs).flatten)):=by
 have a:bz5 s esz (.aa2 xs)=zf (xs.length,xs.flatten):=by
  have q:xs.all (λe=>e.length==esz)=true:=zv.2 λx b=>by rw[(k x b).1];simp
  simp only[bz5,q,if_true]
 have n:xs.flatten.all IV.leaf=true:=be3 λx b=>(k x b).2
 have g:es.flatten.all IV.leaf=true:=be3 λx b=>(h x b).2
 have j:es.flatten.length=es.length*esz:=bc1 λx b=>(h x b).1
 have f:xs.length<=2147483648:=om;by_cases h0:xs.length=0
 .have c:xs=[]:=z9.1 h0;subst c;refine .inl ⟨rfl,?_⟩;unfold bb4;rw[a];rcases o with ⟨rfl,rfl⟩|⟨id,rfl,d,i⟩
  .simp
  .simp[d]
 .refine .inr ?_;unfold bb4;rw[a];rcases o with ⟨rfl,rfl⟩|⟨id,rfl,d,i⟩
  .simp[n,h0,f,ad4]
  .simp[n,d,h0,j,g,p,ad4]
def PF.atoms (h:PF u m ga F C0 Tv iv av zs D)(E:List Dep){k nid:Nat}(A:u.next<=nid)(s:nid<u.next+k) :
  PF ((ad4 av ⟨u.next+k,u.obj⟩).put nid (.row (D.map Dep.cs++E.map Dep.cs).flatten)) m ga F C0 Tv iv (.slice nid 0 ((D.map Dep.cs).length+(E.map Dep.cs).length) 5) zs (D++E):=by
 have z:=h.nx;have r:=h.gm;have c:(ad4 av ⟨u.next+k,u.obj⟩).next=u.next+k:=ac1 av
 have g:∀i,(∀f,av≠.slice i 0 f 5)->(ad4 av ⟨u.next+k,u.obj⟩).obj i=u.obj i:=λi hi=>by
  rcases h.ha with ⟨b,_⟩|⟨id,b,_,_⟩
  .rw[b];rfl
  .rw[b];show (if i=id then none else u.obj i)=u.obj i;rw[if_neg λe=>hi _ (by rw[e];exact b)]
 have a:∀i,i<m+2->((ad4 av ⟨u.next+k,u.obj⟩).put nid (.row (D.map Dep.cs++E.map Dep.cs).flatten)).obj i=u.obj i:=λi hi=>by
  rw[aa3,if_neg om,g i λk' b=>by have:=h.la _ _ b;omega]
 refine ⟨by rw[aa7,c];omega,r,?_,?_,?_,?_,?_,?_,λid f b=>by cases b;omega,λi j x t hi q e=>?_⟩
 .rw[a 0 om];exact h.o0
 .rw[a ga om];exact h.oF
 .rw[a m om];exact h.o8
 .rw[a (m+1) om];exact h.o10
 .rcases h.hi with ⟨b,o⟩|⟨id,n,y,b,p⟩
  .exact .inl ⟨b,o⟩
  .refine .inr ⟨id,n,by rw[aa7,c];omega,b,?_⟩;rw[aa3,if_neg om,g id λk' d=>h.ne _ _ _ _ b d rfl];exact p
 .refine .inr ⟨nid,by rw[zx,zj],by rw[aa3,if_pos rfl,zx],by rw[aa7,c];exact s⟩
 .cases q;subst e;have:=(kh5 h.hi _ _ hi).2;omega
def dx5 {s:Store}{S:Nat->Prop}{b:Fn}{cap a:List IV}(h:ic2 s S cap a):Frz s S (.func b [] cap) (.func b [] a):=.func b [] [] cap a rfl h.at.1 (λi h=>absurd h (zd _)) h.at.2
def bw9 {s:Store}{id:Nat}{cs:List IV}(b:s.obj id=zf (.cells cs))(d:∀c∈cs,Bnd 0 c):cc3 s 0 (.ptr id 0) (.ab5 cs):=.ptr id 0 cs cs (zd _) (.inl b) om λj a=>by
 rw[zw,zc,zl a];exact .keep _ (d _ (zh a))
def fq1 (l:List Bool):∀x∈l.map bx6,x.length=1/\x.all IV.leaf=true:=λx a=>by
 obtain ⟨b,_,rfl⟩:=zq.1 a;exact ⟨rfl,rfl⟩
def gj9 (a:ac2)(ni:Nat)(hA:AOK a)(hm:∀q∈a.l,ae9 q=true)(hni:a.p.inst=ni):Pq 43 [a.v] (.tuple [(ah4.mk a (aw3 a.l ni)).v,.int .i64 0]):=by
 refine af5 hE fok43 (nZ rfl) (al3 (ai5 a)) ?_;have hlen:=hA.len;have hle:ni<=a.l.length:=by have:=hA.inst;omega
 have hP:=aq4 a;have hR:=as4 a hA;have hT:=cb5 a.p hlen λx hx=>⟨hA.fit x hx,hA.tiny x hx⟩
 have hT:Pq 44 [a.p.v] (.tuple [af4 a.l,.int .i64 0]):=hT;have hrl:a.p.rows.length=a.l.length:=by simp[ac2.l,ac3]
 have hC:=ao8 a.p;rw[hrl] at hC;have hI:=aq1 a.p;rw[hni] at hI
 have hpk:∀j (h:j<a.l.length),Pq 29 [a.p.v,.int .i64 j] (.tuple [.agg a.l[j].cs,.int .i64 0]):=λj h=>by
  have hq:a.p.rows[j].pkg=a.l[j]:=by simp[ac2.l,ac3]
  have h1:=aq3 a.p j om (by rw[hq];exact hA.fit _ (zh h));rw[hq] at h1;exact h1
 have hbA:=ai5 a;have hbP:=ba4 a.p;have hbT:=au3 a.l;have k0:a.r.cs[0]? = zf (.int .u8 a.r.al9):=rfl;have vnl:∀d:TypeId,ci5 (.pointer d) a.v=zf false:=λ_=>rfl
 have alf:a.v.leaf=true:=rfl;have acs:a.v.cs=[a.v]:=rfl;have plf:a.p.v.leaf=true:=rfl;have pcs:a.p.v.cs=[a.p.v]:=rfl;have tlf:(af4 a.l).leaf=true:=rfl;have tcs:(af4 a.l).cs=[af4 a.l]:=rfl;have hS:=λzs hz r h1 h2=>ff3 a.l hlen hA.small zs hz r h1 h2
 have hV:(ah4.mk a (aw3 a.l ni)).v=.ab5 [a.v,a.p.v,.int .u8 a.r.al9,.aa2 (a.l.map aa1.cs),.aa2 ((aw3 a.l ni).map bx6)]:=rfl;rw[hV];generalize hav:a.v=Av at *;generalize hpv:a.p.v=Pv at *;generalize htv:af4 a.l=Tv at *;simp only[ic43,go_sem,vnl]
 first|refine aa4 fok34 (hP) ?_|refine aa8 (hP) ?_
 simp only[go_sem]
 first|refine aa4 fok75 (hR) ?_|refine aa8 (hR) ?_
 simp only[go_sem,hq7,ag1,k0,alf,acs,plf,pcs];refine aa4 fok28 (hC) ?_;simp only[go_sem];refine aa9 noT (λn fr s=>∃gv,fr=[(4,.ptr 0 0),(34,.int .i64 a.l.length),(35,.int .i64 (n:Int))]/\1<=s.next/\s.obj 0=zf (.cells [Av,Pv,.int .u8 a.r.al9,gv,.aa5])/\Grow s gv 15 ((a.l.take n).map aa1.cs)) a.l.length ⟨.aa5,rfl,zb 1,by simp only[aa3,if_true],.inl ⟨rfl,rfl⟩⟩ ?_;rintro n fr s hn ⟨gv,rfl,hnx,ho,hg⟩;by_cases hlt:n<a.l.length
 .have d1:(n:Int)<(a.l.length:Int):=om;have w1:=ac6 (i:=n) om;have hp:=hpk n hlt;have n5:¬0=s.next:=om
  have htk:a.l.take (n+1)=a.l.take n++[a.l[n]]:=by
   rw[zz,zl hlt];rfl
  have hgl:gv.leaf=true:=by rcases hg with ⟨rfl,_⟩|⟨id,rfl,_⟩<;>rfl
  have hgc:gv.cs=[gv]:=by rcases hg with ⟨rfl,_⟩|⟨id,rfl,_⟩<;>rfl
  simp only[go_sem,d1,ho]
  first|refine aa4 fok29 (hp) ?_|refine aa8 (hp) ?_
  simp only[go_sem,ad8,ad9,ac9,n5,ho,b_o,b_p,b_t];have⟨s1,a1,a2,a3,a4⟩:=fi9 (k:=11) (nid:=s.next+1+1+1+1+1+1+1+1) (e:=a.l[n].cs) (A:=.cells [.str [],.int .i64 0,.str [],.str [],.int .u8 0,.str [],.aa5,.aa5,.aa5,.aa5,.aa5,.aa5,.aa5,.aa5,.aa5]) (B:=.cells a.l[n].cs) hg (ar7 _) ⟨rfl,rfl⟩ (by rw[za,zg];omega) ho om om;simp only[go_sem,a1,a3,b_o,b_p,b_t,w1];refine ⟨hlt,_,by rw[a2];omega,rfl,?_⟩;rw[htk,zx];have a5:=a4 [Av,Pv,.int .u8 a.r.al9,.slice (s.next+1+1+1+1+1+1+1+1) 0 ((a.l.take n).length+1) 15,.aa5] s1.next (by rw[a2];omega);rw[za] at a5;exact a5
 have hn':n=a.l.length:=om;subst hn';have d1:¬(a.l.length:Int)<(a.l.length:Int):=om;rw[z1] at hg;have n5:¬0=s.next:=om;have n6:¬0=s.next+1:=om;simp only[go_sem,d1,ho];refine aa4 fok44 (hT) ?_;simp only[go_sem,tlf,tcs,n5,n6,ho];rcases hg with ⟨rfl,h0⟩|⟨ga,rfl,hga,hgl⟩
 ·-- nobody
  have hl0:a.l=[]:=qd.1 h0;have hn0:ni=0:=by rw[hl0] at hle;simpa using hle
  subst hn0
  first|refine aa4 fok25 (hI) ?_|refine aa8 (hI) ?_
  have hs0:dj2 15 none (zf (.int .i64 0)) .aa5=zf .aa5:=rfl;have hl1:a.l.length=0:=by rw[hl0];rfl
  simp only[go_sem,hs0];refine aa9 noT (λi fr t=>fr=[(4,.ptr 0 0),(8,.ptr s.next 0),(10,.ptr (s.next+1) 0),(11,.aa5),(81,.aa5),(82,.int .i64 0),(83,.int .i64 (i:Int))]/\t.obj 0=zf (.cells [Av,Pv,.int .u8 a.r.al9,.aa5,.aa5])) 0 ⟨rfl,by simp only[aa3,n5,n6,if_false];exact ho⟩ ?_;rintro i fr t hi0 ⟨rfl,ht0⟩;have hi1:i=0:=om;subst hi1;have z0:¬((0:Nat):Int)<0:=by decide
  simp only[go_sem,z0,ht0];refine aa9 noT (λi fr t=>fr=[(4,.ptr 0 0),(8,.ptr s.next 0),(10,.ptr (s.next+1) 0),(11,.aa5),(108,.aa5),(109,.int .i64 0),(110,.int .i64 (i:Int))]/\t.obj 0=zf (.cells [Av,Pv,.int .u8 a.r.al9,.aa5,.aa5])) 0 ⟨rfl,ht0⟩ ?_;rintro i fr u hi0 ⟨rfl,hu0⟩;have hi1:i=0:=om;subst hi1;simp only[go_sem,z0];rw[show aw3 a.l 0=[] by rw[hl0];rfl,hl0];refine .bo4 (.cons (.ptr 0 0 _ _ (zd _) (.inl hu0) (zb _) (λj hj=>?_)) (.cons (bf8 rfl) .nil))
  match j,hj with
  | 0,_=>exact .keep _ hbA
  | 1,_=>exact .keep _ hbP
  | 2,_=>exact .keep _ (.int _ _)
  | 3,_=>exact .by1
  | 4,_=>exact .by1
 first|refine aa4 fok25 (hI) ?_|refine aa8 (hI) ?_
 rw[za] at *
 have hs0:dj2 15 none (zf (.int .i64 (ni:Int))) (.slice ga 0 a.l.length 15)=zf (.slice ga 0 ni 15):=by
  have h1:(0:Int)<=ni:=om;simp[dj2,cx3,fg8,h1,hle]
 simp only[go_sem,hs0];obtain ⟨m,hm0⟩:∃m,s.next=m:=⟨_,rfl⟩
 have hgz:0<ga:=by
  rcases Nat.eq_zero_or_pos ga with h|h
  .rw[h,ho] at hga;cases hga
  .exact h
 have hrow:∀i (h:i<a.l.length),((a.l.map aa1.cs).flatten.drop (i*15)).take 15=a.l[i].cs/\15<=((a.l.map aa1.cs).flatten.drop (i*15)).length:=λi h=>by
  have hl:∀e∈a.l.map aa1.cs,e.length=15:=λe he=>(ar7 _ e he).1
  have h1:=bp9 hl i (by rw[za];exact h);have h2:=bc1 hl;refine ⟨by rw[h1];simp[zc,h],?_⟩;rw[List.length_drop,h2,za];omega
 rw[hm0] at n5 n6 hnx hgl ⊢;generalize hF:(a.l.map aa1.cs).flatten=F at *;generalize hC0:[Av,Pv,IV.int .u8 a.r.al9,IV.slice ga 0 a.l.length 15,IV.aa5]=C0 at *
 have hmay:∀i (h:i<a.l.length),(a.l[i].suggests.length<=32/\∀r∈a.l[i].suggests,r.fit/\r.count<=24/\∀d∈r.atoms,ak2 d=true)/\a.l[i].ak8.length<=32/\∀r∈a.l[i].ak8,r.fit/\r.count<=24:=λi h=>by
  have⟨⟨h1,h2⟩,h3,h4⟩:=it1 (hm _ (zh h));have hr:=(hA.fit _ (zh h)).rich;simp only[aa1.rows,z7,z2,or_false,forall_eq_or_imp,forall_eq] at hr;exact ⟨⟨h1,λr hr'=>⟨(hr.2.2.2.2.1.2 r hr').1,dx4 (h2 r hr')⟩⟩,h3,λr hr'=>⟨(hr.2.2.2.2.2.2 r hr').1,(dx4 (h4 r hr')).1⟩⟩
 have hatl:∀L:List aa1,(∀q∈L,q∈a.l)->(ay1 L).length<=L.length*(32*24):=λL hL=>by
  refine ff1 _ _ L λq hq=>?_
  obtain ⟨i,hi,rfl⟩:=qb.1 (hL q hq);have⟨⟨h1,h2⟩,_⟩:=hmay i hi;refine zr (ff1 _ 24 _ λr hr=>zr (dh9 r) (h2 r hr).2.1) (zy h1 (zb 24))
 refine aa9 noT (λi fr u=>∃iv av,fr=[(4,.ptr 0 0),(8,.ptr m 0),(10,.ptr (m+1) 0),(11,av),(81,.slice ga 0 ni 15),(82,.int .i64 ni),(83,.int .i64 (i:Int))]/\PF u m ga F C0 Tv iv av (aj5 (λ_=>true) i) (ay1 (a.l.take i))) ni ⟨.aa5,.aa5,rfl,?_⟩ ?_
 .refine ⟨by show m+1<m+2+_;omega,⟨hgz,hgl⟩,?_,?_,?_,?_,.inl ⟨rfl,rfl⟩,.inl ⟨rfl,rfl⟩,λid k h=>(by cases h),λi j k k' h=>(by cases h)⟩
  .simp only[aa3,n5,n6,if_false];exact ho
  .have e1:¬ga=m:=om;have e2:¬ga=m+1:=om;simp only[aa3,e1,e2,if_false];exact hga
  .have e1:¬m=m+1:=om;simp only[aa3,e1,if_false,if_true]
  .simp only[aa3,if_true]
 rintro i fr u hi ⟨iv,av,rfl,hpf⟩;by_cases hlt:i<ni
 .have d2:(i:Int)<ni:=om;have d3:(0:Int)<=i:=om;have w1:=ac6 (i:=i) om;have hil:i<a.l.length:=om;have⟨r1,r2⟩:=hrow i hil;have⟨⟨s1,s2⟩,_⟩:=hmay i hil;have hat:=hatl (a.l.take i) λq hq=>zo hq
  have htk:a.l.take (i+1)=a.l.take i++[a.l[i]]:=by
   rw[zz,zl hil];rfl
  have hsg:(a.l[i].cs.drop 12).head? = zf (ao3 a.l[i].suggests):=rfl;have hgu:¬ga=u.next:=by have:=hpf.nx;omega
  have h1u:¬m+1=u.next:=by have:=hpf.nx;omega
  generalize a.l[i]=q at *;simp only[go_sem,d2,d3,hpf.oF,r1,r2,zw,zm,ad8,ad9,ac9,h1u,hpf.o10,hsg];generalize hX:Store.put _ u.next (aj8.cells q.cs)=X;have hXn:X.next=u.next+1:=by rw[<- hX];rfl
  have hXo:∀i,i<u.next->X.obj i=u.obj i:=λi hi=>by
   have:¬i=u.next:=om;rw[<- hX];simp only[aa3,this,if_false]
  have hXb:X.obj u.next=zf (.cells q.cs):=by rw[<- hX];simp only[aa3,if_true]
  have hpX:PF X m ga F C0 Tv iv av (aj5 (λ_=>true) i) (ay1 (a.l.take i)):=hpf.mono om hXo;have hzl:=ai3 (λ_=>true) i;have hns:aj5 (λ_=>true) (i+1)=aj5 (λ_=>true) i++[(i:Int)]:=by rw[bd3];rfl
  have hap:=az4 (s:=⟨X.next+1,X.obj⟩) (nid:=X.next) (hpX.hi.up 1) (i:Int) om;have hpW:=hpX.inp (i:Int) (k:=1) (nid:=X.next) (zb _) (zn _)
  have hcl:∀j cs,X.obj j=zf (.cells cs)->(ad4 iv ⟨X.next+1,X.obj⟩).obj j=zf (.cells cs):=λj cs h=>by
   rcases hpX.hi with ⟨hv,_⟩|⟨id,_,_,hv,ho⟩
   .rw[hv];exact h
   .rw[hv];show (if j=id then none else X.obj j)=_;rw[if_neg λe=>by rw[e,ho] at h;cases h];exact h
  have k1:=hcl _ _ hpX.o10;have k2:=hcl _ _ hXb;have e1:¬m+1=X.next:=by have:=hpX.nx;omega
  have e2:¬u.next=X.next:=om;have e3:¬u.next=m+1:=by have:=hpf.nx;omega
  rw[<- hXn,hap];rw[<- hns] at hpW;simp only[go_sem,e1,e2,e3,k1,k2,hsg];generalize hY:Store.put _ (m+1) (aj8.cells [IV.slice X.next 0 ((aj5 (λ_=>true) i).length+1) 1])=Y at *;generalize IV.slice X.next 0 ((aj5 (λ_=>true) i).length+1) 1=iv' at *;have hzl2:=ai3 (λ_=>true) (i+1)
  refine aa9 noT (λj fr t=>∃av',fr=[(4,.ptr 0 0),(8,.ptr m 0),(10,.ptr (m+1) 0),(11,av'),(81,.slice ga 0 ni 15),(82,.int .i64 ni),(83,.int .i64 (i:Int)),(93,ao3 q.suggests),(94,.int .i64 q.suggests.length),(95,.int .i64 (j:Int))] /\
   PF t m ga F C0 Tv iv' av' (aj5 (λ_=>true) (i+1)) (ay1 (a.l.take i)++(q.suggests.take j).flatMap aa6.atoms)) q.suggests.length ⟨av,rfl,?_⟩ ?_
  .rw[List.take_zero,z3,zp];refine hpW.mono (Nat.le_of_eq ?_) λz hz=>?_
   .rw[<- hY,hns];try rfl
   .rw[<- hY,hns];try rfl
  rintro j fr t hj ⟨av',rfl,hpt⟩;by_cases hjl:j<q.suggests.length
  .have⟨r,hr,hrj,hdr,hget,htkj⟩:=ad3 q.suggests j hjl;have f1:(j:Int)<q.suggests.length:=om;have f2:(0:Int)<=j:=om;have w2:=ac6 (i:=j) om;have⟨g1,g2,g3⟩:=s2 r hr;have hAt:=is9 r g1 om;simp only[go_sem,f1,f2,hget,ac5,ab9,ab3];refine aa4 fok78 (hAt) ?_;simp only[go_sem];generalize hX2:Store.put _ t.next (aj8.cells r.cs)=X2;have hX2n:X2.next=t.next+1:=by rw[<- hX2];rfl
   have hpX2:PF X2 m ga F C0 Tv iv' av' (aj5 (λ_=>true) (i+1)) (ay1 (a.l.take i)++(q.suggests.take j).flatMap aa6.atoms):=hpt.mono om λz hz=>by
    have:¬z=t.next:=om;rw[<- hX2];simp only[aa3,this,if_false]
   have hfj:((q.suggests.take j).flatMap aa6.atoms).length<=32*24:=zr (ff1 _ 24 _ λx hx=>zr (dh9 x) (s2 x (zo hx)).2.1) (zy (by rw[zg];omega) (zb 24));have hra:=dh9 r;have hti:(a.l.take i).length<=256:=by rw[zg];omega
   have hmul:(a.l.take i).length*(32*24)<=256*(32*24):=zy hti (zb _);have hap2:=hr8 (s:=⟨X2.next+1,X2.obj⟩) (nid:=X2.next) (xs:=r.atoms.map Dep.cs) (hpX2.ha.mono (Nat.le_succ _) λ_ _ _=>rfl) (ch6 _) (ch6 _) (by rw[za,za,zj];omega);have htkj':(q.suggests.take (j+1)).flatMap aa6.atoms=(q.suggests.take j).flatMap aa6.atoms++r.atoms:=by rw[htkj,qe,qh,z3,zp]
   rw[<- hX2n];rcases hap2 with ⟨hz,hap2⟩|hap2
   .have hz':r.atoms=[]:=qd.1 hz;rw[hap2];simp only[go_sem,w2];refine ⟨hjl,av',rfl,?_⟩;rw[htkj',hz',zp];exact hpX2.mono (Nat.le_succ _) λ_ _=>rfl
   .have hpA:=hpX2.atoms r.atoms (k:=1) (nid:=X2.next) (zb _) (zn _);rw[hap2];simp only[go_sem,w2];refine ⟨hjl,_,rfl,?_⟩;rw[htkj',<- qi];rw[za,za] at hpA;exact hpA
  have hj':j=q.suggests.length:=om;subst hj';have f1:¬(q.suggests.length:Int)<q.suggests.length:=om;simp only[go_sem,f1,w1];refine ⟨hlt,iv',av',rfl,?_⟩;rw[z1] at hpt;rw[htk];unfold ay1 at *;rw[qe,qh,z3,zp];exact hpt
 have hi':i=ni:=om;subst hi';have d2:¬(i:Int)<(i:Int):=om;have hc3:(C0.drop 3).head? = zf (.slice ga 0 a.l.length 15):=by rw[<- hC0];rfl
 simp only[go_sem,d2,hpf.o0,hc3];obtain ⟨M,hM0⟩:∃M,u.next=M:=⟨_,rfl⟩;have hmM:m+1<M:=by rw[<- hM0];exact hpf.nx
 have hlm:(aw3 a.l i).length=a.l.length:=za ..
 refine aa9 noT (λn fr t=>∃lv,fr=[(4,.ptr 0 0),(8,.ptr m 0),(10,.ptr (m+1) 0),(11,av),(108,.slice ga 0 a.l.length 15),(109,.int .i64 a.l.length),(110,.int .i64 (n:Int))]/\M<=t.next/\(∀z,0<z->z<M->t.obj z=u.obj z) /\
  t.obj 0=zf (.cells [Av,Pv,.int .u8 a.r.al9,.slice ga 0 a.l.length 15,lv])/\Grow t lv 1 (((aw3 a.l i).take n).map bx6)/\∀id k,lv=.slice id 0 k 1->M<=id) a.l.length ⟨.aa5,rfl,om,λ_ _ _=>rfl,by rw[hC0];exact hpf.o0,.inl ⟨rfl,rfl⟩,λid k h=>by cases h⟩ ?_
 rintro n fr t hn ⟨lv,rfl,hMt,hk,ho0,hlv,hll⟩;have hgaM:ga<M:=by have:=hpf.gm;omega
 have tF:t.obj ga=zf (.row F):=by rw[hk ga hgz hgaM];exact hpf.oF
 by_cases hlt2:n<a.l.length
 .have d3:(n:Int)<a.l.length:=om;have d4:(0:Int)<=n:=om;have w1:=ac6 (i:=n) om;have⟨r1,r2⟩:=hrow n hlt2;have⟨_,s1,s2⟩:=hmay n hlt2;have hsq:=hA.small _ (zh hlt2);have hti:(a.l.take i).length<=256:=by rw[zg];omega
  have hmul:(a.l.take i).length*(32*24)<=256*(32*24):=zy hti (zb _);have hat:=hatl (a.l.take i) λq hq=>zo hq
  have hzl:=ai3 (λ_=>true) i
  have htk:((aw3 a.l i).take (n+1))=(aw3 a.l i).take n++[hr6 a.l i a.l[n]]:=by
   rw[zz];simp[aw3,hlt2]
  have hen:(a.l[n].cs.drop 13).head? = zf (ao3 a.l[n].ak8):=rfl
  have hD:∀d∈ay1 (a.l.take i),Dep.small d:=λd hd=>by
   have⟨q,hq,hd2⟩:=List.mem_flatMap.1 hd;have⟨r,hr,hd3⟩:=List.mem_flatMap.1 hd2;have⟨j,hj,hqj⟩:=qb.1 (zo hq);rw[<- hqj] at hr;exact ci1 (((hmay j hj).1.2 r hr).2.2 d hd3)
  have hcD:=cg7 (ay1 (a.l.take i)) 80 [] [.ab5 a.l[n].cs] (λd=>provides a.l[n] d) om fok80.1 λd hd=>ff2 a.l[n] d hsq (hD d hd)
  have hcR:=bd7 a.l[n].ak8 83 [] [.ab5 [Tv],.ab5 [.aa2 ((aj5 (λ_=>true) i).map Md.ad1)]] (λr=>fb2 a.l (aj5 (λ_=>true) i) r) om fok83.1 λr hr=>hS _ om r (s2 r hr).1 (by have:=(s2 r hr).2;omega)
  have hlp:hr6 a.l i a.l[n]=((ay1 (a.l.take i)).any (λd=>provides a.l[n] d)||a.l[n].ak8.any λr=>fb2 a.l (aj5 (λ_=>true) i) r):=rfl;rw[hlp] at htk;generalize (ay1 (a.l.take i)).any (λd=>provides a.l[n] d)=B1 at *;generalize (a.l[n].ak8.any λr=>fb2 a.l (aj5 (λ_=>true) i) r)=B2 at *;generalize a.l[n]=q at *;simp only[go_sem,d3,d4,tF,r1,r2,zw,zm,ad8,ad9,ac9];generalize hX:Store.put _ t.next (aj8.cells q.cs)=X;have hXn:X.next=t.next+1:=by rw[<- hX];rfl
  have hXo:∀i,i<t.next->X.obj i=t.obj i:=λi hi=>by
   have:¬i=t.next:=om;rw[<- hX];simp only[aa3,this,if_false]
  have hXb:X.obj t.next=zf (.cells q.cs):=by rw[<- hX];simp only[aa3,if_true]
  have hmt:¬m=t.next:=om;have hm1t:¬m+1=t.next:=om;have hXu:∀z,0<z->z<M->X.obj z=u.obj z:=λz h1 h2=>by rw[hXo z om,hk z h1 h2]
  have hav2:∀τ:Store,τ.obj=X.obj->M<=τ.next->cc3 τ 0 av (.aa2 ((ay1 (a.l.take i)).map Dep.cs)):=λτ h1 h2=>by
   refine (hpf.ha.mono (σ:=u) om λid hv hid=>?_:Grow τ av 5 ((ay1 (a.l.take i)).map Dep.cs)).frz (λe he=>(ch6 _ e he).1) (λ_ _=>zd _) λe he c hc=>by
    obtain ⟨x,_,rfl⟩:=zq.1 he;exact fp9 x c hc
   rw[h1];exact hXu id (by have:=hpf.la _ _ hv;omega) om
  refine ab8 fok79 (bq4 (args':=[.aa2 ((ay1 (a.l.take i)).map Dep.cs),.func (.func 80) [] [.ab5 q.cs]]) hE rfl (λz hz=>by
   match z,hz with
   | 0,_=>exact hav2 _ rfl (by show M<=t.next+1;omega)
   | 1,_=>exact dx5 (.cons (bw9 hXb (ag4 q)) .nil)) (by simp[IV.plain]) hcD) ?_
  rintro v w ⟨rfl,rfl⟩;refine ⟨zb _,?_⟩
  have hiv2:cc3 (⟨t.next+1,X.obj⟩:Store) 0 (.ptr (m+1) 0) (.ab5 [.aa2 ((aj5 (λ_=>true) i).map Md.ad1)]):=by
   refine .ptr (m+1) 0 [iv] _ (zd _) (.inl (by show X.obj (m+1)=_;rw[hXu _ om om];exact hpf.o10)) (zb _) λj hj=>?_
   have hj0:j=0:=by simp only[ze] at hj;omega
   subst hj0
   have hir:ah7 (⟨t.next+1,X.obj⟩:Store) (m+2) iv (aj5 (λ_=>true) i):=by
    rcases hpf.hi with h|⟨id,i1,i2,i3,i4⟩
    .exact .inl h
    .exact .inr ⟨id,i1,by show id<t.next+1;omega,i3,by show X.obj id=_;rw[hXu id om om];exact i4⟩
   exact hir.w.frz λ_ _=>zd _
  simp only[go_sem,hXb,hen]
  refine ab8 fok82 (bq4 (args':=[ao3 q.ak8,.func (.func 83) [] [.ab5 [Tv],.ab5 [.aa2 ((aj5 (λ_=>true) i).map Md.ad1)]]]) hE rfl (λz hz=>by
   match z,hz with
   | 0,_=>exact .keep _ (bd6 _)
   | 1,_=>exact dx5 (.cons (bw9 (by show X.obj m=_;rw[hXu _ om om];exact hpf.o8) (al3 hbT)) (.cons hiv2 .nil))) (by simp[IV.plain]) hcR) ?_
  rintro v w ⟨rfl,rfl⟩;refine ⟨zb _,?_⟩;have hx0:X.obj 0=zf (.cells [Av,Pv,.int .u8 a.r.al9,.slice ga 0 a.l.length 15,lv]):=by rw[hXo 0 om];exact ho0
  simp only[go_sem,hx0];have hlx:Grow (⟨t.next+1+1,X.obj⟩:Store) lv 1 (((aw3 a.l i).take n).map bx6):=hlv.mono (by show t.next<=t.next+1+1;omega) λid _ hid=>hXo id hid
  have hap:=λb:Bool=>ai1 (nid:=t.next+1) (e:=[IV.bool b]) hlx (fq1 _) ⟨rfl,rfl⟩ (by rw[za,zg];omega)
  have kn:(ad4 lv (⟨t.next+1+1,X.obj⟩:Store)).next=t.next+1+1:=ac1 lv;have k0:=ae4 hlx 0 _ hx0 (λ_ h=>by cases h)
  have kz:∀z,0<z->z<M->(ad4 lv (⟨t.next+1+1,X.obj⟩:Store)).obj z=u.obj z:=λz h1 h2=>by
   rcases hlx with ⟨hv,_⟩|⟨id,hv,_,_⟩
   .rw[hv];exact hXu z h1 h2
   .have:=hll _ _ hv;rw[hv];show (if z=id then none else X.obj z)=_;rw[if_neg om];exact hXu z h1 h2
  have e0:¬0=t.next+1:=om;have e1:¬t.next+1=0:=om;have hlen2:((aw3 a.l i).take n).length=n:=by rw[zg,hlm];omega
  have hfin:∀b:Bool,b=(B1||B2)->∀cs,cs=(((aw3 a.l i).take n).map bx6++[[IV.bool b]]).flatten->n<a.l.length/\∃lv',[(4,IV.ptr 0 0),(8,.ptr m 0),(10,.ptr (m+1) 0),(11,av),(108,.slice ga 0 a.l.length 15),(109,.int .i64 a.l.length),(110,.int .i64 ((n+1:Nat):Int))]=[(4,IV.ptr 0 0),(8,.ptr m 0),(10,.ptr (m+1) 0),(11,av),(108,.slice ga 0 a.l.length 15),(109,.int .i64 a.l.length),(110,.int .i64 ((n+1:Nat):Int))]/\lv'=.slice (t.next+1) 0 ((((aw3 a.l i).take n).map bx6).length+1) 1 /\
    (((ad4 lv (⟨t.next+1+1,X.obj⟩:Store)).put (t.next+1) (.row cs)).put 0 (.cells [Av,Pv,.int .u8 a.r.al9,.slice ga 0 a.l.length 15,lv'])).next=t.next+1+1/\(∀z,0<z->z<M->(((ad4 lv (⟨t.next+1+1,X.obj⟩:Store)).put (t.next+1) (.row cs)).put 0 (.cells [Av,Pv,.int .u8 a.r.al9,.slice ga 0 a.l.length 15,lv'])).obj z=u.obj z) /\
    Grow (((ad4 lv (⟨t.next+1+1,X.obj⟩:Store)).put (t.next+1) (.row cs)).put 0 (.cells [Av,Pv,.int .u8 a.r.al9,.slice ga 0 a.l.length 15,lv'])) lv' 1 (((aw3 a.l i).take (n+1)).map bx6):=λb hb cs hcs=>by
   refine ⟨hlt2,_,rfl,rfl,by rw[aa7,aa7,kn],λz h1 h2=>?_,?_⟩
   .rw[aa3,if_neg om,aa3,if_neg om];exact kz z h1 h2
   .refine .inr ⟨t.next+1,?_,?_,by rw[aa7,aa7,kn];omega⟩
    .rw[htk];simp
    .rw[aa3,if_neg e1,aa3,if_pos rfl,htk,hcs,hb,zx];rfl
  cases B1 with
  | true=>
   simp only[go_sem,hap,e0,k0,w1];have⟨_,lv',_,h2,h3,h4,h5⟩:=hfin true rfl _ rfl;rw[h2,za] at h3 h4 h5;refine ⟨hlt2,_,by rw[kn];omega,λz h1 h2=>?_,rfl,h5,λid k h=>by cases h;omega⟩;have:=h4 z h1 h2
   simpa only[aa3] using this
   -- λid k h=>by cases h;omega⟩
  | false=>
   simp only[go_sem,hap,e0,k0,w1];have⟨_,lv',_,h2,h3,h4,h5⟩:=hfin B2 rfl _ rfl;rw[h2,za] at h3 h4 h5;refine ⟨hlt2,_,by rw[kn];omega,λz h1 h2=>?_,rfl,h5,λid k h=>by cases h;omega⟩;have:=h4 z h1 h2
   simpa only[aa3] using this
   -- λid k h=>by cases h;omega⟩
 have hn':n=a.l.length:=om;subst hn';have d3:¬(a.l.length:Int)<(a.l.length:Int):=om;simp only[go_sem,d3];rw[qa (by rw[hlm];exact zb _)] at hlv;refine .bo4 (.cons (.ptr 0 0 _ _ (zd _) (.inl ho0) (zb _) (λj hj=>?_)) (.cons (bf8 rfl) .nil))
 match j,hj with
 | 0,_=>exact .keep _ hbA
 | 1,_=>exact .keep _ hbP
 | 2,_=>exact .keep _ (.int _ _)
 | 3,_=>
  have hgr:Grow t (.slice ga 0 a.l.length 15) 15 (a.l.map aa1.cs):=.inr ⟨ga,by rw[za],by rw[tF,hF],om⟩
  exact hgr.frz (λx hx=>(ar7 _ x hx).1) (λ_ _=>zd _) λe he c hc=>by
   obtain ⟨y,_,rfl⟩:=zq.1 he
   exact ag4 y c hc
 | 4,_=>
  exact hlv.frz (λx hx=>(fq1 _ x hx).1) (λ_ _=>zd _) λe he c hc=>by
   obtain ⟨y,_,rfl⟩:=zq.1 he
   cases hc with
   | head=>exact .bool _
   | tail _ h=>cases h
end Go.Id.Tryz
namespace Go.Id.Tryz
open Go Go.Id Go.Proofs Go.Shelf Go.Id.Md
def aj2 (o:ah4):Bnd 0 o.v:=.ab5 _ λc hc=>by
 simp only[ah4.cs,z7,z2,or_false] at hc;rcases hc with rfl|rfl|rfl|rfl|rfl
 .exact ai5 _
 .exact ba4 _
 .exact .int _ _
 .exact au5 _
 .exact et3 _
def eg2 (o:ah4):o.v=.ab5 [o.a.v,o.a.p.v,.int .u8 o.a.r.al9,.aa2 (o.a.l.map aa1.cs),et2 o.eo1]:=rfl
structure OOK (o:ah4):Prop where
 a:AOK o.a
 lk:o.eo1.length=o.a.l.length
def eg3 (o:ah4)(n:Int):Pq 149 [o.v,.int .i64 n] (.bool (o.a.is n)):=by
 refine af5 hE fok149 (nZ rfl) (ag7 (aj2 o) (.int _ _)) ?_;unfold ac2.is;rw[eg2];have c:(o.a.l.map aa1.cs).length=o.a.l.length:=za ..;generalize o.a.l.map aa1.cs=es at *;generalize o.a.l.length=k at *;by_cases b:0<=n
 .by_cases d:n<(k:Nat)
  .simp only[ic149,go_sem,an5,b,d,c];exact ac8 rfl
  .simp only[ic149,go_sem,an5,b,d,c];exact ac8 rfl
 .simp only[ic149,go_sem,an5,b];exact ac8 rfl
def ff4 {a:ac2}{n:Int}(h:a.is n=true):∃k:Nat,n=k/\k<a.l.length:=by
 unfold ac2.is at h;simp only[zk,decide_eq_true_eq] at h;exact ⟨n.toNat,om,om⟩
def dx6 (a:ac2){k:Nat}(h:k<a.l.length):a.pk k=a.l[k]:=by simp[ac2.pk,zc,h]
def by8 (b:Bool):Pq 156 [.bool b] (.int .i64 (ah4.bl8 b)):=by
 refine af5 hE fok156 (nZ rfl) (al3 (.bool _)) ?_
 cases b with
 | false=>simp only[ic156,go_sem];exact bf8 rfl
 | true=>simp only[ic156,go_sem];exact bf8 rfl
def ai4 {v:IV}(h:Bnd 0 v):Bnd 0 (.ab5 [v]):=.ab5 _ (al3 h)
def jp6 (o:ah4)(n m:Int):Pq 208 [.ab5 [o.v],.ab5 [.int .i64 n],.ab5 [.int .i64 m]] (.int .i64 (aq7 (ah4.bl8 (o.a.fits n)) (ah4.bl8 (o.a.fits m)))):=by
 refine af5 hE fok208 (nZ rfl) (aw9 (ai4 (aj2 o)) (ai4 (.int _ _)) (ai4 (.int _ _))) ?_;have c:=bx3 o.a n;have b:=bx3 o.a m;have e:=by8 (o.a.fits n)
 have d:=by8 (o.a.fits m)
 have hc:=bf3 (ah4.bl8 (o.a.fits n)) (ah4.bl8 (o.a.fits m));rw[eg2];simp only[ic208,go_sem,an5]
 first|refine aa4 fok113 (c) ?_|refine aa8 (c) ?_
 simp only[go_sem];refine aa8 (e) ?_;simp only[go_sem,an5]
 first|refine aa4 fok113 (b) ?_|refine aa8 (b) ?_
 simp only[go_sem];refine aa8 (d) ?_;simp only[go_sem]
 first|refine aa4 fok155 (hc) ?_|refine aa8 (hc) ?_
 simp only[go_sem];exact bf8 rfl
def jp7 (o:ah4)(p q:aa1):Pq 209 [.ab5 [o.v],.ab5 p.cs,.ab5 q.cs] (.int .i64 (aq7 (be9 o.a.r.al9 p.al9) (be9 o.a.r.al9 q.al9))):=by
 refine af5 hE fok209 (nZ rfl) (aw9 (ai4 (aj2 o)) (.ab5 _ (ag4 p)) (.ab5 _ (ag4 q))) ?_;have c:=ee5 o.a.r.al9 p.al9;have b:=ee5 o.a.r.al9 q.al9;have hc:=bf3 (be9 o.a.r.al9 p.al9) (be9 o.a.r.al9 q.al9);have e:(p.cs.drop 4).head? = zf (.int .u8 p.al9):=rfl;have d:(q.cs.drop 4).head? = zf (.int .u8 q.al9):=rfl;rw[eg2];simp only[ic209,go_sem,an5,ad8,e]
 first|refine aa4 fok210 (c) ?_|refine aa8 (c) ?_
 simp only[go_sem,an5,ad8,d]
 first|refine aa4 fok210 (b) ?_|refine aa8 (b) ?_
 simp only[go_sem]
 first|refine aa4 fok155 (hc) ?_|refine aa8 (hc) ?_
 simp only[go_sem];exact bf8 rfl
def hr9 (r:bb5):(r.cs.drop 16).head? = zf (.int .i64 r.prio):=rfl
def br9 (p:Pool)(n:Nat)(h:n<p.rows.length):Pq 212 [p.v,.int .i64 n] (.int .i64 p.rows[n].prio):=by
 refine aw8 fok212 (nZ rfl) λσ=>?_
 have c:(n:Int)<p.rows.length:=om;have b:(0:Int)<=n:=om;have a:(p.rows.map bb5.cs).getD n []=p.rows[n].cs:=by simp[zc,h]
 simp only[ic212,go_sem,Pool.v];refine aa4 fok62 (dg8 p.rows n) ?_;simp only[go_sem,c,b,a,bh3,hr9,and_self]
def hs8 (o:ah4){k:Nat}(h:k<o.a.l.length):∃c:k<o.a.p.rows.length,o.prio k=o.a.p.rows[k].prio:=by
 have b:o.a.p.rows.length=o.a.l.length:=by simp[ac2.l,ac3]
 exact ⟨om,by simp[ah4.prio,zc,show k<o.a.p.rows.length by omega]⟩
def jp8 (o:ah4){n m:Nat}(d:n<o.a.l.length)(e:m<o.a.l.length):Pq 211 [.ab5 [o.v],.ab5 [.int .i64 m],.ab5 [.int .i64 n]] (.int .i64 (aq7 (o.prio m) (o.prio n))):=by
 refine af5 hE fok211 (nZ rfl) (aw9 (ai4 (aj2 o)) (ai4 (.int _ _)) (ai4 (.int _ _))) ?_;have⟨g,e1⟩:=hs8 o d;have⟨f,e2⟩:=hs8 o e;have c:=br9 o.a.p n g;have b:=br9 o.a.p m f;rw[<- e1] at c;rw[<- e2] at b;have hc:=bf3 (o.prio m) (o.prio n);rw[eg2];simp only[ic211,go_sem,an5];refine aa8 (b) ?_;simp only[go_sem,an5];refine aa8 (c) ?_;simp only[go_sem]
 first|refine aa4 fok155 (hc) ?_|refine aa8 (hc) ?_
 simp only[go_sem];exact bf8 rfl
def jp9 (o:ah4)(b:OOK o){n m:Nat}(e:n<o.a.l.length)(f:m<o.a.l.length):Pq 213 [.ab5 [o.v],.ab5 [.int .i64 n],.ab5 [.int .i64 m]] (.int .i64 (aq7 (ah4.bl8 (o.lk n)) (ah4.bl8 (o.lk m)))):=by
 refine af5 hE fok213 (nZ rfl) (aw9 (ai4 (aj2 o)) (ai4 (.int _ _)) (ai4 (.int _ _))) ?_;have h:=ci2 (st:=o.eo1) (n:=n) (by rw[b.lk];exact e);have g:=ci2 (st:=o.eo1) (n:=m) (by rw[b.lk];exact f);have p:(n:Int)<o.eo1.length:=by rw[b.lk];omega
 have k:(0:Int)<=n:=om;have j:(m:Int)<o.eo1.length:=by rw[b.lk];omega
 have i:(0:Int)<=m:=om;have d:=by8 (o.lk n)
 have c:=by8 (o.lk m)
 have hc:=bf3 (ah4.bl8 (o.lk n)) (ah4.bl8 (o.lk m));unfold ah4.lk at *;rw[zm] at *;rw[eg2];simp only[ic213,go_sem,an5,p,k,h];refine aa8 (d) ?_;simp only[go_sem,an5,j,i,g];refine aa8 (c) ?_;simp only[go_sem]
 first|refine aa4 fok155 (hc) ?_|refine aa8 (hc) ?_
 simp only[go_sem];exact bf8 rfl
def jq1 (p q:aa1)(hp:EVR.small p.evr)(e:EVR.small q.evr):Pq 214 [.ab5 q.cs,.ab5 p.cs] (.int .i64 (ao6 q.evr p.evr)):=by
 refine af5 hE fok214 (nZ rfl) (ag7 (.ab5 _ (ag4 q)) (.ab5 _ (ag4 p))) ?_;have h:=ax7 q.evr p.evr e hp;have d:(p.cs.drop 1).take 3=p.evr.cs:=rfl;have b:(q.cs.drop 1).take 3=q.evr.cs:=rfl;have c:(p.cs.drop 1).length=14:=rfl;have a:(q.cs.drop 1).length=14:=rfl;simp only[ic214,go_sem,ad8,d,b,c,a];refine aa4 fok127 (h) ?_;simp only[go_sem];exact bf8 rfl
def jq2 (n m:Int):Pq 215 [.ab5 [.int .i64 n],.ab5 [.int .i64 m]] (.int .i64 (aq7 n m)):=by
 refine af5 hE fok215 (nZ rfl) (ag7 (ai4 (.int _ _)) (ai4 (.int _ _))) ?_;have hc:=bf3 n m;simp only[ic215,go_sem]
 first|refine aa4 fok155 (hc) ?_|refine aa8 (hc) ?_
 simp only[go_sem];exact bf8 rfl
def cv7 (b:List (Nat×List IV))(a:List Int)(B:b.length=a.length)(K:b.length<2^40)(I:∀f∈b,∀c∈f.2,Bnd 0 c)
  (h:∀i (h1:i<b.length) (h2:i<a.length),okF Tryz.prog b[i].1=true/\Pq b[i].1 b[i].2 (.int .i64 a[i])):Pq 207 [.aa2 (b.map fnC)] (.int .i64 (orM a)):=by
 refine af5 hE fok207 (nZ rfl) (ae6 (.aa2 _ λe E c hc=>?_)) ?_
 .obtain ⟨f,hf,rfl⟩:=zq.1 E
  cases hc with
  | head=>exact .func _ _ _ (λc hc=>by cases hc) (I f hf)
  | tail _ h=>cases h
 simp only[ic207,go_sem];refine aa9 noT (λi fr s=>fr=[(6,.aa2 (b.map fnC)),(7,.int .i64 b.length),(8,.int .i64 i)]/\orM a=orM (a.drop i)) b.length ⟨rfl,rfl⟩ ?_;rintro i fr s A ⟨rfl,j⟩;by_cases e:i<b.length
 .have⟨f,hf,d,H,k,z⟩:=ad3 b i e;have g:i<a.length:=om;have q:(i:Int)<b.length:=om;have J:(0:Int)<=i:=om;have y:=ac6 (i:=i) om;have⟨t,r⟩:=h i e g
  have p:b[i]=f:=by
   have:=zl e;rw[this] at d;exact zf.inj d
  rw[p] at t r;rw[List.drop_eq_getElem_cons g,orM] at j;generalize a[i]=x at *;simp only[go_sem,q,J,k,fnC];refine al7 t r ?_;by_cases n:x=0
  .subst n;simp only[go_sem,y];exact ⟨e,by simpa using j⟩
  .rw[if_neg n] at j;simp only[go_sem,n];rw[j];exact ae5 _ _
 .have o:i=b.length:=om;subst o;have q:¬(b.length:Int)<b.length:=om;rw[B,List.drop_length,orM] at j;simp only[go_sem,q];rw[j];exact ae5 _ _
def dx7 (o:ah4)(z:OOK o){n m:Nat}(k:n<o.a.l.length)(p:m<o.a.l.length):Pq 151 [o.v,.int .i64 n,.int .i64 m] (.int .i64 (o.cmp n m)):=by
 refine af5 hE fok151 (nZ rfl) (aw9 (aj2 o) (.int _ _) (.int _ _)) ?_;have L:=z.a.len;have I:=dx6 o.a k;have J:=dx6 o.a p;have en:=(z.a.small _ (zh k)).1;have em:=(z.a.small _ (zh p)).1
 have U:o.cmp n m=orM [aq7 (ah4.bl8 (o.a.fits n)) (ah4.bl8 (o.a.fits m)),aq7 (be9 o.a.r.al9 o.a.l[n].al9) (be9 o.a.r.al9 o.a.l[m].al9),aq7 (o.prio m) (o.prio n),aq7 (ah4.bl8 (o.lk n)) (ah4.bl8 (o.lk m)),ao6 o.a.l[m].evr o.a.l[n].evr,aq7 n m]:=by
  unfold ah4.cmp Md.lex;rw[I,J];simp only[orM]
  repeat (first|rfl|split)
  all_goals simp_all
 have c1:=jp6 o n m;have c2:=jp7 o o.a.l[n] o.a.l[m];have c3:=jp8 o k p;have c4:=jp9 o z k p;have c5:=jq1 o.a.l[n] o.a.l[m] en em;have c6:=jq2 n m;have e:=ai4 (aj2 o);have d:=ai4 (v:=.int .i64 n) (.int _ _);have b:=ai4 (v:=.int .i64 m) (.int _ _);have Q:Bnd 0 (.ab5 o.a.l[n].cs):=.ab5 _ (ag4 _);have N:Bnd 0 (.ab5 o.a.l[m].cs):=.ab5 _ (ag4 _)
 have hf:=cv7 [(208,[.ab5 [o.v],.ab5 [.int .i64 n],.ab5 [.int .i64 m]]),(209,[.ab5 [o.v],.ab5 o.a.l[n].cs,.ab5 o.a.l[m].cs]),(211,[.ab5 [o.v],.ab5 [.int .i64 m],.ab5 [.int .i64 n]]),(213,[.ab5 [o.v],.ab5 [.int .i64 n],.ab5 [.int .i64 m]]),(214,[.ab5 o.a.l[m].cs,.ab5 o.a.l[n].cs]),(215,[.ab5 [.int .i64 n],.ab5 [.int .i64 m]])]
  [aq7 (ah4.bl8 (o.a.fits n)) (ah4.bl8 (o.a.fits m)),aq7 (be9 o.a.r.al9 o.a.l[n].al9) (be9 o.a.r.al9 o.a.l[m].al9),aq7 (o.prio m) (o.prio n),aq7 (ah4.bl8 (o.lk n)) (ah4.bl8 (o.lk m)),ao6 o.a.l[m].evr o.a.l[n].evr,aq7 n m] rfl sm
  (λf hf c hc=>by
   simp only[z7,z2,or_false] at hf;rcases hf with rfl|rfl|rfl|rfl|rfl|rfl
   .exact aw9 e d b c hc
   .exact aw9 e Q N c hc
   .exact aw9 e b d c hc
   .exact aw9 e d b c hc
   .exact ag7 N Q c hc
   .exact ag7 d b c hc)
  (λi W h2=>by
   match i,W with
   | 0,_=>exact ⟨fok208.1,c1⟩
   | 1,_=>exact ⟨fok209.1,c2⟩
   | 2,_=>exact ⟨fok211.1,c3⟩
   | 3,_=>exact ⟨fok213.1,c4⟩
   | 4,_=>exact ⟨fok214.1,c5⟩
   | 5,_=>exact ⟨fok215.1,c6⟩
   | i+6,h=>simp at h;omega)
 rw[<- U] at hf;have bo:=aj2 o;have f:=eg2 o;have d1:(n:Int)<o.a.l.length:=om;have d2:(0:Int)<=n:=om;have d3:(m:Int)<o.a.l.length:=om;have d4:(0:Int)<=m:=om;have Y:(o.a.l.map aa1.cs).getD n []=o.a.l[n].cs:=by simp[zc,k]
 have X:(o.a.l.map aa1.cs).getD m []=o.a.l[m].cs:=by simp[zc,p]
 have E:o.v.leaf=true:=rfl;have H:o.v.cs=[o.v]:=rfl;have T:∀(P:Prop),P->P:=λ_ h=>h
 simp only[ic151,go_sem,E,H,f,d1,d2,d3,d4,Y,X,ad8,ad9,ac9];rw[<- f];generalize M:Store.mk 18 _=S;have B:S.obj 14=zf (.cells o.a.l[n].cs):=by rw[<- M];simp only[aa3];rfl
 have A:S.obj 15=zf (.cells o.a.l[m].cs):=by rw[<- M];simp only[aa3,if_true]
 have s:=bw9 B (ag4 _);have q:=bw9 A (ag4 _);have t:∀(g:Nat) (cs:List IV),(∀c∈cs,Bnd 0 c)->cc3 S 0 (.func (.func g) [] cs) (.func (.func g) [] cs):=λg cs h=>.keep _ (.func _ _ _ (λc hc=>by cases hc) h)
 have K:∀(x y:IV),[x].length=[y].length:=λ_ _=>rfl
 refine ab8 fok207 (bq4 hE (K _ _) (λi hi=>?_) (by simp[IV.plain]) hf) ?_
 .match i,hi with
  | 0,_=>
   refine .aa2 _ _ rfl (λi hi=>?_) λi hi j V=>?_
   .match i,hi with
    | 0,_=>rfl
    | 1,_=>rfl
    | 2,_=>rfl
    | 3,_=>rfl
    | 4,_=>rfl
    | 5,_=>rfl
   .match i,hi,j,V with
    | 0,_,0,_=>exact t _ _ (aw9 e d b)
    | 1,_,0,_=>exact dx5 (.cons (.keep _ e) (.cons s (.cons q .nil)))
    | 2,_,0,_=>exact t _ _ (aw9 e b d)
    | 3,_,0,_=>exact t _ _ (aw9 e d b)
    | 4,_,0,_=>exact dx5 (.cons q (.cons s .nil))
    | 5,_,0,_=>exact t _ _ (ag7 d b)
 rintro v w ⟨rfl,rfl⟩;refine ⟨zb _,?_⟩;simp only[go_sem];exact bf8 rfl
open Go Go.Id Go.Proofs
section
variable {α:Type} [Inhabited α] (emb:α->Int)
def er2 (d:Array α):List IV:=d.toList.map λx=>.int .i64 (emb x)
def bc8 (d:Array α):(er2 emb d).length=d.size:=by simp[er2]
def jq3 {d:Array α}{k:Nat}(h:k<d.size):((er2 emb d).drop k).head? = zf (.int .i64 (emb d[k]!)):=by
 simp[er2,List.head?_drop,h]
def fq2 {d:Array α}{i:Nat}(h:i<(er2 emb d).length):(er2 emb d)[i]=.int .i64 (emb (d[i]'(by rw[bc8] at h;exact h))):=by simp[er2]
def it3 {d:Array α}{k:Nat}(h:k<d.size)(x:α):ay4 (er2 emb d) k [.int .i64 (emb x)]=er2 emb (d.setIfInBounds k x):=by
 refine List.ext_getElem (by rw[af8 (by rw[bc8];simp only[ze];omega),bc8,bc8,zu]) λi o c=>?_
 have n:i<d.size:=by rw[bc8,zu] at c;exact c
 have j:(er2 emb (d.setIfInBounds k x))[i]=.int .i64 (emb (if k=i then x else d[i])):=by
  rw[fq2];congr 2;exact Array.getElem_setIfInBounds ..
 rw[j];unfold ay4;simp only[List.getElem_append,zg,bc8,List.getElem_take,List.getElem_drop,zj,ze,fq2];by_cases e:i=k
 .subst e;have b:¬i<min i d.size:=om;have a:i<min i d.size+1:=om;simp only[b,a,dite_false,dite_true,if_true,List.getElem_singleton]
 .have f:¬k=i:=λh=>e h.symm
  by_cases e2:i<k
  .have b:i<min k d.size:=om;have a:i<min k d.size+1:=om;simp only[b,a,dite_true,f,if_false]
  .have b:¬i<min k d.size:=om;have a:¬i<min k d.size+1:=om;have g:k+1+(i-(min k d.size+1))=i:=om;simp only[a,g,dite_false,f,if_false]
def it4 {a t vs:List IV}{k:Nat}(h:k+vs.length<=a.length):ay4 (a++t) k vs=ay4 a k vs++t:=by
 unfold ay4;rw[List.take_append_of_le_length om,z4 h];simp only[qi]
variable (tl:List IV)
def bb6 (d:Array α):List IV:=er2 emb d++tl
def bn7 (d:Array α):(bb6 emb tl d).length=d.size+tl.length:=by rw[bb6,zj,bc8]
def ak6 {d:Array α}{k:Nat}(h:k<d.size):((bb6 emb tl d).drop k).head? = zf (.int .i64 (emb d[k]!)):=by
 rw[bb6,z4 (by rw[bc8];omega),List.head?_append,jq3 emb h];rfl
def fq3 {d:Array α}{k:Nat}(h:k<d.size)(x:α):ay4 (bb6 emb tl d) k [.int .i64 (emb x)]=bb6 emb tl (d.setIfInBounds k x):=by
 rw[bb6,it4 (by rw[bc8,ze];omega),it3 emb h,bb6]
def fq4 {d:Array α}{i j:Nat}(hi:i<d.size)(a:j<d.size):ay4 (ay4 (bb6 emb tl d) i [.int .i64 (emb d[j]!)]) j [.int .i64 (emb d[i]!)]=bb6 emb tl (Go.Sort.swp d i j):=by
 rw[fq3 emb tl hi,fq3 emb tl (by rw[zu];exact a)];rfl
def swp_size (d:Array α)(i j:Nat):(Go.Sort.swp d i j).size=d.size:=by simp[Go.Sort.swp]
structure SO (id:Nat) (d':Array α) (σ s:Store):Prop where
 next:σ.next<=s.next
 other:∀i,i≠id->s.obj i=σ.obj i
 row:s.obj id=zf (.row (bb6 emb tl d'))
variable {cf:α->α->Int} {g:Nat} {first cap:List IV} {id:Nat}
structure ch7 (cf:α->α->Int) (g:Nat) (first cap:List IV):Prop where
 ok:okF Tryz.prog g=true
 pc:∀x y:α,Pq g (first++[.int .i64 (emb x),.int .i64 (emb y)]++cap) (.int .i64 (cf x y))
def hs9 (N:ch7 emb cf g first cap){σ:Store}(d:Array α)(a b:Nat)(aa:a<=b)(hb:b<=d.size)(hz:d.size<2^40)(X:σ.obj id=zf (.row (bb6 emb tl d))) :
  Cq 253 [.slice id 0 d.size 1,.int .i64 a,.int .i64 b,.func (.func g) first cap] σ λv s=>v=.tuple []/\SO emb tl id (Go.Sort.insertionSort (ltOf cf) d a b) σ s:=by
 refine C_f fok253 (nZ rfl) ?_;have w0:=ac6 (i:=a) om;simp only[ic253,go_sem,w0];refine aa9 noT (λk fr t=>∃r:Array α,fr=[(0,.slice id 0 d.size 1),(1,.int .i64 a),(2,.int .i64 b),(3,.func (.func g) first cap),(8,.int .i64 ((a+1+k:Nat):Int))]/\SO emb tl id r σ t/\r.size=d.size/\Go.Sort.insOuter (ltOf cf) a b (a+1+k) r=Go.Sort.insertionSort (ltOf cf) d a b) (b-(a+1)) ⟨d,rfl,⟨zb _,λ_ _=>rfl,X⟩,rfl,rfl⟩ ?_;rintro k fr t hk ⟨r,rfl,x,B,A⟩;by_cases y:a+1+k<b
 .have J:((a+1+k:Nat):Int)<b:=om;have K:=ac6 (i:=a+1+k) om;rw[Go.Sort.insOuter,if_pos y] at A;simp only[go_sem,J];refine aa9 noT (λm fr u=>∃(j:Nat) (e:Array α),fr=[(0,.slice id 0 d.size 1),(1,.int .i64 a),(2,.int .i64 b),(3,.func (.func g) first cap),(8,.int .i64 ((a+1+k:Nat):Int)),(9,.int .i64 (j:Int))]/\j+m=a+1+k/\SO emb tl id e σ u/\e.size=d.size/\Go.Sort.insInner (ltOf cf) a j e=Go.Sort.insInner (ltOf cf) a (a+1+k) r) (a+1+k) ⟨a+1+k,r,rfl,rfl,?_,B,rfl⟩ ?_
  .exact ⟨x.next,x.other,x.row⟩
  rintro m fr u hm ⟨j,e,rfl,hj,f,o,h⟩;by_cases z:a<j
  .obtain ⟨c,rfl⟩:∃c,j=c+1:=⟨j-1,om⟩;have I:(a:Int)<((c+1:Nat):Int):=om;have U:IntKind.i64.wrap (((c+1:Nat):Int)-1)=(c:Int):=by rw[wrap64 om om];omega
   have T:(0:Int)<=((c+1:Nat):Int):=om;have S:((c+1:Nat):Int)<d.size:=om;have Q:(0:Int)<=(c:Int):=om;have P:(c:Int)<d.size:=om;have M:=ak6 emb tl (d:=e) (k:=c+1) om;have L:=ak6 emb tl (d:=e) (k:=c) om;have hc:=N.pc e[c+1]! e[c]!;rw[Go.Sort.insInner] at h;have H:decide (c+1>a)=true:=decide_eq_true z;rw[H,Bool.true_and] at h;simp only[go_sem,I,U,T,S,Q,P,f.row,M,L,zm,zw,zi];refine al7 N.ok hc ?_;by_cases q:cf e[c+1]! e[c]! < 0
   .have p:ltOf cf e[c+1]! e[c]! = true:=decide_eq_true q;rw[if_pos p] at h;have E:=fq4 emb tl (d:=e) (i:=c+1) (j:=c) om om;have W:c+1+1<=(bb6 emb tl e).length:=by rw[bn7];omega
    have V:c+1<=(ay4 (bb6 emb tl e) (c+1) [.int .i64 (emb e[c]!)]).length:=by rw[af8 (by rw[bn7];simp only[ze];omega),bn7];omega
    simp only[go_sem,q,U,T,S,Q,P,f.row,M,L,W,V,E,zm,zw,zi];refine ⟨om,c,Go.Sort.swp e (c+1) c,rfl,om,⟨?_,λi hi=>?_,?_⟩,by rw[swp_size];exact o,h⟩
    .have:=f.next;simp only[aa7];omega
    .simp only[aa3,hi,if_false];exact f.other i hi
    .simp only[aa3,if_true]
   .have p:¬ltOf cf e[c+1]! e[c]! = true:=by unfold ltOf;simp[q]
    rw[if_neg p] at h;simp only[go_sem,q,K];refine ⟨om,e,rfl,⟨?_,f.other,f.row⟩,o,?_⟩
    .have:=f.next;show σ.next<=u.next+_;omega
    .rw[<- A,<- h];exact congrArg (λn=>Go.Sort.insOuter (ltOf cf) a b n e) om
  .have I:¬(a:Int)<(j:Int):=om
   have Y:e=Go.Sort.insInner (ltOf cf) a (a+1+k) r:=by
    rw[<- h]
    cases j with
    | zero=>rfl
    | succ c=>
     rw[Go.Sort.insInner];have:decide (c+1>a)=false:=decide_eq_false z;rw[this];rfl
   simp only[go_sem,I,K];refine ⟨om,e,rfl,⟨?_,f.other,f.row⟩,o,?_⟩
   .have:=f.next;show σ.next<=u.next+_;omega
   .rw[<- A,Y];exact congrArg (λn=>Go.Sort.insOuter (ltOf cf) a b n _) om
 .have J:¬((a+1+k:Nat):Int)<b:=om;rw[Go.Sort.insOuter,if_neg y] at A;simp only[go_sem,J];rw[<- A];exact ⟨x.next,x.other,x.row⟩
end
section
variable {α:Type} [Inhabited α] (emb:α->Int) (tl:List IV) {cf:α->α->Int} {g:Nat} {first cap:List IV} {id:Nat}
def SO.trans {d b:Array α}{σ s t:Store}(h:SO emb tl id d σ s)(a:SO emb tl id b s t):SO emb tl id b σ t :=
 ⟨zr h.next a.next,λi hi=>by rw[a.other i hi,h.other i hi],a.row⟩
end
def ff5 (zs:List Int)(h:zs≠[])(r:zs.length<2^30)(σ:Store):Cq 147 [.aa2 (zs.map Md.ad1)] σ (bj1 σ zs):=by
 refine C_f fok147 (nZ rfl) ?_
 have a:∀(d:TypeId),ci5 (.slice d) (.aa2 (zs.map Md.ad1))=zf false:=λd=>by
  cases zs with
  | nil=>exact absurd rfl h
  | cons z zs=>rfl
 simp only[ic147,go_sem,a];generalize e:Store.put _ σ.next (aj8.row [])=S;have k:S.next=σ.next+2:=by rw[<- e];rfl
 have b:S.obj σ.next=zf (.row []):=by rw[<- e];simp only[aa3,if_true]
 have c:∀i,i<σ.next->S.obj i=σ.obj i:=λi hi=>by
  have:¬i=σ.next:=om;rw[<- e];simp only[aa3,this,if_false]
 have j:ah7 S σ.next (.slice σ.next 0 0 1) []:=.inr ⟨σ.next,zb _,om,rfl,b⟩;have⟨q,σ',p,s,o,n⟩:=ij1 (nid:=σ.next+1) (xs:=zs) j (by simp only[List.length_nil];omega);simp only[go_sem,p];have f:=n σ' rfl om om om;rw[List.nil_append] at f;exact ⟨⟨om,λi hi=>by rw[o i hi om];exact c i hi⟩,f⟩
abbrev gm4 (o:ah4):={ k:Nat // k<o.a.l.length }
def an8 (o:ah4)(x:gm4 o):Int:=((x.1:Nat):Int)
def cfO (o:ah4)(x y:gm4 o):Int:=o.cmp (an8 o x) (an8 o y)
def ku8 (o:ah4)(a:OOK o):ch7 (an8 o) (cfO o) 151 [o.v] []:=⟨fok151.1,λx y=>dx7 o a x.2 y.2⟩
def fq5 (o:ah4)(n:Int):Pq 148 [.int .i64 n,.ab5 [o.v]] (.bool (!o.a.is n)):=by
 refine af5 hE fok148 (nZ rfl) (ag7 (.int _ _) (ai4 (aj2 o))) ?_;have h:=eg3 o n;simp only[ic148,go_sem];refine aa4 fok149 (h) ?_;simp only[go_sem];exact ac8 rfl
def ld9 (o:ah4)(hr:∀n,o.a.is n=true->(o.a.pk n).evr.rel≠[]):Go.Sort.SWO (ltOf (cfO o)):=by
 have hs:∀x:gm4 o,(o.a.pk (an8 o x)).evr.rel≠[]:=λx=>hr _ (by unfold an8;rw[ac2.bq8];exact decide_eq_true x.2)
 refine ⟨λx=>?_,λx y z c b=>?_,λx y z c b=>?_⟩
 .unfold ltOf cfO;rw[o.ec9];rfl
 .unfold ltOf cfO at *;have d:=o.wo.tr (an8 o x) (an8 o y) (an8 o z) (hs x) (hs y) (hs z);have i:=o.wo.tr (an8 o z) (an8 o x) (an8 o y) (hs z) (hs x) (hs y);have h:=o.wo.neg (an8 o x) (an8 o y);have f:=o.wo.neg (an8 o y) (an8 o z);have e:=o.wo.neg (an8 o x) (an8 o z);simp only[decide_eq_true_eq] at c b ⊢;omega
 .unfold ltOf cfO at *;have d:=o.wo.tr (an8 o z) (an8 o y) (an8 o x) (hs z) (hs y) (hs x);have h:=o.wo.neg (an8 o x) (an8 o y);have f:=o.wo.neg (an8 o y) (an8 o z);have e:=o.wo.neg (an8 o x) (an8 o z);simp only[decide_eq_false_iff_not] at c b ⊢;omega
def gk1 (o:ah4)(hO:OOK o)(hr:∀n,o.a.is n=true->(o.a.pk n).evr.rel≠[])(l:List Int)(hl0:l≠[])(hl:l.length<2^30)(σ:Store)
  (hSF:∀(inst:Inhabited (gm4 o)) (σ:Store) (id:Nat) (tl:List IV) (d:Array (gm4 o)),d.size<=l.length->id<σ.next->σ.obj id=zf (.row (bb6 (an8 o) tl d)) ->
   Cq 150 [.slice id 0 d.size 1,.func (.func 151) [o.v] []] σ λv s=>v=.tuple []/\∃d',Go.Sort.PermIn 0 d.size d d'/\Go.Sort.SortedIn (ltOf (cfO o)) 0 d.size d'/\σ.next<=s.next/\s.obj id=zf (.row (bb6 (an8 o) tl d'))/\∀i,i<σ.next->i≠id->s.obj i=σ.obj i) :
  Cq 87 [o.v,.aa2 (l.map Md.ad1)] σ (ji4 σ (o.av3 l)):=by
 refine C_f fok87 (nZ rfl) ?_;have olf:o.v.leaf=true:=rfl;have ocs:o.v.cs=[o.v]:=rfl;simp only[ic87,go_sem,olf,ocs];refine ab8 fok147 (ff5 l hl0 hl _) ?_;rintro v s ⟨hk,hrow⟩;refine ⟨hk.next,?_⟩;rcases hrow with ⟨_,h0⟩|⟨id,hid1,hid2,rfl,ho⟩
 .exact absurd h0 hl0
 simp only[go_sem];refine ab8 fok134 (es7 (λz=>!o.a.is z) om ho (by rw[qa sm]) sm fok148.1 (al3 (ai4 (aj2 o))) λz _=>fq5 o z) ?_;rintro v s2 ⟨hn2,hf2,cs,rfl,ho2,hct,hcl⟩;refine ⟨hn2,?_⟩;have hff:(l.filter λx=>!(!o.a.is x))=l.filter o.a.is:=List.filter_congr λx _=>by rw[Bool.not_not]
 simp only[hff] at hct hcl ho2 ⊢;have hfl:(l.filter o.a.is).length<=l.length:=List.length_filter_le _ _;by_cases h0:(l.filter o.a.is).length=0
 .have h0':((l.filter o.a.is).length:Int)=0:=om;simp only[go_sem,h0']
  have:o.av3 l=[]:=List.eq_nil_iff_forall_not_mem.2 λx hx=>by
   have⟨h1,h2⟩:=o.ax4.1 hx;have:=z5.2 ⟨h1,h2⟩;rw[z9.1 h0] at this;cases this
  rw[this];exact ⟨⟨zr hk.next hn2,λi hi=>by rw[hf2 i (by have:=hk.next;omega),hk.obj i hi]⟩,.inl ⟨rfl,rfl⟩⟩
 have h0':¬((l.filter o.a.is).length:Int)=0:=om;simp only[go_sem,h0'];obtain ⟨zs,hzs⟩:∃zs,l.filter o.a.is=zs:=⟨_,rfl⟩;rw[hzs] at h0 h0' hct hcl hfl ⊢;have hall:∀z∈zs,∃k:Nat,z=k/\k<o.a.l.length:=λz hz=>ff4 (z5.1 (by rw[hzs];exact hz)).2
 obtain ⟨ds,hds⟩:∃ds:List (gm4 o),ds.map (an8 o)=zs:=by
  clear hzs h0 h0' hct hcl hfl
  induction zs with
  | nil=>exact ⟨[],rfl⟩
  | cons z zs ih=>
   have⟨ds,h⟩:=ih λy hy=>hall y (List.mem_cons_of_mem _ hy)
   obtain ⟨k,rfl,hk⟩:=hall z List.mem_cons_self;exact ⟨⟨k,hk⟩::ds,by rw[List.map_cons,h];rfl⟩
 have hdl:ds.length=zs.length:=by rw[<- hds,za]
 have inst:Inhabited (gm4 o):=⟨ds[0]'om⟩
 have hrw:s2.obj id=zf (.row (bb6 (an8 o) (cs.drop zs.length) ds.toArray)):=by
  rw[ho2,bb6,er2];have h2:ds.toArray.toList.map (λx=>IV.int .i64 (an8 o x))=zs.map bg1:=by rw[<- hds,List.map_map];rfl
  rw[h2,<- hct,List.take_append_drop]
 have hsz:ds.toArray.size=zs.length:=hdl;have hS:=hSF inst s2 id (cs.drop zs.length) ds.toArray om (qg hid2 hn2) hrw;rw[hsz] at hS;refine ab8 fok150 hS ?_;rintro v s3 ⟨rfl,d',hP,hU,hS3n,hS3r,hS3f⟩;refine ⟨hS3n,?_⟩;simp only[go_sem];obtain ⟨zs2,hz2⟩:∃zs2,d'.toList.map (an8 o)=zs2:=⟨_,rfl⟩;have hd's:d'.size=zs.length:=by rw[hP.1];exact hdl
 have hz2l:zs2.length=zs.length:=by rw[<- hz2,za,Array.length_toList,hd's]
 have hpm:d'.toList.Perm ds:=by
  have h3:=hP.2.2;have e1:d'.extract 0 zs.length=d':=by rw[<- hd's];exact qf
  have e2:ds.toArray.extract 0 zs.length=ds.toArray:=by rw[<- hsz];exact qf
  rw[e1,e2] at h3;exact h3
 have hmem:∀x,x∈zs2↔x∈l/\o.a.is x=true:=λx=>by
  rw[<- hz2,(hpm.map _).mem_iff,hds,<- hzs,z5]
 have hup:zs2.Pairwise λx y=>x=y\/o.cmp x y<0:=by
  refine List.pairwise_iff_getElem.2 λi j hi hj hij=>?_
  have hi2:i<d'.size:=by rw[hd's];omega
  have hj2:j<d'.size:=by rw[hd's];omega
  have h4:=hU i j (qc _) hij om;rw[getElem!_pos d' i hi2,getElem!_pos d' j hj2] at h4;have g1:zs2[i]=an8 o d'[i]:=by simp[<- hz2]
  have g2:zs2[j]=an8 o d'[j]:=by simp[<- hz2]
  rw[g1,g2];unfold ltOf cfO at h4;have h5:¬o.cmp (an8 o d'[j]) (an8 o d'[i])<0:=of_decide_eq_false h4;have n1:=o.wo.neg (an8 o d'[i]) (an8 o d'[j]);by_cases e:o.cmp (an8 o d'[i]) (an8 o d'[j])=0
  .exact .inl (o.ec8 e)
  .exact .inr om
 have hrow2:s3.obj id=zf (.row (zs2.map iv++cs.drop zs.length)):=by
  rw[hS3r,bb6,er2,<- hz2,List.map_map];rfl
 have hc:=dx2 (R:=λx y=>o.cmp x y<0) (σ:=s3) (id:=id) (zs:=zs2) (λa ha b hb c hc h1 h2=>o.lt_trans hr ((hmem a).1 ha).2 ((hmem b).1 hb).2 ((hmem c).1 hc).2 h1 h2) om hrow2 hup;rw[hz2l] at hc;refine ab8 fok131 hc ?_;rintro v s4 ⟨⟨D,cs2,hD1,hD2,rfl,ho4,hct2,hcl2⟩,hn4,hf4⟩;refine ⟨hn4,?_⟩;simp only[go_sem];have hDs:D=o.av3 l:=o.gx3 hr hD1 λx=>(hD2 x).trans (hmem x)
 rw[<- hDs];have hkn:=hk.next;exact ⟨⟨om,λi hi=>by rw[hf4 i om,hS3f i om om,hf2 i om,hk.obj i hi]⟩,.inr ⟨id,cs2,om,om,rfl,ho4,hct2,hcl2⟩⟩
open Go Go.Id Go.Proofs Go.Id.Md
def aok {f:List al5}{inst:List aa1}{p:Pool}{r:Req}(o:ir9 f inst)(a:by5 f inst=.inl p)(n:ef9 r)(b:ak3 r p.inst=0):AOK ⟨p,r⟩:=by
 have hf:=jc5 o a;have e:(ac3 p).length<=256:=by simp only[ac3,za];exact fk1 a
 unfold ak3 at b;split at b
 .cases b
 split at b
 .cases b
 rename_i q;split at b
 .cases b
 rename_i i;refine ⟨e,λx d=>(hf x d).2.1,λx d=>(hf x d).1,λx d=>(hf x d).2.2,?_,?_,?_,λj i=>(n.jv3 j i).1,λj h=>?_⟩
 .have k:=bk4 a
  have c:p.inst=inst.length:=by
   unfold by5 at a;split at a
   .cases a
   split at a
   .cases a
   split at a
   .cases a;rfl
   .cases a
  show p.inst<=((ac3 p).length:Nat);rw[c,k,zj];omega
 .show r.ae8.length<=64;omega
 .show r.ah9.length<=128;omega
 .have k:r.ae8.all ax3=true:=by simpa using i
  have c:=zv.1 k j h;unfold ax3 at c;simp only[zk,decide_eq_true_eq] at c;exact ⟨c.1.1,c.1.2⟩
def it5 (name ver:Str):aa1:={ name:=name,evr:=⟨0,ver,[49]⟩,al9:=2,vendor:=[],provides:=[],requires:=[],conflicts:=[],ab2:=[],ae1:=[],ac7:=[],suggests:=[],ak8:=[],files:=[] }
def it6 {s:Store}(x:Str):cc3 s 0 (.str x) (.str x):=.keep _ (.str _)
def kh6 {s:Store}(k:IntKind)(n:Int):cc3 s 0 (.int k n) (.int k n):=.keep _ (.int _ _)
def jd4 (ab4:List al5)(inst:List aa1):Pool:=match by5 ab4 inst with
 | .inl p=>p
 | .inr _=>⟨[],0,[]⟩
def r15:Req:=⟨2,false,[],[],0⟩
def fq6 (d:Dep):Bool:=decide (d.name.length<100)&&decide (d.evr.ver.length<100)&&decide (d.evr.rel.length<100)
def fq7 (p:aa1):Bool:=decide (p.name.length<100)&&decide (p.vendor.length<100)&&decide (p.evr.ver.length<100)&&decide (p.evr.rel.length<100)&&decide (p.provides.length<100)&&p.provides.all fq6&&decide (p.ab2.length<100)&&p.ab2.all fq6 &&
 decide (p.files.length<100)&&p.files.all (λs=>decide (s.length<100))&&p.rows.all λx=>x.2.isEmpty
def cz7 {p:aa1}(h:fq7 p=true):p.Fit/\p.Ok:=by
 unfold fq7 at h;simp only[zk,decide_eq_true_eq,zv] at h;obtain ⟨⟨⟨⟨⟨⟨⟨⟨⟨⟨s,r⟩,q⟩,o⟩,n⟩,i⟩,k⟩,f⟩,j⟩,c⟩,e⟩:=h
 have b:∀d:Dep,fq6 d=true->d.fit:=λd b=>by
  unfold fq6 at b;simp only[zk,decide_eq_true_eq] at b;exact ⟨om,om,om⟩
 have hr:∀x∈p.rows,x.2=[]:=λx a=>List.isEmpty_iff.1 (e x a)
 exact ⟨⟨om,⟨om,om⟩,⟨om,λd a=>b d (i d a)⟩,⟨om,λd a=>b d (f d a)⟩,⟨om,λx a=>by have:=c x a;omega⟩,λx a=>by rw[hr x a];exact ⟨by simp,λr h=>by cases h⟩⟩,
  ⟨om,om,⟨om,om⟩,⟨om,λd a=>b d (i d a)⟩,⟨om,λd a=>b d (f d a)⟩,⟨om,λx a=>by have:=c x a;omega⟩,λx a=>by rw[hr x a];exact ⟨by simp,λr h=>by cases h⟩⟩⟩
def ht5 (ab4:List al5)(inst:List aa1):Bool:=decide (ab4.length<100)&&decide (inst.length<1000)&&inst.all fq7&&ab4.all (λr=>decide (r.packages.length<1000)&&r.packages.all fq7)&&decide (ah3 ab4<100000)
def it7 {a:List al5}{inst:List aa1}(h:ht5 a inst=true):ir9 a inst:=by
 unfold ht5 at h;simp only[zk,decide_eq_true_eq,zv] at h;obtain ⟨⟨⟨⟨f,e⟩,c⟩,b⟩,d⟩:=h;exact ⟨om,om,om,λr hr=>⟨by have:=(b r hr).1;omega,λp hp=>(cz7 ((b r hr).2 p hp)).1⟩,λp hp=>(cz7 (c p hp)).1,λr hr=>⟨by have:=(b r hr).1;omega,λp hp=>(cz7 ((b r hr).2 p hp)).2⟩,λp hp=>(cz7 (c p hp)).2⟩
def jq4 (p:Pool)(r:Req)(n:Nat):ah4:=⟨⟨p,r⟩,aw3 (ac3 p) n⟩
def kh7 {q:aa1}(h:ae9 q=true):q.evr.rel≠[]:=by
 unfold ae9 bg6 ay7 at h;simp only[zk,Bool.or_eq_true,decide_eq_true_eq] at h;intro e;rw[e] at h;simp at h
def jq5 {p:Pool}{r:Req}{n:Nat}(h:∀q∈ac3 p,ae9 q=true):∀k,(jq4 p r n).a.is k=true->((jq4 p r n).a.pk k).evr.rel≠[]:=λk c=>by
 obtain ⟨m,rfl,b⟩:=ff4 c;rw[dx6 _ b];exact kh7 (h _ (zh b))
def ku9:List al5:=[⟨1,[it5 [97] [49],it5 [97] [50]]⟩,⟨9,[it5 [97] [49]]⟩]
def le1:List aa1:=[it5 [122] [48]]
def kv1:ah4:=jq4 (jd4 ku9 le1) r15 1
def c21:decide (kv1.cmp 2 1<0)=true:=by kernel_rfl
def id6 {a b:Nat}(h:a+b<2^62):IntKind.i64.wrap ((a:Int)+(b:Int))=((a+b:Nat):Int):=by rw[wrap64 om om];omega
def gm5 {a b:Nat}(h:b<=a)(c:a<2^62):IntKind.i64.wrap ((a:Int)-(b:Int))=((a-b:Nat):Int):=by rw[wrap64 om om];omega
def bp2 {a:Nat}(h:1<=a)(b:a<2^62):IntKind.i64.wrap ((a:Int)-1)=((a-1:Nat):Int):=by rw[wrap64 om om];omega
def le2 {a:Nat}(h:a<2^60):IntKind.i64.wrap (2*(a:Int))=((2*a:Nat):Int):=by rw[wrap64 om om];omega
section
variable {α:Type} [Inhabited α] (emb:α->Int) (tl:List IV) {cf:α->α->Int} {g:Nat} {first cap:List IV} {id:Nat}
def aj7 {d:Array α}{i j:Nat}(hi:i<d.size)(a:j<d.size) :
  ((bb6 emb tl d).drop i).head? = zf (.int .i64 (emb d[i]!))/\((bb6 emb tl d).drop j).head? = zf (.int .i64 (emb d[j]!))/\i+1<=(bb6 emb tl d).length/\j+1<=(ay4 (bb6 emb tl d) i [.int .i64 (emb d[j]!)]).length /\
  ay4 (ay4 (bb6 emb tl d) i [.int .i64 (emb d[j]!)]) j [.int .i64 (emb d[i]!)]=bb6 emb tl (Go.Sort.swp d i j):=
 ⟨ak6 emb tl hi,ak6 emb tl a,by rw[bn7];omega,by rw[af8 (by rw[bn7];simp only[ze];omega),bn7];omega,fq4 emb tl hi a⟩
def SO.put {d b:Array α}{σ u:Store}{n:Nat}(h:SO emb tl id d σ u)(c:σ.next<=n){a:List IV}:SO emb tl id b σ ⟨n,(((⟨n,u.obj⟩:Store).put id (.row a)).put id (.row (bb6 emb tl b))).obj⟩:=
 ⟨c,λi hi=>by simp only[aa3,hi,if_false];exact h.other i hi,by simp only[aa3,if_true]⟩
def ht6 {f:List IV}{σ:Store}(d:Array α)(a b:Nat)(L:IV)(K:a<b)(U:b<=d.size)(S:d.size<2^40)(H:σ.obj id=zf (.row (bb6 emb tl d))) :
  Cq 257 [.slice id 0 d.size 1,.int .i64 a,.int .i64 b,L] σ λv s=>v=.tuple []/\SO emb tl id (Go.Sort.reverseRange d a b) σ s:=by
 refine C_f fok257 (nZ rfl) ?_;have w0:=bp2 (a:=b) om om;simp only[ic257,go_sem,w0];refine aa9 noT (λk fr t=>∃(i j:Nat) (e:Array α),fr=[(0,.slice id 0 d.size 1),(8,.int .i64 (i:Int)),(9,.int .i64 (j:Int))]/\SO emb tl id e σ t/\e.size=d.size/\k<=i/\j<d.size/\Go.Sort.reverseLoop i j e=Go.Sort.reverseRange d a b) d.size ⟨a,b-1,d,rfl,⟨zb _,λ_ _=>rfl,H⟩,rfl,qc _,om,rfl⟩ ?_;rintro k fr t T ⟨i,j,e,rfl,c,o,I,J,n⟩;by_cases h:i<j
 .have p:(i:Int)<(j:Int):=om;have Q:(0:Int)<=i:=om;have P:(i:Int)<d.size:=om;have N:(0:Int)<=j:=om;have M:(j:Int)<d.size:=om;have x:=ac6 (i:=i) om;have r:=bp2 (a:=j) om om;have⟨E,B,A,z,y⟩:=aj7 emb tl (d:=e) (i:=i) (j:=j) om om;rw[Go.Sort.reverseLoop,if_pos h] at n;simp only[go_sem,p,Q,P,N,M,c.row,E,B,A,z,y,x,r,zi];refine ⟨om,i+1,j-1,Go.Sort.swp e i j,rfl,⟨?_,λm q=>?_,?_⟩,by rw[swp_size];exact o,om,om,n⟩
  .have:=c.next;simp only[aa7];omega
  .simp only[aa3,q,if_false];exact c.other m q
  .simp only[aa3,if_true]
 .have p:¬(i:Int)<(j:Int):=om;rw[Go.Sort.reverseLoop,if_neg h] at n;simp only[go_sem,p];rw[<- n];exact ⟨c.next,c.other,c.row⟩
def ch8 (lt:α->α->Bool)(hi b:Nat):∀(n a:Nat) (d:Array α),hi-a<=n->(Go.Sort.siftDown lt hi b a d).size=d.size:=by
 intro n
 induction n with
 | zero=>
  intro a d h
  rw[Go.Sort.siftDown,dif_pos om]
 | succ n ih=>
  intro a d h;rw[Go.Sort.siftDown]
  repeat' split
  all_goals first|rfl|(rw[ih _ _ om,swp_size])
def dx8 (y:ch7 emb cf g first cap){σ:Store}(d:Array α)(lo hi e:Nat)(hb:e+hi<=d.size)(hz:d.size<2^40)(aa:lo<2^40)(ho:σ.obj id=zf (.row (bb6 emb tl d))) :
  Cq 277 [.slice id 0 d.size 1,.int .i64 lo,.int .i64 hi,.int .i64 e,.func (.func g) first cap] σ λv s=>v=.tuple []/\SO emb tl id (Go.Sort.siftDown (ltOf cf) hi e lo d) σ s:=by
 refine C_f fok277 (nZ rfl) ?_;simp only[ic277,go_sem];refine aa9 noT (λk fr t=>∃(c:Nat) (f:Array α),fr=[(0,.slice id 0 d.size 1),(2,.int .i64 hi),(3,.int .i64 e),(4,.func (.func g) first cap),(10,.int .i64 (c:Int))]/\SO emb tl id f σ t/\f.size=d.size/\k<=c/\c<2^40/\Go.Sort.siftDown (ltOf cf) hi e c f=Go.Sort.siftDown (ltOf cf) hi e lo d) hi ⟨lo,d,rfl,⟨zb _,λ_ _=>rfl,ho⟩,rfl,qc _,aa,rfl⟩ ?_;rintro k fr t hk ⟨c,f,rfl,o,z,ad,ac,n⟩;have Y:=le2 (a:=c) om;have X:=ac6 (i:=2*c) om;have W:=ac6 (i:=2*c+1) om;rw[Go.Sort.siftDown] at n;by_cases S:2*c+1≥hi
 .have T:((hi:Nat):Int)<=((2*c+1:Nat):Int):=om;rw[dif_pos S] at n;simp only[go_sem,Y,X,T];rw[<- n];exact ⟨o.next,o.other,o.row⟩
 have T:¬((hi:Nat):Int)<=((2*c+1:Nat):Int):=om;have B:=id6 (a:=e) (b:=c) om;have I:=id6 (a:=e) (b:=2*c+1) om;have v3:=ac6 (i:=e+(2*c+1)) om;have Q:(0:Int)<=((e+(2*c+1):Nat):Int):=om;have P:((e+(2*c+1):Nat):Int)<d.size:=om;have H:(0:Int)<=((e+c:Nat):Int):=om;have E:((e+c:Nat):Int)<d.size:=om;rw[dif_neg S] at n;have U:=ak6 emb tl (d:=f) (k:=e+(2*c+1)) om;have V:=ak6 emb tl (d:=f) (k:=e+c) om;by_cases h2:2*c+2<hi
 .have c2:((2*c+1+1:Nat):Int)<hi:=om;have p5:(0:Int)<=((e+(2*c+1)+1:Nat):Int):=om;have p6:((e+(2*c+1)+1:Nat):Int)<d.size:=om;have x2:=ak6 emb tl (d:=f) (k:=e+(2*c+1)+1) om;have e2:(2*c+1+1<hi)=True:=eq_true om;have ab:=y.pc f[e+(2*c+1)]! f[e+(2*c+1)+1]!;simp only[go_sem,Y,X,W,T,c2,Q,P,p5,p6,I,v3,U,x2,o.row,zi];refine al7 y.ok ab ?_;by_cases r:cf f[e+(2*c+1)]! f[e+(2*c+1)+1]! < 0
  .have A:ltOf cf f[e+(2*c+1)]! f[e+(2*c+1)+1]! = true:=decide_eq_true r;have hh:decide (2*c+1+1<hi)=true:=decide_eq_true om;rw[A,hh,Bool.and_self,if_pos rfl] at n;simp only[h2,dite_true] at n;have e3:2*c+1+1=2*c+2:=om;have v4:=id6 (a:=e) (b:=2*c+2) om;have q1:(0:Int)<=((e+(2*c+2):Nat):Int):=om;have q2:((e+(2*c+2):Nat):Int)<d.size:=om;have x4:=ak6 emb tl (d:=f) (k:=e+(2*c+2)) om;have q:=y.pc f[e+c]! f[e+(2*c+2)]!;simp only[go_sem,r,W,e3,B,v4,H,E,q1,q2,V,x4,o.row,zi];refine al7 y.ok q ?_;by_cases h:cf f[e+c]! f[e+(2*c+2)]! < 0
   .have p:ltOf cf f[e+c]! f[e+(2*c+2)]! = true:=decide_eq_true h;rw[p] at n;simp only[z8,zt,if_false] at n;have⟨N,M,L,K,J⟩:=aj7 emb tl (d:=f) (i:=e+c) (j:=e+(2*c+2)) om om;simp only[go_sem,h,B,v4,H,E,q1,q2,N,M,L,K,J,o.row,zi];refine ⟨om,2*c+2,Go.Sort.swp f (e+c) (e+(2*c+2)),rfl,⟨?_,λm x=>?_,?_⟩,by rw[swp_size];exact z,om,om,n⟩
    .have:=o.next;simp only[aa7];omega
    .simp only[aa3,x,if_false];exact o.other m x
    .simp only[aa3,if_true]
   .have p:ltOf cf f[e+c]! f[e+(2*c+2)]! = false:=decide_eq_false h;rw[p] at n;simp only[z6,if_true] at n;simp only[go_sem,h];rw[<- n];exact ⟨by have:=o.next;show σ.next<=t.next+_+_;omega,o.other,o.row⟩
  .have A:ltOf cf f[e+(2*c+1)]! f[e+(2*c+1)+1]! = false:=decide_eq_false r;rw[A,Bool.and_false,if_neg (by decide)] at n;have q:=y.pc f[e+c]! f[e+(2*c+1)]!;simp only[go_sem,r,B,I,H,E,Q,P,V,U,o.row,zi];refine al7 y.ok q ?_;by_cases h:cf f[e+c]! f[e+(2*c+1)]! < 0
   .have p:ltOf cf f[e+c]! f[e+(2*c+1)]! = true:=decide_eq_true h;rw[p] at n;simp only[z8,zt,if_false] at n;have⟨N,M,L,K,J⟩:=aj7 emb tl (d:=f) (i:=e+c) (j:=e+(2*c+1)) om om;simp only[go_sem,h,B,I,H,E,Q,P,N,M,L,K,J,o.row,zi];refine ⟨om,2*c+1,Go.Sort.swp f (e+c) (e+(2*c+1)),rfl,⟨?_,λm x=>?_,?_⟩,by rw[swp_size];exact z,om,om,n⟩
    .have:=o.next;simp only[aa7];omega
    .simp only[aa3,x,if_false];exact o.other m x
    .simp only[aa3,if_true]
   .have p:ltOf cf f[e+c]! f[e+(2*c+1)]! = false:=decide_eq_false h;rw[p] at n;simp only[z6,if_true] at n;simp only[go_sem,h];rw[<- n];exact ⟨by have:=o.next;show σ.next<=t.next+_+_;omega,o.other,o.row⟩
 .have c2:¬((2*c+1+1:Nat):Int)<hi:=om;have hh:decide (2*c+1+1<hi)=false:=decide_eq_false om;rw[hh,Bool.false_and,if_neg (by decide)] at n;have q:=y.pc f[e+c]! f[e+(2*c+1)]!;simp only[go_sem,Y,X,W,T,c2,B,I,H,E,Q,P,V,U,o.row,zi];refine al7 y.ok q ?_;by_cases h:cf f[e+c]! f[e+(2*c+1)]! < 0
  .have p:ltOf cf f[e+c]! f[e+(2*c+1)]! = true:=decide_eq_true h;rw[p] at n;simp only[z8,zt,if_false] at n;have⟨N,M,L,K,J⟩:=aj7 emb tl (d:=f) (i:=e+c) (j:=e+(2*c+1)) om om;simp only[go_sem,h,B,I,H,E,Q,P,N,M,L,K,J,o.row,zi];refine ⟨om,2*c+1,Go.Sort.swp f (e+c) (e+(2*c+1)),rfl,⟨?_,λm x=>?_,?_⟩,by rw[swp_size];exact z,om,om,n⟩
   .have:=o.next;simp only[aa7];omega
   .simp only[aa3,x,if_false];exact o.other m x
   .simp only[aa3,if_true]
  .have p:ltOf cf f[e+c]! f[e+(2*c+1)]! = false:=decide_eq_false h;rw[p] at n;simp only[z6,if_true] at n;simp only[go_sem,h];rw[<- n];exact ⟨by have:=o.next;show σ.next<=t.next+_+_;omega,o.other,o.row⟩
def gk2 (L:ch7 emb cf g first cap){σ:Store}(d:Array α)(a b:Nat)(aa:a<b)(hb:b<=d.size)(hz:d.size<2^40)(Y:σ.obj id=zf (.row (bb6 emb tl d))) :
  Cq 254 [.slice id 0 d.size 1,.int .i64 a,.int .i64 b,.func (.func g) first cap] σ λv s=>v=.tuple []/\SO emb tl id (Go.Sort.heapSort (ltOf cf) d a b) σ s:=by
 refine C_f fok254 (nZ rfl) ?_;have w0:=gm5 (a:=b) (b:=a) om om;obtain ⟨hi,x⟩:∃hi,hi=b-a:=⟨_,rfl⟩;rw[<- x] at w0;have J:=bp2 (a:=hi) om om
 have N:IntKind.i64.wrap (((hi-1:Nat):Int).tdiv 2)=(((hi-1)/2+1:Nat):Int)-1:=by
  have:((hi-1:Nat):Int).tdiv 2=(((hi-1)/2:Nat):Int):=by
   rw[Int.tdiv_eq_ediv_of_nonneg om];omega
  rw[this,wrap64 om om];omega
 unfold Go.Sort.heapSort;rw[<- x];have X:¬((2:Int)=0):=by decide
 simp only[ic254,go_sem,w0,J,N,X];refine aa9 noT (λk fr t=>∃(r:Nat) (p:Array α),fr=[(0,.slice id 0 d.size 1),(3,.func (.func g) first cap),(8,.int .i64 a),(9,.int .i64 0),(10,.int .i64 hi),(11,.int .i64 ((r:Int)-1))]/\r+k=(hi-1)/2+1/\SO emb tl id p σ t/\p.size=d.size/\Go.Sort.heapBuild (ltOf cf) hi a r p=Go.Sort.heapBuild (ltOf cf) hi a ((hi-1)/2+1) d) ((hi-1)/2+1) ⟨_,d,rfl,rfl,⟨zb _,λ_ _=>rfl,Y⟩,rfl,rfl⟩ ?_;rintro k fr t hk ⟨r,p,rfl,A,f,c,q⟩
 cases r with
 | succ r=>
  have e1:(((r+1:Nat):Int)-1)=(r:Int):=om;have I:(0:Int)<=(r:Int):=om;have z:IntKind.i64.wrap ((r:Int)-1)=(r:Int)-1:=wrap64 om om;have o:=dx8 emb tl L (id:=id) (σ:=t) p r hi a om om om f.row;rw[c] at o;simp only[go_sem,e1,I];refine ab8 fok277 o ?_;rintro v s ⟨rfl,y⟩;refine ⟨y.next,?_⟩;simp only[go_sem,z]
  refine ⟨om,r,_,rfl,om,f.trans emb tl y,by rw[ch8 _ _ _ _ _ _ (zb _)];exact c,q⟩
 | zero=>
  have e1:¬(0:Int)<=0-1:=by decide
  have H:(((0:Nat):Int))=0:=rfl;have e2:Go.Sort.heapBuild (ltOf cf) hi a 0 p=p:=rfl;rw[e2] at q;have M:(((hi-1:Nat):Int))=((hi:Nat):Int)-1:=om;simp only[go_sem,H,e1,J,M];rw[<- q];refine aa9 noT (λk fr t=>∃(r:Nat) (n:Array α),fr=[(0,.slice id 0 d.size 1),(3,.func (.func g) first cap),(8,.int .i64 a),(9,.int .i64 0),(12,.int .i64 ((r:Int)-1))]/\r+k=hi/\SO emb tl id n σ t/\n.size=d.size/\Go.Sort.heapPop (ltOf cf) a r n=Go.Sort.heapPop (ltOf cf) a hi p) hi ⟨_,p,rfl,rfl,⟨by have:=f.next;show σ.next<=t.next;omega,f.other,f.row⟩,c,rfl⟩ ?_;rintro k fr t hk ⟨r,n,rfl,A,f,c,q⟩
  cases r with
  | succ r=>
   have e1:(((r+1:Nat):Int)-1)=(r:Int):=om;have I:(0:Int)<=(r:Int):=om;have c2:(0:Int)<=(a:Int):=om;have c3:(a:Int)<d.size:=om;have c4:(0:Int)<=((a+r:Nat):Int):=om;have c5:((a+r:Nat):Int)<d.size:=om;have P:=id6 (a:=a) (b:=r) om;have z:IntKind.i64.wrap ((r:Int)-1)=(r:Int)-1:=wrap64 om om;have⟨W,V,T,S,Q⟩:=aj7 emb tl (d:=n) (i:=a) (j:=a+r) om om;simp only[go_sem,e1,I,c2,c3,c4,c5,P,W,V,T,S,Q,f.row,zi]
   have o:∀U:Store,SO emb tl id (Go.Sort.swp n a (a+r)) σ U->Cq 277 [.slice id 0 d.size 1,.int .i64 0,.int .i64 r,.int .i64 a,.func (.func g) first cap] U λv s=>v=.tuple []/\σ.next<=U.next/\SO emb tl id (Go.Sort.swp n a (a+r)) σ U/\SO emb tl id (Go.Sort.siftDown (ltOf cf) r a 0 (Go.Sort.swp n a (a+r))) U s:=λU E=>by
    have h:=dx8 emb tl L (id:=id) (σ:=U) (Go.Sort.swp n a (a+r)) 0 r a (by rw[swp_size];omega) (by rw[swp_size];omega) om E.row;rw[swp_size,c] at h;exact h.mono λv s ⟨e,h⟩=>⟨e,E.next,E,h⟩
   refine ab8 fok277 (o _ ⟨?_,λm K=>?_,?_⟩) ?_
   .have:=f.next;simp only[aa7];omega
   .simp only[aa3,K,if_false];exact f.other m K
   .simp only[aa3,if_true]
   rintro v s ⟨rfl,_,B,y⟩;refine ⟨y.next,?_⟩;simp only[go_sem,z]
   refine ⟨om,r,_,rfl,om,B.trans emb tl y,by rw[ch8 _ _ _ _ _ _ (zb _),swp_size];exact c,q⟩
  | zero=>
   have e1:¬(0:Int)<=0-1:=by decide
   have H:(((0:Nat):Int))=0:=rfl;have e2:Go.Sort.heapPop (ltOf cf) a 0 n=n:=rfl;rw[e2] at q;simp only[go_sem,H,e1];rw[<- q];exact ⟨f.next,f.other,f.row⟩
end
end Go.Id.Tryz
