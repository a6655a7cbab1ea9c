/- norm: a literal that is true just if one of some is. Conditions: sizes that fit. -/
import Derived.Test.YtiplpeflonpcmaaGreatDoorTZYE
import Derived.Test.YtiplpeflonpcmaaGreatDoorMv
import Derived.Test.YtiplpeflonpcmaaGreatDoorTZPE
import Derived.Test.YtiplpeflonpcmaaGreatDoorMsb
import Derived.Test.YtiplpeflonpcmaaGreatDoorFwRo
import Derived.Test.YtiplpeflonpcmaaGreatDoorGZR
import Derived.Test.YtiplpeflonpcmaaGreatDoorTZQF
open List renaming getD_eq_getElem?_getD→za,length_map→zb,getElem_mem→zd,length_append→ze,length_take→zf,head?_cons→zi,getElem?_eq_getElem→zj,all_cons→zk,mem_map_of_mem→zl,length_cons→zm,mem_map→zn,length_nil→zo,length_singleton→zq,take_length→zr,all_nil→zt,map_append→zu,map_nil→zv,mem_cons→zw,map_cons→zx,not_mem_nil→zy,range→zz,append_nil→z1,mem_range→z2,not_any_eq_all_not→z3,take_of_length_le→z4,map_congr_left→z5,take_add_one→z7,append_assoc→z8
open Nat renaming le_refl→zc,lt_succ_self→zh,not_lt_zero→zp
open Option renaming some→zg
open Bool renaming and_eq_true→z0,false_ne_true→z6
set_option linter.all false
set_option maxRecDepth 100000
set_option maxHeartbeats 1000000
private theorem om{P:Prop}(h:P:=by omega):P:=h
namespace Go.Id.Tryz
open Go Go.Id Go.Proofs Go.Shelf Go.Id.Md
theorem da3 (l:List Int)(hl:l.length<=100)(hr:∀ x∈l,-(2^40)<=x/\x<=2^40)(σ:Store)(tp mid:Nat)(xv allv clv:IV)(P:List aa2)(t:ah6)(h:aq8 σ tp mid xv allv clv P t)(hP:P.length<2^20)(ht:t.h<2^20)(hf:t.few) :
  C Tryz.prog EE 207 [.ptr tp 0,.aa4 (l.map Md.ad9)] σ (ed7 σ tp mid xv allv clv P (ak3 P.length l t)):=by
 refine hy8 fok207 (nZ rfl) ?_;unfold ah6.few at hf;simp only[ic207,go_sem];refine ae1 (ag9 ?_);simp only[go_sem];refine ae1 (ag9 ?_);simp only[go_sem];refine ac5 fok245 (fm2 _ tp mid xv allv clv P t h hP om) ?_;rintro v s ⟨rfl,hT,hM⟩;refine ⟨hT.next,?_⟩;obtain ⟨H,hH⟩:∃ H:Nat,H=P.length+(t.h+1):=⟨_,rfl⟩;rw[<- hH];simp only[go_sem];have w1:IntKind.wrap .i64 (0-(H:Int))=-(H:Int):=by rw[wrap64 om om]; omega
 refine ae1 (ag9 ?_);simp only[go_sem,w1];refine ae1 (ae1 (ag9 ?_));simp only[go_sem];have h0:=tab_row (v:=.aa1) (zs:=[]) (lo:=σ.next) (k:=1) (nid:=s.next) (cs:=[.int .i64 (-(H:Int))]) hM (.inl ⟨rfl,rfl⟩) (fun _ _ _ _ e=>by cases e) (fun _ _ _ _ e=>by cases e) (-(H:Int)) (zc _) (zh _) hT.next rfl
 refine at7 (ba6 (Q:=fun e f s=>e=.exit 0/\∃ clv' gv,be2 σ s tp mid clv clv'/\aq8 s tp mid xv allv clv' P ⟨t.h+1,t.cl++l.map (fun x=>[-x,(H:Int)]),t.sets⟩/\al2 s σ.next gv (-(H:Int)::l)/\(∀ i k m,clv'=.slice i 0 k 1->gv≠.slice i 0 m 1)/\(∀ i k m,allv=.slice i 0 k 15->gv≠.slice i 0 m 1) /\
   ∃ rst:Frm,f=(0,.ptr tp 0)::(5,.int .i64 (H:Int))::(6,gv)::rst)
  (ab3 noT (fun i fr s=>∃ clv' gv,fr=[(0,.ptr tp 0),(5,.int .i64 (H:Int)),(6,gv),(14,.aa4 (l.map Md.ad9)),(15,.int .i64 l.length),(16,.int .i64 (i:Int))]/\be2 σ s tp mid clv clv'/\aq8 s tp mid xv allv clv' P ⟨t.h+1,t.cl++(l.take i).map (fun x=>[-x,(H:Int)]),t.sets⟩/\al2 s σ.next gv (-(H:Int)::l.take i) /\
   (∀ i k m,clv'=.slice i 0 k 1->gv≠.slice i 0 m 1)/\(∀ i k m,allv=.slice i 0 k 15->gv≠.slice i 0 m 1)) l.length ⟨clv,_,rfl,h0.2.1 σ clv hT (zc _),by rw[List.take_zero,zv,z1]; exact h0.1,h0.2.2.1,h0.2.2.2.1,h0.2.2.2.2⟩ ?_) ?_)
 ·clear h0 hM hT;rintro i fr u hle ⟨clv',gv,rfl,hT,hM,hg,hne,hna⟩;by_cases hlt:i<l.length
  ·obtain ⟨n,hn,_,hdr,hget,htk⟩:=ad6 l i hlt;have c1:(i:Int)<l.length:=om
   have c2:(0:Int)<=i:=om
   have wi:=ad1 (i:=i) om;have hn2:=hr n hn;have wn:IntKind.wrap .i64 (0-n)=-n:=by rw[wrap64 om om]; omega
   obtain ⟨s1,e1,e2,e3,hM1,hT1⟩:=tab_push (nid:=u.next) (k:=1) hM [-n,(H:Int)] (by simp only[ze,zb,zf]; omega) (zc _) (zh _);have hcl:clE [-n,(H:Int)]=[.aa4 [[.int .i64 (-n)],[.int .i64 (H:Int)]]]:=rfl;rw[hcl] at e1;have hc:=hM.cell;have hg1:=hT1.kj1 hM hg hne;have hL:(t.cl++(l.take i).map (fun x=>[-x,(H:Int)])).length<2147483648:=by simp only[ze,zb,zf]; omega
   generalize hcs:(aj5.cells [xv,allv,IV.int IntKind.i64 ↑(t.h+1),IV.slice u.next 0 ((t.cl++(l.take i).map (fun x=>[-x,(H:Int)])).length+1) 1,IV.map mid])=CS at *;have hap:=bd5 (nid:=s1.next) (hg1.up 1) n (by simp only[zm,zf]; omega)
   obtain ⟨q1,q2,q3,q4,q5⟩:=tab_row (k:=1) (nid:=s1.next) (cs:=bo7 (-(H:Int))::(l.take i++[n]).map bo7) hM1 hg1 (fun i' k' l' e e2=>by
    cases e;rcases hg with ⟨h0,_⟩|⟨j,_,hj,h0,_⟩
    ·rw[h0] at e2; cases e2
    ·rw[h0] at e2; cases e2; omega) hna n (zc _) (zh _) (by show σ.next<=s1.next; have:=hT.next; omega) (by simp)
   have hcl2:t.cl++(l.take (i+1)).map (fun x=>[-x,(H:Int)])=t.cl++(l.take i).map (fun x=>[-x,(H:Int)])++[[-n,(H:Int)]]:=by rw[htk,zu,<- z8]; rfl
   simp only[ab2] at hap q1 q2 q3;simp only[go_sem,c1,c2,hget,Md.ad9,hc,wn,e1,e3,hcs,hap,wi];refine ⟨hlt,_,_,rfl,q2 σ clv (hT.trans hT1) (zc _),?_,?_,q4,q5⟩
   ·rw[hcl2]; exact q1
   ·rw[htk]; exact q3
  ·have hi':i=l.length:=om
   subst hi';have c1:¬ (l.length:Int)<l.length:=om
   rw[zr] at hM hg;simp only[go_sem,c1];exact ⟨clv',gv,hT,hM,hg,hne,hna,_,rfl⟩
 clear h0 hM hT;rintro e f u ⟨rfl,clv',gv,hT,hM,hg,hne,hna,rst,rfl⟩;simp only[go_sem];refine ae1 (jp6 (S:=dl1 gv) (fr':=(0,.ptr tp 0)::(5,.int .i64 (H:Int))::(6,.aa4 ((-(H:Int)::l).map Md.ad9))::rst) (fun k=>?_) (ag9 ?_))
 ·by_cases hk:k=6
  ·subst hk;exact .inr (ey2 hg.w)
  ·left;have e:(k==6)=false:=by simpa using hk
   simp only[Frm.get,List.lookup,e]
   try rfl
 have hM':=hM.off hg.w hne hna
 have hT':be2 σ (u.kills (dl1 gv)) tp mid clv clv':=hT.kill (be2.refl _ _ _ _) fun i hi=>by
  cases ho:dl1 gv i with
  | true=>rfl
  | false=>have:=(eo3 hg.w ho).1; omega
 generalize u.kills (dl1 gv)=K at *;obtain ⟨s1,e1,e2,e3,hM1,hT1⟩:=tab_push (nid:=K.next) (k:=1) hM' (-(H:Int)::l) (by simp only[ze,zb]; omega) (zc _) (zh _);have hcl:clE (-(H:Int)::l)=[.aa4 ((-(H:Int)::l).map Md.ad9)]:=rfl;rw[hcl] at e1;have hc:=hM'.cell;generalize (-(H:Int)::l).map Md.ad9=rowV at *;simp only[go_sem,hc,e1,e3];refine ae1 (ag9 ?_);simp only[go_sem];refine ag9 ?_;simp only[go_sem];have he:ak3 P.length l t=((H:Int),⟨t.h+1,t.cl++l.map (fun x=>[-x,(H:Int)])++[-(H:Int)::l],t.sets⟩):=by rw[hH]; rfl
 rw[he];exact ⟨rfl,_,hT'.trans hT1,hM1⟩
end Go.Id.Tryz
namespace Go.Id.Tryz
open Go Go.Id Go.Proofs Go.Shelf Go.Id.Md
theorem it8 {s:Store}{lo:Nat}{v:IV}{zs:List Int}(h:ch8 s lo v zs){i m:Nat}(e:v=.slice i 0 m 1):lo<=i:=by
 rcases h with ⟨rfl,_⟩|⟨id,cs,h1,h2,rfl,h4⟩
 ·cases e
 ·cases e; exact h1
theorem tab_late {σ s:Store}{tp mid:Nat}{xv allv clv v:IV}{P:List aa2}{t:ah6}{zs:List Int}(h:aq8 σ tp mid xv allv clv P t)(hr:ch8 s σ.next v zs):(∀ i k l,clv=.slice i 0 k 1->v≠.slice i 0 l 1)/\(∀ i k l,allv=.slice i 0 k 15->v≠.slice i 0 l 1):=by
 refine ⟨fun i k l e e2=>?_,fun i k l e e2=>?_⟩
 ·have:=it8 hr e2;rcases h.cls with ⟨h0,_⟩|⟨j,hj,_,hl⟩
  ·rw[h0] at e; cases e
  ·rw[hj] at e; cases e; omega
 ·have:=it8 hr e2;rcases h.all with ⟨h0,_⟩|⟨j,hj,_,hl⟩
  ·rw[h0] at e; cases e
  ·rw[hj] at e; cases e; omega
theorem hf4 {σ s:Store}{tp mid lo g:Nat}{xv allv clv clv0 v:IV}{P:List aa2}{t:ah6}{r:Int×ah6}{zs:List Int}(hM:aq8 s tp mid xv allv clv P t)(hT:be2 σ s tp mid clv0 clv)(hr:ch8 s lo v zs)(hlo:σ.next<=lo)
  (hne:(∀ i k l,clv=.slice i 0 k 1->v≠.slice i 0 l 1)/\(∀ i k l,allv=.slice i 0 k 15->v≠.slice i 0 l 1))
  (h:∀ K,aq8 K tp mid xv allv clv P t->C Tryz.prog EE g [.ptr tp 0,.aa4 (zs.map Md.ad9)] K (ed7 K tp mid xv allv clv P r)):C Tryz.prog EE g [.ptr tp 0,v] s (fun v' u=>s.next<=u.next/\ed7 σ tp mid xv allv clv0 P r v' u):=by
 have htp:dl1 v tp=true:=by
  cases ho:dl1 v tp with
  | true=>rfl
  | false=>
   obtain ⟨_,_,_,cs,h3⟩:=eo3 hr ho;exact absurd rfl (hM.ie9 _ _ h3).1
 refine C.mono (dt9 (S:=dl1 v) (args':=[.ptr tp 0,.aa4 (zs.map Md.ad9)]) rfl (fun i hi=>?_) (h _ (hM.off hr hne.1 hne.2))) ?_
 ·match i,hi with
  | 0,_=>exact .keep _ (.ptr _ _ htp)
  | 1,_=>exact ey2 hr
 ·rintro v' u ⟨rfl,clv',g1,g2⟩;refine ⟨g1.next,rfl,clv',hT.kill g1 fun i hi=>?_,g2⟩
  cases ho:dl1 v i with
  | true=>rfl
  | false=>have:=(eo3 hr ho).1; omega
theorem hf5 (l:List Int)(hl:l.length<=100)(hr:∀ x∈l,-(2^40)<=x/\x<=2^40)(σ:Store)(tp mid:Nat)(xv allv clv:IV)(P:List aa2)(t:ah6)(h:aq8 σ tp mid xv allv clv P t)(hP:P.length<2^20)(ht:t.h<2^20)(hf:t.few) :
  C Tryz.prog EE 205 [.ptr tp 0,.aa4 (l.map Md.ad9)] σ (ed7 σ tp mid xv allv clv P (cf5 P.length l t)):=by
 refine C_f fok205 (nZ rfl) ?_;simp only[ic205,go_sem];refine ac5 fok244 (il2 l om hr _) ?_;rintro v s ⟨hk,hv⟩;refine ⟨hk.next,?_⟩;simp only[go_sem];have hM:=h.mono hk.next hk.obj
 refine ac5 fok207 (hf4 (σ:=σ) hM ⟨hk.next,fun i hi _ _ _=>hk.obj i hi,.inl rfl⟩ hv.w (zc _) (tab_late h hv.w) fun K hK=>da3 (dj5 l) (by unfold dj5; rw[zb]; exact hl) (fun x hx=>by
  obtain ⟨y,hy,rfl⟩:=zn.1 hx;have:=hr y hy;exact ⟨om,om⟩) K tp mid xv allv clv P t hK hP ht hf) ?_
 rintro v' u ⟨h1,rfl,clv',hT2,hM2⟩;refine ⟨h1,?_⟩
 have w1:IntKind.wrap .i64 (0-(ak3 P.length (dj5 l) t).1)=-(ak3 P.length (dj5 l) t).1:=by
  have e:(ak3 P.length (dj5 l) t).1=((P.length+(t.h+1):Nat):Int):=rfl;rw[e,wrap64 om om]; omega
 simp only[go_sem,w1];exact ⟨rfl,clv',hT2,hM2⟩
theorem fm3 (x y w:Int)(hx:-(2^40)<=x/\x<=2^40)(hy:-(2^40)<=y/\y<=2^40)(hw:-(2^40)<=w/\w<=2^40)(σ:Store)(tp mid:Nat)(xv allv clv:IV)(P:List aa2)(t:ah6)(h:aq8 σ tp mid xv allv clv P t)(hP:P.length<2^20)(ht:t.h<2^20)(hf:t.few) :
  C Tryz.prog EE 208 [.ptr tp 0,.int .i64 x,.int .i64 y,.int .i64 w] σ (ed7 σ tp mid xv allv clv P (br5 P.length x y w t)):=by
 refine C_f fok208 (nZ rfl) ?_;unfold ah6.few at hf;simp only[ic208,go_sem];refine ac5 fok245 (fm2 _ tp mid xv allv clv P t h hP om) ?_;rintro v s ⟨rfl,hT,hM⟩;refine ⟨hT.next,?_⟩;obtain ⟨H,hH⟩:∃ H:Nat,H=P.length+(t.h+1):=⟨_,rfl⟩;rw[<- hH];have wh:IntKind.wrap .i64 (0-(H:Int))=-(H:Int):=by rw[wrap64 om om]; omega
 have wx:IntKind.wrap .i64 (0-x)=-x:=by rw[wrap64 om om]; omega
 have wy:IntKind.wrap .i64 (0-y)=-y:=by rw[wrap64 om om]; omega
 have ww:IntKind.wrap .i64 (0-w)=-w:=by rw[wrap64 om om]; omega
 simp only[go_sem,wh,wx,wy,ww];obtain ⟨Q,hQ⟩:∃ Q:List (List Int),Q=[[-w,-x,(H:Int)],[-w,x,-(H:Int)],[w,-y,(H:Int)],[w,y,-(H:Int)]]:=⟨_,rfl⟩;refine ab3 noT (fun i fr s=>∃ clv',fr=[(0,.ptr tp 0),(9,.int .i64 (H:Int)),(36,.aa4 (Q.map clE)),(37,.int .i64 4),(38,.int .i64 (i:Int))]/\be2 σ s tp mid clv clv'/\aq8 s tp mid xv allv clv' P ⟨t.h+1,t.cl++Q.take i,t.sets⟩) 4 ⟨clv,by rw[hQ]; rfl,hT,by rw[List.take_zero,z1]; exact hM⟩ ?_;clear hM hT;rintro i fr u hle ⟨clv',rfl,hT,hM⟩;have hQl:Q.length=4:=by rw[hQ]; rfl
 by_cases hlt:i<4
 ·obtain ⟨q,hq,_,hdr,hget,htk⟩:=ad6 Q i om;have c1:(i:Int)<4:=om
  have c0:(i:Int)<(Q.length:Nat):=om
  have c2:(0:Int)<=i:=om
  have wi:=ad1 (i:=i) om;obtain ⟨s1,e1,e2,e3,hM1,hT1⟩:=tab_push (nid:=u.next) (k:=1) hM q (by simp only[ze,zf]; omega) (zc _) (zh _);have hcl:clE q=[.aa4 (q.map Md.ad9)]:=rfl;rw[hcl] at e1;have hc:=hM.cell;generalize q.map Md.ad9=qv at *;simp only[go_sem,c0,c1,c2,hget,hcl,hc,e1,e3,wi];refine ⟨hlt,_,hT.trans hT1,?_⟩;rw[htk,<- z8]; exact hM1
 ·have hi':i=4:=om
  subst hi';rw[z4 om] at hM;simp only[go_sem];rw[hH,hQ] at *;exact ⟨rfl,_,hT,hM⟩
end Go.Id.Tryz
namespace Go.Id.Tryz
open Go Go.Id Go.Proofs Go.Shelf Go.Id.Md
theorem da4 (n:Int):(eh9 n).length<=2:=by unfold eh9; split<;>simp
theorem il5 (l:List Int):(ci2 l).length<=3*l.length:=by
 induction l with
 | nil=>exact zc _
 | cons n l ih=>
  have e:ci2 (n::l)=(eh9 n++[32])++ci2 l:=rfl;have:=da4 n;rw[e,ze,ze,zq,zm]; omega
theorem hf6 (l:List Int)(n:Int):ci2 (l++[n])=ci2 l++(eh9 n++[32]):=by unfold ci2; rw[List.flatMap_append]; simp
theorem jw1 (l:List Int)(hl:l.length<=100)(hr:∀ x∈l,0<=x/\x<100)(σ:Store)(tp mid:Nat)(xv allv clv:IV)(P:List aa2)(t:ah6)(h:aq8 σ tp mid xv allv clv P t)(hP:P.length<2^20)(ht:t.h<2^20)(hf:t.few) :
  C Tryz.prog EE 203 [.ptr tp 0,.aa4 (l.map Md.ad9)] σ (ed7 σ tp mid xv allv clv P (fi3 P.length l t)):=by
 refine C_f fok203 (nZ rfl) ?_;unfold fi3;by_cases h1:l.length=1
 ·obtain ⟨n,rfl⟩:=List.length_eq_one_iff.1 h1;have hn:=hr n List.mem_cons_self;have wn:IntKind.wrap .i64 (n+1)=n+1:=wrap64 om om;rw[if_pos h1];simp only[ic203,go_sem,zx,zv,zm,zo,Md.ad9,wn];exact ⟨rfl,clv,be2.refl _ _ _ _,h⟩
 have c0:¬ (l.length:Int)=1:=om
 rw[if_neg h1];simp only[ic203,go_sem,c0];refine ab3 noT (fun i fr s=>fr=[(0,.ptr tp 0),(1,.aa4 (l.map Md.ad9)),(5,.str (ci2 (l.take i))),(21,.aa4 (l.map Md.ad9)),(22,.int .i64 l.length),(23,.int .i64 (i:Int))]/\be2 σ s tp mid clv clv/\aq8 s tp mid xv allv clv P t) l.length ⟨rfl,be2.refl _ _ _ _,h⟩ ?_;rintro i fr s hle ⟨rfl,hT,hM⟩;by_cases hlt:i<l.length
 ·obtain ⟨n,hn,_,hdr,hget,htk⟩:=ad6 l i hlt;have c1:(i:Int)<l.length:=om
  have c2:(0:Int)<=i:=om
  have wi:=ad1 (i:=i) om;have hn2:=hr n hn;obtain ⟨m,rfl⟩:=Int.eq_ofNat_of_zero_le hn2.1;have hI:=jg1 m om;have l1:(eh9 (m:Int)).length+[(32:UInt8)].length<2^62:=by have:=da4 (m:Int); simp only[zq]; omega
  have l2:(ci2 (l.take i)).length+(eh9 (m:Int)++[(32:UInt8)]).length<2^62:=by
   have:=da4 (m:Int); have:=il5 (l.take i);rw[zf] at this;simp only[ze,zq]; omega
  have hk:ci2 (l.take (i+1))=ci2 (l.take i)++(eh9 (m:Int)++[32]):=by rw[htk,hf6]
  simp only[go_sem,c1,c2,hget,Md.ad9];refine aa3 fok242 (hI) ?_;simp only[go_sem,dd6,l1,l2,wi];exact ⟨by have:=da4 (m:Int); omega,hlt,by rw[hk],hT,hM⟩
 have hi':i=l.length:=om
 subst hi';have c1:¬ (l.length:Int)<l.length:=om
 rw[zr];have hc:=hM.cell;have hlk:=fun n=>tab_look (s:=⟨s.next+n,s.obj⟩) hM.map (ci2 l)
 have hlk0:=tab_look (s:=s) hM.map (ci2 l)
 cases hf2:bh4 t.sets (ci2 l) with
 | some x=>
  simp only[hf2] at hlk0 hlk;simp only[go_sem,c1,hc,hlk0,hlk,Option.map_some,Option.getD_some,Option.isSome_some]
  exact ⟨rfl,clv,hT,hM⟩
 | none=>
  simp only[hf2] at hlk0 hlk;simp only[go_sem,c1,hc,hlk0,hlk,Option.map_none,Option.getD_none,Option.isSome_none];refine ab3 noT (fun i fr u=>∃ gv,fr=[(0,.ptr tp 0),(5,.str (ci2 l)),(10,gv),(44,.aa4 (l.map Md.ad9)),(45,.int .i64 l.length),(46,.int .i64 (i:Int))]/\Kept s u/\al2 u s.next gv (upL (l.take i))) l.length ⟨.aa1,rfl,Kept.refl s,.inl ⟨rfl,rfl⟩⟩ ?_;rintro i fr u hle ⟨gv,rfl,hk,hg⟩;by_cases hlt:i<l.length
  ·obtain ⟨n,hn,_,hdr,hget,htk⟩:=ad6 l i hlt;have d1:(i:Int)<l.length:=om
   have d2:(0:Int)<=i:=om
   have w1:=ad1 (i:=i) om;have hlen:(upL (l.take i)).length<=i:=by unfold upL; rw[zb,zf]; omega
   have hap:=bd5 (nid:=u.next) (hg.up 1) (n+1) om;have e:upL (l.take (i+1))=upL (l.take i)++[n+1]:=by rw[htk]; unfold upL; rw[zu]; rfl
   have hn2:=hr n hn;have wm:IntKind.wrap .i64 (n+1)=n+1:=wrap64 om om;simp only[go_sem,d1,d2,hget,Md.ad9,wm,hap,w1,e];have hz:=bf4 hk hg (n+1) (a:=1) (nid:=u.next) (zc _) (zh _) rfl;exact ⟨hlt,_,rfl,hz.1,hz.2⟩
  ·have hi':i=l.length:=om
   subst hi';have d1:¬ (l.length:Int)<l.length:=om
   rw[zr] at hg;simp only[go_sem,d1];have hMu:=hM.mono hk.next hk.obj
   refine ac5 fok207 (hf4 (σ:=σ) hMu (hT.trans ⟨hk.next,fun i hi _ _ _=>hk.obj i hi,.inl rfl⟩) hg.w hT.next (tab_late hM hg.w) fun K hK=>da3 (upL l) (by unfold upL; rw[zb]; exact hl) (fun x hx=>by
    obtain ⟨y,hy,rfl⟩:=zn.1 hx;have:=hr y hy;exact ⟨om,om⟩) K tp mid xv allv clv P t hK hP ht hf) ?_
   rintro v' u2 ⟨g1,rfl,clv',hT2,hM2⟩;refine ⟨g1,?_⟩;have hc2:=hM2.cell;have hst:(ak3 P.length (upL l) t).2.sets=t.sets:=rfl;have hup:=fun n=>tab_upd (s:=⟨u2.next+n,u2.obj⟩) (mid:=mid) hM2.map (x:=ci2 l) (ak3 P.length (upL l) t).1 hf2
   have hup0:=tab_upd (s:=u2) (mid:=mid) hM2.map (x:=ci2 l) (ak3 P.length (upL l) t).1 hf2;obtain ⟨hM3,hT3⟩:=tab_set hM2 (ci2 l) (ak3 P.length (upL l) t).1;simp only[go_sem,hc2,hup0,hup];exact ⟨rfl,clv',hT2.trans hT3,hM3⟩
end Go.Id.Tryz
namespace Go.Id.Tryz
open Go Go.Id Go.Proofs Go.Id.Md
def msV (m:Nat×Nat×Bool):IV:=.tuple [.int .i64 m.1,.int .i64 m.2.1,.bool m.2.2]
theorem fm4 {s:Store}(m:Nat×Nat×Bool):cu4 s 0 (.tuple [.int .i64 m.1,.int .i64 m.2.1,.bool m.2.2]) (msV m):=.keep _ (.tuple _ (bf1 (.int _ _) (.int _ _) (.bool _)))
theorem gf2 (r:aa6):r.fit->r.count<2^31->PC Tryz.prog EE 230 [.agg r.cs] (msV r.ms):=by
 induction r using aa6.ind with
 | h k d xs ih=>
  intro hf hc;obtain ⟨f1,f2,f3,f4,f5⟩:=aa6.by6.1 hf;have hms:∀ a∈xs,a.ms.1<=a.count/\a.ms.2.1<=a.count:=fun a _=>aa6.jq9 a
  refine ae6 hE fok230 (nZ rfl) (ae5 (ah2 _)) ?_;by_cases k1:k=1
  ·subst k1;have hm:=bs1 d f3.1 f3.2.1 f3.2.2;by_cases h0:xs.length=0
   ·have h0':(xs.length:Int)=0:=om
    simp only[ic230,go_sem,aa6.ar1,aa6.kind,aa6.dep,aa6.args,h0'];refine aa3 fok38 (hm) ?_;simp only[go_sem];have e:aa6.ms (.mk 1 d xs)=(1,0,aj9 d):=by simp[aa6.ms,h0]
    rw[e]; exact fm4 (1,0,aj9 d)
   ·have h0':¬ (xs.length:Int)=0:=om
    simp only[ic230,go_sem,aa6.ar1,aa6.kind,aa6.dep,aa6.args,h0'];have e:aa6.ms (.mk 1 d xs)=(1,0,false):=by simp[aa6.ms,h0]
    rw[e]; exact fm4 (1,0,false)
  have e:aa6.ms (.mk k d xs)=((aa6.msL xs 1 0 (ap3 k d xs.length)).1,(aa6.msL xs 1 0 (ap3 k d xs.length)).2.1+1,(aa6.msL xs 1 0 (ap3 k d xs.length)).2.2):=by rw[aa6.ms,if_neg k1]
  have hdd:decide (d=cq9)=(decide (d.name=[])&&(decide (d.op=0)&&(decide (d.evr.aq6=0)&&(decide (d.evr.ver=[])&&decide (d.evr.rel=[]))))):=by
   obtain ⟨n,o,e,v,r⟩:=d;simp only[cq9,gq2,Dep.mk.injEq,EVR.mk.injEq,Bool.decide_and]
  have hg:∀ a∈xs,a.fit/\a.count<2^31/\a.count<=aa6.counts xs:=fun a ha=>by
   have h1:a.count<=aa6.counts xs:=by
    clear hc f4 f5 hms ih hdd e hf
    induction xs with
    | nil=>cases ha
    | cons y ys ihy=>
     simp only[aa6.counts];rcases zw.1 ha with rfl|ha
     ·omega
     ·have:=ihy ha; omega
   have h2:aa6.counts xs<2^31:=by simp only[aa6.count] at hc; omega
   exact ⟨f5 a ha,om,h1⟩
  have hcs:aa6.counts xs<2^31:=by simp only[aa6.count] at hc; omega
  -- what holds of Kinds and counts
  by_cases q1:1<k
  case' neg=>
   have hH:ap3 k d xs.length=false:=by simp[ap3,q1]
   simp only[ic230,go_sem,aa6.ar1,aa6.kind,aa6.dep,aa6.args,k1,q1]
  case' pos=>
   by_cases q2:k<=7
   case' neg=>
    have hH:ap3 k d xs.length=false:=by simp[ap3,q2]
    simp only[ic230,go_sem,aa6.ar1,aa6.kind,aa6.dep,aa6.args,k1,q1,q2]
   case' pos=>
    by_cases q3:d=cq9
    case' neg=>
     have hd1:decide (d=cq9)=false:=decide_eq_false q3;rw[hdd] at hd1;have hH:ap3 k d xs.length=false:=by simp[ap3,q3]
     simp only[ic230,go_sem,aa6.ar1,aa6.kind,aa6.dep,aa6.args,k1,q1,q2,hd1]
    case' pos=>
     have hd1:decide (d=cq9)=true:=decide_eq_true q3;rw[hdd] at hd1;by_cases q4:2<=xs.length
     case' neg=>
      have q4':¬ (2:Int)<=xs.length:=om
      have hH:ap3 k d xs.length=false:=by simp[ap3,q4]
      simp only[ic230,go_sem,aa6.ar1,aa6.kind,aa6.dep,aa6.args,k1,q1,q2,hd1,q4']
     case' pos=>
      have q4':(2:Int)<=xs.length:=om
      obtain ⟨ks,hk1,hk2,hk3⟩:∃ ks,(if 0<=k/\k<8 then cv9 (k.toNat*2) (EE 3) else none)=zg (.ab9 ks)/\(ks.drop 1).head? = zg (.int .i64 (en7 k))/\1<ks.length:=by
       have hk:k=2\/k=3\/k=4\/k=5\/k=6\/k=7:=om
       rcases hk with rfl|rfl|rfl|rfl|rfl|rfl<;>exact ⟨_,rfl,rfl,by decide⟩
      simp only[ic230,go_sem,aa6.ar1,aa6.kind,aa6.dep,aa6.args,k1,q1,q2,hd1,q4',hk1,hk2,hk3];by_cases q5:xs.length<=en7 k
      case' neg=>
       have q5':¬ (xs.length:Int)<=en7 k:=om
       have hH:ap3 k d xs.length=false:=by simp[ap3,q5]
       simp only[go_sem,q5']
      case' pos=>
       have q5':(xs.length:Int)<=en7 k:=om
       have hH:ap3 k d xs.length=true:=by simp[ap3, *]
       simp only[go_sem,q5']
  all_goals
   rw[e]
   refine ab3 noT (fun i fr t=>∃ (p dd:Nat) (ok:Bool),fr=[(2,.int .i64 p),(3,.int .i64 dd),(4,.bool ok),(54,.aa4 (xs.map aa6.cs)),(55,.int .i64 xs.length),(56,.int .i64 (i:Int))]/\p+aa6.counts (xs.drop i)<=1+aa6.counts xs/\dd<=aa6.counts xs /\
    aa6.msL xs 1 0 (ap3 k d xs.length)=aa6.msL (xs.drop i) p dd ok) xs.length ⟨1,0,_,rfl,zc _,Nat.zero_le _,by rw[hH]; rfl⟩ ?_
   rintro i fr t hle ⟨p,dd,ok,rfl,hp,hdl,hI⟩;rw[hI];by_cases hlt:i<xs.length
   ·obtain ⟨x,hx,_,hdr,hget,htk⟩:=ad6 xs i hlt;have c1:(i:Int)<xs.length:=om
    have c2:(0:Int)<=i:=om
    have w1:=ad1 (i:=i) om;rw[hdr] at hp hI ⊢;obtain ⟨x1,x2,x3⟩:=hg x hx
    cases ok with
    | false=>
     have w3:=ad1 (i:=dd) om;simp only[go_sem,c1,c2,hget,ab8,ab6,ab1,w3,aa6.msL]
     exact fm4 (p,dd+1,false)
    | true=>
     have hA:=ih x hx x1 x2;have hml:=aa6.jq9 x;simp only[aa6.counts] at hp;have w2:IntKind.i64.wrap ((p:Int)+x.ms.1)=((p+x.ms.1:Nat):Int):=by rw[wrap64 om om]; omega
     simp only[go_sem,c1,c2,hget,ab8,ab6,ab1];refine aa3 fok230 (hA) ?_;simp only[go_sem,msV,w1,w2];have wm:(if (x.ms.2.1:Int)>dd then (x.ms.2.1:Int) else dd)=((max dd x.ms.2.1:Nat):Int):=by split<;>omega
     exact ⟨hlt,p+x.ms.1,max dd x.ms.2.1,x.ms.2.2,by rw[wm],om,om,by simp[aa6.msL]⟩
   ·have hi':i=xs.length:=om
    subst hi';have c1:¬ (xs.length:Int)<xs.length:=om
    have w3:=ad1 (i:=dd) om;rw[List.drop_length];simp only[go_sem,c1,w3,aa6.msL];exact fm4 (p,dd+1,ok)
theorem il6 (r:aa6)(h1:r.fit)(h2:r.count<2^31):PC Tryz.prog EE 188 [.agg r.cs] (.bool (bj7 r)):=by
 refine ae6 hE fok188 (nZ rfl) (ae5 (ah2 _)) ?_;have h:=gf2 r h1 h2;unfold bj7;generalize r.ms=m at *;obtain ⟨p,d,ok⟩:=m;simp only[ic188,go_sem,ab8,ab6,ab1];refine aa3 fok230 (h) ?_;have e1:((p:Int)<=24)=(p<=24):=by simp only[eq_iff_iff]; omega
 have e2:((d:Int)<=8)=(d<=8):=by simp only[eq_iff_iff]; omega
 cases ok with
 | false=>simp only[go_sem,msV]; exact ab4 _
 | true=>
  by_cases q1:p<=24
  ·have q1':(p:Int)<=24:=om
   by_cases q2:d<=8
   ·have q2':(d:Int)<=8:=om
    simp only[go_sem,msV,q1,q1',q2,q2']; exact ab4 _
   ·have q2':¬ (d:Int)<=8:=om
    simp only[go_sem,msV,q1,q1',q2,q2']; exact ab4 _
  ·have q1':¬ (p:Int)<=24:=om
   simp only[go_sem,msV,q1,q1']; exact ab4 _
end Go.Id.Tryz
namespace Go.Id.Tryz
open Go Go.Id Go.Proofs Go.Shelf Go.Id.Md
def es4 (c:Nat->Bool)(n:Nat):List IV:=(zz n).map fun j=>.bool (c j)
theorem bn6 (c:Nat->Bool)(n:Nat):(es4 c n).length=n:=by simp[es4]
theorem hf7:∀ n:Nat,rep [IV.bool false] n=es4 (fun _=>false) n:=by
 intro n
 have h:∀ m,rep [IV.bool false] m=List.replicate m (.bool false):=by
  intro m
  induction m with
  | zero=>rfl
  | succ m ih=>show [IV.bool false]++rep _ m=_; rw[ih]; rfl
 rw[h];exact List.ext_getElem (by simp[es4]) fun i h1 h2=>by simp[es4]
theorem fm5 (c:Nat->Bool){n i:Nat}(h:i<(es4 c n).length):(es4 c n)[i]=.bool (c i):=by simp[es4]
theorem il7 (c:Nat->Bool){n j:Nat}(h:j<n)(x:Bool):bb3 (es4 c n) j [.bool x]=es4 (fun i=>if i=j then x else c i) n:=by
 refine List.ext_getElem (by rw[ah4 (by rw[bn6]; simp only[zq]; omega),bn6,bn6]) fun i h1 h2=>?_
 rw[fm5];rw[bn6] at h2;unfold bb3;simp only[List.getElem_append,zf,bn6,List.getElem_take,List.getElem_drop,ze,zq,fm5];by_cases e:i=j
 ·subst e;have g1:¬ i<min i n:=om
  have g2:i<min i n+1:=om
  simp only[g1,g2,dite_false,dite_true,if_true,List.getElem_singleton]
 ·by_cases e2:i<j
  ·have g1:i<min j n:=om
   have g2:i<min j n+1:=om
   simp only[g1,g2,dite_true,e,if_false]
  ·have g1:¬ i<min j n:=om
   have g2:¬ i<min j n+1:=om
   have g3:j+1+(i-(min j n+1))=i:=om
   simp only[g2,g3,dite_false,e,if_false]
theorem fj4 {pt:PT}{ct:CT}{P:Program}{E:Nat->IV}{e id:Nat}{z:List IV}{x:IX}{fr:Frm}{σ:Store}{K:IV->Store->Prop}:opT pt ct P E (.dd2 e z x) id fr σ K=bt4 (db5 (x.ev E fr)) fun n=>K (.slice id 0 n e) (σ.put id (.row (rep z n))):=rfl
theorem ed8 {K:Nat->Prop}(n:Nat)(h:n<=2147483648):bt4 (db5 (.int .i64 (n:Int))) K=K n:=by
 have h1:(0:Int)<=n/\(n:Int)<=2147483648:=om
 show bt4 (if 0<=(n:Int)/\(n:Int)<=2147483648 then zg ((n:Int).toNat) else none) K=K n;rw[if_pos h1]; rfl
theorem il8 {s:Store}{S:Nat->Prop}{id n:Nat}{c:Nat->Bool}(hid:¬ S id)(ho:s.obj id=zg (.row (es4 c n))):Frz s S (.slice id 0 n 1) (.aa4 (((zz n).map c).map ca5)):=by
 have hl:(((zz n).map c).map ca5).length=n:=by simp
 refine .slice id 0 n 1 (es4 c n) _ hid (.inr ho) hl (by rw[bn6]; omega) (fun i hi=>?_) fun i hi j hj=>?_
 ·simp[za,hi,ca5]
 ·have hj0:j=0:=om
  subst hj0;have e2:((((zz n).map c).map ca5).getD i []).getD 0 .undef=.bool (c i):=by simp[za,hi,ca5]
  have e3:(es4 c n).getD (0+(i*1+0)) .undef=.bool (c i):=by simp[za,hi,es4]
  rw[e2,e3];exact .keep _ (.bool _)
abbrev bk8 (st:List Bool):IV:=.aa4 (st.map ca5)
def am2 (l:List aa2):IV:=.ab9 [(ad7 l).v,.int .i64 l.length]
def an1 (l:List aa2)(st:List Bool):List IV:=[am2 l,bk8 st]
theorem er4 (st:List Bool):Bnd 0 (bk8 st):=.aa4 _ fun e he c hc=>by
 obtain ⟨b,_,rfl⟩:=zn.1 he
 cases hc with
 | head=>exact .bool _
 | tail _ h=>cases h
theorem at5 (l:List aa2):Bnd 0 (am2 l):=.ab9 _ (ah9 (as2 _) (.int _ _))
theorem er5 (l:List aa2)(st:List Bool):∀ c∈an1 l st,Bnd 0 c:=ah9 (at5 l) (er4 st)
theorem fm6 (l:List aa2)(zs:List Int)(hl:l.length<=256)(hz:zs.length<2^40):PC Tryz.prog EE 189 [am2 l,.aa4 (zs.map Md.ad9)] (.agg (an1 l (stB l.length zs))):=by
 refine ae6 hE fok189 (nZ rfl) (ah9 (at5 l) (ag8 zs)) ?_;have hnc:(am2 l)=.ab9 [(ad7 l).v,.int .i64 l.length]:=rfl;simp only[ic189,go_sem,am2];simp only[fj4,ed8 _ (show l.length<=2147483648 by omega),go_sem];rw[hf7]
 refine ab3 noT (fun i fr t=>∃ c:Nat->Bool,fr=[(0,am2 l),(4,.ptr 0 0),(5,.ptr 2 0),(15,.aa4 (zs.map Md.ad9)),(16,.int .i64 zs.length),(17,.int .i64 (i:Int))]/\2<t.next/\t.obj 0=zg (.cells [.ad5,.aa1])/\t.obj 1=zg (.row (es4 c l.length)) /\
  t.obj 2=zg (.cells [am2 l,.slice 1 0 l.length 1])/\∀ j,j<l.length->c j=decide ((j:Int)∈zs.take i)) zs.length ⟨fun _=>false,rfl,by show 2<3; omega,rfl,rfl,rfl,fun j hj=>by simp⟩ ?_
 rintro i fr t hle ⟨c,rfl,hnx,o0,o1,o2,hc⟩;by_cases hlt:i<zs.length
 ·obtain ⟨x,hx,_,hdr,hget,htk⟩:=ad6 zs i hlt;have c1:(i:Int)<zs.length:=om
  have c2:(0:Int)<=i:=om
  have w1:=ad1 (i:=i) om;by_cases q1:0<=x
  ·by_cases q2:x<(l.length:Nat)
   ·have hxn:x.toNat<l.length:=om
    have r2:=il7 c hxn true;have r3:x.toNat+1<=(es4 c l.length).length:=by rw[bn6]; omega
    simp only[go_sem,c1,c2,hget,Md.ad9,q1,q2,am2,o2,o1,Nat.zero_add,Nat.mul_one,r2,r3,w1];refine ⟨hlt,fun i=>if i=x.toNat then true else c i,hnx,o0,rfl,fun j hj=>?_⟩
    ·show (if j=x.toNat then true else c j)=_;rw[htk];by_cases e:j=x.toNat
     ·rw[if_pos e];have:(j:Int)=x:=om
      simp[this]
     ·rw[if_neg e,hc j hj];have:¬ (j:Int)=x:=om
      simp[this]
   ·simp only[go_sem,c1,c2,hget,Md.ad9,q1,q2,am2,w1];refine ⟨hlt,c,hnx,o0,o1,o2,fun j hj=>?_⟩;have:¬ (j:Int)=x:=om
    rw[hc j hj,htk]; simp[this]
  ·simp only[go_sem,c1,c2,hget,Md.ad9,q1,w1];refine ⟨hlt,c,hnx,o0,o1,o2,fun j hj=>?_⟩;have:¬ (j:Int)=x:=om
   rw[hc j hj,htk]; simp[this]
 ·have hi':i=zs.length:=om
  subst hi';have c1:¬ (zs.length:Int)<zs.length:=om
  have hst:stB l.length zs=(zz l.length).map c:=by
   unfold stB;refine z5 fun m hm=>?_
   rw[hc m (z2.1 hm),zr]
  simp only[go_sem,c1,o0,o1,o2];rw[hst];exact ⟨rfl,.jy7 (.cons (.keep _ (at5 l)) (.cons (il8 (zp _) (by rw[aa5,if_neg (by decide)]; exact o1)) .nil))⟩
end Go.Id.Tryz
namespace Go.Id.Tryz
open Go Go.Id Go.Proofs Go.Shelf Go.Id.Md
theorem dj1 {d:Dep}(h:aj9 d=true):Dep.small d:=by
 obtain ⟨h1,h2,h3,h4⟩:=ec4 h;exact ⟨h1,h2,by have:=h3.1; omega,by have:=h3.2; omega⟩
theorem ad8 (l:List aa2)(st:List Bool):(an1 l st).all IV.leaf=true:=rfl
theorem af1 (l:List aa2)(st:List Bool):(an1 l st).take 2=an1 l st:=rfl
theorem ae3 (l:List aa2)(st:List Bool):(an1 l st).length=2:=rfl
theorem hf8 (l:List aa2)(st:List Bool):((an1 l st).drop 1).head? = zg (bk8 st):=rfl
theorem hf9 (l:List aa2)(st:List Bool):(an1 l st).head? = zg (am2 l):=rfl
theorem ch1 {st:List Bool}{n:Nat}(h:n<st.length):(st.map ca5).getD n []=[.bool (st.getD n false)]:=by simp[za,h,ca5]
abbrev hg6 (l:List aa2)(r:aa6):Prop:=∀ st:List Bool,st.length=l.length->PC Tryz.prog EE 190 [.agg (an1 l st),.agg r.cs] (.bool (r.tr l st))
theorem ao1 (l:List aa2)(st:List Bool):Bnd 0 (.agg (an1 l st)):=.agg _ (er5 l st)
theorem dx3 (l:List aa2)(st:List Bool):Bnd 0 (.ab9 (an1 l st)):=.ab9 _ (er5 l st)
theorem ch2 (r:aa6):Bnd 0 (.ab9 r.cs):=.ab9 _ (ee8 r)
theorem jg3 (d:Dep)(xs:List aa6)(k:Int):((aa6.mk k d xs).cs.drop 1).take 5=d.cs:=by rw[aa6.ar1]; rfl
theorem hg7 (d:Dep)(xs:List aa6)(k:Int):((aa6.mk k d xs).cs.drop 1).length=6:=by rw[aa6.ar1]; rfl
theorem ba4 (d:Dep)(xs:List aa6)(k:Int):((aa6.mk k d xs).cs.drop 6).head? = zg (aj6 xs):=by rw[aa6.ar1]; rfl
theorem ax5 (d:Dep)(xs:List aa6)(k:Int):(aa6.mk k d xs).cs.head? = zg (.int .u8 k):=by rw[aa6.ar1]; rfl
theorem dl4 {xs:List aa6}{n:Nat}(h:n<xs.length):(xs.map aa6.cs).getD n []=(xs[n]).cs:=by simp[za,h]
theorem il9 (l:List aa2)(st:List Bool)(n:Nat)(h:n<st.length):PC Tryz.prog EE 259 [.int .i64 n,.ab9 (an1 l st)] (.bool (st.getD n false)):=by
 refine ae6 hE fok259 (nZ rfl) (ah9 (.int _ _) (dx3 l st)) ?_;have c1:(n:Int)<st.length:=om
 have c2:(0:Int)<=n:=om
 have g:=ch1 h;simp only[ic259,go_sem,ae3,hf8,c1,c2,g];exact ab5 rfl
theorem jg4 (l:List aa2)(hl:l.length<=256)(hs:∀ p∈l,Pkg.small p)(st:List Bool)(hst:st.length=l.length)(d:Dep)(hd:aj9 d=true) :
  PC Tryz.prog EE 231 [.agg (an1 l st),.agg (aa6.mk 1 d []).cs] (.bool ((ae9 l d).any fun n=>st.getD n.toNat false)):=by
 refine ae6 hE fok231 (nZ rfl) (ah9 (ao1 l st) (ah2 _)) ?_;have h1:=bs3 l d om hs (dj1 hd)
 have h2:=bk5 (ae9 l d) 259 [] [.ab9 (an1 l st)] (fun n=>st.getD n.toNat false) (by have:=ae8 (fun p=>provides p d) l; unfold ae9; omega) fok259.1 fun x hx=>by
  obtain ⟨m,rfl,hm⟩:=numsOf_at hx;rw[Int.toNat_natCast];exact il9 l st m om
 have ht:am2 l=.ab9 [(ad7 l).v,.int .i64 l.length]:=rfl;have h7:=ab1 (.mk 1 d []);simp only[ic231,go_sem,ae3,ad8,hf9,ab8,h7,jg3,hg7,ht]
 first|refine aa3 fok139 (h1) ?_|refine aa7 (h1) ?_
 simp only[go_sem,ae3,ad8]
 first|refine aa3 fok146 (h2) ?_|refine aa7 (h2) ?_
 simp only[go_sem];exact ab5 rfl
theorem jg5 (l:List aa2)(st:List Bool)(hst:st.length=l.length)(x:aa6)(hx:hg6 l x):PC Tryz.prog EE 260 [.agg x.cs,.ab9 (an1 l st)] (.bool !(x.tr l st)):=by
 refine ae6 hE fok260 (nZ rfl) (ah9 (ah2 _) (dx3 l st)) ?_;have h:=hx st hst;simp only[ic260,go_sem,ae3,af1,ad8,ab8,ab6,ab1]
 first|refine aa3 fok190 (h) ?_|refine aa7 (h) ?_
 simp only[go_sem];exact ab5 rfl
theorem it9 (l:List aa2)(st:List Bool)(hst:st.length=l.length)(k:Int)(d:Dep)(xs:List aa6)(hn:xs.length<2^62)(hx:∀ x∈xs,hg6 l x):PC Tryz.prog EE 232 [.agg (an1 l st),.agg (aa6.mk k d xs).cs] (.bool ((aa6.trs l xs).all fun f=>f st)):=by
 refine ae6 hE fok232 (nZ rfl) (ah9 (ao1 l st) (ah2 _)) ?_;have h:=bk3 xs 260 [] [.ab9 (an1 l st)] (fun x=>!(x.tr l st)) hn fok260.1 fun x hm=>jg5 l st hst x (hx x hm)
 have e:(aa6.trs l xs).all (fun f=>f st)=!xs.any fun x=>!(x.tr l st):=by
  rw[aa6.bh2,List.all_map,z3];congr 1; funext x; simp
 have h7:=ab1 (.mk k d xs);rw[e];simp only[ic232,go_sem,ae3,ad8,ab8,h7,ba4];refine aa3 fok155 (h) ?_;simp only[go_sem];exact ab5 rfl
theorem jw2 (l:List aa2)(st:List Bool)(hst:st.length=l.length)(k:Int)(d:Dep)(xs:List aa6)(hn:xs.length<2^62)(hx:∀ x∈xs,hg6 l x):PC Tryz.prog EE 233 [.agg (an1 l st),.agg (aa6.mk k d xs).cs] (.bool ((aa6.trs l xs).any fun f=>f st)):=by
 refine ae6 hE fok233 (nZ rfl) (ah9 (ao1 l st) (ah2 _)) ?_;have h:=bk3 xs 190 [.agg (an1 l st)] [] (fun x=>x.tr l st) hn fok190.1 fun x hm=>hx x hm st hst
 have e:(aa6.trs l xs).any (fun f=>f st)=xs.any fun x=>x.tr l st:=by
  rw[aa6.bh2,List.any_map]; rfl
 have h7:=ab1 (.mk k d xs);rw[e];simp only[ic233,go_sem,ae3,ad8,af1,ab8,h7,ba4];refine aa3 fok155 (h) ?_;simp only[go_sem];exact ab5 rfl
theorem er6 {l:List aa2}{xs:List aa6}{n:Nat}(h:n<xs.length)(st:List Bool):((aa6.trs l xs).getD n ff) st=(xs[n]).tr l st:=by rw[aa6.bh2]; simp[za,h]
theorem hg8 (l:List aa2)(xs:List aa6):(aa6.trs l xs).length=xs.length:=by rw[aa6.bh2,zb]
theorem jw3 (l:List aa2)(st:List Bool)(hst:st.length=l.length)(k:Int)(d:Dep)(xs:List aa6)(hn:2<=xs.length)(hx:∀ x∈xs,hg6 l x):PC Tryz.prog EE 234 [.agg (an1 l st),.agg (aa6.mk k d xs).cs]
  (.bool (if ((aa6.trs l xs).getD 1 ff) st then ((aa6.trs l xs).getD 0 ff) st else decide ((aa6.trs l xs).length<3)||((aa6.trs l xs).getD 2 ff) st)):=by
 refine ae6 hE fok234 (nZ rfl) (ah9 (ao1 l st) (ah2 _)) ?_;have n0:0<xs.length:=om
 have n1:1<xs.length:=om
 have h0:=hx _ (zd n0) st hst;have h1:=hx _ (zd n1) st hst;have g0:=dl4 n0;have g1:=dl4 n1;have c0:(0:Int)<xs.length:=om
 have c1:(1:Int)<xs.length:=om
 have h7:=ab1 (.mk k d xs);rw[er6 n1,er6 n0,hg8];simp only[ic234,go_sem,ae3,ad8,af1,ab8,h7,ba4,c0,c1,g0,g1,ab6,ab1]
 first|refine aa3 fok190 (h1) ?_|refine aa7 (h1) ?_
 cases xs[1].tr l st with
 | true=>
  simp only[go_sem,ae3,ad8,af1,ab8,h7,ba4,c0,c1,g0,g1,ab6,ab1]
  first|refine aa3 fok190 (h0) ?_|refine aa7 (h0) ?_
  simp only[go_sem]
  exact ab5 rfl
 | false=>
  by_cases q:xs.length<3
  ·have q':(xs.length:Int)<3:=om
   simp only[go_sem,ae3,ad8,af1,ab8,h7,ba4,q'];exact ab5 (by simp[q])
  ·have q':¬ (xs.length:Int)<3:=om
   have n2:2<xs.length:=om
   have h2:=hx _ (zd n2) st hst;have g2:=dl4 n2;have c2:(2:Int)<xs.length:=om
   rw[er6 n2];simp only[go_sem,ae3,ad8,af1,ab8,h7,ba4,q',c2,g2,ab6,ab1]
   first|refine aa3 fok190 (h2) ?_|refine aa7 (h2) ?_
   simp only[go_sem];exact ab5 (by simp[q])
theorem hg9 (l:List aa2)(st:List Bool)(hst:st.length=l.length)(k:Int)(d:Dep)(xs:List aa6)(hn:2<=xs.length)(hn2:xs.length<2^31)(hx:∀ x∈xs,hg6 l x):PC Tryz.prog EE 235 [.agg (an1 l st),.agg (aa6.mk k d xs).cs]
  (.bool (if ((aa6.trs l xs).getD 1 ff) st then decide ((aa6.trs l xs).length=3)&&((aa6.trs l xs).getD 2 ff) st else ((aa6.trs l xs).getD 0 ff) st)):=by
 refine ae6 hE fok235 (nZ rfl) (ah9 (ao1 l st) (ah2 _)) ?_;have n0:0<xs.length:=om
 have n1:1<xs.length:=om
 have h0:=hx _ (zd n0) st hst;have h1:=hx _ (zd n1) st hst;have g0:=dl4 n0;have g1:=dl4 n1;have c0:(0:Int)<xs.length:=om
 have c1:(1:Int)<xs.length:=om
 have h7:=ab1 (.mk k d xs);rw[er6 n1,er6 n0,hg8];simp only[ic235,go_sem,ae3,ad8,af1,ab8,h7,ba4,c0,c1,g0,g1,ab6,ab1]
 first|refine aa3 fok190 (h1) ?_|refine aa7 (h1) ?_
 cases xs[1].tr l st with
 | false=>
  simp only[go_sem,ae3,ad8,af1,ab8,h7,ba4,c0,c1,g0,g1,ab6,ab1]
  first|refine aa3 fok190 (h0) ?_|refine aa7 (h0) ?_
  simp only[go_sem]
  exact ab5 rfl
 | true=>
  by_cases q:xs.length=3
  ·have q':(xs.length:Int)=3:=om
   have n2:2<xs.length:=om
   have h2:=hx _ (zd n2) st hst;have g2:=dl4 n2;have c2:(2:Int)<3:=om
   rw[er6 n2];simp only[go_sem,ae3,ad8,af1,ab8,h7,ba4,q',c2,g2,ab6,ab1]
   first|refine aa3 fok190 (h2) ?_|refine aa7 (h2) ?_
   simp only[go_sem];exact ab5 (by simp[q])
  ·have q':¬ (xs.length:Int)=3:=om
   simp only[go_sem,ae3,ad8,af1,ab8,h7,ba4,q'];exact ab5 (by simp[q])
end Go.Id.Tryz
namespace Go.Id.Tryz
open Go Go.Id Go.Proofs Go.Shelf Go.Id.Md
abbrev IsA (p:aa2)(r:aa6):Prop:=PC Tryz.prog EE 209 [.agg p.cs,.agg r.cs] (.bool (r.alone p))
theorem er7 (p:aa2)(x:aa6)(hx:IsA p x):PC Tryz.prog EE 246 [.agg x.cs,.ab9 p.cs] (.bool (x.alone p)):=by
 refine ae6 hE fok246 (nZ rfl) (ah9 (ah2 _) (.ab9 _ (av1 p))) ?_;simp only[ic246,go_sem,af6,af4,ac9,ab8,ab6,ab1];refine aa3 fok209 (hx) ?_;simp only[go_sem];exact ab5 rfl
theorem er8 (p:aa2)(x:aa6)(hx:IsA p x):PC Tryz.prog EE 247 [.agg x.cs,.ab9 p.cs] (.bool !(x.alone p)):=by
 refine ae6 hE fok247 (nZ rfl) (ah9 (ah2 _) (.ab9 _ (av1 p))) ?_;simp only[ic247,go_sem,af6,af4,ac9,ab8,ab6,ab1];refine aa3 fok209 (hx) ?_;simp only[go_sem];exact ab5 rfl
theorem im1 (p:aa2)(hp:Pkg.small p)(wh:Int)(r:aa6):r.ak7 wh true=true->r.fit->IsA p r:=by
 induction r using aa6.ind with
 | h k d xs ih=>
  intro hf hfit;simp only[aa6.ak7,z0,aa6.ap5,List.all_eq_true,Bool.true_or] at hf;obtain ⟨h1,h2⟩:=hf;obtain ⟨f1,f2,f3,f4,f5⟩:=aa6.by6.1 hfit;have hx:∀ x∈xs,IsA p x:=fun x hx=>ih x hx (h2 x hx) (f5 x hx)
  have cY:=bk3 xs 246 [] [.ab9 p.cs] (fun x=>x.alone p) om fok246.1 fun x hm=>er7 p x (hx x hm)
  have cN:=bk3 xs 247 [] [.ab9 p.cs] (fun x=>!(x.alone p)) om fok247.1 fun x hm=>er8 p x (hx x hm)
  have h7:=ab1 (.mk k d xs)
  have eA:(aa6.mk k d xs).alone p=du7 p k d (xs.map fun r=>r.alone p):=by
   show du7 _ _ _ _=_;rw[aa6.du8]
  unfold IsA;rw[eA];refine ae6 hE fok209 (nZ rfl) (ah9 (ao6 p) (ah2 _)) ?_;unfold du7;have n31:¬ (3:Int)=1:=by decide
  have n71:¬ (7:Int)=1:=by decide
  have n73:¬ (7:Int)=3:=by decide
  unfold bh3 at h1;by_cases e1:k=1
  ·rw[if_pos e1] at h1;simp only[z0,decide_eq_true_eq] at h1;have hP:=dh7 p d hp (dj1 h1.2);rw[if_pos e1];simp only[ic209,go_sem,af6,af4,ac9,ab8,ab6,ab1,ax5,jg3,hg7,e1];refine aa3 fok186 (hP) ?_;simp only[go_sem];exact ab5 rfl
  rw[if_neg e1] at h1 ⊢;by_cases e3:k=3
  ·rw[if_pos e3];simp only[ic209,go_sem,af6,af4,ac9,ab8,ab6,ab1,ax5,ba4,e3,n31];refine aa3 fok155 (cY) ?_;simp only[go_sem];exact ab5 (by rw[List.any_map]; rfl)
  rw[if_neg e3];by_cases e7:k=7
  ·have hn:xs.length=2:=by
    simp[e7] at h1;exact h1.1
   have n0:0<xs.length:=om
   have n1:1<xs.length:=om
   have q0:=er7 p _ (hx _ (zd n0));have q1:=er8 p _ (hx _ (zd n1));have g0:=dl4 n0;have g1:=dl4 n1;have c0:(0:Int)<xs.length:=om
   have c1:(1:Int)<xs.length:=om
   have m0:(xs.map fun r=>r.alone p).getD 0 false=xs[0].alone p:=by simp[za,n0]
   have m1:(xs.map fun r=>r.alone p).getD 1 false=xs[1].alone p:=by simp[za,n1]
   rw[if_pos e7,m0,m1];simp only[ic209,go_sem,af6,af4,ac9,ab8,ab6,ab1,ax5,ba4,e7,n71,n73,c0,c1,g0,g1];refine ct3 fok246.1 q0 ?_
   cases xs[0].alone p with
   | false=>simp only[go_sem]; exact ab5 rfl
   | true=>
    simp only[go_sem,ab8,ab6,ab1,ba4,c0,c1,g0,g1];refine ct3 fok247.1 q1 ?_;simp only[go_sem];exact ab5 rfl
  rw[if_neg e7];simp only[ic209,go_sem,af6,af4,ac9,ab8,ab6,ab1,ax5,ba4,e1,e3,e7];refine aa3 fok155 (cN) ?_;simp only[go_sem];refine ab5 ?_;rw[List.all_map,z3];congr 2; funext x; simp
end Go.Id.Tryz
namespace Go.Id.Tryz
open Go Go.Id Go.Proofs Go.Shelf Go.Id.Md
theorem kv5 (l:List aa2){i:Nat}(h:i<l.length):((l.map aa2.cs).flatten.drop (i*15)).take 15=(l.getD i default).cs/\15<=((l.map aa2.cs).flatten.drop (i*15)).length:=by
 have hl:∀ e∈l.map aa2.cs,e.length=15:=fun e he=>(ax2 _ e he).1
 have h1:=aw3 hl i (by rw[zb]; exact h);have h2:=at6 hl;refine ⟨by rw[h1]; simp[za,h],?_⟩;rw[List.length_drop,h2,zb]; omega
theorem ar7 {σ s:Store}(hk:Kept σ s)(tp mid:Nat)(clv:IV):be2 σ s tp mid clv clv:=⟨hk.next,fun i hi _ _ _=>hk.obj i hi,.inl rfl⟩
variable (l:List aa2) (hl:l.length<=100) (hs:∀ p∈l,Pkg.small p) (b:Int)
include hl
theorem di9 {q:aa2->Bool}:(cu9 (numsOf q l) b).length<=100/\∀ x∈cu9 (numsOf q l) b,0<=x/\x<100:=by
 have h1:=dg3 (numsOf q l) b;have h2:=ae8 q l;exact ⟨om,fun x hx=>by have:=gt2 x hx; omega⟩
include hs
theorem jv6 (d:Dep)(hd:aj9 d=true)(σ:Store)(tp mid:Nat)(allv clv:IV)(t:ah6)(h:aq8 σ tp mid (ad7 l).v allv clv l t)(ht:t.h<2^20)(hf:t.few) :
  C Tryz.prog EE 165 [.ptr tp 0,.agg (aa6.mk 1 d []).cs,.int .i64 b] σ (ed7 σ tp mid (ad7 l).v allv clv l (fi3 l.length (cu9 (ae9 l d) b) t)):=by
 refine hy8 fok165 (nZ rfl) ?_;have hc:=h.cell;have xlf:(ad7 l).v.leaf=true:=rfl;have xcs:(ad7 l).v.cs=[(ad7 l).v]:=rfl;have hP:=fun σ=>dl3 l d om hs (dj1 hd) σ
 have hln:=ae8 (fun p=>provides p d) l;simp only[ic165,go_sem,ab1];refine ae1 (ag9 ?_);simp only[go_sem,ab1];refine ae1 (ff8 ?_);generalize (ad7 l).v=X at *;simp only[go_sem,hc,xlf,xcs,ab8,jg3,hg7];refine ac5 fok139 (hP _) ?_;rintro v s ⟨hk,hr⟩;refine ⟨hk.next,?_⟩;simp only[go_sem];refine ac5 fok204 (er3 b (by unfold ae9; omega) hr.w) ?_;rintro v2 s2 ⟨⟨k1,k2⟩,hr2⟩;refine ⟨k1,?_⟩;simp only[go_sem];have hkn:σ.next<=s.next:=hk.low.next;have hK:Kept σ s2:=⟨Nat.le_trans hkn k1,fun i hi=>by rw[k2 i (by show i<σ.next+_; omega) om,hk.low.obj i hi]⟩;have hr3:ch8 s2 σ.next v2 (cu9 (ae9 l d) b):=hr2.low (by show σ.next<=min (σ.next+_) s.next; omega);refine ac5 fok203 (hf4 (σ:=σ) (h.mono hK.next hK.obj) (ar7 hK _ _ _) hr3 (zc _) (tab_late h hr3) fun K hK2=>jw1 _ (di9 l hl b).1 (di9 l hl b).2 K tp mid X allv clv l t hK2 om ht hf) ?_;rintro v' u ⟨h1,rfl,clv',hT2,hM2⟩;refine ⟨h1,?_⟩;simp only[go_sem];refine ag9 ?_;simp only[go_sem];exact ⟨rfl,clv',hT2,hM2⟩
theorem he5 (r:aa6)(hr:r.ak7 1 true=true)(hfit:r.fit)(σ:Store)(tp mid:Nat)(xv allv clv:IV)(t:ah6)(h:aq8 σ tp mid xv allv clv l t)(ht:t.h<2^20)(hf:t.few) :
  C Tryz.prog EE 170 [.ptr tp 0,.agg r.cs,.int .i64 b] σ (ed7 σ tp mid xv allv clv l (fi3 l.length (cu9 (numsOf (fun p=>r.alone p) l) b) t)):=by
 refine C_f fok170 (nZ rfl) ?_;have hc:=h.cell
 have hla:∀ s,cc5 0 s allv=zg (.int .i64 l.length):=fun s=>by
  have:=bx8 (s':=s) h.all;rw[zb] at this; exact this
 simp only[ic170,go_sem,ab1,ab8,hc,hla];have hqn:numsOf (fun p=>r.alone p) l=ba7 (fun n=>r.alone (l.getD n default)) l.length:=rfl;rw[hqn];generalize hqq:(fun n:Nat=>r.alone (l.getD n default))=qq;have hqv:∀ n,qq n=r.alone (l.getD n default):=fun n=>by rw[<- hqq]
 refine ab3 noT (fun i fr s=>∃ gv,fr=[(0,.ptr tp 0),(2,.int .i64 b),(4,.ab9 r.cs),(7,gv),(13,allv),(14,.int .i64 l.length),(15,.int .i64 (i:Int))]/\Kept σ s/\al2 s σ.next gv (ba7 qq i)) l.length ⟨.aa1,rfl,Kept.refl σ,.inl ⟨rfl,rfl⟩⟩ ?_;rintro i fr s hle ⟨gv,rfl,hk,hg⟩;by_cases hlt:i<l.length
 ·have c1:(i:Int)<l.length:=om
  have c2:(0:Int)<=(i:Int):=om
  have wi:=ad1 (i:=i) om;obtain ⟨r1,r2⟩:=kv5 l hlt
  have hpm:l.getD i default∈l:=by
   rw[za,zj hlt]; exact zd hlt
  have hA:=im1 (l.getD i default) (hs _ hpm) 1 r hr hfit;unfold IsA at hA;rw[<- hqv] at hA
  obtain ⟨ga,hga,hgo,hgl⟩:∃ ga,allv=.slice ga 0 l.length 15/\s.obj ga=zg (.row (l.map aa2.cs).flatten)/\ga<s.next:=by
   rcases (h.mono hk.next hk.obj).all with ⟨_,h1⟩|⟨ga,h1,h2,h3⟩
   ·have:=congrArg List.length h1; rw[zb,zo] at this; omega
   ·exact ⟨ga,by rw[h1,zb],h2,h3⟩
  subst hga;have hsn:=cr2 qq i;have hln:=aw6 qq i;generalize l.getD i default=p at *;simp only[go_sem,c1,c2,hgo,r1,r2,Nat.zero_add,Int.toNat_natCast,af6,af4,ac9,ab8,ab6,ab1];refine aa3 fok209 (hA) ?_
  cases hq:qq i with
  | false=>
   rw[hq,if_neg (by simp),z1] at hsn;simp only[go_sem,wi]
   exact ⟨hlt,gv,rfl,hk.trans (Kept.box s _ _),by rw[hsn]; exact hg.kept (Kept.box s _ _)⟩
  | true=>
   rw[hq,if_pos rfl] at hsn;simp only[go_sem];rw[bd5 (s:=⟨s.next+1+1,_⟩) (lo:=σ.next) (zs:=ba7 qq i) ((hg.kept (Kept.box s _ _)).up 1) (i:Int) om];simp only[go_sem,wi];have hz:=bf4 (hk.trans (Kept.box s (.cells [.str [],.int .i64 0,.str [],.str [],.int .u8 0,.str [],.aa1,.aa1,.aa1,.aa1,.aa1,.aa1,.aa1,.aa1,.aa1]) (.cells p.cs))) (hg.kept (Kept.box s _ _)) (i:Int) (a:=1) (nid:=s.next+1) (zc _) (zh _) rfl;rw[hsn];exact ⟨hlt,_,rfl,hz.1,hz.2⟩
 ·have hi':i=l.length:=om
  subst hi';have c1:¬ (l.length:Int)<l.length:=om
  have hln:=aw6 qq l.length;simp only[go_sem,c1];refine ac5 fok204 (er3 b om hg.w) ?_;rintro v2 s2 ⟨⟨k1,k2⟩,hr2⟩;refine ⟨k1,?_⟩;simp only[go_sem];have hkn:=hk.next;have hK:Kept σ s2:=⟨Nat.le_trans hkn k1,fun i hi=>by rw[k2 i hi om,hk.obj i hi]⟩;have hr3:ch8 s2 σ.next v2 (cu9 (ba7 qq l.length) b):=hr2.low om;have hb:=di9 (q:=fun p=>r.alone p) l hl b;rw[hqn,hqq] at hb;refine ac5 fok203 (hf4 (σ:=σ) (h.mono hK.next hK.obj) (ar7 hK _ _ _) hr3 (zc _) (tab_late h hr3) fun K hK2=>jw1 _ hb.1 hb.2 K tp mid xv allv clv l t hK2 om ht hf) ?_;rintro v' u ⟨h1,rfl,clv',hT2,hM2⟩;refine ⟨h1,?_⟩;simp only[go_sem];exact ⟨rfl,clv',hT2,hM2⟩
end Go.Id.Tryz
namespace Go.Id.Tryz
open Go Go.Id Go.Proofs Go.Shelf Go.Id.Md
def kg8 (l:List aa2)(b:Int)(r:aa6):Prop:=∀ (σ:Store) (tp mid:Nat) (allv clv:IV) (t:ah6),aq8 σ tp mid (ad7 l).v allv clv l t->t.OK l.length->t.few->t.h+r.count<=2^20 ->
 C Tryz.prog EE 125 [.ptr tp 0,.agg r.cs,.int .i64 b] σ (ed7 σ tp mid (ad7 l).v allv clv l (r.bp2 l b t))
def kg9 (σ:Store)(tp mid:Nat)(xv allv clv:IV)(P:List aa2)(r:List Int×ah6)(v:IV)(s:Store):Prop :=
 ∃ clv',be2 σ s tp mid clv clv'/\aq8 s tp mid xv allv clv' P r.2/\al2 s σ.next v r.1/\(∀ i k l,clv'=.slice i 0 k 1->v≠.slice i 0 l 1)/\(∀ i k l,allv=.slice i 0 k 15->v≠.slice i 0 l 1)
variable (l:List aa2) (hl:l.length<=100) (b:Int)
include hl
theorem fl8 (k:Int)(d:Dep)(xs:List aa6)(hL:∀ a∈xs,kg8 l b a)(hfa:∀ a∈xs,a.ak7 1 false=true\/a.ak7 1 true=true)(hcn:aa6.counts xs<=100)(σ:Store)(tp mid:Nat)(allv clv:IV)(t:ah6)
  (h:aq8 σ tp mid (ad7 l).v allv clv l t) (ho:t.OK l.length) (hf:t.few) (hh:t.h+aa6.counts xs<=2^20) :
  C Tryz.prog EE 206 [.ptr tp 0,.agg (aa6.mk k d xs).cs,.int .i64 b] σ (kg9 σ tp mid (ad7 l).v allv clv l (aa6.ak8 l b xs t)):=by
 refine C_f fok206 (nZ rfl) ?_;have hal:=aa6.bw7 xs;simp only[ic206,go_sem,ab1,ba4]
 refine ab3 noT (fun i fr s=>∃ gv,fr=[(0,.ptr tp 0),(2,.int .i64 b),(7,gv),(11,.aa4 (xs.map aa6.cs)),(12,.int .i64 xs.length),(13,.int .i64 (i:Int))]/\kg9 σ tp mid (ad7 l).v allv clv l (aa6.ak8 l b (xs.take i) t) gv s) xs.length
  ⟨.aa1,rfl,clv,be2.refl _ _ _ _,h,.inl ⟨rfl,rfl⟩,fun _ _ _ _ e=>(by cases e),fun _ _ _ _ e=>(by cases e)⟩ ?_
 rintro i fr s hle ⟨gv,rfl,clv',hT,hM,hg,hne,hna⟩;by_cases hlt:i<xs.length
 ·obtain ⟨a,ha,hai,hdr,hget,htk⟩:=ad6 xs i hlt;have c1:(i:Int)<xs.length:=om
  have c2:(0:Int)<=(i:Int):=om
  have wi:=ad1 (i:=i) om;have hct:=ey3 xs i hlt;have hxi:xs[i]=a:=by rw[zj hlt] at hai; exact zg.inj hai
  rw[hxi] at hct;have hsub:∀ x∈xs.take i,x∈xs:=fun x hx=>List.mem_of_mem_take hx
  have hK:=eo4 l hl b (xs.take i) (fun x hx=>hfa x (hsub x hx)) t ho;have hFw:=fi8 l hl b (xs.take i) (fun x hx=>by have:=aa6.bd1 (hsub x hx); omega) t hf;have hll:=cz5 l b (xs.take i) t;have hsn:=gt7 l b a (xs.take i) t;rw[<- htk] at hsn;have hh2:=hK.le.2;obtain ⟨hO2,_⟩:=hK.ok;have hlen:(aa6.ak8 l b (xs.take i) t).1.length<=i:=by rw[hll,zf]; omega
  generalize aa6.ak8 l b (xs.take i) t=w at *;simp only[go_sem,c1,c2,hget,ab8,ab6,ab1];have hKb:∀ A B:aj5,Kept s ⟨s.next+1+1,(((⟨s.next+1,s.obj⟩:Store).put s.next A).put s.next B).obj⟩:=fun A B=>(Kept.box s A B).up 1
  refine ac5 fok125 (hL a ha _ tp mid allv clv' _ (hM.mono (hKb _ _).next (hKb _ _).obj) hO2 hFw om) ?_;rintro v u ⟨rfl,clv2,hT2,hM2⟩;refine ⟨hT2.next,?_⟩;have hT3:be2 s u tp mid clv' clv2:=(ar7 (hKb (.cells [.int .u8 0,.str [],.int .u8 0,.int .i64 0,.str [],.str [],.aa1]) (.cells a.cs)) tp mid clv').trans hT2;have hg2:=hT3.kj1 hM hg hne;have hnx:s.next+1+1<=u.next:=hT2.next;have hnew:=hT2.new
  have hgs:∀ i m,gv=.slice i 0 m 1->i<s.next:=fun i m e=>by
   rcases hg with ⟨h0,_⟩|⟨j,_,hj,h0,_⟩
   ·rw[h0] at e; cases e
   ·rw[h0] at e; cases e; exact hj
  have hne2:∀ i k m,clv2=.slice i 0 k 1->gv≠.slice i 0 m 1:=fun i k m e e2=>by
   have h1:=hgs i m e2;rcases hnew with h3|h3
   ·exact hne i k m (by rw[<- h3]; exact e) e2
   ·have h4:s.next+1+1<=i:=h3 i k e;omega
  have hfree:=hM.free (i:=s.next+1) om;have hap:=bd5 (nid:=s.next+1) hg2 (a.bp2 l b w.2).1 om
  obtain ⟨q1,q2,q3,q4,q5⟩:=tab_row2 (nid:=s.next+1) hM2 hg2 hne2 hna (a.bp2 l b w.2).1 (by have:=hT.next; omega) om ⟨hfree.1,hfree.2.1,fun k e=>by
   rcases hnew with h3|h3
   ·exact hfree.2.2.1 k (by rw[<- h3]; exact e)
   ·have h4:s.next+1+1<=s.next+1:=h3 _ k e;omega,hfree.2.2.2⟩ rfl
  simp only[go_sem,hap,wi];refine ⟨hlt,_,rfl,clv2,q2 σ clv (hT.trans hT3) (zc _),?_,?_,q4,q5⟩
  ·rw[hsn]; exact q1
  ·rw[hsn]; exact q3
 ·have hi':i=xs.length:=om
  subst hi';have c1:¬ (xs.length:Int)<xs.length:=om
  rw[zr] at hM hg;simp only[go_sem,c1];exact ⟨clv',hT,hM,hg,hne,hna⟩
end Go.Id.Tryz
namespace Go.Id.Tryz
open Go Go.Id Go.Proofs Go.Shelf Go.Id.Md
theorem fl9 {zs:List Int}(h:zs.length=2):∃ x y,zs=[x,y]:=by
 match zs,h with
 | [x,y],_=>exact ⟨x,y,rfl⟩
theorem dx1 {zs:List Int}(h:zs.length=3):∃ x y z,zs=[x,y,z]:=by
 match zs,h with
 | [x,y,z],_=>exact ⟨x,y,z,rfl⟩
variable (l:List aa2) (hl:l.length<=100) (b:Int)
theorem fm1 {σ s:Store}{tp mid g:Nat}{xv allv clv v:IV}{w:List Int×ah6}{r:Int×ah6}(h:kg9 σ tp mid xv allv clv l w v s)
  (hg:∀ K clv',aq8 K tp mid xv allv clv' l w.2->C Tryz.prog EE g [.ptr tp 0,.aa4 (w.1.map Md.ad9)] K (ed7 K tp mid xv allv clv' l r)):C Tryz.prog EE g [.ptr tp 0,v] s (fun v' u=>s.next<=u.next/\ed7 σ tp mid xv allv clv l r v' u):=by
 obtain ⟨clv',h1,h2,h3,h4,h5⟩:=h;exact hf4 h2 h1 h3.w (zc _) ⟨h4,h5⟩ fun K hK=>hg K clv' hK
structure ge5 (l:List aa2) (b:Int) (xs:List aa6) (t:ah6):Prop where
 lit:∀ a∈xs,kg8 l b a
 fits:∀ a∈xs,a.ak7 1 false=true\/a.ak7 1 true=true
 few:aa6.counts xs<=99
 ok:t.OK l.length
 jv8:t.few
 le:t.h+(aa6.counts xs+1)<=2^20
include hl
theorem cg9 {xs:List aa6}{t:ah6}(h:ge5 l b xs t):(aa6.ak8 l b xs t).2.few/\(aa6.ak8 l b xs t).2.h<2^20/\(aa6.ak8 l b xs t).1.length=xs.length/\xs.length<=99/\∀ x∈(aa6.ak8 l b xs t).1,-(2^30)<=x/\x<=2^30:=by
 have h1:=eo4 l hl b xs h.fits t h.ok;have h2:=fi8 l hl b xs (fun x hx=>by have:=aa6.bd1 hx; have:=h.few; omega) t h.jv8;have h3:=h1.le.2;have h4:=h.le;have h5:=aa6.bw7 xs;have h6:=h.few;refine ⟨h2,om,cz5 l b xs t,om,fun x hx=>?_⟩;have:=h1.ok.2 x hx;exact ⟨by have:=this.2.1; omega,by have:=this.2.2; omega⟩
theorem kh1 (k:Int)(d:Dep)(xs:List aa6)(σ:Store)(tp mid:Nat)(allv clv:IV)(t:ah6)(h:aq8 σ tp mid (ad7 l).v allv clv l t)(hp:ge5 l b xs t) :
  C Tryz.prog EE 166 [.ptr tp 0,.agg (aa6.mk k d xs).cs,.int .i64 b] σ (ed7 σ tp mid (ad7 l).v allv clv l (cf5 l.length (aa6.ak8 l b xs t).1 (aa6.ak8 l b xs t).2)):=by
 refine C_f fok166 (nZ rfl) ?_;obtain ⟨p1,p2,p3,p4,p5⟩:=cg9 l hl b hp;simp only[ic166,go_sem,ab1,ab8,ab6];refine ac5 fok206 (fl8 l hl b k d xs hp.lit hp.fits (by have:=hp.few; omega) _ tp mid allv clv t h hp.ok hp.jv8 (by have:=hp.le; omega)) ?_;rintro v s hL;refine ⟨by obtain ⟨_,h1,_⟩:=hL; exact h1.next,?_⟩;simp only[go_sem];refine ac5 fok205 (fm1 l hL fun K clv' hK=>hf5 _ om (fun x hx=>by have:=p5 x hx; omega) K tp mid _ allv clv' l _ hK om p2 p1) ?_;rintro v' u ⟨h1,h2⟩;refine ⟨h1,?_⟩;simp only[go_sem];exact h2
theorem kv6 (k:Int)(d:Dep)(xs:List aa6)(σ:Store)(tp mid:Nat)(allv clv:IV)(t:ah6)(h:aq8 σ tp mid (ad7 l).v allv clv l t)(hp:ge5 l b xs t) :
  C Tryz.prog EE 167 [.ptr tp 0,.agg (aa6.mk k d xs).cs,.int .i64 b] σ (ed7 σ tp mid (ad7 l).v allv clv l (ak3 l.length (aa6.ak8 l b xs t).1 (aa6.ak8 l b xs t).2)):=by
 refine C_f fok167 (nZ rfl) ?_;obtain ⟨p1,p2,p3,p4,p5⟩:=cg9 l hl b hp;simp only[ic167,go_sem,ab1,ab8,ab6];refine ac5 fok206 (fl8 l hl b k d xs hp.lit hp.fits (by have:=hp.few; omega) _ tp mid allv clv t h hp.ok hp.jv8 (by have:=hp.le; omega)) ?_;rintro v s hL;refine ⟨by obtain ⟨_,h1,_⟩:=hL; exact h1.next,?_⟩;simp only[go_sem];refine ac5 fok207 (fm1 l hL fun K clv' hK=>da3 _ om (fun x hx=>by have:=p5 x hx; omega) K tp mid _ allv clv' l _ hK om p2 p1) ?_;rintro v' u ⟨h1,h2⟩;refine ⟨h1,?_⟩;simp only[go_sem];exact h2
theorem jv7 (k:Int)(d:Dep)(xs:List aa6)(hx:xs.length=2\/xs.length=3)(σ:Store)(tp mid:Nat)(allv clv:IV)(t:ah6)(h:aq8 σ tp mid (ad7 l).v allv clv l t)(hp:ge5 l b xs t) :
  C Tryz.prog EE 168 [.ptr tp 0,.agg (aa6.mk k d xs).cs,.int .i64 b] σ (ed7 σ tp mid (ad7 l).v allv clv l (gb5 l.length 4 (aa6.ak8 l b xs t).1 (aa6.ak8 l b xs t).2)):=by
 refine C_f fok168 (nZ rfl) ?_;obtain ⟨p1,p2,p3,p4,p5⟩:=cg9 l hl b hp;simp only[ic168,go_sem,ab1,ab8,ab6];refine ac5 fok206 (fl8 l hl b k d xs hp.lit hp.fits (by have:=hp.few; omega) _ tp mid allv clv t h hp.ok hp.jv8 (by have:=hp.le; omega)) ?_;rintro v s ⟨clv',hT,hM,hr,hne,hna⟩;refine ⟨hT.next,?_⟩;generalize aa6.ak8 l b xs t=w at *;obtain ⟨zs,t2⟩:=w;simp only at *;obtain ⟨id,rfl,hob⟩:=gt8 hr om;rcases hx with hx|hx
 ·obtain ⟨x,y,rfl⟩:=fl9 (p3.trans hx);have hy:=p5 y (by simp);have hxx:=p5 x (by simp);have n23:¬ (2:Int)=3:=by decide
  have wy:IntKind.wrap .i64 (0-y)=-y:=by rw[wrap64 om om]; omega
  have e:gb5 l.length 4 [x,y] t2=ak3 l.length [x,-y] t2:=rfl;rw[e];simp only[go_sem,hob,zx,zv,zm,zo,wy,n23]
  refine ac5 fok207 (da3 [x,-y] (by simp) (fun z hz=>by
   simp only[zw,zy,or_false] at hz;rcases hz with rfl|rfl<;>omega) _ tp mid _ allv clv' l t2 (hM.up _) om p2 p1) ?_
  rintro v' u hO;refine ⟨by obtain ⟨_,_,h2,_⟩:=hO; exact h2.next,?_⟩;simp only[go_sem];exact hO.from (hT.up _)
 ·obtain ⟨x,y,z,rfl⟩:=dx1 (p3.trans hx);have hxx:=p5 x (by simp);have hy:=p5 y (by simp);have hz:=p5 z (by simp);have e:gb5 l.length 4 [x,y,z] t2=br5 l.length x z y t2:=rfl;rw[e];simp only[go_sem,hob,zx,zv,zm,zo];refine ac5 fok208 (fm3 x z y om om om _ tp mid _ allv clv' l t2 (hM.up _) om p2 p1) ?_;rintro v' u hO;refine ⟨by obtain ⟨_,_,h2,_⟩:=hO; exact h2.next,?_⟩;simp only[go_sem];exact hO.from (hT.up _)
theorem ik3 (k:Int)(d:Dep)(xs:List aa6)(hx:xs.length=2\/xs.length=3)(σ:Store)(tp mid:Nat)(allv clv:IV)(t:ah6)(h:aq8 σ tp mid (ad7 l).v allv clv l t)(hp:ge5 l b xs t) :
  C Tryz.prog EE 169 [.ptr tp 0,.agg (aa6.mk k d xs).cs,.int .i64 b] σ (ed7 σ tp mid (ad7 l).v allv clv l (gb5 l.length 5 (aa6.ak8 l b xs t).1 (aa6.ak8 l b xs t).2)):=by
 refine C_f fok169 (nZ rfl) ?_;obtain ⟨p1,p2,p3,p4,p5⟩:=cg9 l hl b hp;simp only[ic169,go_sem,ab1,ab8,ab6];refine ac5 fok206 (fl8 l hl b k d xs hp.lit hp.fits (by have:=hp.few; omega) _ tp mid allv clv t h hp.ok hp.jv8 (by have:=hp.le; omega)) ?_;rintro v s ⟨clv',hT,hM,hr,hne,hna⟩;refine ⟨hT.next,?_⟩;generalize aa6.ak8 l b xs t=w at *;obtain ⟨zs,t2⟩:=w;simp only at *;obtain ⟨id,rfl,hob⟩:=gt8 hr om;rcases hx with hx|hx
 ·obtain ⟨x,y,rfl⟩:=fl9 (p3.trans hx);have hy:=p5 y (by simp);have hxx:=p5 x (by simp);have n23:¬ (2:Int)=3:=by decide
  have wy:IntKind.wrap .i64 (0-y)=-y:=by rw[wrap64 om om]; omega
  have e:gb5 l.length 5 [x,y] t2=cf5 l.length [x,-y] t2:=rfl;rw[e];simp only[go_sem,hob,zx,zv,zm,zo,wy,n23]
  refine ac5 fok205 (hf5 [x,-y] (by simp) (fun z hz=>by
   simp only[zw,zy,or_false] at hz;rcases hz with rfl|rfl<;>omega) _ tp mid _ allv clv' l t2 (hM.up _) om p2 p1) ?_
  rintro v' u hO;refine ⟨by obtain ⟨_,_,h2,_⟩:=hO; exact h2.next,?_⟩;simp only[go_sem];exact hO.from (hT.up _)
 ·obtain ⟨x,y,z,rfl⟩:=dx1 (p3.trans hx);have hxx:=p5 x (by simp);have hy:=p5 y (by simp);have hz:=p5 z (by simp);have e:gb5 l.length 5 [x,y,z] t2=br5 l.length z x y t2:=rfl;rw[e];simp only[go_sem,hob,zx,zv,zm,zo];refine ac5 fok208 (fm3 z x y om om om _ tp mid _ allv clv' l t2 (hM.up _) om p2 p1) ?_;rintro v' u hO;refine ⟨by obtain ⟨_,_,h2,_⟩:=hO; exact h2.next,?_⟩;simp only[go_sem];exact hO.from (hT.up _)
end Go.Id.Tryz
namespace Go.Id.Tryz
open Go Go.Id Go.Proofs Go.Shelf Go.Id.Md
theorem kh2 (l:List aa2)(hl:l.length<=100)(hs:∀ p∈l,Pkg.small p)(b:Int)(r:aa6):r.ak7 1 false=true\/r.ak7 1 true=true->r.fit->r.count<=100->kg8 l b r:=by
 induction r using aa6.ind with
 | h k d xs ih=>
  intro hf hfit hcn σ tp mid allv clv t h ho hfw hh;simp only[aa6.count] at hcn hh;obtain ⟨h1,h2⟩:=eo5 hf;obtain ⟨f1,f2,f3,f4,f5⟩:=aa6.by6.1 hfit;have hp:ge5 l b xs t:=⟨fun a ha=>ih a ha (h2 a ha) (f5 a ha) (by have:=aa6.bd1 ha; omega),h2,om,ho,hfw,om⟩
  have eL:(aa6.mk k d xs).bp2 l b t=if k=1 then fi3 l.length (cu9 (ae9 l d) b) t
   else if k=6\/k=7 then fi3 l.length (cu9 (numsOf (fun p=>(aa6.mk k d xs).alone p) l) b) t
   else gb5 l.length k (aa6.ak8 l b xs t).1 (aa6.ak8 l b xs t).2:=by rw[aa6.bp2]
  rw[eL];refine C_f fok125 (nZ rfl) ?_;have hK:∀ A B:aj5,Kept σ ⟨σ.next+1+9,(((⟨σ.next+1,σ.obj⟩:Store).put σ.next A).put σ.next B).obj⟩:=fun A B=>(Kept.box σ A B).up 9
  rcases gc1 h1 with ⟨rfl,hn,hd⟩|rfl|rfl|⟨rfl,hn⟩|⟨rfl,hn⟩|rfl|rfl
  ·rw[if_pos rfl];have hx:xs=[]:=List.length_eq_zero_iff.1 hn;subst hx;simp only[ic125,go_sem,ab1,ab8,ab6,ax5];refine ⟨rfl,?_⟩;refine ac5 fok165 (jv6 l hl hs b d hd _ tp mid allv clv t (h.mono (hK _ _).next (hK _ _).obj) om hfw) ?_;rintro v u hO;refine ⟨by obtain ⟨_,_,g,_⟩:=hO; exact g.next,?_⟩;simp only[go_sem];exact hO.from (ar7 (hK _ _) _ _ _)
  ·rw[if_neg (by decide),if_neg (by decide),show gb5 l.length 2 _ _=cf5 l.length _ _ from rfl];simp only[ic125,go_sem,ab1,ab8,ab6,ax5];refine ⟨rfl,?_⟩;refine ac5 fok166 (kh1 l hl b 2 d xs _ tp mid allv clv t (h.mono (hK _ _).next (hK _ _).obj) hp) ?_;rintro v u hO;refine ⟨by obtain ⟨_,_,g,_⟩:=hO; exact g.next,?_⟩;simp only[go_sem];exact hO.from (ar7 (hK _ _) _ _ _)
  ·rw[if_neg (by decide),if_neg (by decide),show gb5 l.length 3 _ _=ak3 l.length _ _ from rfl];simp only[ic125,go_sem,ab1,ab8,ab6,ax5];refine ⟨rfl,?_⟩;refine ac5 fok167 (kv6 l hl b 3 d xs _ tp mid allv clv t (h.mono (hK _ _).next (hK _ _).obj) hp) ?_;rintro v u hO;refine ⟨by obtain ⟨_,_,g,_⟩:=hO; exact g.next,?_⟩;simp only[go_sem];exact hO.from (ar7 (hK _ _) _ _ _)
  ·rw[if_neg (by decide),if_neg (by decide)];simp only[ic125,go_sem,ab1,ab8,ab6,ax5];refine ⟨rfl,?_⟩;refine ac5 fok168 (jv7 l hl b 4 d xs hn _ tp mid allv clv t (h.mono (hK _ _).next (hK _ _).obj) hp) ?_;rintro v u hO;refine ⟨by obtain ⟨_,_,g,_⟩:=hO; exact g.next,?_⟩;simp only[go_sem];exact hO.from (ar7 (hK _ _) _ _ _)
  ·rw[if_neg (by decide),if_neg (by decide)];simp only[ic125,go_sem,ab1,ab8,ab6,ax5];refine ⟨rfl,?_⟩;refine ac5 fok169 (ik3 l hl b 5 d xs hn _ tp mid allv clv t (h.mono (hK _ _).next (hK _ _).obj) hp) ?_;rintro v u hO;refine ⟨by obtain ⟨_,_,g,_⟩:=hO; exact g.next,?_⟩;simp only[go_sem];exact hO.from (ar7 (hK _ _) _ _ _)
  ·rw[if_neg (by decide),if_pos (by decide)];simp only[ic125,go_sem,ab1,ab8,ab6,ax5];refine ⟨rfl,?_⟩;refine ac5 fok170 (he5 l hl hs b (.mk 6 d xs) (dv3 (by decide) hf) hfit _ tp mid _ allv clv t (h.mono (hK _ _).next (hK _ _).obj) om hfw) ?_;rintro v u hO;refine ⟨by obtain ⟨_,_,g,_⟩:=hO; exact g.next,?_⟩;simp only[go_sem];exact hO.from (ar7 (hK _ _) _ _ _)
  ·rw[if_neg (by decide),if_pos (by decide)];simp only[ic125,go_sem,ab1,ab8,ab6,ax5];refine ⟨rfl,?_⟩;refine ac5 fok170 (he5 l hl hs b (.mk 7 d xs) (dv3 (by decide) hf) hfit _ tp mid _ allv clv t (h.mono (hK _ _).next (hK _ _).obj) om hfw) ?_;rintro v u hO;refine ⟨by obtain ⟨_,_,g,_⟩:=hO; exact g.next,?_⟩;simp only[go_sem];exact hO.from (ar7 (hK _ _) _ _ _)
theorem it4 (l:List aa2)(hl:l.length<=100)(hs:∀ p∈l,Pkg.small p)(b:Int)(r:aa6)(hm:an8 r 1=0)(hfit:r.fit)(σ:Store)(tp mid:Nat)(allv clv:IV)(t:ah6)(h:aq8 σ tp mid (ad7 l).v allv clv l t)(ho:t.OK l.length)(hfw:t.few)(hh:t.h+r.count<=2^20) :
  C Tryz.prog EE 84 [.ptr tp 0,.agg r.cs,.int .i64 b] σ (fun v s=>∃ w,v=.tuple [w,.int .i64 0]/\ed7 σ tp mid (ad7 l).v allv clv l (r.bp2 l b t) w s):=by
 refine C_f fok84 (nZ rfl) ?_;obtain ⟨g1,g2,g3⟩:=bx2 hm (.inl rfl);have hM:=dg9 r 1 hfit om;have hC:=cf9 r hfit om;have hc:=h.cell;rw[hm] at hM;have w1:IntKind.wrap .i64 ((t.h:Int)+(r.count:Int))=((t.h+r.count:Nat):Int):=by rw[wrap64 om om]; omega
 have c1:¬ (1048576:Int)<((t.h+r.count:Nat):Int):=om
 simp only[ic84,go_sem,ab1,ab8,ab6];refine aa3 fok107 (hM) ?_;simp only[go_sem,hc,ab8,ab6,ab1]
 first|refine aa3 fok124 (hC) ?_|refine aa7 (hC) ?_
 simp only[go_sem,w1,c1,ab8,ab6,ab1];refine ac5 fok125 (kh2 l hl hs b r (.inl g1) hfit om _ tp mid allv clv t (h.up _) ho hfw hh) ?_;rintro v u hO;refine ⟨by obtain ⟨_,_,g,_⟩:=hO; exact g.next,?_⟩;simp only[go_sem];exact ⟨v,rfl,hO.from ((be2.refl σ tp mid clv).up _)⟩
end Go.Id.Tryz
namespace Go.Id.Tryz
open Go Go.Id Go.Proofs Go.Shelf Go.Id.Md
theorem jf4 (c n:Nat):stB c [(n:Int)]=ci1 c n:=by
 unfold stB ci1;refine z5 fun m _=>decide_eq_decide.2 ?_
 rw[List.mem_singleton]; omega
theorem ik4 (c n:Nat):(ci1 c n).length=c:=by simp[ci1]
theorem it5 (l:List aa2)(hl:l.length<=256)(st:List Bool)(hst:st.length=l.length)(g:Nat)(cap:List IV)(q:List Bool->Bool)(hok:okF Tryz.prog g=true)(hcap:∀ c∈cap,Bnd 0 c)
  (hq:∀ s2:List Bool,s2.length=l.length->PC Tryz.prog EE g (.agg (an1 l s2)::cap) (.bool (q s2))):PC Tryz.prog EE 261 [.agg (an1 l st),.func (.func g) [] cap] (.bool (gb1 st fun n=>q (ci1 st.length n))):=by
 have hbf:Bnd 0 (.func (.func g) [] cap):=.func _ _ _ (fun c hc=>by cases hc) hcap;refine ae6 hE fok261 (nZ rfl) (ah9 (ao1 l st) hbf) ?_;simp only[ic261,go_sem,ae3,ad8,hf8];refine ab3 noT (fun i fr t=>fr=[(1,.func (.func g) [] cap),(2,.ab9 (an1 l st)),(8,bk8 st),(9,.int .i64 st.length),(10,.int .i64 (i:Int))]/\∀ j,j<i->(st.getD j false&&q (ci1 st.length j))=false) st.length ⟨rfl,fun j hj=>absurd hj (zp _)⟩ ?_;rintro i fr t hle ⟨rfl,hI⟩;by_cases hlt:i<st.length
 ·have c1:(i:Int)<st.length:=om
  have c2:(0:Int)<=i:=om
  have w1:=ad1 (i:=i) om;have g1:=ch1 hlt
  cases hb:st.getD i false with
  | false=>
   rw[hb] at g1;simp only[go_sem,c1,c2,g1,w1];refine ⟨hlt,fun j hj=>?_⟩;by_cases e:j=i
   ·subst e; rw[hb]; rfl
   ·exact hI j om
  | true=>
   rw[hb] at g1;have hS:=fm6 l [(i:Int)] hl (by show 1<_; decide);rw[jf4] at hS;have hQ:=hq (ci1 l.length i) (ik4 _ _);simp only[go_sem,c1,c2,g1,ae3,hf9]
   have hfz:Frz (({ next:=t.next+1,obj:=t.obj }:Store).put t.next (.row [.int .i64 i])) (fun _=>false=true) (.slice t.next 0 1 1) (.aa4 ([(i:Int)].map Md.ad9)):=
    .slice t.next 0 1 1 [.int .i64 i] _ z6 (.inr (by rw[aa5,if_pos rfl])) rfl (zc 1) (fun k hk=>by
     have:k=0:=om
     subst this; rfl) fun k hk j hj=>by
     have:k=0:=om
     have:j=0:=om
     subst this; subst k;exact .keep _ (.int _ _)
   refine ac5 fok189 (dt9 (S:=fun _=>false) (args':=[am2 l,.aa4 ([(i:Int)].map Md.ad9)]) rfl (fun k hk=>by
    match k,hk with
    | 0,_=>exact .keep _ ((at5 l).weak fun _ h=>absurd h (zp _))
    | 1,_=>exact hfz) (em3 hS)) ?_
   rintro v s ⟨rfl,rfl⟩;refine ⟨zc _,?_⟩;simp only[go_sem];refine ct3 hok hQ ?_
   cases hv:q (ci1 l.length i) with
   | true=>
    have e:gb1 st (fun n=>q (ci1 st.length n))=true:=by
     unfold gb1;exact List.any_eq_true.2 ⟨i,z2.2 hlt,by rw[hb,hst]; show (true&&q (ci1 l.length i))=true; rw[hv]; rfl⟩
    simp only[go_sem,e]
    exact ab4 _
   | false=>
    simp only[go_sem,w1];refine ⟨hlt,fun j hj=>?_⟩;by_cases e:j=i
    ·subst e; rw[hst,hv,Bool.and_false]
    ·exact hI j om
 ·have hi':i=st.length:=om
  subst hi';have c1:¬ (st.length:Int)<st.length:=om
  have e:gb1 st (fun n=>q (ci1 st.length n))=false:=by
   unfold gb1;refine List.any_eq_false.2 fun n hn=>?_
   rw[hI n (z2.1 hn)];exact z6
  simp only[go_sem,c1,e];exact ab4 _
theorem ik5 (l:List aa2)(k:Int)(d:Dep)(xs:List aa6)(hn:xs.length<2^62)(hx:∀ x∈xs,hg6 l x)(st:List Bool)(hst:st.length=l.length) :
  PC Tryz.prog EE 262 [.agg (an1 l st),.ab9 (aa6.mk k d xs).cs] (.bool ((aa6.trs l xs).all fun f=>f st)):=by
 refine ae6 hE fok262 (nZ rfl) (ah9 (ao1 l st) (ch2 _)) ?_;have h:=it9 l st hst k d xs hn hx;simp only[ic262,go_sem,ae3,ad8,af1,ab8,ab6,ab1];refine aa3 fok232 (h) ?_;simp only[go_sem];exact ab5 rfl
theorem fc6 (l:List aa2)(k:Int)(d:Dep)(xs:List aa6)(hn:2<=xs.length)(hx:∀ x∈xs,hg6 l x)(st:List Bool)(hst:st.length=l.length) :
  PC Tryz.prog EE 263 [.agg (an1 l st),.ab9 (aa6.mk k d xs).cs] (.bool (((aa6.trs l xs).getD 0 ff) st&&!((aa6.trs l xs).getD 1 ff) st)):=by
 refine ae6 hE fok263 (nZ rfl) (ah9 (ao1 l st) (ch2 _)) ?_;have n0:0<xs.length:=om
 have n1:1<xs.length:=om
 have h0:=hx _ (zd n0) st hst;have h1:=hx _ (zd n1) st hst;have g0:=dl4 n0;have g1:=dl4 n1;have c0:(0:Int)<xs.length:=om
 have c1:(1:Int)<xs.length:=om
 rw[er6 n1,er6 n0];simp only[ic263,go_sem,ae3,ad8,af1,ab8,ba4,c0,c1,g0,g1,ab6,ab1]
 first|refine aa3 fok190 (h0) ?_|refine aa7 (h0) ?_
 cases xs[0].tr l st with
 | false=>simp only[go_sem]; exact ab5 rfl
 | true=>
  simp only[go_sem,ae3,ad8,af1,ab8,ba4,c0,c1,g0,g1,ab6,ab1]
  first|refine aa3 fok190 (h1) ?_|refine aa7 (h1) ?_
  simp only[go_sem];exact ab5 rfl
theorem jf5 (l:List aa2)(hl:l.length<=256)(st:List Bool)(hst:st.length=l.length)(k:Int)(d:Dep)(xs:List aa6)(hn:xs.length<2^62)(hx:∀ x∈xs,hg6 l x) :
  PC Tryz.prog EE 236 [.agg (an1 l st),.agg (aa6.mk k d xs).cs] (.bool (gb1 st fun n=>(aa6.trs l xs).all fun f=>f (ci1 st.length n))):=by
 refine ae6 hE fok236 (nZ rfl) (ah9 (ao1 l st) (ah2 _)) ?_;have h:=it5 l hl st hst 262 [.ab9 (aa6.mk k d xs).cs] (fun s2=>(aa6.trs l xs).all fun f=>f s2) fok262.1 (ah3 (ch2 _)) fun s2 h2=>ik5 l k d xs hn hx s2 h2
 have h7:=ab1 (.mk k d xs);simp only[ic236,go_sem,ae3,ad8,af1,ab8,h7];refine aa3 fok261 (h) ?_;simp only[go_sem];exact ab5 rfl
theorem ge6 (l:List aa2)(hl:l.length<=256)(st:List Bool)(hst:st.length=l.length)(k:Int)(d:Dep)(xs:List aa6)(hn:2<=xs.length)(hx:∀ x∈xs,hg6 l x) :
  PC Tryz.prog EE 237 [.agg (an1 l st),.agg (aa6.mk k d xs).cs] (.bool (gb1 st fun n=>((aa6.trs l xs).getD 0 ff) (ci1 st.length n)&&!((aa6.trs l xs).getD 1 ff) (ci1 st.length n))):=by
 refine ae6 hE fok237 (nZ rfl) (ah9 (ao1 l st) (ah2 _)) ?_;have h:=it5 l hl st hst 263 [.ab9 (aa6.mk k d xs).cs] (fun s2=>((aa6.trs l xs).getD 0 ff) s2&&!((aa6.trs l xs).getD 1 ff) s2) fok263.1 (ah3 (ch2 _)) fun s2 h2=>fc6 l k d xs hn hx s2 h2
 have h7:=ab1 (.mk k d xs);simp only[ic237,go_sem,ae3,ad8,af1,ab8,h7];refine aa3 fok261 (h) ?_;simp only[go_sem];exact ab5 rfl
theorem kh3 (l:List aa2)(hl:l.length<=256)(hs:∀ p∈l,Pkg.small p)(r:aa6):r.Good->hg6 l r:=by
 induction r using aa6.ind with
 | h k d xs ih=>
  intro hg st hst;refine ae6 hE fok190 (nZ rfl) (ah9 (ao1 l st) (ah2 _)) ?_;have h7:=ab1 (.mk k d xs);have h8:=ab6 (.mk k d xs);have nfl:IV.ac1.leaf=true:=rfl;have e:(aa6.mk k d xs).tr l st=trK l k d (aa6.trs l xs) st:=by rw[aa6.tr]
  rw[e]
  cases hg with
  | atom _ hd=>
   have h:=jg4 l hl hs st hst d hd;unfold trK;simp only[ic190,go_sem,ae3,ad8,af1,ab8,h7,h8,ax5,nfl]
   first|refine aa3 fok231 (h) ?_|refine aa7 (h) ?_
   simp only[go_sem]
   exact ab5 rfl
  | node _ _ _ h1 h2 h3 h4 h5=>
   have hx:∀ x∈xs,hg6 l x:=fun x hx=>ih x hx (h5 x hx)
   have hn:xs.length<=24:=by
    unfold en7 at h4;split at h4
    ·omega
    split at h4
    ·omega
    split at h4<;>omega
   have c2:=it9 l st hst k d xs om hx;have c3:=jw2 l st hst k d xs om hx;have c4:=jw3 l st hst k d xs om hx;have c5:=hg9 l st hst k d xs om om hx;have c6:=jf5 l hl st hst k d xs om hx;have c7:=ge6 l hl st hst k d xs om hx;unfold trK;have hk:k=2\/k=3\/k=4\/k=5\/k=6\/k=7:=om
   rcases hk with rfl|rfl|rfl|rfl|rfl|rfl
   ·simp only[ic190,go_sem,ae3,ad8,af1,ab8,h7,h8,ax5,nfl];refine aa3 fok232 (c2) ?_;simp only[go_sem];exact ab5 rfl
   ·simp only[ic190,go_sem,ae3,ad8,af1,ab8,h7,h8,ax5,nfl]
    first|refine aa3 fok233 (c3) ?_|refine aa7 (c3) ?_
    simp only[go_sem];exact ab5 rfl
   ·simp only[ic190,go_sem,ae3,ad8,af1,ab8,h7,h8,ax5,nfl]
    first|refine aa3 fok234 (c4) ?_|refine aa7 (c4) ?_
    simp only[go_sem];exact ab5 rfl
   ·simp only[ic190,go_sem,ae3,ad8,af1,ab8,h7,h8,ax5,nfl]
    first|refine aa3 fok235 (c5) ?_|refine aa7 (c5) ?_
    simp only[go_sem];exact ab5 rfl
   ·simp only[ic190,go_sem,ae3,ad8,af1,ab8,h7,h8,ax5,nfl]
    first|refine aa3 fok236 (c6) ?_|refine aa7 (c6) ?_
    simp only[go_sem];exact ab5 rfl
   ·simp only[ic190,go_sem,ae3,ad8,af1,ab8,h7,h8,ax5,nfl]
    first|refine aa3 fok237 (c7) ?_|refine aa7 (c7) ?_
    simp only[go_sem];exact ab5 rfl
theorem df2 (c:Nat)(zs:List Int):(stB c zs).length=c:=by simp[stB]
theorem cv7 (l:List aa2)(hl:l.length<=256)(hs:∀ p∈l,Pkg.small p)(zs:List Int)(hz:zs.length<2^40)(r:aa6)(h1:r.fit)(h2:r.count<2^31) :
  PC Tryz.prog EE 144 [am2 l,.aa4 (zs.map Md.ad9),.agg r.cs] (.bool (gq8 l zs r)):=by
 refine ae6 hE fok144 (nZ rfl) (bf1 (at5 l) (ag8 zs) (ah2 _)) ?_;have hw:=il6 r h1 h2;have hS:=fm6 l zs hl hz;have hnl:∀ d:TypeId,cb6 (.pointer d) (am2 l)=zg false:=fun _=>rfl
 unfold gq8;simp only[ic144,go_sem,hnl,ab8,ab6,ab1];refine aa7 (hw) ?_
 cases hq:bj7 r with
 | false=>simp only[go_sem]; exact ab5 rfl
 | true=>
  have hg:r.ms.2.2=true:=by
   unfold bj7 at hq;simp only[z0] at hq;exact hq.1.1
  have hi:=kh3 l hl hs r (aa6.ja5 r hg) (stB l.length zs) (df2 _ _);simp only[go_sem]
  first|refine aa3 fok189 (hS) ?_|refine aa7 (hS) ?_
  simp only[go_sem,ab8,ab6,ab1]
  first|refine aa3 fok190 (hi) ?_|refine aa7 (hi) ?_
  simp only[go_sem];exact ab5 rfl
end Go.Id.Tryz
namespace Go.Id.Tryz
open Go Go.Id Go.Proofs Go.Shelf Go.Id.Md
structure er2 (r:Req):Prop where
 ag6:r.ag6.length<2^20
 ai1:r.ai1.length<2^20
 jj5:∀ j∈r.ag6,Dep.small j.dep/\j.dep.name.length<2^30
theorem be5 (r:Req):∀ c∈r.cs,Bnd 0 c:=jp7 (.int _ _) (.bool _) (cg6 _) (be4 _) (.int _ _)
theorem jf6 (r:Req):r.cs.length=5:=rfl
theorem ag2 (r:Req):r.cs.all IV.leaf=true:=rfl
theorem bc6 (r:Req):r.cs.take 5=r.cs:=rfl
theorem he6 (j:Job)(h:Dep.small j.dep/\j.dep.name.length<2^30):PC Tryz.prog EE 37 [.agg j.cs] (.bool (!aw7 j)):=by
 refine ae6 hE fok37 (nZ rfl) (ah3 (ik1 j)) ?_;have hd:=bs1 j.dep om (by have:=h.1.2.2.1; omega) (by have:=h.1.2.2.2; omega);have k0:j.cs.head? = zg (.int .u8 j.kind):=rfl;have k1:=da2 j;have k2:(j.cs.drop 1).length=5:=rfl;unfold aw7;by_cases e1:j.kind<1
 ·have e1':¬ 1<=j.kind:=om
  simp only[ic37,go_sem,ar5,k0,e1];exact ab5 (by simp[e1'])
 have e1':1<=j.kind:=om
 by_cases e2:4<j.kind
 ·have e2':¬ j.kind<=4:=om
  simp only[ic37,go_sem,ar5,k0,e1,e2];exact ab5 (by simp[e2'])
 have e2':j.kind<=4:=om
 simp only[ic37,go_sem,ar5,k0,k1,k2,e1,e2];refine aa3 fok38 (hd) ?_;simp only[go_sem];exact ab5 (by simp[e1',e2'])
theorem ge7 (e:bd9)(ag6 inst:Int):PC Tryz.prog EE 41 [.agg e.cs,.int .i64 ag6,.int .i64 inst] (.bool (au9 e ag6 inst)):=by
 refine ae6 hE fok41 (nZ rfl) (bf1 (cg7 e) (.int _ _) (.int _ _)) ?_;have k0:e.cs.head? = zg (.int .u8 e.kind):=rfl;have k1:(e.cs.drop 1).head? = zg (.int .i64 e.n):=rfl;unfold au9;by_cases d1:e.kind=1
 case' pos=>
  have f1:(1:Int)<=1:=by decide
  have f2:(1:Int)<=4:=by decide
  rw[d1] at k0 ⊢;simp only[ic41,go_sem,aj1,k0,f1,f2,k1];generalize ag6=most
 case' neg=>
  rw[if_neg d1];by_cases d2:1<=e.kind
  case' neg=>
   simp only[ic41,go_sem,aj1,k0,d1,d2];exact ab5 (by simp)
  by_cases d3:e.kind<=4
  case' neg=>
   simp only[ic41,go_sem,aj1,k0,d1,d2,d3];exact ab5 (by simp)
  simp only[ic41,go_sem,aj1,k0,d1,d2,d3,k1];generalize inst=most
 all_goals
  by_cases d4:0<=e.n
  ·simp only[go_sem,d4,k1];exact ab5 (by simp)
  ·simp only[go_sem,d4];exact ab5 (by simp)
theorem jf7 (e:bd9)(p:Pool)(r:Req):PC Tryz.prog EE 40 [.agg e.cs,.ab9 r.cs,.ab9 [p.v]] (.bool (!au9 e r.ag6.length p.inst)):=by
 refine ae6 hE fok40 (nZ rfl) (bf1 (cg7 e) (.ab9 _ (be5 r)) (.ab9 _ (ah3 (bg2 p)))) ?_;have h1:=ba8 p;have h2:=ge7 e r.ag6.length p.inst;have k2:(r.cs.drop 2).head? = zg (be1 r.ag6):=rfl;simp only[ic40,go_sem,aj1,ar6,ap4,k2]
 first|refine aa3 fok42 (h1) ?_|refine aa7 (h1) ?_
 simp only[go_sem];refine aa7 (h2) ?_;simp only[go_sem];exact ab5 rfl
theorem it6 (r:Req)(h1:r.ag6.length<=2147483648)(h2:r.ai1.length<=2147483648):PC Tryz.prog EE 44 [.agg r.cs] (.agg r.cs):=by
 refine ae6 hE fok44 (nZ rfl) (ah3 (.agg _ (be5 r))) ?_;have c1:=fc2 r.ag6 h1;have c2:=er1 r.ai1 h2;have hb:=be5 r;unfold Req.cs at *;simp only[ic44,go_sem];refine aa7 (c1) ?_;simp only[go_sem];refine aa7 (c2) ?_;simp only[go_sem];exact .keep _ (.agg _ hb)
theorem jf8 {α:Type}(q:α->Bool)(l:List α):(l.any fun x=>!q x)=!l.all q:=by
 induction l with
 | nil=>rfl
 | cons x l ih=>simp only[List.any_cons,zk,ih,Bool.not_and]
theorem he7 (p:Pool)(r:Req)(hR:er2 r)(hl:(ac3 p).length<=256)(hf:∀ x∈ac3 p,x.Fit/\x.Tiny):PC Tryz.prog EE 21 [p.v,.agg r.cs] (jj3 p r):=by
 refine ae6 hE fok21 (nZ rfl) (ah9 (bg2 p) (.agg _ (be5 r))) ?_;have hm:=cs9 r.au7;have hJ:=he3 r.ag6 37 [] [] (fun j=>!aw7 j) (by have:=hR.ag6; omega) fok37.1 fun j hj=>he6 j (hR.jj5 j hj)
 have hEd:=ge2 r.ai1 40 [] [.ab9 r.cs,.ab9 [p.v]] (fun e=>!au9 e r.ag6.length p.inst) (by have:=hR.ai1; omega) fok40.1 fun e he=>jf7 e p r
 rw[jf8] at hJ hEd;have hrl:p.rows.length=(ac3 p).length:=by simp[ac3]
 have hM:=be3 p (fun x hx=>(hf _ (zl (f:=fun x:be6=>x.pkg) hx)).1) om (fun x hx=>by
  have:=(hf _ (zl (f:=fun x:be6=>x.pkg) hx)).2;have a:=this.au1.1; have b:=this.obs.1; have c:=this.files; omega)
 have hM:PC Tryz.prog EE 43 [p.v] (.tuple [(ad7 (ac3 p)).v,.int .i64 0]):=hM;have hO:=it6 r (by have:=hR.ag6; omega) (by have:=hR.ai1; omega);have hC:=av9 p;rw[hrl] at hC
 have hpk:∀ j (h:j<(ac3 p).length),PC Tryz.prog EE 45 [p.v,.int .i64 j] (.tuple [.agg (ac3 p)[j].cs,.int .i64 0]):=fun j h=>by
  have hq:p.rows[j].pkg=(ac3 p)[j]:=by simp[ac3]
  have h1:=as9 p j om (by rw[hq]; exact (hf _ (zd h)).1);rw[hq] at h1; exact h1
 have hbA:=ag1 ⟨p,r⟩;have k0:r.cs.head? = zg (.int .u8 r.au7):=rfl;have k2:(r.cs.drop 2).head? = zg (be1 r.ag6):=rfl;have k3:(r.cs.drop 3).head? = zg (av7 r.ai1):=rfl;have k4:(r.cs.drop 4).head? = zg (.int .i64 r.budget):=rfl;obtain ⟨V,hV⟩:∃ V,jj3 p r=V:=⟨_,rfl⟩
 have herr:∀ (s:Store) (e:Int),aj7 r p.inst=e->e≠0->cu4 s 0 (.tuple [.ad5,.int .i64 e]) V:=fun s e h1 h2=>by
  rw[<- hV];unfold jj3;rw[h1,if_neg h2];exact .keep _ (.tuple _ (ah9 .ad5 (.int _ _)))
 rw[hV];have vcs:p.v.cs=[p.v]:=rfl;have vlf:p.v.leaf=true:=rfl;have vnl:∀ d:TypeId,cb6 (.pointer d) p.v=zg false:=fun _=>rfl
 by_cases c1:ca3 r.au7=false
 ·simp only[ic21,go_sem,vcs,zk,vlf,zt,zi,ag2,vnl,k0];refine aa3 fok35 (hm) ?_;simp only[go_sem,c1];exact herr _ 1 (by unfold aj7; rw[if_pos (.inl c1)]) (by decide)
 have c1':ca3 r.au7=true:=by simpa using c1
 by_cases c2:r.budget<0
 ·simp only[ic21,go_sem,vcs,zk,vlf,zt,zi,ag2,vnl,k0];refine aa3 fok35 (hm) ?_;simp only[go_sem,c1',k4,c2];exact herr _ 1 (by unfold aj7; rw[if_pos (.inr (.inl c2))]) (by decide)
 by_cases c3:1099511627776<r.budget
 ·simp only[ic21,go_sem,vcs,zk,vlf,zt,zi,ag2,vnl,k0];refine aa3 fok35 (hm) ?_;simp only[go_sem,c1',k4,c2,c3];exact herr _ 1 (by unfold aj7; rw[if_pos (.inr (.inr c3))]) (by decide)
 have q1:¬ (ca3 r.au7=false\/r.budget<0\/1099511627776<r.budget):=fun h=>h.elim c1 fun h=>h.elim c2 c3
 by_cases c4:64<r.ag6.length
 ·have c4':(64:Int)<r.ag6.length:=om
  simp only[ic21,go_sem,vcs,zk,vlf,zt,zi,ag2,vnl,k0];refine aa3 fok35 (hm) ?_;simp only[go_sem,c1',k4,c2,c3,k2,c4'];exact herr _ 40 (by unfold aj7; rw[if_neg q1,if_pos (.inl c4)]) (by decide)
 have c4':¬ (64:Int)<r.ag6.length:=om
 by_cases c5:64<r.ai1.length
 ·have c5':(64:Int)<r.ai1.length:=om
  simp only[ic21,go_sem,vcs,zk,vlf,zt,zi,ag2,vnl,k0];refine aa3 fok35 (hm) ?_;simp only[go_sem,c1',k4,c2,c3,k2,k3,c4',c5'];exact herr _ 40 (by unfold aj7; rw[if_neg q1,if_pos (.inr c5)]) (by decide)
 have c5':¬ (64:Int)<r.ai1.length:=om
 have q2:¬ (64<r.ag6.length\/64<r.ai1.length):=fun h=>h.elim c4 c5
 by_cases c6:r.ag6.all aw7=false
 ·simp only[ic21,go_sem,vcs,zk,vlf,zt,zi,ag2,vnl,k0];refine aa3 fok35 (hm) ?_;simp only[go_sem,c1',k4,c2,c3,k2,k3,c4',c5'];refine aa3 fok36 (hJ) ?_;simp only[go_sem,c6,Bool.not_false];exact herr _ 4 (by unfold aj7; rw[if_neg q1,if_neg q2,if_pos c6]) (by decide)
 have c6':r.ag6.all aw7=true:=by simpa using c6
 simp only[ic21,go_sem,vcs,zk,vlf,zt,zi,ag2,vnl,k0];refine aa3 fok35 (hm) ?_;simp only[go_sem,c1',k4,c2,c3,k2,k3,c4',c5'];refine aa3 fok36 (hJ) ?_;simp only[go_sem,c6',Bool.not_true,k3];refine aa3 fok39 (hEd) ?_;by_cases c7:(r.ai1.all fun e=>au9 e r.ag6.length p.inst)=false
 ·simp only[go_sem,c7,Bool.not_false];exact herr _ 5 (by unfold aj7; rw[if_neg q1,if_neg q2,if_neg c6,if_pos c7]) (by decide)
 have c7':(r.ai1.all fun e=>au9 e r.ag6.length p.inst)=true:=by simpa using c7
 have hV0:V=.tuple [.ab9 [p.v,(ad7 (ac3 p)).v,.int .u8 r.au7,.bool r.vendor,be1 r.ag6,av7 r.ai1,.int .i64 r.budget,.aa4 ((ac3 p).map aa2.cs)],.int .i64 0]:=by
  rw[<- hV];unfold jj3;rw[if_pos (by unfold aj7; rw[if_neg q1,if_neg q2,if_neg c6,if_neg c7])];rfl
 have hbX:=as2 (ad7 (ac3 p));have hbP:=bg2 p;rw[hV0];clear herr hV hV0 hJ hEd;simp only[go_sem,c7',Bool.not_true];refine aa3 fok43 (hM) ?_;simp only[go_sem,jf6,bc6]
 first|refine aa3 fok44 (hO) ?_|refine aa7 (hO) ?_
 have hrc:r.cs=[.int .u8 r.au7,.bool r.vendor,be1 r.ag6,av7 r.ai1,.int .i64 r.budget]:=rfl;rw[hrc];have xlf:(ad7 (ac3 p)).v.leaf=true:=rfl;have xcs:(ad7 (ac3 p)).v.cs=[(ad7 (ac3 p)).v]:=rfl;generalize (ad7 (ac3 p)).v=X at *;generalize hPv:p.v=Pv at *;simp only[go_sem,vcs,vlf,xlf,xcs];refine aa3 fok31 (hC) ?_;simp only[go_sem];refine ab3 noT (fun n fr s=>∃ gv,fr=[(2,.ab9 [Pv]),(8,.ptr 5 0),(65,.int .i64 (ac3 p).length),(66,.int .i64 (n:Int))]/\7<=s.next/\s.obj 5=zg (.cells [Pv,X,.int .u8 r.au7,.bool r.vendor,be1 r.ag6,av7 r.ai1,.int .i64 r.budget,gv])/\Grow s gv 15 (((ac3 p).take n).map aa2.cs)) (ac3 p).length ⟨.aa1,rfl,zc _,by simp only[aa5,if_true],.inl ⟨rfl,rfl⟩⟩ ?_;rintro n fr s hn ⟨gv,rfl,hnx,ho,hg⟩;by_cases hlt:n<(ac3 p).length
 ·have d1:(n:Int)<((ac3 p).length:Int):=om
  have w1:=ad1 (i:=n) om;have hp:=hpk n hlt;have n5:¬ 5=s.next:=om
  have htk:(ac3 p).take (n+1)=(ac3 p).take n++[(ac3 p)[n]]:=by
   rw[z7,zj hlt]; rfl
  have hgl:gv.leaf=true:=by rcases hg with ⟨rfl,_⟩|⟨id,rfl,_⟩<;>rfl
  have hgc:gv.cs=[gv]:=by rcases hg with ⟨rfl,_⟩|⟨id,rfl,_⟩<;>rfl
  simp only[go_sem,d1]
  first|refine aa3 fok45 (hp) ?_|refine aa7 (hp) ?_
  simp only[go_sem,af6,af4,ac9,n5,ho,b_o,b_p,b_t];obtain ⟨s1,a1,a2,a3,a4⟩:=hy5 (k:=11) (nid:=s.next+1+1+1+1+1+1+1+1) (e:=(ac3 p)[n].cs) (A:=.cells [.str [],.int .i64 0,.str [],.str [],.int .u8 0,.str [],.aa1,.aa1,.aa1,.aa1,.aa1,.aa1,.aa1,.aa1,.aa1]) (B:=.cells (ac3 p)[n].cs) hg (ax2 _) ⟨rfl,rfl⟩ (by rw[zb,zf]; omega) ho om om;simp only[go_sem,a1,a3,b_o,b_p,b_t,w1];refine ⟨hlt,_,by rw[a2]; omega,rfl,?_⟩;rw[htk,zu];have a5:=a4 [Pv,X,.int .u8 r.au7,.bool r.vendor,be1 r.ag6,av7 r.ai1,.int .i64 r.budget,.slice (s.next+1+1+1+1+1+1+1+1) 0 (((ac3 p).take n).length+1) 15] s1.next (by rw[a2]; omega);rw[zb] at a5;exact a5
 ·have hn':n=(ac3 p).length:=om
  subst hn';have d1:¬ ((ac3 p).length:Int)<((ac3 p).length:Int):=om
  rw[zr] at hg;simp only[go_sem,d1]
  have hbe:∀ e∈(ac3 p).map aa2.cs,∀ c∈e,Bnd 0 c:=fun e he c hc=>by
   obtain ⟨y,_,rfl⟩:=zn.1 he;exact av1 y c hc
  refine .by5 (.cons (.ptr 5 0 _ _ (zp _) (.inl ho) (zc _) (fun j hj=>?_)) (.cons (cs8 rfl) .nil))
  match j,hj with
  | 0,_=>exact .keep _ hbP
  | 1,_=>exact .keep _ hbX
  | 2,_=>exact .keep _ (.int _ _)
  | 3,_=>exact .keep _ (.bool _)
  | 4,_=>exact .keep _ (cg6 _)
  | 5,_=>exact .keep _ (be4 _)
  | 6,_=>exact .keep _ (.int _ _)
  | 7,_=>exact hg.frz (fun x hx=>(ax2 _ x hx).1) (fun _ _=>zp _) hbe
end Go.Id.Tryz
namespace Go.Id.Tryz
open Go Go.Id Go.Proofs Go.Shelf Go.Id.Md
end Go.Id.Tryz
namespace Go.Id.Tryz
open Go Go.Id Go.Proofs Go.Shelf Go.Id.Md
theorem fc7 (p:Pool)(hl:(ac3 p).length<=256)(hf:∀ x∈ac3 p,x.Fit/\x.Tiny):PC Tryz.prog EE 81 [p.v] (.tuple [am2 (ac3 p),.int .i64 0]):=by
 refine ae6 hE fok81 (nZ rfl) (ah3 (bg2 p)) ?_;have hrl:p.rows.length=(ac3 p).length:=by simp[ac3]
 have hM:=be3 p (fun x hx=>(hf _ (zl (f:=fun x:be6=>x.pkg) hx)).1) om (fun x hx=>by
  have:=(hf _ (zl (f:=fun x:be6=>x.pkg) hx)).2;have a:=this.au1.1; have b:=this.obs.1; have c:=this.files; omega)
 have hM:PC Tryz.prog EE 43 [p.v] (.tuple [(ad7 (ac3 p)).v,.int .i64 0]):=hM;have hC:=av9 p;rw[hrl] at hC;have hb:=at5 (ac3 p);unfold am2 at *;have xlf:(ad7 (ac3 p)).v.leaf=true:=rfl;have xcs:(ad7 (ac3 p)).v.cs=[(ad7 (ac3 p)).v]:=rfl;generalize (ad7 (ac3 p)).v=X at *;simp only[ic81,go_sem];refine aa3 fok43 (hM) ?_;simp only[go_sem];refine aa3 fok31 (hC) ?_;simp only[go_sem,xlf,xcs];exact .keep _ (.tuple _ (ah9 hb (.int _ _)))
theorem ay6 (a:ab7):PC Tryz.prog EE 30 [a.v] a.p.v:=by
 refine ae6 hE fok30 (nZ rfl) (ah3 (ag1 a)) ?_;have hb:=bg2 a.p;unfold ab7.v ab7.cs;simp only[ic30,go_sem,am5];exact .keep _ hb
theorem bn5 (a:ab7)(hA:AOK a):PC Tryz.prog EE 89 [a.v] (.agg a.r.cs):=by
 refine ae6 hE fok89 (nZ rfl) (ah3 (ag1 a)) ?_;have hO:=it6 a.r (by have:=hA.ag6; omega) (by have:=hA.ai1; omega);have hb:=be5 a.r;unfold ab7.v ab7.cs;unfold Req.cs at *;simp only[ic89,go_sem,am5]
 first|refine aa3 fok44 (hO) ?_|refine aa7 (hO) ?_
 simp only[go_sem];exact .keep _ (.agg _ hb)
end Go.Id.Tryz
namespace Go.Id.Tryz
open Go Go.Id Go.Proofs Go.Shelf Go.Id.Md
theorem gu9 (p:Pool)(hl:(ac3 p).length<=256)(hf:∀ x∈ac3 p,x.Fit/\x.Tiny)(σ:Store) :
  C Tryz.prog EE 49 [p.v] σ (fun v s=>∃ tp mid allv,v=.tuple [.ptr tp 0,.int .i64 0]/\Kept σ s/\σ.next<=tp/\aq8 s tp mid (ad7 (ac3 p)).v allv .aa1 (ac3 p) ⟨0,[],[]⟩):=by
 refine C_f fok49 (nZ rfl) ?_;have hrl:p.rows.length=(ac3 p).length:=by simp[ac3]
 have hM:=be3 p (fun x hx=>(hf _ (zl (f:=fun x:be6=>x.pkg) hx)).1) om (fun x hx=>by
  have:=(hf _ (zl (f:=fun x:be6=>x.pkg) hx)).2;have a:=this.au1.1; have b:=this.obs.1; have c:=this.files; omega)
 have hM:PC Tryz.prog EE 43 [p.v] (.tuple [(ad7 (ac3 p)).v,.int .i64 0]):=hM;have hC:=av9 p;rw[hrl] at hC
 have hpk:∀ j (h:j<(ac3 p).length),PC Tryz.prog EE 45 [p.v,.int .i64 j] (.tuple [.agg ((ac3 p).getD j default).cs,.int .i64 0]):=fun j h=>by
  have hj:j<p.rows.length:=om
  have hq:p.rows[j].pkg=(ac3 p).getD j default:=by
   have:(ac3 p).getD j default=(ac3 p)[j]:=by simp[za,h]
   rw[this]; simp[ac3]
  have hm:(ac3 p).getD j default∈ac3 p:=by
   rw[za,zj h]; exact zd h
  have h1:=as9 p j hj (by rw[hq]; exact (hf _ hm).1);rw[hq] at h1; exact h1
 have pvl:p.v.leaf=true:=rfl;have pvc:p.v.cs=[p.v]:=rfl;have xlf:(ad7 (ac3 p)).v.leaf=true:=rfl;have xcs:(ad7 (ac3 p)).v.cs=[(ad7 (ac3 p)).v]:=rfl;generalize (ad7 (ac3 p)).v=X at *;generalize p.v=PV at *;generalize ac3 p=l at *;simp only[ic49,go_sem,pvl,pvc];refine aa3 fok43 (hM) ?_;simp only[go_sem,xlf,xcs,pvl,pvc];refine aa3 fok31 (hC) ?_;simp only[go_sem]
 refine ab3 noT (fun n fr s=>∃ gv,fr=[(0,PV),(6,.ptr (σ.next+1) 0),(23,.int .i64 l.length),(24,.int .i64 (n:Int))]/\Kept σ s/\σ.next+2<=s.next/\s.obj σ.next=zg (.map [])/\s.obj (σ.next+1)=zg (.cells [X,gv,.int .i64 0,.aa1,.map σ.next])/\Grow s gv 15 ((l.take n).map aa2.cs)/\∀ i k,gv=.slice i 0 k 15->σ.next<=i) l.length
   ⟨.aa1,rfl,⟨Nat.le_add_right _ _,fun i hi=>?_⟩,zc _,?_,?_,.inl ⟨rfl,rfl⟩,fun _ _ e=>by cases e⟩ ?_
 ·have h1:¬ i=σ.next:=om
  have h2:¬ i=σ.next+1:=om
  simp only[aa5,h1,h2,if_false]
 ·have h1:¬ σ.next=σ.next+1:=om
  simp only[aa5,h1,if_true,if_false]
 ·simp only[aa5,if_true]
 rintro n fr s hn ⟨gv,rfl,hk,hnx,hm,ho,hg,hgi⟩;by_cases hlt:n<l.length
 ·have d1:(n:Int)<l.length:=om
  have w1:=ad1 (i:=n) om;have hp:=hpk n hlt;have n1:¬ σ.next+1=s.next:=om
  have n0:¬ σ.next=s.next:=om
  have htk:l.take (n+1)=l.take n++[l.getD n default]:=by
   have:l.getD n default=l[n]:=by simp[za,hlt]
   rw[this,z7,zj hlt]; rfl
  generalize l.getD n default=q at *;have hgl:gv.leaf=true:=by rcases hg with ⟨rfl,_⟩|⟨id,rfl,_⟩<;>rfl
  have hgc:gv.cs=[gv]:=by rcases hg with ⟨rfl,_⟩|⟨id,rfl,_⟩<;>rfl
  obtain ⟨S,hS⟩:∃ S:Store,S=(({ next:=s.next+1,obj:=s.obj }:Store).put s.next (aj5.cells [.str [],.int .i64 0,.str [],.str [],.int .u8 0,.str [],.aa1,.aa1,.aa1,.aa1,.aa1,.aa1,.aa1,.aa1,.aa1])).put s.next (aj5.cells q.cs):=⟨_,rfl⟩;have So:∀ i,¬ i=s.next->S.obj i=s.obj i:=fun i hi=>by rw[hS]; simp only[aa5,hi,if_false]
  have hg1:Grow (⟨s.next+1+11,S.obj⟩:Store) gv 15 ((l.take n).map aa2.cs):=hg.mono (by show s.next<=s.next+1+11; omega) fun id _ hid=>So id om
  have hap:=aj8 (nid:=s.next+1+7) (e:=q.cs) hg1 (ax2 _) ⟨rfl,rfl⟩ (by rw[zb,zf]; omega);rw[zb] at hap;have k1:=af8 hg1 (σ.next+1) _ (by rw[<- ho]; exact So _ n1) (fun _ e=>by cases e);have k0:=af8 hg1 σ.next _ (by rw[<- hm]; exact So _ n0) (fun _ e=>by cases e);have kn:(ae7 gv (⟨s.next+1+11,S.obj⟩:Store)).next=s.next+1+11:=ac2 gv;have m1:¬ σ.next+1=s.next+1+7:=om
  have m0:¬ σ.next=s.next+1+7:=om
  have m01:¬ σ.next=σ.next+1:=om
  have kl:∀ i,i<σ.next->(ae7 gv (⟨s.next+1+11,S.obj⟩:Store)).obj i=s.obj i:=fun i hi=>by
   rcases hg1 with ⟨h0,_⟩|⟨j,hj,_,_⟩
   ·rw[h0]; exact So i om
   ·have:=hgi j _ hj;rw[hj];show (if i=j then none else S.obj i)=_;rw[if_neg om]; exact So i om
  simp only[go_sem,d1,pvl,pvc]
  first|refine aa3 fok45 (hp) ?_|refine aa7 (hp) ?_
  simp only[go_sem,af6,af4,ac9,n1,n0,ho,b_o,b_p,b_t];rw[<- hS];generalize ae7 gv (⟨s.next+1+11,S.obj⟩:Store)=K at *;simp only[show s.next+1+1+1+1+1+1+1+1=s.next+1+7 from rfl,hap,go_sem,m1,m0,k1,k0,w1];refine ⟨hlt,_,⟨by rw[kn]; omega,fun i hi=>?_⟩,by rw[kn]; omega,if_neg m01,rfl,?_,fun i k e=>?_⟩
  ·have h1:¬ i=s.next+1+7:=om
   have h2:¬ i=σ.next+1:=om
   simp only[aa5,h1,h2,if_false];rw[kl i hi,hk.obj i hi]
  ·rw[htk,zu];refine .inr ⟨s.next+1+7,by rw[ze,zb]; rfl,?_,by rw[kn]; omega⟩;simp only[aa5];rw[if_neg (fun e=>m1 e.symm),if_pos trivial]; rfl
  ·cases e; omega
 ·have d1:¬ (n:Int)<l.length:=om
  rw[z4 om] at hg;simp only[go_sem,d1];exact ⟨σ.next+1,σ.next,gv,rfl,hk,om,{ cell:=ho,all:=hg,cls:=.inl ⟨rfl,rfl⟩,map:=hm,ne:=fun _ _ _ _ h=>(by cases h),lt:=⟨om,om⟩ }⟩
end Go.Id.Tryz
namespace Go.Id.Tryz
open Go Go.Id Go.Proofs Go.Shelf Go.Id.Md
theorem aj4 (d:Itm):d.cs.length=3:=rfl
theorem ah1 (d:Itm):d.cs.all IV.leaf=true:=rfl
theorem ah7 (d:Itm):d.cs.take 3=d.cs:=rfl
theorem dg4 (d:Itm):d.cs.head? = zg (.int .u8 d.kind):=rfl
theorem ee3 (d:Itm):∀ c∈d.cs,Bnd 0 c:=bf1 (.int _ _) (.int _ _) (.int _ _)
theorem br9 (d:Itm):Bnd 0 (.agg d.cs):=.agg _ (ee3 d)
theorem ax1 (l:List Itm):Bnd 0 (ar9 l):=.aa4 _ fun e he c hc=>by
 obtain ⟨d,_,rfl⟩:=zn.1 he; exact ee3 d c hc
theorem gv1 (l:List Itm):Bnd 0 (.ak9 (bb8 l)):=.ak9 _ (fun e he=>by
 obtain ⟨d,_,rfl⟩:=zn.1 he; exact br9 d) fun e he=>by
 obtain ⟨d,_,rfl⟩:=zn.1 he; exact .agg _ fun c hc=>by cases hc
end Go.Id.Tryz
namespace Go.Id.Md
open Go Go.Id
def ab7.mcs (a:ab7):List IV:=[a.v,Go.Id.Tryz.am2 a.l,.aa4 (a.l.map aa2.cs),ar9 a.items,.ak9 (bb8 a.items)]
def ab7.mv (a:ab7):IV:=.ab9 a.mcs
def ab7.held (a:ab7)(st:List Int)(x:Itm):List IV:=[a.mv,.aa4 (st.map Md.ad9),.int .u8 x.kind,.int .i64 x.p,.int .i64 x.q]
end Go.Id.Md
namespace Go.Id.Tryz
open Go Go.Id Go.Proofs Go.Shelf Go.Id.Md
open Go.Id.Md.ab7 (inS less)
theorem aq7 (a:ab7):Bnd 0 a.mv:=.ab9 _ fun c hc=>by
 simp only[ab7.mcs,zw,zy,or_false] at hc;rcases hc with rfl|rfl|rfl|rfl|rfl
 ·exact ag1 a
 ·exact at5 _
 ·exact au2 _
 ·exact ax1 _
 ·exact gv1 _
theorem bc1 (a:ab7)(st:List Int)(x:Itm):Bnd 0 (.agg (a.held st x)):=.agg _ fun c hc=>by
 simp only[ab7.held,zw,zy,or_false] at hc;rcases hc with rfl|rfl|rfl|rfl|rfl
 ·exact aq7 a
 ·exact ag8 st
 ·exact .int _ _
 ·exact .int _ _
 ·exact .int _ _
theorem ar3 (a:ab7)(st:List Int)(x:Itm):(a.held st x).length=5:=rfl
theorem am8 (a:ab7)(st:List Int)(x:Itm):(a.held st x).all IV.leaf=true:=rfl
theorem an9 (a:ab7)(st:List Int)(x:Itm):(a.held st x).take 5=a.held st x:=rfl
theorem dv5 (a:ab7)(st:List Int)(x:Itm):(a.held st x).head? = zg a.mv:=rfl
theorem dg5 (a:ab7)(st:List Int)(x:Itm):((a.held st x).drop 1).head? = zg (.aa4 (st.map Md.ad9)):=rfl
theorem bo4 (a:ab7)(st:List Int)(x:Itm):(((a.held st x).drop 2).drop 1).head? = zg (.int .i64 x.p):=rfl
theorem ep4 (a:ab7)(st:List Int)(x:Itm):(((a.held st x).drop 2).drop 2).head? = zg (.int .i64 x.q):=rfl
theorem jt1 (a:ab7)(x:Itm):PC Tryz.prog EE 93 [a.mv,.agg x.cs] (.bool (a.isI x)):=by
 refine ae6 hE fok93 (nZ rfl) (ah9 (aq7 a) (br9 x)) ?_;have hl:=gr8 x a.items;unfold ab7.mv ab7.mcs ab7.isI
 have hk:∀ σ:Store,cc3 σ 6 (.agg []) true (.ak9 (bb8 a.items)) (.agg x.cs)=zg (.tuple [.agg [],.bool (decide (x∈a.items))]):=fun σ=>by
  simp only[cc3,bz3,hl];by_cases h:x∈a.items<;>simp[h]
 simp only[ic93,go_sem,ah1,aj4,ah7,am5,hk];exact ab5 rfl
theorem ba1 (a:ab7)(st:List Int)(x:Itm)(n:Int)(hs:st.length<2^40):PC Tryz.prog EE 143 [.agg (a.held st x),.int .i64 n] (.bool (inS st n)):=by
 refine ae6 hE fok143 (nZ rfl) (ah9 (bc1 a st x) (.int _ _)) ?_;have h:=cg2 st n hs;simp only[ic143,go_sem,am8,dg5]
 first|refine aa3 fok73 (h) ?_|refine aa7 (h) ?_
 simp only[go_sem];exact ab5 rfl
theorem ez1 (a:ab7)(st:List Int)(x:Itm)(hs:st.length<2^40):PC Tryz.prog EE 94 [.agg (a.held st x)] (.bool (!inS st x.p)):=by
 refine ae6 hE fok94 (nZ rfl) (ah3 (bc1 a st x)) ?_;have h:=ba1 a st x x.p hs;simp only[ic94,go_sem,am8,ar3,an9,bo4]
 first|refine aa3 fok143 (h) ?_|refine aa7 (h) ?_
 simp only[go_sem];exact ab5 rfl
theorem ez2 (a:ab7)(st:List Int)(x:Itm)(hs:st.length<2^40):PC Tryz.prog EE 98 [.agg (a.held st x)] (.bool (!inS st x.p || !inS st x.q)):=by
 refine ae6 hE fok98 (nZ rfl) (ah3 (bc1 a st x)) ?_;have h:=ba1 a st x x.p hs;have h2:=ba1 a st x x.q hs;simp only[ic98,go_sem,am8,ar3,an9,bo4]
 first|refine aa3 fok143 (h) ?_|refine aa7 (h) ?_
 cases inS st x.p with
 | false=>simp only[go_sem]; exact ab5 rfl
 | true=>
  simp only[go_sem,am8,ar3,an9,ep4]
  first|refine aa3 fok143 (h2) ?_|refine aa7 (h2) ?_
  simp only[go_sem];exact ab5 rfl
theorem ee4 (zs:List Int)(hl:zs.length<2^30)(σ:Store):C Tryz.prog EE 59 [.aa4 (zs.map Md.ad9)] σ (bo8 σ zs):=by
 cases hz:zs with
 | nil=>
  refine fg2 ?_ ?_
  ·refine C_f fok59 (nZ rfl) ?_;simp only[ic59,go_sem,aj2];exact ⟨Kept.refl σ,.inl ⟨rfl,rfl⟩⟩
  ·refine C_f fok59 (nZ rfl) ?_;simp only[ic59,go_sem,aj2];rw[bl8 (by simp only[aa5,if_true]) rfl];simp only[go_sem];refine ⟨⟨by show σ.next<=σ.next+2; omega,fun i hi=>?_⟩,.inr ⟨σ.next,zc _,by show σ.next<σ.next+2; omega,rfl,by simp only[aa5,if_true]; rfl⟩⟩;have:¬ i=σ.next:=om
   simp only[aa5,this,if_false]
 | cons z ys=>
  have hne:zs≠[]:=by rw[hz]; exact fun h=>by cases h
  rw[<- hz];refine C_f fok59 (nZ rfl) ?_;have hnil:∀ (d:TypeId),cb6 (.slice d) (.aa4 (zs.map Md.ad9))=zg false:=fun d=>by rw[hz]; rfl
  simp only[ic59,go_sem,hnil];generalize hS:Store.put _ σ.next (aj5.row [])=S;have hSn:S.next=σ.next+2:=by rw[<- hS]; rfl
  have hSo:S.obj σ.next=zg (.row []):=by rw[<- hS]; simp only[aa5,if_true]
  have hSk:∀ i,i<σ.next->S.obj i=σ.obj i:=fun i hi=>by
   have:¬ i=σ.next:=om
   rw[<- hS]; simp only[aa5,this,if_false]
  have hg:al2 S σ.next (.slice σ.next 0 0 1) []:=.inr ⟨σ.next,zc _,om,rfl,hSo⟩;obtain ⟨v',σ',h1,h2,h3,h4⟩:=hx9 (nid:=σ.next+1) (xs:=zs) hg (by simp only[zo]; omega);simp only[go_sem,h1];have h5:=h4 σ' rfl om om om;rw[List.nil_append] at h5;exact ⟨⟨om,fun i hi=>by rw[h3 i hi om]; exact hSk i hi⟩,h5⟩
theorem dl2 (n m:Int):PC Tryz.prog EE 191 [.int .i64 n,.ab9 [.int .i64 m]] (.bool (decide (n=m))):=by
 refine ae6 hE fok191 (nZ rfl) (ah9 (.int _ _) (.ab9 _ (ah3 (.int _ _)))) ?_;simp only[ic191,go_sem];exact ab5 rfl
theorem dg6 (l:List aa2)(hl:l.length<=256)(hs:∀ p∈l,Pkg.small p)(zs:List Int)(hz:zs.length<2^30)(n:Int)(r:aa6)(h1:r.fit)(h2:r.count<2^31) :
  PC Tryz.prog EE 145 [am2 l,.aa4 (zs.map Md.ad9),.int .i64 n,.agg r.cs] (.bool (gq8 l (less zs n) r)):=by
 refine jo6 hE fok145 (nZ rfl) (iz5 (at5 l) (ag8 zs) (.int _ _) (ah2 _)) ?_;have hlen:(less zs n).length<=zs.length:=List.length_filter_le _ _;have hS:=cv7 l hl hs (less zs n) om r h1 h2;have tcs:(am2 l).cs=[am2 l]:=rfl;have tlf:(am2 l).leaf=true:=rfl;simp only[ic145,go_sem];refine ae1 (ag9 ?_);simp only[go_sem,ab1];refine ae1 (ff8 ?_);simp only[go_sem,ab1,ab8,ab6,tcs,tlf];refine ac5 fok59 (ee4 zs hz _) ?_;rintro v s ⟨k1,hr⟩;refine ⟨k1.next,?_⟩;simp only[go_sem];refine ac5 fok140 (ik7 (fun m=>decide (m=n)) om hr.w fok191.1 (ah3 (.ab9 _ (ah3 (.int _ _)))) fun z _=>dl2 z n) ?_;rintro v2 s2 ⟨⟨k2,k3⟩,hr2⟩;refine ⟨k2,?_⟩;simp only[go_sem]
 refine ac5 fok144 (cq7 (args':=[am2 l,.aa4 ((less zs n).map Md.ad9),.agg r.cs]) hE rfl (fun z hz=>by
  match z,hz with
  | 0,_=>exact .keep _ (at5 l)
  | 1,_=>exact hr2.frz fun _ _=>zp _
  | 2,_=>exact .keep _ (ah2 _)) (by simp[IV.plain]) hS) ?_
 rintro v3 s3 ⟨rfl,rfl⟩;refine ⟨zc _,?_⟩;simp only[go_sem];refine ag9 ?_;simp only[go_sem];exact ab5 rfl
theorem by8 (a:ab7){p:Nat}(h:p<a.l.length):a.pk p∈a.l:=by
 have:a.pk p=a.l[p]:=by simp[ab7.pk,za,h]
 rw[this]; exact zd h
theorem ig1 (a:ab7){p:Nat}(h:p<a.l.length):(a.l.map aa2.cs).getD p []=(a.pk p).cs:=by
 simp[ab7.pk,za,h]
theorem ee5 (l:List aa6){q:Nat}(h:q<l.length):(l.map aa6.cs).getD q []=(l.getD q default).cs:=by
 simp[za,h]
theorem is2 (l:List Dep){q:Nat}(h:q<l.length):(l.map Dep.cs).getD q []=(l.getD q default).cs:=by
 simp[za,h]
theorem getD_in {α:Type}[Inhabited α](l:List α){q:Nat}(h:q<l.length):l.getD q default∈l:=by
 have:l.getD q default=l[q]:=by simp[za,h]
 rw[this]; exact zd h
theorem ig2 (a:ab7):(ab7.mcs a).head? = zg a.v:=rfl
theorem jt2 (a:ab7):((ab7.mcs a).drop 1).head? = zg (am2 a.l):=rfl
theorem ig3 (a:ab7):((ab7.mcs a).drop 2).head? = zg (.aa4 (a.l.map aa2.cs)):=rfl
theorem jt3 (a:ab7):((ab7.mcs a).drop 3).head? = zg (ar9 a.items):=rfl
theorem ez3 (a:ab7)(hA:AOK a)(st:List Int)(hs:st.length<2^30)(p q:Nat)(hp:p<a.l.length)(hq:q<(a.pk p).requires.length):PC Tryz.prog EE 95 [.agg (a.held st ⟨2,p,q⟩)] (.bool (a.keeps st ⟨2,p,q⟩)):=by
 refine ae6 hE fok95 (nZ rfl) (ah3 (bc1 a st _)) ?_;have h:=ba1 a st ⟨2,p,q⟩ p om;have hf:=(hA.fit _ (by8 a hp)).rich (1,(a.pk p).requires) (by simp[aa2.rows]);obtain ⟨f1,f2⟩:=hf.2 _ (getD_in _ hq);have hsat:=cv7 a.l hA.len hA.small st om _ f1 f2;have e1:=ig1 a hp;have e2:=ee5 (a.pk p).requires hq;have e3:((a.pk p).cs.drop 7).head? = zg (aj6 (a.pk p).requires):=rfl
 have hk:a.keeps st ⟨2,p,q⟩=(!inS st p||gq8 a.l st ((a.pk p).requires.getD q default)):=by
  unfold ab7.keeps ab7.by2;simp
 rw[hk];have d1:(0:Int)<=(p:Int):=om
 have d2:(p:Int)<a.l.length:=om
 have d3:(0:Int)<=(q:Int):=om
 have d4:(q:Int)<(a.pk p).requires.length:=om
 have hm:a.mv=.ab9 a.mcs:=rfl;generalize (a.pk p).requires.getD q default=r at *;simp only[ic95,go_sem,am8,ar3,an9,bo4]
 first|refine aa3 fok143 (h) ?_|refine aa7 (h) ?_
 cases inS st p with
 | false=>simp only[go_sem]; exact ab5 rfl
 | true=>
  simp only[go_sem,am8,ar3,an9,dv5,dg5,bo4,ep4,hm,jt2,ig3,am5,d1,d2,d3,d4,e1,e2,e3,af6,ab8,ab6,ab1];refine aa3 fok144 (hsat) ?_;simp only[go_sem];exact ab5 rfl
theorem ep5 (a:ab7)(hA:AOK a)(st:List Int)(hs:st.length<2^30)(p q:Nat)(hp:p<a.l.length)(hq:q<(a.pk p).conflicts.length):PC Tryz.prog EE 96 [.agg (a.held st ⟨3,p,q⟩)] (.bool (a.keeps st ⟨3,p,q⟩)):=by
 refine ae6 hE fok96 (nZ rfl) (ah3 (bc1 a st _)) ?_;have h:=ba1 a st ⟨3,p,q⟩ p om;have hf:=(hA.fit _ (by8 a hp)).rich (2,(a.pk p).conflicts) (by simp[aa2.rows]);obtain ⟨f1,f2⟩:=hf.2 _ (getD_in _ hq);have hsat:=dg6 a.l hA.len hA.small st hs p _ f1 f2;have e1:=ig1 a hp;have e2:=ee5 (a.pk p).conflicts hq;have e3:((a.pk p).cs.drop 8).head? = zg (aj6 (a.pk p).conflicts):=rfl
 have hk:a.keeps st ⟨3,p,q⟩=(!inS st p || !gq8 a.l (less st p) ((a.pk p).conflicts.getD q default)):=by
  unfold ab7.keeps ab7.bb1;simp
 rw[hk];have d1:(0:Int)<=(p:Int):=om
 have d2:(p:Int)<a.l.length:=om
 have d3:(0:Int)<=(q:Int):=om
 have d4:(q:Int)<(a.pk p).conflicts.length:=om
 have hm:a.mv=.ab9 a.mcs:=rfl;generalize (a.pk p).conflicts.getD q default=r at *;simp only[ic96,go_sem,am8,ar3,an9,bo4]
 first|refine aa3 fok143 (h) ?_|refine aa7 (h) ?_
 cases inS st p with
 | false=>simp only[go_sem]; exact ab5 rfl
 | true=>
  simp only[go_sem,am8,ar3,an9,dv5,dg5,bo4,ep4,hm,jt2,ig3,am5,d1,d2,d3,d4,e1,e2,e3,af6,ab8,ab6,ab1];refine aa3 fok145 (hsat) ?_;simp only[go_sem];exact ab5 rfl
theorem dg7 (a:ab7):PC Tryz.prog EE 85 [a.v] (ad7 a.l).v:=by
 refine ae6 hE fok85 (nZ rfl) (ah3 (ag1 a)) ?_;have hb:=as2 (ad7 a.l);unfold ab7.v ab7.cs;simp only[ic85,go_sem,am5];exact .keep _ hb
theorem ig4 (a:ab7)(st:List Int)(x:Itm)(n:Int)(hs:st.length<2^40):PC Tryz.prog EE 147 [.int .i64 n,.ab9 (a.held st x)] (.bool (!decide (n=x.p)&&inS st n)):=by
 refine ae6 hE fok147 (nZ rfl) (ah9 (.int _ _) (by cases bc1 a st x with|agg _ h=>exact .ab9 _ h)) ?_;have h:=ba1 a st x n hs;by_cases e:n=x.p
 ·simp only[ic147,go_sem,bo4,e];exact ab5 rfl
 ·simp only[ic147,go_sem,am8,ar3,an9,bo4,e]
  first|refine aa3 fok143 (h) ?_|refine aa7 (h) ?_
  simp only[go_sem];exact ab5 rfl
theorem ez4 (a:ab7)(hA:AOK a)(st:List Int)(hs:st.length<2^30)(p q:Nat)(hp:p<a.l.length)(hq:q<(a.pk p).aa8.length):PC Tryz.prog EE 97 [.agg (a.held st ⟨4,p,q⟩)] (.bool (a.keeps st ⟨4,p,q⟩)):=by
 refine ae6 hE fok97 (nZ rfl) (ah3 (bc1 a st _)) ?_;have h:=ba1 a st ⟨4,p,q⟩ p om;have hsm:=hA.small _ (by8 a hp);have hds:Dep.small ((a.pk p).aa8.getD q default):=hsm.2.2.1 _ (getD_in _ hq);have hI:=dg7 a;have hN:=bn3 a.l ((a.pk p).aa8.getD q default) (by have:=hA.len; omega) hA.small hds;have hnl:(am1 a.l ((a.pk p).aa8.getD q default)).length<=a.l.length:=ae8 _ _;have hA1:=hA.len;have hC:=bk5 (am1 a.l ((a.pk p).aa8.getD q default)) 147 [] [.ab9 (a.held st ⟨4,p,q⟩)] (fun n=>!decide (n=(p:Int))&&inS st n) om fok147.1 fun n _=>ig4 a st ⟨4,p,q⟩ n om
 have e1:=ig1 a hp;have e2:=is2 (a.pk p).aa8 hq;have e3:((a.pk p).cs.drop 9).head? = zg (deps (a.pk p).aa8):=rfl
 have hk:a.keeps st ⟨4,p,q⟩=(!inS st p || !((am1 a.l ((a.pk p).aa8.getD q default)).any fun n=>!decide (n=(p:Int))&&inS st n)):=by
  unfold ab7.keeps ab7.cx3;simp
 rw[hk];have d1:(0:Int)<=(p:Int):=om
 have d2:(p:Int)<a.l.length:=om
 have d3:(0:Int)<=(q:Int):=om
 have d4:(q:Int)<(a.pk p).aa8.length:=om
 have hm:a.mv=.ab9 a.mcs:=rfl;have vcs:a.v.cs=[a.v]:=rfl;have vlf:a.v.leaf=true:=rfl;generalize hdd:(a.pk p).aa8.getD q default=d at *;generalize (am1 a.l d).any (fun n=>!decide (n=(p:Int))&&inS st n)=R at *;simp only[ic97,go_sem,am8,ar3,an9,dv5,dg5,bo4,ep4,hm,ig2,ig3,am5,d1,d2,d3,d4,e1,e2,e3,af6,ap8,am9,al9]
 first|refine aa3 fok143 (h) ?_|refine aa7 (h) ?_
 cases inS st p with
 | false=>simp only[go_sem]; exact ab5 rfl
 | true=>
  simp only[go_sem,am8,ar3,an9,dv5,dg5,bo4,ep4,hm,ig2,ig3,am5,vcs,vlf];refine aa7 (hI) ?_;simp only[go_sem,ap8,am9,al9]
  first|refine aa3 fok86 (hN) ?_|refine aa7 (hN) ?_
  simp only[go_sem]
  first|refine aa3 fok146 (hC) ?_|refine aa7 (hC) ?_
  simp only[go_sem];exact ab5 rfl
theorem ez5 (a:ab7)(hA:AOK a)(st:List Int)(hs:st.length<2^30)(p:Nat):PC Tryz.prog EE 99 [.agg (a.held st ⟨6,p,0⟩)] (.bool (a.keeps st ⟨6,p,0⟩)):=by
 refine ae6 hE fok99 (nZ rfl) (ah3 (bc1 a st _)) ?_;have hS:=bn4 a p hA;have hl:=a.az9 p;have hA1:=hA.len;have hC:=bk5 (a.ao9 p) 143 [.agg (a.held st ⟨6,p,0⟩)] [] (fun n=>inS st n) om fok143.1 fun n _=>ba1 a st ⟨6,p,0⟩ n om
 have hk:a.keeps st ⟨6,p,0⟩=(a.ao9 p).any fun n=>inS st n:=by
  unfold ab7.keeps;simp;rfl
 rw[hk];have hm:a.mv=.ab9 a.mcs:=rfl;have vcs:a.v.cs=[a.v]:=rfl;have vlf:a.v.leaf=true:=rfl;generalize (a.ao9 p).any (fun n=>inS st n)=R at *;simp only[ic99,go_sem,am8,ar3,an9,dv5,dg5,bo4,hm,ig2,am5,vcs,vlf]
 first|refine aa3 fok88 (hS) ?_|refine aa7 (hS) ?_
 simp only[go_sem,am8,ar3,an9]
 first|refine aa3 fok146 (hC) ?_|refine aa7 (hC) ?_
 simp only[go_sem];exact ab5 rfl
theorem gc3 (a:ab7)(hA:AOK a)(st:List Int)(hs:st.length<2^30)(p:Nat):PC Tryz.prog EE 100 [.agg (a.held st ⟨7,p,0⟩)] (.bool (a.keeps st ⟨7,p,0⟩)):=by
 refine ae6 hE fok100 (nZ rfl) (ah3 (bc1 a st _)) ?_;have hF:=eg7 a p st hA om
 have hk:a.keeps st ⟨7,p,0⟩=a.br1 p st:=by
  unfold ab7.keeps;simp
 rw[hk];have hm:a.mv=.ab9 a.mcs:=rfl;have vcs:a.v.cs=[a.v]:=rfl;have vlf:a.v.leaf=true:=rfl;simp only[ic100,go_sem,am8,ar3,an9,dv5,dg5,bo4,hm,ig2,am5,vcs,vlf];refine aa3 fok148 (hF) ?_;simp only[go_sem];exact ab5 rfl
theorem gv2 (a:ab7)(hA:AOK a)(st:List Int)(hs:st.length<2^30)(x:Itm):PC Tryz.prog EE 62 [a.mv,.aa4 (st.map Md.ad9),.agg x.cs] (.bool (a.holds st x)):=by
 refine ae6 hE fok62 (nZ rfl) (bf1 (aq7 a) (ag8 st) (br9 x)) ?_;have hi:=jt1 a x;have hnl:∀ d:TypeId,cb6 (.pointer d) a.mv=zg false:=fun _=>rfl
 have vcs:a.mv.cs=[a.mv]:=rfl;have vlf:a.mv.leaf=true:=rfl
 cases hx:a.isI x with
 | false=>
  rw[hx] at hi;have hh:a.holds st x=true:=by unfold ab7.holds; rw[hx]; rfl
  simp only[ic62,go_sem,ah1,aj4,ah7,hnl];refine aa3 fok93 (hi) ?_;simp only[go_sem]
  exact ab5 hh.symm
 | true=>
  rw[hx] at hi;have hmem:x∈a.items:=of_decide_eq_true hx;have hh:a.holds st x=a.keeps st x:=a.holds_of hmem;rw[hh]
  cases a.df3.1 hmem with
  | au7 p hp hf=>
   have hF:=ez1 a st ⟨1,p,0⟩ om;have hk:a.keeps st ⟨1,p,0⟩=!inS st (p:Int):=by unfold ab7.keeps; simp
   rw[hk];simp only[ic62,go_sem,ah1,aj4,ah7,hnl,vcs,vlf];refine aa3 fok93 (hi) ?_;simp only[go_sem,ah1,aj4,ah7,dg4,vcs,vlf];refine ⟨rfl,?_⟩;refine aa3 fok94 hF ?_;simp only[go_sem]
   exact ab5 rfl
  | need p q hp hq=>
   have hF:=ez3 a hA st hs p q hp hq;generalize a.keeps st ⟨2,p,q⟩=R at *;simp only[ic62,go_sem,ah1,aj4,ah7,hnl,vcs,vlf];refine aa3 fok93 (hi) ?_;simp only[go_sem,ah1,aj4,ah7,dg4,vcs,vlf];refine ⟨rfl,?_⟩;refine aa3 fok95 hF ?_;simp only[go_sem]
   exact ab5 rfl
  | clash p q hp hq=>
   have hF:=ep5 a hA st hs p q hp hq;generalize a.keeps st ⟨3,p,q⟩=R at *;simp only[ic62,go_sem,ah1,aj4,ah7,hnl,vcs,vlf];refine aa3 fok93 (hi) ?_;simp only[go_sem,ah1,aj4,ah7,dg4,vcs,vlf];refine ⟨rfl,?_⟩;refine aa3 fok96 hF ?_;simp only[go_sem]
   exact ab5 rfl
  | over p q hp hq=>
   have hF:=ez4 a hA st hs p q hp hq;generalize a.keeps st ⟨4,p,q⟩=R at *;simp only[ic62,go_sem,ah1,aj4,ah7,hnl,vcs,vlf];refine aa3 fok93 (hi) ?_;simp only[go_sem,ah1,aj4,ah7,dg4,vcs,vlf];refine ⟨rfl,?_⟩;refine aa3 fok97 hF ?_;simp only[go_sem]
   exact ab5 rfl
  | twin p q hp hq ht=>
   have hF:=ez2 a st ⟨5,p,q⟩ om;have hk:a.keeps st ⟨5,p,q⟩=(!inS st (p:Int) || !inS st (q:Int)):=by unfold ab7.keeps; simp
   rw[hk];simp only[ic62,go_sem,ah1,aj4,ah7,hnl,vcs,vlf];refine aa3 fok93 (hi) ?_;simp only[go_sem,ah1,aj4,ah7,dg4,vcs,vlf];refine ⟨rfl,?_⟩;refine aa3 fok98 hF ?_;simp only[go_sem]
   exact ab5 rfl
  | keep p hp hg=>
   have hF:=ez5 a hA st hs p;generalize a.keeps st ⟨6,p,0⟩=R at *;simp only[ic62,go_sem,ah1,aj4,ah7,hnl,vcs,vlf];refine aa3 fok93 (hi) ?_;simp only[go_sem,ah1,aj4,ah7,dg4,vcs,vlf];refine ⟨rfl,?_⟩;refine aa3 fok99 hF ?_;simp only[go_sem]
   exact ab5 rfl
  | job p hp hd=>
   have hF:=gc3 a hA st hs p;generalize a.keeps st ⟨7,p,0⟩=R at *;simp only[ic62,go_sem,ah1,aj4,ah7,hnl,vcs,vlf];refine aa3 fok93 (hi) ?_;simp only[go_sem,ah1,aj4,ah7,dg4,vcs,vlf];refine ⟨rfl,?_⟩;refine aa3 fok100 hF ?_;simp only[go_sem];exact ab5 rfl
theorem gv3 (xs:List Itm)(g:Nat)(first cap:List IV)(q:Itm->Bool)(hn:xs.length<2^62)(hok:okF Tryz.prog g=true)
  (hq:∀ x∈xs,PC Tryz.prog EE g (first++[IV.agg (Itm.cs x)]++cap) (.bool (q x))):PC Tryz.prog EE 92 [.aa4 (xs.map Itm.cs),.func (.func g) first cap] (.int .i64 (ai2 q xs 0)):=by
 refine ba5 fok92 (nZ rfl) fun σ=>?_
 simp only[ic92,go_sem];refine ab3 noT (fun i fr s=>s=σ/\fr=[(0,.aa4 (xs.map Itm.cs)),(1,.func (.func g) first cap),(7,.int .i64 xs.length),(8,.int .i64 i)]/\ai2 q xs 0=ai2 q (xs.drop i) i) xs.length ⟨rfl,rfl,rfl⟩ ?_;rintro i fr s hi ⟨rfl,rfl,hf⟩;by_cases hlt:i<xs.length
 ·obtain ⟨x,ha,_,hdr,hget,_⟩:=ad6 xs i hlt;have c1:(i:Int)<xs.length:=om
  have c2:(0:Int)<=i:=om
  have w1:=ad1 (i:=i) om;rw[hdr] at hf;simp only[go_sem,c1,c2,hget,aj4,ah7,ah1];refine an2 hok (em3 (hq x ha)) ?_;rintro v s ⟨rfl,rfl⟩;refine ⟨zc _,?_⟩
  cases hqe:q x with
  | true=>simp only[go_sem,hf,ai2,hqe,and_self]
  | false=>
   simp only[go_sem,w1];exact ⟨hlt,by rw[hf]; simp only[ai2,hqe,Bool.false_eq_true,if_false,Int.natCast_add,Int.natCast_one]⟩
 ·have hi':i=xs.length:=om
  subst hi';have c1:¬ (xs.length:Int)<xs.length:=om
  rw[List.drop_length] at hf;simp only[go_sem,c1,hf,ai2,and_self]
theorem gv4 (xs:List Itm)(g:Nat)(first cap:List IV)(q:Itm->Bool)(hn:xs.length<2^62)(hok:okF Tryz.prog g=true)
  (hq:∀ x∈xs,PC Tryz.prog EE g (first++[IV.agg (Itm.cs x)]++cap) (.bool (q x))):PC Tryz.prog EE 60 [.aa4 (xs.map Itm.cs),.func (.func g) first cap] (.bool (xs.any q)):=by
 refine ba5 fok60 (nZ rfl) fun σ=>?_
 simp only[ic60,go_sem];refine aa3 fok92 (gv3 xs g first cap q hn hok hq) ?_;simp only[go_sem,ar4,and_self]
theorem dg8 (xs:List Itm)(hn:xs.length<=2147483648):PC Tryz.prog EE 33 [.aa4 (xs.map Itm.cs)] (.aa4 (xs.map Itm.cs)):=by
 cases hx:xs with
 | nil=>
  rw[zv];refine bq1 ?_ ?_
  ·refine ae6 hE fok33 (nZ rfl) (ae5 .aa1) ?_;simp only[ic33,go_sem,aj2];exact .ch6
  ·refine ae6 hE fok33 (nZ rfl) (ae5 .af7) ?_;simp only[ic33,go_sem,aj2];rw[bl8 (by simp only[aa5,if_true]) rfl];simp only[go_sem]
   exact .dm3 _ _ _ (by simp only[aa5,if_true]; exact fun h=>(by cases h))
 | cons a as'=>
  have hne:xs.map Itm.cs≠[]:=by rw[hx]; exact fun h=>(by cases h)
  have hall:∀ e∈xs.map Itm.cs,e.length=3/\e.all IV.leaf=true:=fun e he=>by
   obtain ⟨x,_,rfl⟩:=zn.1 he;exact ⟨aj4 x,ah1 x⟩
  rw[<- hx];refine ae6 hE fok33 (nZ rfl) (ae5 (ax1 xs)) ?_;have hnil:∀ d,cb6 (.slice d) (.aa4 (xs.map Itm.cs))=zg false:=fun d=>by rw[hx]; rfl
  simp only[ic33,go_sem,aj2,hnil];rw[cj6 (by simp only[aa5,if_true]) hne hall (by rw[zb]; exact hn)];simp only[go_sem];refine Grow.frz (esz:=3) (es:=xs.map Itm.cs) (.inr ⟨1,by rw[zb],by simp only[aa5,if_true],zh _⟩) (fun x hx=>(hall x hx).1) (fun _ _=>zp _) (ao7 (ax1 xs))
theorem ig5 (a:ab7)(hA:AOK a)(st:List Int)(hs:st.length<2^30)(x:Itm):PC Tryz.prog EE 61 [.agg x.cs,.ab9 [a.mv],.ab9 [.aa4 (st.map Md.ad9)]] (.bool (!a.holds st x)):=by
 refine ae6 hE fok61 (nZ rfl) (bf1 (br9 x) (.ab9 _ (ah3 (aq7 a))) (.ab9 _ (ah3 (ag8 st)))) ?_;have h:=gv2 a hA st hs x;have vcs:a.mv.cs=[a.mv]:=rfl;have vlf:a.mv.leaf=true:=rfl;simp only[ic61,go_sem,ah1,aj4,ah7,vcs,vlf];refine aa3 fok62 (h) ?_;simp only[go_sem];exact ab5 rfl
theorem ig6 (a:ab7)(hA:AOK a)(st:List Int)(hs:st.length<2^30)(l:List Itm)(hl:l.length<2^62):PC Tryz.prog EE 29 [a.mv,.aa4 (st.map Md.ad9),ar9 l] (.bool (a.kept st l)):=by
 refine ae6 hE fok29 (nZ rfl) (bf1 (aq7 a) (ag8 st) (ax1 l)) ?_;have hC:=gv4 l 61 [] [.ab9 [a.mv],.ab9 [.aa4 (st.map Md.ad9)]] (fun x=>!a.holds st x) hl fok61.1 fun x _=>ig5 a hA st hs x
 have vcs:a.mv.cs=[a.mv]:=rfl;have vlf:a.mv.leaf=true:=rfl;have hnl:∀ d:TypeId,cb6 (.pointer d) a.mv=zg false:=fun _=>rfl
 simp only[ic29,go_sem,vcs,vlf,hnl,zk,zt,zi];refine aa3 fok60 (hC) ?_;simp only[go_sem];exact ab5 rfl
theorem ig7 (a:ab7)(hA:AOK a)(st:List Int)(hs:st.length<2^30)(hl:a.items.length<2^62):PC Tryz.prog EE 11 [a.mv,.aa4 (st.map Md.ad9)] (.bool (a.good st)):=by
 refine ae6 hE fok11 (nZ rfl) (ah9 (aq7 a) (ag8 st)) ?_;have h:=ig6 a hA st hs a.items hl;have hnl:∀ d:TypeId,cb6 (.pointer d) (.ab9 a.mcs)=zg false:=fun _=>rfl
 unfold ab7.good;unfold ab7.mv at *;simp only[ic11,go_sem,hnl,jt3,am5];refine aa3 fok29 (h) ?_;simp only[go_sem];exact ab5 rfl
theorem gv5 (a:ab7)(hl:a.items.length<=2147483648):PC Tryz.prog EE 50 [a.mv] (ar9 a.items):=by
 refine ae6 hE fok50 (nZ rfl) (ah3 (aq7 a)) ?_;have h:=dg8 a.items hl;have hnl:∀ d:TypeId,cb6 (.pointer d) (.ab9 a.mcs)=zg false:=fun _=>rfl
 unfold ab7.mv at *;simp only[ic50,go_sem,hnl,jt3,am5];refine aa3 fok33 (h) ?_;simp only[go_sem];exact .keep _ (ax1 _)
end Go.Id.Tryz
namespace Go.Id.Tryz
open Go Go.Id Go.Proofs Go.Shelf Go.Id.Md
structure MO (s:Store) (pp mid:Nat) (av tv allv itv:IV) (P:List aa2) (D:List Itm):Prop where
 cell:s.obj pp=zg (.cells [av,tv,allv,itv,.map mid])
 grow:Grow s itv 3 (D.map Itm.cs)
 map:s.obj mid=zg (.map (bb8 D))
 all:Grow s allv 15 (P.map aa2.cs)
 ne:∀ i k j l,itv=.slice i 0 k 3->allv=.slice j 0 l 15->i≠j
 lt:pp<s.next/\mid<s.next
theorem MO.mono {s s':Store}{pp mid:Nat}{av tv allv itv:IV}{P:List aa2}{D:List Itm}(h:MO s pp mid av tv allv itv P D)(hn:s.next<=s'.next)(ho:∀ i,i<s.next->s'.obj i=s.obj i):MO s' pp mid av tv allv itv P D where
 cell:=by rw[ho _ h.lt.1]; exact h.cell
 grow:=h.grow.mono hn fun id _ hid=>ho id hid
 map:=by rw[ho _ h.lt.2]; exact h.map
 all:=h.all.mono hn fun id _ hid=>ho id hid
 ne:=h.ne
 lt:=⟨by have:=h.lt.1; omega,by have:=h.lt.2; omega⟩
theorem fj6 (l:List Itm):∀ e∈l.map Itm.cs,e.length=3/\e.all IV.leaf=true:=fun e he=>by
 obtain ⟨x,_,rfl⟩:=zn.1 he;exact ⟨rfl,rfl⟩
theorem gv6 {τ:Store}{mid:Nat}{D:List Itm}{x:Itm}(h:τ.obj mid=zg (.map (bb8 D)))(hx:x ∉ D):ao4 τ 6 (.map mid) (.agg [.int .u8 x.kind,.int .i64 x.p,.int .i64 x.q]) (.agg [])=zg (τ.put mid (.map (bb8 (D++[x])))):=by
 have h2:=ib9 hx;have hxc:x.cs=[.int .u8 x.kind,.int .i64 x.p,.int .i64 x.q]:=rfl;rw[hxc] at h2;simp only[ao4,h,h2,Option.map]
def jc8 (pp:Nat)(σ s:Store):Prop:=σ.next<=s.next/\∀ i cs,i<σ.next->i≠pp->σ.obj i=zg (.cells cs)->s.obj i=zg (.cells cs)
theorem ep6 (σ:Store)(pp mid:Nat)(av tv allv itv:IV)(P:List aa2)(D:List Itm)(x:Itm)(h:MO σ pp mid av tv allv itv P D)(hx:x ∉ D)(hD:D.length<2^30) :
  C Tryz.prog EE 120 [.ptr pp 0,.int .u8 x.kind,.int .i64 x.p,.int .i64 x.q] σ (fun v s=>jc8 pp σ s/\∃ itv',MO s pp mid av tv allv itv' P (D++[x])):=by
 refine C_f fok120 (nZ rfl) ?_;have hxc:x.cs=[.int .u8 x.kind,.int .i64 x.p,.int .i64 x.q]:=rfl;have npp:¬ pp=σ.next:=by have:=h.lt.1; omega
 have nmid:¬ mid=σ.next:=by have:=h.lt.2; omega
 have npn:¬ pp=σ.next+1+7:=by have:=h.lt.1; omega
 have nmn:¬ mid=σ.next+1+7:=by have:=h.lt.2; omega
 have nmp:¬ mid=pp:=fun e=>by have h1:=h.cell; have h2:=h.map; rw[<- e,h2] at h1; cases h1
 have nsn:¬ σ.next=σ.next+1+7:=om
 have nsp:¬ σ.next=pp:=fun e=>npp e.symm
 have hc:=h.cell;have hm:=h.map;obtain ⟨S,hS⟩:∃ S:Store,S=(({ next:=σ.next+1,obj:=σ.obj }:Store).put σ.next (aj5.cells [.int .u8 0,.int .i64 0,.int .i64 0])).put σ.next (aj5.cells [.int .u8 x.kind,.int .i64 x.p,.int .i64 x.q]):=⟨_,rfl⟩;have So:∀ i,¬ i=σ.next->S.obj i=σ.obj i:=fun i hi=>by rw[hS]; simp only[aa5,hi,if_false]
 have Sb:S.obj σ.next=zg (.cells [.int .u8 x.kind,.int .i64 x.p,.int .i64 x.q]):=by rw[hS]; simp only[aa5,if_true]
 have hg1:Grow (⟨σ.next+1+11,S.obj⟩:Store) itv 3 (D.map Itm.cs):=h.grow.mono (by show σ.next<=σ.next+1+11; omega) fun id _ hid=>So id om
 have ha1:Grow (⟨σ.next+1+11,S.obj⟩:Store) allv 15 (P.map aa2.cs):=h.all.mono (by show σ.next<=σ.next+1+11; omega) fun id _ hid=>So id om
 have hap:=aj8 (nid:=σ.next+1+7) (e:=x.cs) hg1 (fj6 D) ⟨rfl,rfl⟩ (by rw[zb]; omega);rw[zb,hxc] at hap;have kp:=af8 hg1 pp _ (by rw[<- hc]; exact So pp npp) (fun _ e=>by cases e);have km:=af8 hg1 mid _ (by rw[<- hm]; exact So mid nmid) (fun _ e=>by cases e);have kb:=af8 hg1 σ.next _ Sb (fun _ e=>by cases e);have kn:(ae7 itv (⟨σ.next+1+11,S.obj⟩:Store)).next=σ.next+1+11:=ac2 itv;have hcp:S.obj pp=zg (.cells [av,tv,allv,itv,.map mid]):=by rw[So pp npp]; exact hc
 have kall:∀ i cs,i<σ.next->σ.obj i=zg (.cells cs)->(ae7 itv (⟨σ.next+1+11,S.obj⟩:Store)).obj i=zg (.cells cs):=fun i cs hi ho=>af8 hg1 i _ (by rw[<- ho]; exact So i om) (fun _ e=>by cases e)
 have hkall:Grow (ae7 itv (⟨σ.next+1+11,S.obj⟩:Store)) allv 15 (P.map aa2.cs):=by
  refine ha1.mono (by rw[kn]; exact zc _) fun id hv _=>?_
  rcases hg1 with ⟨h0,_⟩|⟨j,hj,_,_⟩
  ·rw[h0]; rfl
  ·have hne:=h.ne _ _ _ _ hj hv;rw[hj];show (if id=j then none else S.obj id)=_;rw[if_neg fun e=>hne e.symm]
 simp only[ic120,go_sem,npp,hc,b_o,b_p,b_t];rw[<- hS];generalize ae7 itv (⟨σ.next+1+11,S.obj⟩:Store)=K at *;simp only[show σ.next+1+1+1+1+1+1+1+1=σ.next+1+7 from rfl,hap,go_sem,npn,nmn,nmp,nsn,nsp,kp,km,kb];generalize hK2:(⟨K.next+7,_⟩:Store)=K2;have K2o:K2.obj=((K.put (σ.next+1+7) (aj5.row (List.map Itm.cs D++[[IV.int IntKind.u8 x.kind,IV.int IntKind.i64 x.p,IV.int IntKind.i64 x.q]]).flatten)).put pp (aj5.cells [av,tv,allv,IV.slice (σ.next+1+7) 0 (D.length+1) 3,IV.map mid])).obj:=by rw[<- hK2]
 have K2n:K2.next=σ.next+1+11+7:=by rw[<- hK2]; show K.next+7=_; rw[kn]
 have hmk:K2.obj mid=zg (.map (bb8 D)):=by rw[K2o]; simp only[aa5,nmp,nmn,if_false]; exact km
 have npm:¬ pp=mid:=fun e=>nmp e.symm
 rw[gv6 hmk hx];simp only[go_sem];refine ⟨⟨by rw[ab2,K2n]; omega,fun i cs hi hip ho=>?_⟩,.slice (σ.next+1+7) 0 (D.length+1) 3,?_⟩
 ·have him:¬ i=mid:=fun e=>by rw[e,hm] at ho; cases ho
  have hin:¬ i=σ.next+1+7:=om
  rw[aa5,if_neg him,K2o];simp only[aa5,hip,hin,if_false];exact kall i cs hi ho
 ·have hrow:∀ id,id≠mid->id≠pp->id≠σ.next+1+7->(K2.put mid (.map (bb8 (D++[x])))).obj id=K.obj id:=fun id h1 h2 h3=>by
   rw[aa5,if_neg h1,K2o];simp only[aa5,h2,h3,if_false]
  exact {
   cell:=by rw[aa5,if_neg npm,K2o]; simp only[aa5,if_true]
   grow:=by
    refine .inr ⟨σ.next+1+7,by rw[zu,ze,zb]; rfl,?_,by rw[ab2,K2n]; omega⟩;rw[aa5,if_neg (fun e=>nmn e.symm),K2o];simp only[aa5,if_true];rw[if_neg (fun e=>npn e.symm),zu]; rfl
   map:=by rw[aa5,if_pos rfl]
   all:=by
    refine hkall.mono (by rw[ab2,K2n,kn]; omega) fun id hv hid=>?_
    rw[kn] at hid
    have hr:K.obj id=zg (.row (P.map aa2.cs).flatten):=by
     rcases hkall with ⟨h0,_⟩|⟨j,hj,ho,_⟩
     ·rw[h0] at hv; cases hv
     ·rw[hj] at hv; cases hv; exact ho
    refine hrow id (fun e=>by rw[e,km] at hr; cases hr) (fun e=>by rw[e,kp] at hr; cases hr) fun e=>?_
    rw[e] at hv;rcases h.all with ⟨h0,_⟩|⟨j,hj,_,hjl⟩
    ·rw[h0] at hv; cases hv
    ·rw[hj] at hv; cases hv; omega
   ne:=fun i k j l e1 e2=>by
    cases e1;rcases h.all with ⟨h0,_⟩|⟨j',hj,_,hjl⟩
    ·rw[h0] at e2; cases e2
    ·rw[hj] at e2; cases e2; omega
   lt:=⟨by rw[ab2,K2n]; have:=h.lt.1; omega,by rw[ab2,K2n]; have:=h.lt.2; omega⟩ }
end Go.Id.Tryz
