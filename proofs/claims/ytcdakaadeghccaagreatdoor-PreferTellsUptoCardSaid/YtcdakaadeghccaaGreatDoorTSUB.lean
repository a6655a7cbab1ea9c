/- The document's order: rows put: walked. Conditions: sizes that fit. -/
import Derived.Test.YtcdakaadeghccaaGreatDoorTSXC
import Derived.Test.YtcdakaadeghccaaGreatDoorMv
import Derived.Test.YtcdakaadeghccaaGreatDoorGSR
import Derived.Test.YtcdakaadeghccaaGreatDoorTSQD
import Derived.Shelf.SlSortCmp.Insertion
import Derived.Sort.LotA
import Derived.Test.YtcdakaadeghccaaGreatDoorTSSH
import Derived.Test.YtcdakaadeghccaaGreatDoorTSNC
import Derived.Sort.LotB
import Derived.Sort.LotD1
open Option renaming some→za
open Nat renaming mul_one→zb,le_refl→zc,le_add_right→zd,le_trans→zh,zero_add→zr,lt_of_lt_of_le→zx,lt_succ_self→zy,zero_le→z0,not_lt_zero→z6
open List renaming length_singleton→ze,length_map→zi,length_append→zj,take_of_length_le→zk,length_take→zm,nil_append→zt,length_nil→zu,append_nil→zv,drop_append_of_le_length→zz,mem_filter→z5,drop_zero→z7,getElem?_eq_getElem→z9,mem_cons_of_mem→qb,mem_cons_self→qd
open Int renaming cast_ofNat_Int→zf,toNat_natCast→zg,reduceEq→zl,tdiv_eq_ediv_of_nonneg→zo
open Bool renaming false_eq_true→zn,and_eq_true→zq,not_false→z8,not_true→qa,true_eq_false→qe
open Array renaming size_setIfInBounds→zp,extract_size→qc
open UInt8 renaming ofNat→zw
set_option linter.all false
set_option maxRecDepth 100000
set_option maxHeartbeats 1000000
private theorem om{P:Prop}(h:P:=by omega):P:=h
namespace Go.Id.Tryz
open Go Go.Id Go.Proofs Go.Shelf Go.Id.Md
theorem et2 {S:Store}{lo nid id off n:Nat}{v:IV}{zs ys:List Int}(hv:aj3 S lo v zs)(hs:S.obj id=za (.row (ys.map bk6)))(ho:off+n<=ys.length)(hl:zs.length+n<2^30)(hn:lo<=nid)(hn2:nid<S.next)(hne:∀ k,v≠.slice id 0 k 1) :
  ∃ v' S',as5 S nid 1 v (.slice id off n 1)=za (v',S')/\S'.next=S.next/\aj3 S' lo v' (zs++(ys.drop off).take n)/\(∀ i,i≠nid->(∀ k,v≠.slice i 0 k 1)->S'.obj i=S.obj i)/\(v'=v\/∃ k,v'=.slice nid 0 k 1):=by
 have hsrc:bl8 S 1 (.slice id off n 1)=za (n,((ys.drop off).take n).map bk6):=by
  have h5:off+n<=(ys.map bk6).length:=by rw[zi]; exact ho
  simp only[bl8,hs,zb,h5,and_self,if_true];rw[<- List.map_drop,<- List.map_take]
 have hlen:((ys.drop off).take n).length=n:=by rw[zm,List.length_drop]; omega
 by_cases h0:n=0
 ·subst h0;refine ⟨v,S,?_,rfl,by rw[List.take_zero,zv]; exact hv,fun _ _ _=>rfl,.inl rfl⟩;unfold as5;rw[hsrc];rcases hv with ⟨rfl,rfl⟩|⟨vid,h1,h2,rfl,h4⟩
  ·simp
  ·simp[h4]
 ·rcases hv with ⟨rfl,rfl⟩|⟨vid,h1,h2,rfl,h4⟩
  ·refine ⟨.slice nid 0 n 1,S.put nid (.row (((ys.drop off).take n).map bk6)),?_,rfl,.inr ⟨nid,hn,hn2,by rw[zt,hlen],by rw[aa5,if_pos rfl,zt]⟩,fun i hi _=>by rw[aa5,if_neg hi],.inr ⟨n,rfl⟩⟩;unfold as5;rw[hsrc];have h5:n<=2147483648:=by simp only[zu] at hl; omega
   simp only[bz7,qe,if_false,h0,h5,if_true]
  ·refine ⟨.slice nid 0 (zs.length+n) 1,(S.kill vid).put nid (.row (zs.map bk6++((ys.drop off).take n).map bk6)),?_,rfl,.inr ⟨nid,hn,hn2,by rw[zj,hlen],by rw[aa5,if_pos rfl,List.map_append]⟩,fun i hi hi2=>?_,.inr ⟨_,rfl⟩⟩
   ·unfold as5;rw[hsrc];have h5:0+zs.length*1=(zs.map bk6).length:=by rw[zi]; omega
    have h6:zs.length+n<=2147483648:=om
    simp only[bz7,qe,if_false,h4,h0,and_false,h5,h6,z7,and_self,if_true]
   ·rw[aa5,if_neg hi];show (if i=vid then none else S.obj i)=_;rw[if_neg fun e=>hi2 _ (by rw[e])]
theorem hu4 {S:Store}{lo lo2 nid:Nat}{v u:IV}{zs ys:List Int}(hv:aj3 S lo v zs)(hu:aj3 S lo2 u ys)(hl:zs.length+ys.length<2^30)(hn:lo<=nid)(hn2:nid<S.next)(hne:∀ i k m,v=.slice i 0 k 1->u≠.slice i 0 m 1) :
  ∃ v' S',as5 S nid 1 v u=za (v',S')/\S'.next=S.next/\aj3 S' lo v' (zs++ys)/\(∀ i,i≠nid->(∀ k,v≠.slice i 0 k 1)->S'.obj i=S.obj i)/\(v'=v\/∃ k,v'=.slice nid 0 k 1):=by
 rcases hu with ⟨rfl,rfl⟩|⟨id,h1,h2,rfl,h4⟩
 ·refine ⟨v,S,?_,rfl,by rw[zv]; exact hv,fun _ _ _=>rfl,.inl rfl⟩;rcases hv with ⟨rfl,rfl⟩|⟨vid,h1,h2,rfl,h4⟩
  ·rfl
  ·simp[as5,bl8,h4]
 ·have:=et2 (nid:=nid) (off:=0) (n:=ys.length) hv h4 om hl hn hn2 fun k e=>hne _ _ _ e rfl
  rw[z7,zk (zc _)] at this;exact this
theorem hu5 {S0:Store}{lo a b c d n:Nat}{gv:IV}{l:List Int}{k:Int}(hg:aj3 S0 lo gv l)(hlo:∀ id m,gv=.slice id 0 m 1->id<a)(hn:n<=l.length)(hl:l.length<2^20)(hab:a<b)(hbc:b<c)(hcd:c<d)(hd:d<S0.next)(h0:S0.obj a=za (.row [])) :
  ∃ x1 v1 S1 v2 S2 x2 v3 S3,bv7 1 none (za (.int .i64 (n:Int))) gv=za x1/\as5 S0 b 1 (.slice a 0 0 1) x1=za (v1,S1)/\as5 S1 c 1 v1 (.aa4 [[.int .i64 k]])=za (v2,S2)/\bv7 1 (za (.int .i64 (n:Int))) none gv=za x2/\as5 S2 d 1 v2 x2=za (v3,S3)/\S3.next=S0.next /\
   aj3 S3 a v3 (l.take n++[k]++l.drop n)/\(∀ i,i<a->S3.obj i=S0.obj i)/\(∀ i,i<a->S2.obj i=S0.obj i)/\∀ i,i<a->S1.obj i=S0.obj i:=by
 have hb2:∀ m,cd8 m (za (.int .i64 (n:Int)))=za n:=fun m=>by simp[cd8,ej1]
 have hb0:∀ m,cd8 m none=za m:=fun m=>rfl
 have hrow:aj3 S0 a (.slice a 0 0 1) []:=.inr ⟨a,zc _,om,rfl,by rw[h0]; rfl⟩
 -- one number behind a row that is no nil
 have one:∀ (S:Store) (v:IV) (zs:List Int),aj3 S a v zs->zs.length<2^21->S.next=S0.next->∃ v' S',as5 S c 1 v (.aa4 [[.int .i64 k]])=za (v',S')/\S'.next=S0.next/\aj3 S' a v' (zs++[k])/\(∀ i,i<a->S'.obj i=S.obj i)/\v'=.slice c 0 (zs.length+1) 1:=fun S v zs h hz hS=>by
  refine ⟨_,_,cx3 (nid:=c) h k om,by rw[aa7,ac9,hS],.inr ⟨c,om,by rw[aa7,ac9,hS]; omega,by rw[zj]; rfl,by rw[aa5,if_pos rfl]⟩,fun i hi=>?_,rfl⟩;rw[aa5,if_neg om];exact cx4 h hi
 rcases hg with ⟨rfl,rfl⟩|⟨id,h1,h2,rfl,h4⟩
 ·have h0n:n=0:=by simpa using hn
  subst h0n;have hbz:∀ m,cd8 m (za (.int .i64 0))=za 0:=fun m=>rfl
  have s1:bv7 1 none (za (.int .i64 ((0:Nat):Int))) .aa1=za .aa1:=by simp[bv7,hbz,hb0]
  have s2:bv7 1 (za (.int .i64 ((0:Nat):Int))) none .aa1=za .aa1:=by simp[bv7,hbz,hb0]
  have a1:as5 S0 b 1 (.slice a 0 0 1) .aa1=za (.slice a 0 0 1,S0):=by simp[as5,bl8,h0]
  obtain ⟨v2,S2,a2,n2,r2,k2,_⟩:=one S0 _ [] hrow (by decide) rfl;obtain ⟨v3,S3,a3,n3,r3,k3,_⟩:=hu4 (nid:=d) (lo2:=0) r2 (.inl ⟨rfl,rfl⟩:aj3 S2 0 .aa1 []) (by simp) om om (fun i k m _ e=>by cases e);refine ⟨_,_,_,_,_,_,_,_,s1,a1,a2,s2,a3,by rw[n3,n2],?_,fun i hi=>?_,k2,fun _ _=>rfl⟩
  ·rw[zv] at r3; exact r3
  ·rw[k3 i om fun k e=>?_,k2 i hi];rcases r2 with ⟨h,_⟩|⟨id',h5,_,h6,_⟩
   ·rw[h] at e; cases e
   ·rw[h6] at e; cases e; omega
 ·have hid:=hlo id _ rfl;have s1:bv7 1 none (za (.int .i64 (n:Int))) (.slice id 0 l.length 1)=za (.slice id 0 n 1):=by simp[bv7,hb2,hb0,hn]
  have s2:bv7 1 (za (.int .i64 (n:Int))) none (.slice id 0 l.length 1)=za (.slice id n (l.length-n) 1):=by simp[bv7,hb2,hb0,hn]
  obtain ⟨v1,S1,a1,n1,r1,k1,e1⟩:=et2 (nid:=b) (off:=0) (n:=n) hrow h4 om (by simp only[zu]; omega) om om (fun k e=>by cases e; omega);rw[zt,z7] at r1;obtain ⟨v2,S2,a2,n2,r2,k2,e2⟩:=one S1 v1 _ r1 (by rw[zm]; omega) n1;have g1:∀ i,i<a->S1.obj i=S0.obj i:=fun i hi=>k1 i om fun k e=>by cases e; omega
  have h4':S2.obj id=za (.row (l.map bk6)):=by rw[k2 id hid,g1 id hid]; exact h4
  obtain ⟨v3,S3,a3,n3,r3,k3,e3⟩:=et2 (nid:=d) (off:=n) (n:=l.length-n) r2 h4' om (by rw[zj,zm,ze]; omega) om om (fun k e=>by rw[e2] at e; cases e; omega);have ed:(l.drop n).take (l.length-n)=l.drop n:=zk (by rw[List.length_drop]; exact zc _);rw[ed] at r3;refine ⟨_,_,_,_,_,_,_,_,s1,a1,a2,s2,a3,by rw[n3,n2],r3,fun i hi=>?_,fun i hi=>by rw[k2 i hi,g1 i hi],g1⟩;rw[k3 i om fun k e=>by rw[e2] at e; cases e; omega,k2 i hi,g1 i hi]
theorem is9 {t:Store}{lo:Nat}{v:IV}{zs:List Int}(h:aj3 t lo v zs){i n:Nat}(hv:v=.slice i 0 n 1):lo<=i/\i<t.next:=by
 rcases h with ⟨rfl,_⟩|⟨id,h1,h2,rfl,_⟩
 ·cases hv
 ·cases hv; exact ⟨h1,h2⟩
theorem fv9 (o:ag6)(P:List Int)(hY:Y25 o P)(how:Nat)(hh:how<4){i n m:Nat}(hi:i<o.a.l.length)(hn:n<o.a.l.length)(hm:m<o.a.l.length):PC Tryz.prog EE 122 [yv o.a P,.int .i64 (how:Int),.int .i64 i,.int .i64 n,.int .i64 m] (.bool (o.al5 how i n m)):=by
 refine ae5 hE fok122 (nZ rfl) (fun a ha=>by
  simp only[List.mem_cons,List.not_mem_nil,or_false] at ha;rcases ha with rfl|rfl|rfl|rfl|rfl
  ·exact db3 _ _
  all_goals exact .int _ _) ?_
 have hu:=it7 o P hY hi hn hm;have hb:=bx7 o P hY n m
 have hbt:o.better n m=decide (o.cmp n m<0):=by
  unfold ag6.better;rw[ad9.bn5,ad9.bn5,decide_eq_true hn,decide_eq_true hm]; rfl
 rw[hbt] at hb;unfold ag6.al5;have h4:how=0\/how=1\/how=2\/how=3:=om
 rcases h4 with rfl|rfl|rfl|rfl
 ·rw[if_neg om,if_neg om,if_neg om];simp only[ic122,go_sem,zf,zl,ct4,ap4];refine aa3 fok15 (hb) ?_;simp only[go_sem];exact ab4 rfl
 ·by_cases e:(n:Int)=i
  ·rw[if_pos ⟨rfl,.inl e⟩];have e':((n:Int)=i)=True:=eq_true e;simp only[ic122,go_sem,zf,zl,e'];exact ab4 rfl
  by_cases e2:(m:Int)=i
  ·rw[if_pos ⟨rfl,.inr e2⟩];have e2':((m:Int)=i)=True:=eq_true e2;simp only[ic122,go_sem,zf,zl,e,e2'];exact ab4 rfl
  rw[if_neg (by rintro ⟨_,h|h⟩<;>contradiction),if_neg om,if_neg om];simp only[ic122,go_sem,zf,zl,e,e2,ct4,ap4];refine aa3 fok15 (hb) ?_;simp only[go_sem];exact ab4 rfl
 ·rw[if_neg om,if_neg om,if_pos (.inl rfl)];simp only[ic122,go_sem,zf,zl,ct4,ap4];refine aa3 fok183 (hu) ?_;simp only[go_sem];exact ab4 rfl
 ·rw[if_neg om];by_cases e:decide ((n:Int)<o.a.p.inst)=decide ((m:Int)<o.a.p.inst)
  ·rw[if_neg (by rintro ⟨_,h⟩; exact h e),if_pos (.inr rfl)];simp only[ic122,go_sem,zf,zl,bu6,y_0,ah5,dv7,ac5,ei4,e];rw[<- bu6];refine aa3 fok183 (hu) ?_;simp only[go_sem];exact ab4 rfl
  ·rw[if_pos ⟨rfl,e⟩];simp only[ic122,go_sem,zf,zl,bu6,y_0,ah5,dv7,ac5,ei4,e];exact ab4 rfl
theorem et3 {E:Nat->IV}{fr:Frm}{σ:Store}{n:Nat}{x:IX}{lo hi:Option IX}:bw7 E fr σ (.q (.slc n x lo hi))=True:=rfl
theorem gr5 {t σ:Store}{lo:Nat}{v:IV}{zs:List Int}(h:aj3 t lo v zs):db4 0 σ v=za (.int .i64 zs.length):=by
 rcases h with ⟨rfl,rfl⟩|⟨id,h1,h2,rfl,h4⟩<;>rfl
theorem hu6 {t:Store}{lo:Nat}{v:IV}{zs:List Int}(h:aj3 t lo v zs){k:Nat}(hk:k<zs.length):∃ id,v=.slice id 0 zs.length 1/\t.obj id=za (.row (zs.map bk6))/\id<t.next/\((zs.map bk6).drop k).head? = za (.int .i64 zs[k]):=by
 rcases h with ⟨_,rfl⟩|⟨id,h1,h2,h3,h4⟩
 ·exact absurd hk (z6 _)
 ·refine ⟨id,h3,h4,h2,?_⟩;rw[List.head?_drop,List.getElem?_map,z9 hk]; rfl
theorem bu2 {t s:Store}{v:IV}{zs:List Int}(h:aj3 t 0 v zs)(hn:t.next<=s.next)(ho:∀ i,i<t.next->s.obj i=t.obj i):aj3 s 0 v zs:=by
 rcases h with h|⟨id,h1,h2,h3,h4⟩
 ·exact .inl h
 ·exact .inr ⟨id,h1,om,h3,by rw[ho id h2]; exact h4⟩
theorem eh9 {τ:Store}{v:IV}{zs:List Int}(h:aj3 τ 0 v zs):cs9 τ 0 v (.aa4 (zs.map Md.ae4)):=by
 rcases h with ⟨rfl,rfl⟩|⟨id,h1,h2,rfl,h4⟩
 ·exact .dc1
 ·exact cv4 (cs:=zs.map bk6) h4 (by rw[zk (by simp)]) (by simp)
theorem cv6 (o:ag6)(P:List Int)(hY:Y25 o P)(how:Nat)(hh:how<4)(l:List Int)(hl:l.length<2^19)(hr:∀ z∈l,o.a.is z=true)(i:Int)(hi:l≠[]->o.a.is i=true) :
  PC Tryz.prog EE 64 [yv o.a P,.aa4 (l.map Md.ae4),.int .i64 (how:Int),.int .i64 i] (.aa4 ((gt6 (o.al5 how i) l).map Md.ae4)):=by
 refine ae5 hE fok64 (nZ rfl) (en4 (db3 _ _) (ai1 l) (.int _ _) (.int _ _)) ?_;obtain ⟨D,hD⟩:∃ D:Nat->List Int,D=fun j=>(l.take j).foldl (bx3 (o.al5 how i)) []:=⟨_,rfl⟩
 have hD0:D 0=[]:=by rw[hD]; rfl
 have hDe:D l.length=gt6 (o.al5 how i) l:=by rw[hD]; show (l.take l.length).foldl _ _=_; rw[List.take_length]; rfl
 have hDs:∀ j z,l.take (j+1)=l.take j++[z]->D (j+1)=bx3 (o.al5 how i) (D j) z:=fun j z h=>by rw[hD]; show (l.take (j+1)).foldl _ _=_; rw[h,List.foldl_append]; rfl
 have hDl:∀ j,j<=l.length->(D j).length<=j:=fun j hj=>by
  rw[hD];have:=he8 (o.al5 how i) (l.take j) [];rw[zm,zu] at this;exact zh this om
 have hDm:∀ j,∀ x∈D j,x∈l:=by
  intro j;rw[hD]
  have key:∀ (m out:List Int),(∀ x∈out,x∈l)->(∀ x∈m,x∈l)->∀ x∈m.foldl (bx3 (o.al5 how i)) out,x∈l:=by
   intro m
   induction m with
   | nil=>intro out h _; exact h
   | cons z m ih=>
    intro out h h2;rw[List.foldl_cons];refine ih _ (fun x hx=>?_) fun x hx=>h2 x (qb _ hx)
    unfold bx3 at hx;split at hx
    ·exact h x hx
    ·rcases eo6.1 hx with rfl|hx
     ·exact h2 _ qd
     ·exact h x hx
  exact key (l.take j) [] (fun x h=>by cases h) fun x hx=>List.mem_of_mem_take hx
 clear hD
 have his:∀ z∈l,∃ j:Nat,z=j/\j<o.a.l.length:=fun z hz=>by
  have hk:=hr z hz;unfold ad9.is at hk;simp only[zq,decide_eq_true_eq] at hk;exact ⟨z.toNat,om,om⟩
 simp only[ic64,go_sem,ct4,ap4];refine ab1 noT (fun j fr t=>∃ gv,fr=[(0,yv o.a P),(1,.aa4 (l.map Md.ae4)),(2,.int .i64 (how:Int)),(3,.int .i64 i),(9,gv),(10,.int .i64 (j:Int))]/\aj3 t 0 gv (D j)) l.length ⟨.aa1,rfl,.inl ⟨rfl,hD0⟩⟩ ?_;rintro j fr t hj ⟨gv,rfl,hg⟩;by_cases hlt:j<l.length
 ·obtain ⟨z,hz,_,hdr,hget,htk⟩:=ad6 l j hlt;have d1:(j:Int)<l.length:=om
  have d2:(0:Int)<=(j:Int):=om
  have w1:=ac4 (i:=j) om;have gz:=hget Md.ae4;have hs:=hDs j z htk;have hol:=hDl j om;have hom:=hDm j;generalize D j=out at *;obtain ⟨x,hzx,hx⟩:=his z hz
  obtain ⟨y,hiy,hy⟩:∃ y:Nat,i=y/\y<o.a.l.length:=by
   have hk:=hi fun e=>by rw[e] at hlt; exact absurd hlt (z6 _)
   unfold ad9.is at hk;simp only[zq,decide_eq_true_eq] at hk;exact ⟨i.toNat,om,om⟩
  obtain ⟨A,hA⟩:∃ A:Nat->Nat,A=ex3 (o.al5 how i) out z:=⟨_,rfl⟩;have hA0:A 0=0:=by rw[hA]; rfl
  have hAs:∀ k (h:k<out.length),A (k+1)=if o.al5 how i out[k] z=true then k+1 else A k:=fun k h=>by
   rw[hA]; show ex3 _ _ _ (k+1)=_;rw[ex3,show out.getD k 0=out[k] by simp[List.getD_eq_getElem?_getD,h]]
  have hAl:∀ k,A k<=k:=fun k=>by rw[hA]; exact gh2 _ _ _ k
  have hAe:gh3 (o.al5 how i) out z=out.take (A out.length)++[z]++out.drop (A out.length):=by rw[hA]; unfold gh3; simp
  clear hA;obtain ⟨N,hN⟩:∃ N:Nat->Bool,N=fun k=>decide (z∈out.take k):=⟨_,rfl⟩
  have hN0:N 0=false:=by rw[hN]; simp
  have hNs:∀ k (h:k<out.length),N (k+1)=(N k||decide (out[k]=z)):=fun k h=>by
   rw[hN];show decide (z∈out.take (k+1))=(decide (z∈out.take k)||decide (out[k]=z));rw[List.take_add_one,z9 h,Bool.eq_iff_iff,Bool.or_eq_true,decide_eq_true_eq,decide_eq_true_eq,decide_eq_true_eq];simp only[Option.toList_some,List.mem_append,List.mem_singleton];exact or_congr Iff.rfl eq_comm
  have hNe:N out.length=decide (z∈out):=by rw[hN]; show decide (z∈out.take out.length)=_; rw[List.take_length]
  clear hN;simp only[go_sem,d1];refine ab1 noT (fun k fr t=>fr=[(0,yv o.a P),(1,.aa4 (l.map Md.ae4)),(2,.int .i64 (how:Int)),(3,.int .i64 i),(9,gv),(10,.int .i64 (j:Int)),(11,.int .i64 (A k:Nat)),(12,.bool (N k)),(13,.int .i64 (k:Int))]/\aj3 t 0 gv out) out.length ⟨by rw[hA0,hN0]; rfl,hg⟩ ?_;clear hg;rintro k fr u hk ⟨rfl,hg⟩;have hln:=fun σ=>gr5 (σ:=σ) hg
  by_cases hlk:k<out.length
  ·obtain ⟨id,rfl,ho,hid,hhd⟩:=hu6 hg hlk;have e1:(k:Int)<out.length:=om
   have e2:(0:Int)<=(k:Int):=om
   have w2:=ac4 (i:=k) om;obtain ⟨w,hwz,hw⟩:=his out[k] (hom _ (List.getElem_mem hlk));have hah:=fv9 o P hY how hh hy hw hx;rw[<- hiy,<- hwz,<- hzx] at hah;have has:=hAs k hlk;have hns:=hNs k hlk;generalize out[k]=q at *;have hdp:((out.map bk6).drop (k*1)).head? = za (.int .i64 q):=by rw[zb]; exact hhd
   have fin:∀ (u':Store),u'.obj=u.obj->u.next<=u'.next->aj3 u' 0 (.slice id 0 out.length 1) out:=fun u' h1 h2=>bu2 hg h2 fun _ _=>by rw[h1]
   cases hn:N k with
   | true=>
    rw[hn,Bool.true_or] at hns;simp only[go_sem,hln,e1,e2,ho,hhd,hdp,d1,d2,gz,Md.ae4,zr,zb,zg,ct4,ap4];refine aa3 fok122 (hah) ?_
    cases hb:o.al5 how i q z with
    | true=>
     rw[hb,if_pos rfl] at has;simp only[go_sem,w2,has,hns]
     exact ⟨hlk,fin _ rfl (zd _ _)⟩
    | false=>
     rw[hb,if_neg (by decide)] at has;simp only[go_sem,w2,has,hns]
     exact ⟨hlk,fin _ rfl (zd _ _)⟩
   | false=>
    rw[hn,Bool.false_or] at hns;by_cases hqz:q=z
    ·rw[decide_eq_true hqz] at hns;have hqz':(q=z)=True:=eq_true hqz;simp only[go_sem,hqz',hln,e1,e2,ho,hhd,hdp,d1,d2,gz,Md.ae4,zr,zb,zg,ct4,ap4];refine aa3 fok122 (hah) ?_
     cases hb:o.al5 how i q z with
     | true=>
      rw[hb,if_pos rfl] at has;simp only[go_sem,w2,has,hns]
      exact ⟨hlk,fin _ rfl (zd _ _)⟩
     | false=>
      rw[hb,if_neg (by decide)] at has;simp only[go_sem,w2,has,hns];exact ⟨hlk,fin _ rfl (zd _ _)⟩
    ·rw[decide_eq_false hqz] at hns;simp only[go_sem,hqz,hln,e1,e2,ho,hhd,hdp,d1,d2,gz,Md.ae4,zr,zb,zg,ct4,ap4];refine aa3 fok122 (hah) ?_
     cases hb:o.al5 how i q z with
     | true=>
      rw[hb,if_pos rfl] at has;simp only[go_sem,w2,has,hns]
      exact ⟨hlk,fin _ rfl (zd _ _)⟩
     | false=>
      rw[hb,if_neg (by decide)] at has;simp only[go_sem,w2,has,hns];exact ⟨hlk,fin _ rfl (zd _ _)⟩
  have hk':k=out.length:=om
  subst hk';have e1:¬ (out.length:Int)<out.length:=om
  cases hn:N out.length with
  | true=>
   rw[hn] at hNe;have hin:z∈out:=of_decide_eq_true hNe.symm;rw[show bx3 (o.al5 how i) out z=out from if_pos hin] at hs;simp only[go_sem,hln,e1,w1]
   exact ⟨hlt,gv,rfl,by rw[hs]; exact bu2 hg (by first|exact zc _|exact zd _ _) fun _ _=>rfl⟩
  | false=>
   rw[hn] at hNe;have hin:¬ z∈out:=of_decide_eq_false hNe.symm;rw[show bx3 (o.al5 how i) out z=gh3 (o.al5 how i) out z from if_neg hin,hAe] at hs;obtain ⟨S0,hS0⟩:∃ S0:Store,S0=(⟨u.next+16,u.obj⟩:Store).put u.next (al8.row []):=⟨_,rfl⟩;have hSn:S0.next=u.next+16:=by rw[hS0]; rfl
   have hSo:∀ i,i<u.next->S0.obj i=u.obj i:=fun i hi=>by rw[hS0,aa5,if_neg om]
   have hgS:aj3 S0 0 gv out:=bu2 hg om hSo;obtain ⟨y1,v1,S1,v2,S2,y2,v3,S3,q1,q2,q3,q4,q5,q6,q7,q8,q9,q10⟩:=hu5 (a:=u.next) (b:=u.next+4) (c:=u.next+10) (d:=u.next+14) (n:=A out.length) (k:=z) hgS (fun id n h=>by have:=(is9 hg h).2; omega) (hAl _) om om om om om (by rw[hS0,aa5,if_pos rfl]);simp only[go_sem,hln,e1,d1,d2,gz,Md.ae4,et3,true_and];rw[<- hS0];simp only[q1,q2,go_sem,et3,true_and,d1,d2,gz,Md.ae4];simp only[show u.next+1+1+1+1+1+1+1+1+1+1=u.next+10 from rfl,q3,go_sem,et3,true_and,q4];simp only[show u.next+10+1+1+1+1=u.next+14 from rfl,q5,go_sem,w1];exact ⟨hlt,v3,rfl,by rw[hs]; exact q7.low (z0 _)⟩
 have hj':j=l.length:=om
 subst hj';have d1:¬ (l.length:Int)<l.length:=om
 simp only[go_sem,d1];rw[<- hDe];exact eh9 hg
end Go.Id.Tryz
namespace Go.Id.Tryz
open Go Go.Id Go.Proofs Go.Id.Md
end Go.Id.Tryz
namespace Go.Id.Md
open Go Go.Id
def ad9.if7 (a:ad9)(i n:Nat):Bool:=decide ((n:Int)=i)||a.jk2 i (a.pk n)||(!decide ((n:Int)=i)&&ab2 (a.pk n) (a.pk i))
end Go.Id.Md
namespace Go.Id.Tryz
open Go Go.Id Go.Proofs Go.Id.Md
theorem dd5 (a:ad9)(hA:AOK a)(i n:Nat)(hi:i<a.l.length)(hn:n<a.l.length):PC Tryz.prog EE 126 [a.dv,.int .i64 i,.int .i64 n] (.bool (a.if7 i n)):=by
 refine ae5 hE fok126 (nZ rfl) (at1 (bj9 a) (.int _ _) (.int _ _)) ?_;have d1:(0:Int)<=(i:Int):=om
 have d2:(0:Int)<=(n:Int):=om
 have d3:(i:Int)<a.l.length:=om
 have d4:(n:Int)<a.l.length:=om
 have gi:=bd7 a hi;have gn:=bd7 a hn;have si:=hA.small _ (es5 a hi);have sn:=hA.small _ (es5 a hn);have he3:=bx6 a hA 3 i;have he4:=bx6 a hA 4 i;have hn4:=fv4 a hA 4 i hi;generalize hR:a.if7 i n=R;unfold ad9.if7 ad9.jk2 ad9.dt2 at hR;generalize a.pk i=p at *;generalize a.pk n=q at *;have hO:=dd3 q p sn si;have hC:=bj3 q.evr p.evr sn.1 si.1;have hF:=ep5 q.aj1 p.aj1;have p1:∀ p:aa2,(p.cs.drop 1).take 3=p.evr.cs:=fun _=>rfl
 have p4:∀ p:aa2,(p.cs.drop 4).head? = za (.int .u8 p.aj1):=fun _=>rfl
 have p5:∀ p:aa2,(p.cs.drop 5).head? = za (.str p.vendor):=fun _=>rfl
 by_cases hni:(n:Int)=i
 ·simp only[ic126,go_sem,ah5,be6,ac5,d1,d2,d3,d4,gi,gn,ag8,ai2,ah4,hni];exact ab4 (by rw[<- hR]; simp[hni])
 simp only[ic126,go_sem,ah5,be6,ac5,d1,d2,d3,d4,gi,gn,ag8,ai2,ah4,hni];refine aa3 fok191 (hO) ?_
 cases hob:ab2 q p with
 | true=>
  simp only[go_sem]
  exact ab4 (by rw[<- hR]; simp[hni,hob])
 | false=>
 by_cases hnm:q.name=p.name
 case neg=>
  simp only[go_sem,hj6,hnm];exact ab4 (by rw[<- hR]; simp[hni,hnm,hob])
 simp only[go_sem,hj6,hnm,<- ah5];refine aa3 fok192 (he3) ?_;have hres:R=((a.bd1 3 i||a.bi9 4 i||decide (0<=ai5 q.evr p.evr))&&(a.bd1 4 i||av5 q.aj1 p.aj1)&&(a.r.vendor||decide (q.vendor=p.vendor))):=by rw[<- hR]; simp[hni,hnm,hob]
 clear hR;cases h3:a.bd1 3 i
 case' true=>simp only[go_sem]
 case' false=>
  simp only[go_sem];refine aa3 fok193 (hn4) ?_;cases h4:a.bi9 4 i<;>simp only[go_sem]
 all_goals
  simp only[go_sem,p1,cc7];refine aa3 fok58 (hC) ?_;generalize ai5 q.evr p.evr=c at *;by_cases hc0:c<0
  case' pos=>
   have hc1:¬ 0<=c:=om
   simp only[go_sem,hc0,p4]
  case' neg=>
   have hc1:0<=c:=om
   simp only[go_sem,hc0,p4]
 all_goals try (exact ab4 (by rw[hres]; simp[*]))
 all_goals
  refine aa3 fok194 (hF) ?_;cases hfo:av5 q.aj1 p.aj1
  case' true=>simp only[go_sem,p5]
  case' false=>
   simp only[go_sem,<- ah5];refine aa3 fok192 (he4) ?_;cases h5:a.bd1 4 i<;>simp only[go_sem,p5]
 all_goals try (exact ab4 (by rw[hres]; simp[*]))
 all_goals
  by_cases hv:q.vendor=p.vendor
  ·simp only[go_sem,hv];exact ab4 (by rw[hres]; simp[*])
  ·simp only[go_sem,hv,ah5,jr5,ac5];exact ab4 (by rw[hres]; simp[*])
theorem av3 (a:ad9)(i:Int):a.av8 i=ak9 (fun n=>a.inst i&&a.if7 i.toNat n) a.l.length:=by
 unfold ad9.av8
 cases h:a.inst i with
 | true=>
  have h0:0<=i:=by
   unfold ad9.inst ad9.is at h;simp only[zq,decide_eq_true_eq] at h;exact h.1.1
  obtain ⟨m,rfl⟩:∃ m:Nat,i=m:=⟨i.toNat,om⟩;simp only[if_true,Bool.true_and,zg]
  rfl
 | false=>
  have:ak9 (fun n=>false&&a.if7 i.toNat n) a.l.length=[]:=by
   unfold ak9;simp
  rw[this]; simp
theorem hu7 {t:Store}{gv:IV}{l:List Int}(hg:Grow t gv 1 (l.map Md.ae4)):cs9 t 0 gv (.aa4 (l.map Md.ae4)):=
 hg.frz (fun x hx=>(cz7 _ x hx).1) (fun _ _=>z6 _) fun e he c hc=>by
  obtain ⟨n,_,rfl⟩:=List.mem_map.1 he;exact ao4 (.int _ _) c hc
theorem bb6 (a:ad9)(hA:AOK a)(i:Int):PC Tryz.prog EE 69 [a.dv,.int .i64 i] (.aa4 ((a.av8 i).map Md.ae4)):=by
 refine ae5 hE fok69 (nZ rfl) (ae9 (bj9 a) (.int _ _)) ?_;have hl:=hA.len;have hI:=hA.inst;rw[av3];obtain ⟨f,hf⟩:∃ f:Nat->Bool,f=fun n=>a.inst i&&a.if7 i.toNat n:=⟨_,rfl⟩
 rw[<- hf];simp only[ic69,go_sem];refine ab1 noT (fun n fr t=>∃ gv,fr=[(0,a.dv),(1,.int .i64 i),(5,gv),(6,.int .i64 (n:Int))]/\Grow t gv 1 ((ak9 f n).map Md.ae4)) a.l.length ⟨.aa1,rfl,.inl ⟨rfl,rfl⟩⟩ ?_;rintro n fr t hn ⟨gv,rfl,hg⟩;by_cases hlt:n<a.l.length
 ·have d1:(n:Int)<a.l.length:=om
  have w1:=ac4 (i:=n) om;have hsn:=cm8 f n;have hnl:=av4 f n
  have hno:f n=false->∀ u:Store,u.obj=t.obj->t.next<=u.next->Grow u gv 1 ((ak9 f (n+1)).map Md.ae4):=fun h u h1 h2=>by
   rw[hsn,h];simp only[zn,if_false,zv];exact hg.mono h2 fun _ _ _=>by rw[h1]
  by_cases h0:0<=i
  ·by_cases h1:i<a.p.inst
   ·obtain ⟨m,rfl⟩:∃ m:Nat,i=m:=⟨i.toNat,om⟩;have hin:a.inst m=true:=by unfold ad9.inst ad9.is; simp[h1]; omega
    have hfn:f n=a.if7 m n:=by rw[hf,hin]; rfl
    have hS:=dd5 a hA m n om hlt;simp only[go_sem,ah5,be6,dv7,d1,h0,h1,ac5];rw[<- ah5];refine aa3 fok126 (hS) ?_
    cases hb:a.if7 m n with
    | true=>
     rw[hfn,hb,if_pos rfl] at hsn;obtain ⟨v',σ',h1,h2,h3⟩:=cc4 (n:=1) (nid:=t.next) (e:=[.int .i64 (n:Int)]) hg (cz7 _) ⟨rfl,rfl⟩ (by rw[zi]; omega) (zc _) om;simp only[go_sem,h1,w1];refine ⟨hlt,v',rfl,?_⟩;rw[hsn,List.map_append]
     exact h3
    | false=>
     simp only[go_sem,w1];exact ⟨hlt,gv,rfl,hno (by rw[hfn,hb]) _ rfl (zc _)⟩
   ·have hfn:f n=false:=by rw[hf]; simp[ad9.inst,h1]
    simp only[go_sem,ah5,be6,dv7,d1,h0,h1,ac5,w1];exact ⟨hlt,gv,rfl,hno hfn _ rfl (zc _)⟩
  ·have hfn:f n=false:=by rw[hf]; simp[ad9.inst,ad9.is,h0]
   simp only[go_sem,ah5,be6,dv7,d1,h0,ac5,w1];exact ⟨hlt,gv,rfl,hno hfn _ rfl (zc _)⟩
 ·have hn':n=a.l.length:=om
  subst hn';have d1:¬ (a.l.length:Int)<a.l.length:=om
  simp only[go_sem,ah5,be6,d1,ac5];exact hu7 hg
theorem bu3 (a:ad9)(hA:AOK a)(i:Int):(a.av8 i).length<=256:=by
 rw[av3];exact zh (av4 _ _) hA.len
end Go.Id.Tryz
namespace Go.Id.Tryz
open Go Go.Id Go.Proofs
section
variable {α:Type} [Inhabited α] (emb:α->Int)
def et4 (d:Array α):List IV:=d.toList.map fun x=>.int .i64 (emb x)
theorem az8 (d:Array α):(et4 emb d).length=d.size:=by simp[et4]
theorem it1 {d:Array α}{k:Nat}(h:k<d.size):((et4 emb d).drop k).head? = za (.int .i64 (emb d[k]!)):=by
 simp[et4,List.head?_drop,h]
theorem fd7 {d:Array α}{i:Nat}(h:i<(et4 emb d).length):(et4 emb d)[i]=.int .i64 (emb (d[i]'(by rw[az8] at h; exact h))):=by simp[et4]
theorem hu8 {d:Array α}{k:Nat}(h:k<d.size)(x:α):av1 (et4 emb d) k [.int .i64 (emb x)]=et4 emb (d.setIfInBounds k x):=by
 refine List.ext_getElem (by rw[ag1 (by rw[az8]; simp only[ze]; omega),az8,az8,zp]) fun i h1 h2=>?_
 have h3:i<d.size:=by rw[az8,zp] at h2; exact h2
 have e0:(et4 emb (d.setIfInBounds k x))[i]=.int .i64 (emb (if k=i then x else d[i])):=by
  rw[fd7]; congr 2; exact Array.getElem_setIfInBounds ..
 rw[e0];unfold av1;simp only[List.getElem_append,zm,az8,List.getElem_take,List.getElem_drop,zj,ze,fd7];by_cases e:i=k
 ·subst e;have g1:¬ i<min i d.size:=om
  have g2:i<min i d.size+1:=om
  simp only[g1,g2,dite_false,dite_true,if_true,List.getElem_singleton]
 ·have e':¬ k=i:=fun h=>e h.symm
  by_cases e2:i<k
  ·have g1:i<min k d.size:=om
   have g2:i<min k d.size+1:=om
   simp only[g1,g2,dite_true,e',if_false]
  ·have g1:¬ i<min k d.size:=om
   have g2:¬ i<min k d.size+1:=om
   have g3:k+1+(i-(min k d.size+1))=i:=om
   simp only[g2,g3,dite_false,e',if_false]
theorem hu9 {a t vs:List IV}{k:Nat}(h:k+vs.length<=a.length):av1 (a++t) k vs=av1 a k vs++t:=by
 unfold av1;rw[List.take_append_of_le_length om,zz h];simp only[List.append_assoc]
variable (tl:List IV)
def bb7 (d:Array α):List IV:=et4 emb d++tl
theorem bu4 (d:Array α):(bb7 emb tl d).length=d.size+tl.length:=by rw[bb7,zj,az8]
theorem ak1 {d:Array α}{k:Nat}(h:k<d.size):((bb7 emb tl d).drop k).head? = za (.int .i64 (emb d[k]!)):=by
 rw[bb7,zz (by rw[az8]; omega),List.head?_append,it1 emb h]; rfl
theorem fd8 {d:Array α}{k:Nat}(h:k<d.size)(x:α):av1 (bb7 emb tl d) k [.int .i64 (emb x)]=bb7 emb tl (d.setIfInBounds k x):=by
 rw[bb7,hu9 (by rw[az8,ze]; omega),hu8 emb h,bb7]
theorem fd9 {d:Array α}{i j:Nat}(hi:i<d.size)(hj:j<d.size):av1 (av1 (bb7 emb tl d) i [.int .i64 (emb d[j]!)]) j [.int .i64 (emb d[i]!)]=bb7 emb tl (Go.Sort.swp d i j):=by
 rw[fd8 emb tl hi,fd8 emb tl (by rw[zp]; exact hj)]; rfl
theorem swp_size (d:Array α)(i j:Nat):(Go.Sort.swp d i j).size=d.size:=by simp[Go.Sort.swp]
structure SO (id:Nat) (d':Array α) (σ s:Store):Prop where
 next:σ.next<=s.next
 other:∀ i,i≠id->s.obj i=σ.obj i
 row:s.obj id=za (.row (bb7 emb tl d'))
variable {cf:α->α->Int} {g:Nat} {first cap:List IV} {id:Nat}
structure cd3 (cf:α->α->Int) (g:Nat) (first cap:List IV):Prop where
 ok:okF Tryz.prog g=true
 pc:∀ x y:α,PC Tryz.prog EE g (first++[.int .i64 (emb x),.int .i64 (emb y)]++cap) (.int .i64 (cf x y))
theorem gr6 (hC:cd3 emb cf g first cap){σ:Store}(d:Array α)(a b:Nat)(hab:a<=b)(hb:b<=d.size)(hz:d.size<2^40)(ho:σ.obj id=za (.row (bb7 emb tl d))) :
  C Tryz.prog EE 173 [.slice id 0 d.size 1,.int .i64 a,.int .i64 b,.func (.func g) first cap] σ fun v s=>v=.tuple []/\SO emb tl id (Go.Sort.insertionSort (ltOf cf) d a b) σ s:=by
 refine C_f fok173 (nZ rfl) ?_;have w0:=ac4 (i:=a) om;simp only[ic173,go_sem,w0];refine ab1 noT (fun k fr t=>∃ dk:Array α,fr=[(0,.slice id 0 d.size 1),(1,.int .i64 a),(2,.int .i64 b),(3,.func (.func g) first cap),(8,.int .i64 ((a+1+k:Nat):Int))]/\SO emb tl id dk σ t/\dk.size=d.size/\Go.Sort.insOuter (ltOf cf) a b (a+1+k) dk=Go.Sort.insertionSort (ltOf cf) d a b) (b-(a+1)) ⟨d,rfl,⟨zc _,fun _ _=>rfl,ho⟩,rfl,rfl⟩ ?_;rintro k fr t hk ⟨dk,rfl,hS,hsz,hI⟩;by_cases hlt:a+1+k<b
 ·have c1:((a+1+k:Nat):Int)<b:=om
  have w1:=ac4 (i:=a+1+k) om;rw[Go.Sort.insOuter,if_pos hlt] at hI;simp only[go_sem,c1];refine ab1 noT (fun m fr u=>∃ (j:Nat) (dj:Array α),fr=[(0,.slice id 0 d.size 1),(1,.int .i64 a),(2,.int .i64 b),(3,.func (.func g) first cap),(8,.int .i64 ((a+1+k:Nat):Int)),(9,.int .i64 (j:Int))]/\j+m=a+1+k/\SO emb tl id dj σ u/\dj.size=d.size/\Go.Sort.insInner (ltOf cf) a j dj=Go.Sort.insInner (ltOf cf) a (a+1+k) dk) (a+1+k) ⟨a+1+k,dk,rfl,rfl,?_,hsz,rfl⟩ ?_
  ·exact ⟨hS.next,hS.other,hS.row⟩
  rintro m fr u hm ⟨j,dj,rfl,hj,hSj,hszj,hIj⟩;by_cases hja:a<j
  ·obtain ⟨j',rfl⟩:∃ j',j=j'+1:=⟨j-1,om⟩;have d1:(a:Int)<((j'+1:Nat):Int):=om
   have d2:IntKind.i64.wrap (((j'+1:Nat):Int)-1)=(j':Int):=by rw[wrap64 om om]; omega
   have d3:(0:Int)<=((j'+1:Nat):Int):=om
   have d4:((j'+1:Nat):Int)<d.size:=om
   have d5:(0:Int)<=(j':Int):=om
   have d6:(j':Int)<d.size:=om
   have r1:=ak1 emb tl (d:=dj) (k:=j'+1) om;have r2:=ak1 emb tl (d:=dj) (k:=j') om;have hc:=hC.pc dj[j'+1]! dj[j']!;rw[Go.Sort.insInner] at hIj;have hgt:decide (j'+1>a)=true:=decide_eq_true hja;rw[hgt,Bool.true_and] at hIj;simp only[go_sem,d1,d2,d3,d4,d5,d6,hSj.row,r1,r2,zg,zr,zb];refine am8 hC.ok hc ?_;by_cases hcf:cf dj[j'+1]! dj[j']! < 0
   ·have hlt2:ltOf cf dj[j'+1]! dj[j']! = true:=decide_eq_true hcf;rw[if_pos hlt2] at hIj;have hsw:=fd9 emb tl (d:=dj) (i:=j'+1) (j:=j') om om;have r3:j'+1+1<=(bb7 emb tl dj).length:=by rw[bu4]; omega
    have r4:j'+1<=(av1 (bb7 emb tl dj) (j'+1) [.int .i64 (emb dj[j']!)]).length:=by rw[ag1 (by rw[bu4]; simp only[ze]; omega),bu4]; omega
    simp only[go_sem,hcf,d2,d3,d4,d5,d6,hSj.row,r1,r2,r3,r4,hsw,zg,zr,zb];refine ⟨om,j',Go.Sort.swp dj (j'+1) j',rfl,om,⟨?_,fun i hi=>?_,?_⟩,by rw[swp_size]; exact hszj,hIj⟩
    ·have:=hSj.next; simp only[aa7]; omega
    ·simp only[aa5,hi,if_false]; exact hSj.other i hi
    ·simp only[aa5,if_true]
   ·have hlt2:¬ ltOf cf dj[j'+1]! dj[j']! = true:=by unfold ltOf; simp[hcf]
    rw[if_neg hlt2] at hIj;simp only[go_sem,hcf,w1];refine ⟨om,dj,rfl,⟨?_,hSj.other,hSj.row⟩,hszj,?_⟩
    ·have:=hSj.next; show σ.next<=u.next+_; omega
    ·rw[<- hI,<- hIj];exact congrArg (fun n=>Go.Sort.insOuter (ltOf cf) a b n dj) om
  ·have d1:¬ (a:Int)<(j:Int):=om
   have hd:dj=Go.Sort.insInner (ltOf cf) a (a+1+k) dk:=by
    rw[<- hIj]
    cases j with
    | zero=>rfl
    | succ j'=>
     rw[Go.Sort.insInner];have:decide (j'+1>a)=false:=decide_eq_false hja;rw[this]; rfl
   simp only[go_sem,d1,w1];refine ⟨om,dj,rfl,⟨?_,hSj.other,hSj.row⟩,hszj,?_⟩
   ·have:=hSj.next; show σ.next<=u.next+_; omega
   ·rw[<- hI,hd];exact congrArg (fun n=>Go.Sort.insOuter (ltOf cf) a b n _) om
 ·have c1:¬ ((a+1+k:Nat):Int)<b:=om
  rw[Go.Sort.insOuter,if_neg hlt] at hI;simp only[go_sem,c1];rw[<- hI];exact ⟨hS.next,hS.other,hS.row⟩
end
end Go.Id.Tryz
namespace Go.Id.Tryz
open Go Go.Id Go.Proofs
section
variable {α:Type} [Inhabited α] (emb:α->Int) (tl:List IV) {cf:α->α->Int} {g:Nat} {first cap:List IV} {id:Nat}
theorem SO.trans {d d':Array α}{σ s t:Store}(h:SO emb tl id d σ s)(h2:SO emb tl id d' s t):SO emb tl id d' σ t :=
 ⟨zh h.next h2.next,fun i hi=>by rw[h2.other i hi,h.other i hi],h2.row⟩
end
end Go.Id.Tryz
namespace Go.Id.Tryz
open Go Go.Id Go.Proofs Go.Shelf Go.Id.Md
theorem et5 (zs:List Int)(hz:zs≠[])(hl:zs.length<2^30)(σ:Store):C Tryz.prog EE 60 [.aa4 (zs.map Md.ae4)] σ (eb4 σ zs):=by
 refine C_f fok60 (nZ rfl) ?_
 have hnil:∀ (d:TypeId),ct5 (.slice d) (.aa4 (zs.map Md.ae4))=za false:=fun d=>by
  cases zs with
  | nil=>exact absurd rfl hz
  | cons z zs=>rfl
 simp only[ic60,go_sem,hnil];generalize hS:Store.put _ σ.next (al8.row [])=S;have hSn:S.next=σ.next+2:=by rw[<- hS]; rfl
 have hSo:S.obj σ.next=za (.row []):=by rw[<- hS]; simp only[aa5,if_true]
 have hSk:∀ i,i<σ.next->S.obj i=σ.obj i:=fun i hi=>by
  have:¬ i=σ.next:=om
  rw[<- hS]; simp only[aa5,this,if_false]
 have hg:aj3 S σ.next (.slice σ.next 0 0 1) []:=.inr ⟨σ.next,zc _,om,rfl,hSo⟩;obtain ⟨v',σ',h1,h2,h3,h4⟩:=ew4 (nid:=σ.next+1) (xs:=zs) hg (by simp only[zu]; omega);simp only[go_sem,h1];have h5:=h4 σ' rfl om om om;rw[zt] at h5;exact ⟨⟨om,fun i hi=>by rw[h3 i hi om]; exact hSk i hi⟩,h5⟩
abbrev fx2 (o:ag6):={ k:Nat // k<o.a.l.length }
def an7 (o:ag6)(x:fx2 o):Int:=((x.1:Nat):Int)
def cfO (o:ag6)(x y:fx2 o):Int:=o.cmp (an7 o x) (an7 o y)
theorem js2 (o:ag6)(hO:OOK o):cd3 (an7 o) (cfO o) 55 [o.v] []:=⟨fok55.1,fun x y=>cp1 o hO x.2 y.2⟩
theorem fe1 (o:ag6)(n:Int):PC Tryz.prog EE 61 [.int .i64 n,.ab5 [o.v]] (.bool (!o.a.is n)):=by
 refine ae5 hE fok61 (nZ rfl) (ae9 (.int _ _) (ai3 (ah6 o))) ?_;have h:=bu1 o n;simp only[ic61,go_sem];refine aa3 fok50 (h) ?_;simp only[go_sem];exact ab4 rfl
theorem kf9 (o:ag6)(hr:∀ n,o.a.is n=true->(o.a.pk n).evr.rel≠[]):Go.Sort.SWO (ltOf (cfO o)):=by
 have hs:∀ x:fx2 o,(o.a.pk (an7 o x)).evr.rel≠[]:=fun x=>hr _ (by unfold an7; rw[ad9.bn5]; exact decide_eq_true x.2)
 refine ⟨fun x=>?_,fun x y z h1 h2=>?_,fun x y z h1 h2=>?_⟩
 ·unfold ltOf cfO; rw[o.cu7]; rfl
 ·unfold ltOf cfO at *;have t1:=o.wo.tr (an7 o x) (an7 o y) (an7 o z) (hs x) (hs y) (hs z);have t2:=o.wo.tr (an7 o z) (an7 o x) (an7 o y) (hs z) (hs x) (hs y);have n1:=o.wo.neg (an7 o x) (an7 o y);have n2:=o.wo.neg (an7 o y) (an7 o z);have n3:=o.wo.neg (an7 o x) (an7 o z);simp only[decide_eq_true_eq] at h1 h2 ⊢;omega
 ·unfold ltOf cfO at *;have t1:=o.wo.tr (an7 o z) (an7 o y) (an7 o x) (hs z) (hs y) (hs x);have n1:=o.wo.neg (an7 o x) (an7 o y);have n2:=o.wo.neg (an7 o y) (an7 o z);have n3:=o.wo.neg (an7 o x) (an7 o z);simp only[decide_eq_false_iff_not] at h1 h2 ⊢;omega
theorem et6 (o:ag6)(hO:OOK o)(hr:∀ n,o.a.is n=true->(o.a.pk n).evr.rel≠[])(l:List Int)(hl0:l≠[])(hl:l.length<2^30)
  (hSF:∀ (inst:Inhabited (fx2 o)) (σ:Store) (id:Nat) (tl:List IV) (d:Array (fx2 o)),d.size<=l.length->id<σ.next->σ.obj id=za (.row (bb7 (an7 o) tl d)) ->
   C Tryz.prog EE 62 [.slice id 0 d.size 1,.func (.func 55) [o.v] []] σ fun v s=>v=.tuple []/\∃ d',Go.Sort.PermIn 0 d.size d d'/\Go.Sort.SortedIn (ltOf (cfO o)) 0 d.size d'/\σ.next<=s.next/\s.obj id=za (.row (bb7 (an7 o) tl d'))) :
  PC Tryz.prog EE 16 [o.v,.aa4 (l.map Md.ae4)] (.aa4 ((o.bk8 l).map Md.ae4)):=by
 refine ae5 hE fok16 (nZ rfl) (ae9 (ah6 o) (ai1 l)) ?_;have olf:o.v.leaf=true:=rfl;have ocs:o.v.cs=[o.v]:=rfl;simp only[ic16,go_sem,olf,ocs];refine ad3 fok60 (et5 l hl0 hl _) ?_;rintro v s ⟨hk,hrow⟩;refine ⟨hk.next,?_⟩;rcases hrow with ⟨_,h0⟩|⟨id,hid1,hid2,rfl,ho⟩
 ·exact absurd h0 hl0
 simp only[go_sem];refine ad3 fok59 (eg7 (fun z=>!o.a.is z) om ho (by rw[zk (by simp)]) (by simp) fok61.1 (ao4 (ai3 (ah6 o))) fun z _=>fe1 o z) ?_;rintro v s2 ⟨hn2,_,cs,rfl,ho2,hct,hcl⟩;refine ⟨hn2,?_⟩;have hff:(l.filter fun x=>!(!o.a.is x))=l.filter o.a.is:=List.filter_congr fun x _=>by rw[Bool.not_not]
 simp only[hff] at hct hcl ho2 ⊢;have hfl:(l.filter o.a.is).length<=l.length:=List.length_filter_le _ _;by_cases h0:(l.filter o.a.is).length=0
 ·have h0':((l.filter o.a.is).length:Int)=0:=om
  simp only[go_sem,h0']
  have:o.bk8 l=[]:=List.eq_nil_iff_forall_not_mem.2 fun x hx=>by
   obtain ⟨h1,h2⟩:=o.bn7.1 hx;have:=z5.2 ⟨h1,h2⟩;rw[List.length_eq_zero_iff.1 h0] at this;cases this
  rw[this];exact .dc1
 have h0':¬ ((l.filter o.a.is).length:Int)=0:=om
 simp only[go_sem,h0'];obtain ⟨zs,hzs⟩:∃ zs,l.filter o.a.is=zs:=⟨_,rfl⟩;rw[hzs] at h0 h0' hct hcl hfl ⊢;have hall:∀ z∈zs,∃ k:Nat,z=k/\k<o.a.l.length:=fun z hz=>dv9 (z5.1 (by rw[hzs]; exact hz)).2
 obtain ⟨ds,hds⟩:∃ ds:List (fx2 o),ds.map (an7 o)=zs:=by
  clear hzs h0 h0' hct hcl hfl
  induction zs with
  | nil=>exact ⟨[],rfl⟩
  | cons z zs ih=>
   obtain ⟨ds,h⟩:=ih fun y hy=>hall y (qb _ hy)
   obtain ⟨k,rfl,hk⟩:=hall z qd;exact ⟨⟨k,hk⟩::ds,by rw[List.map_cons,h]; rfl⟩
 have hdl:ds.length=zs.length:=by rw[<- hds,zi]
 have inst:Inhabited (fx2 o):=⟨ds[0]'om⟩
 have hrw:s2.obj id=za (.row (bb7 (an7 o) (cs.drop zs.length) ds.toArray)):=by
  rw[ho2,bb7,et4];have h2:ds.toArray.toList.map (fun x=>IV.int .i64 (an7 o x))=zs.map bk6:=by rw[<- hds,List.map_map]; rfl
  rw[h2,<- hct,List.take_append_drop]
 have hsz:ds.toArray.size=zs.length:=hdl;have hS:=hSF inst s2 id (cs.drop zs.length) ds.toArray om (zx hid2 hn2) hrw;rw[hsz] at hS;refine ad3 fok62 hS ?_;rintro v s3 ⟨rfl,d',hP,hU,hS3n,hS3r⟩;refine ⟨hS3n,?_⟩;simp only[go_sem];obtain ⟨zs2,hz2⟩:∃ zs2,d'.toList.map (an7 o)=zs2:=⟨_,rfl⟩;have hd's:d'.size=zs.length:=by rw[hP.1]; exact hdl
 have hz2l:zs2.length=zs.length:=by rw[<- hz2,zi,Array.length_toList,hd's]
 have hpm:d'.toList.Perm ds:=by
  have h3:=hP.2.2;have e1:d'.extract 0 zs.length=d':=by rw[<- hd's]; exact qc
  have e2:ds.toArray.extract 0 zs.length=ds.toArray:=by rw[<- hsz]; exact qc
  rw[e1,e2] at h3;exact h3
 have hmem:∀ x,x∈zs2↔x∈l/\o.a.is x=true:=fun x=>by
  rw[<- hz2,(hpm.map _).mem_iff,hds,<- hzs,z5]
 have hup:zs2.Pairwise fun x y=>x=y\/o.cmp x y<0:=by
  refine List.pairwise_iff_getElem.2 fun i j hi hj hij=>?_
  have hi2:i<d'.size:=by rw[hd's]; omega
  have hj2:j<d'.size:=by rw[hd's]; omega
  have h4:=hU i j (z0 _) hij om;rw[getElem!_pos d' i hi2,getElem!_pos d' j hj2] at h4;have g1:zs2[i]=an7 o d'[i]:=by simp[<- hz2]
  have g2:zs2[j]=an7 o d'[j]:=by simp[<- hz2]
  rw[g1,g2];unfold ltOf cfO at h4;have h5:¬ o.cmp (an7 o d'[j]) (an7 o d'[i])<0:=of_decide_eq_false h4;have n1:=o.wo.neg (an7 o d'[i]) (an7 o d'[j]);by_cases e:o.cmp (an7 o d'[i]) (an7 o d'[j])=0
  ·exact .inl (o.bj1 e)
  ·exact .inr om
 have hrow2:s3.obj id=za (.row (zs2.map iv++cs.drop zs.length)):=by
  rw[hS3r,bb7,et4,<- hz2,List.map_map]; rfl
 have hc:=dn7 (R:=fun x y=>o.cmp x y<0) (σ:=s3) (id:=id) (zs:=zs2) (fun a ha b hb c hc h1 h2=>o.lt_trans hr ((hmem a).1 ha).2 ((hmem b).1 hb).2 ((hmem c).1 hc).2 h1 h2) om hrow2 hup;rw[hz2l] at hc;refine ad3 fok63 hc ?_;rintro v s4 ⟨⟨D,cs2,hD1,hD2,rfl,ho4,hct2,hcl2⟩,hn4,_⟩;refine ⟨hn4,?_⟩;simp only[go_sem];have hDs:D=o.bk8 l:=o.ee2 hr hD1 fun x=>(hD2 x).trans (hmem x)
 rw[<- hDs];exact cv4 ho4 hct2 hcl2
end Go.Id.Tryz
namespace Go.Id.Tryz
open Go Go.Id Go.Proofs Go.Shelf Go.Id.Md
end Go.Id.Tryz
namespace Go.Id.Tryz
open Go Go.Id Go.Proofs Go.Shelf Go.Id.Md
def lgP (m:Int):List am5->Int->Int->Int×Int
 | [],w,n=>(w,n)
 | r::rs,w,n=>if w<m then lgP m rs (wr (wr (w+1)+szL r.packages m 0)) (wr (n+r.packages.length)) else (w,n)
def cd4 (ab3:List am5)(inst:List aa2)(r:Req):Bool:=decide (800<=(lgP 800 ab3 (szL inst 800 0) inst.length).1)||decide (40<(lgP 800 ab3 (szL inst 800 0) inst.length).2)||decide (20<r.ai4.length)||decide (20<r.ag5.length)
theorem fw1 (ab3:List am5)(inst:List aa2)(r:Req)(h1:ab3.length<2^62)(h2:inst.length<2^62)(hr:∀ r∈ab3,am5.Ok r)(hi:∀ p∈inst,p.Ok) :
  PC Tryz.prog EE 4 [az4 ab3,au1 inst,.agg r.cs] (.bool (cd4 ab3 inst r)):=by
 refine ae5 hE fok4 (nZ rfl) (at1 (bo1 ab3) (aq4 inst) (.agg _ (be5 r))) ?_;have k2:(r.cs.drop 2).head? = za (bc3 r.ai4):=rfl;have k3:(r.cs.drop 3).head? = za (aq2 r.ag5):=rfl;unfold cd4;simp only[ic4,go_sem,ak6];refine aa3 fok24 (do1 inst 800 h2 hi) ?_;simp only[go_sem];refine ab1 noT (fun i fr t=>∃ w n:Int,fr=[(0,az4 ab3),(5,.ab5 r.cs),(7,.int .i64 w),(8,.int .i64 n),(9,.int .i64 i)]/\lgP 800 ab3 (szL inst 800 0) inst.length=lgP 800 (ab3.drop i) w n) ab3.length ⟨_,_,rfl,rfl⟩ ?_;rintro i fr t hle ⟨w,n,rfl,hf⟩;by_cases hlt:i<ab3.length/\w<800
 ·obtain ⟨hlt,hw⟩:=hlt;obtain ⟨x,ha,_,hdr,hget,_⟩:=ad6 ab3 i hlt;have c1:(i:Int)<ab3.length:=om
  have c2:(0:Int)<=i:=om
  have w1:=ac4 (i:=i) om;rw[hdr,lgP,if_pos hw] at hf;have f1:(x.cs.drop 1).head? = za (au1 x.packages):=rfl;simp only[go_sem,c1,c2,hw,hget,bj4,f1];refine aa3 fok24 (do1 x.packages 800 (hr x ha).1 (hr x ha).2) ?_;simp only[go_sem,c1,c2,hget,bj4,f1,w1];exact ⟨hlt,_,_,rfl,hf⟩
 have hw2:lgP 800 (ab3.drop i) w n=(w,n):=by
  by_cases hl2:i<ab3.length
  ·obtain ⟨x,ha,_,hdr,hget,_⟩:=ad6 ab3 i hl2;rw[hdr,lgP,if_neg (fun h=>hlt ⟨hl2,h⟩)]
  ·rw[List.drop_of_length_le om]; rfl
 rw[hw2] at hf;rw[hf];simp only;by_cases hl2:i<ab3.length
 case' pos=>
  have c1:(i:Int)<ab3.length:=om
  have hw:¬ w<800:=fun h=>hlt ⟨hl2,h⟩
  have hw':800<=w:=om
  simp only[go_sem,c1,hw,hw'];exact ab4 (by simp)
 have c1:¬ (i:Int)<ab3.length:=om
 by_cases hw:800<=w
 ·simp only[go_sem,c1,hw];exact ab4 (by simp)
 by_cases hn:40<n
 ·simp only[go_sem,c1,hw,hn];exact ab4 (by simp)
 by_cases hj:20<r.ai4.length
 ·have hj':(20:Int)<r.ai4.length:=om
  simp only[go_sem,c1,hw,hn,k2,hj'];exact ab4 (by simp[hj])
 have hj':¬ (20:Int)<r.ai4.length:=om
 by_cases he:20<r.ag5.length
 ·have he':(20:Int)<r.ag5.length:=om
  simp only[go_sem,c1,hw,hn,k2,k3,hj',he'];exact ab4 (by simp[he])
 ·have he':¬ (20:Int)<r.ag5.length:=om
  simp only[go_sem,c1,hw,hn,k2,k3,hj',he'];exact ab4 (by simp[he,hj])
def hv8 (p:Pool)(r:Req)(n:Nat):ag6:=⟨⟨p,r⟩,as4 (ad4 p) n⟩
theorem et7 {ab3:List am5}{inst:List aa2}{p:Pool}(hn:ce2 ab3 inst=.inl p):∀ q∈ad4 p,ah8 q=true:=fun q hq=>(ex8 hn q hq).1
theorem ook {ab3:List am5}{inst:List aa2}{p:Pool}{r:Req}(hI:jh2 ab3 inst)(hn:ce2 ab3 inst=.inl p)(hR:fv2 r)(he:am7 r p.inst=0)(n:Nat):OOK (hv8 p r n):=⟨aok hI hn hR he,zi ..⟩
theorem ji4 {q:aa2}(h:ah8 q=true):q.evr.rel≠[]:=by
 unfold ah8 bc8 aw1 at h;simp only[zq,Bool.or_eq_true,decide_eq_true_eq] at h;intro e;rw[e] at h;simp at h
theorem it2 {p:Pool}{r:Req}{n:Nat}(h:∀ q∈ad4 p,ah8 q=true):∀ k,(hv8 p r n).a.is k=true->((hv8 p r n).a.pk k).evr.rel≠[]:=fun k hk=>by
 obtain ⟨m,rfl,hm⟩:=dv9 hk;rw[fv8 _ hm];exact ji4 (h _ (List.getElem_mem hm))
end Go.Id.Tryz
namespace Go.Id.Tryz
open Go Go.Id Go.Proofs Go.Shelf Go.Id.Md
end Go.Id.Tryz
namespace Go.Id.Tryz
open Go Go.Id Go.Proofs
theorem gt7 {a b:Nat}(h:a+b<2^62):IntKind.i64.wrap ((a:Int)+(b:Int))=((a+b:Nat):Int):=by rw[wrap64 om om]; omega
theorem fx3 {a b:Nat}(h:b<=a)(h2:a<2^62):IntKind.i64.wrap ((a:Int)-(b:Int))=((a-b:Nat):Int):=by rw[wrap64 om om]; omega
theorem bl6 {a:Nat}(h:1<=a)(h2:a<2^62):IntKind.i64.wrap ((a:Int)-1)=((a-1:Nat):Int):=by rw[wrap64 om om]; omega
theorem kg1 {a:Nat}(h:a<2^60):IntKind.i64.wrap (2*(a:Int))=((2*a:Nat):Int):=by rw[wrap64 om om]; omega
section
variable {α:Type} [Inhabited α] (emb:α->Int) (tl:List IV) {cf:α->α->Int} {g:Nat} {first cap:List IV} {id:Nat}
theorem ak2 {d:Array α}{i j:Nat}(hi:i<d.size)(hj:j<d.size) :
  ((bb7 emb tl d).drop i).head? = za (.int .i64 (emb d[i]!))/\((bb7 emb tl d).drop j).head? = za (.int .i64 (emb d[j]!))/\i+1<=(bb7 emb tl d).length/\j+1<=(av1 (bb7 emb tl d) i [.int .i64 (emb d[j]!)]).length /\
  av1 (av1 (bb7 emb tl d) i [.int .i64 (emb d[j]!)]) j [.int .i64 (emb d[i]!)]=bb7 emb tl (Go.Sort.swp d i j):=
 ⟨ak1 emb tl hi,ak1 emb tl hj,by rw[bu4]; omega,by rw[ag1 (by rw[bu4]; simp only[ze]; omega),bu4]; omega,fd9 emb tl hi hj⟩
theorem SO.put {d d':Array α}{σ u:Store}{n:Nat}(h:SO emb tl id d σ u)(hn:σ.next<=n){a:List IV}:SO emb tl id d' σ ⟨n,(((⟨n,u.obj⟩:Store).put id (.row a)).put id (.row (bb7 emb tl d'))).obj⟩:=
 ⟨hn,fun i hi=>by simp only[aa5,hi,if_false]; exact h.other i hi,by simp only[aa5,if_true]⟩
theorem gr7 {f:List IV}{σ:Store}(d:Array α)(a b:Nat)(fv:IV)(hab:a<b)(hb:b<=d.size)(hz:d.size<2^40)(ho:σ.obj id=za (.row (bb7 emb tl d))) :
  C Tryz.prog EE 177 [.slice id 0 d.size 1,.int .i64 a,.int .i64 b,fv] σ fun v s=>v=.tuple []/\SO emb tl id (Go.Sort.reverseRange d a b) σ s:=by
 refine C_f fok177 (nZ rfl) ?_;have w0:=bl6 (a:=b) om om;simp only[ic177,go_sem,w0];refine ab1 noT (fun k fr t=>∃ (i j:Nat) (dk:Array α),fr=[(0,.slice id 0 d.size 1),(8,.int .i64 (i:Int)),(9,.int .i64 (j:Int))]/\SO emb tl id dk σ t/\dk.size=d.size/\k<=i/\j<d.size/\Go.Sort.reverseLoop i j dk=Go.Sort.reverseRange d a b) d.size ⟨a,b-1,d,rfl,⟨zc _,fun _ _=>rfl,ho⟩,rfl,z0 _,om,rfl⟩ ?_;rintro k fr t hk ⟨i,j,dk,rfl,hS,hsz,hki,hjd,hI⟩;by_cases hlt:i<j
 ·have c1:(i:Int)<(j:Int):=om
  have c2:(0:Int)<=i:=om
  have c3:(i:Int)<d.size:=om
  have c4:(0:Int)<=j:=om
  have c5:(j:Int)<d.size:=om
  have w1:=ac4 (i:=i) om;have w2:=bl6 (a:=j) om om;obtain ⟨r1,r2,r3,r4,r5⟩:=ak2 emb tl (d:=dk) (i:=i) (j:=j) om om;rw[Go.Sort.reverseLoop,if_pos hlt] at hI;simp only[go_sem,c1,c2,c3,c4,c5,hS.row,r1,r2,r3,r4,r5,w1,w2,zb];refine ⟨om,i+1,j-1,Go.Sort.swp dk i j,rfl,⟨?_,fun m hm=>?_,?_⟩,by rw[swp_size]; exact hsz,om,om,hI⟩
  ·have:=hS.next; simp only[aa7]; omega
  ·simp only[aa5,hm,if_false]; exact hS.other m hm
  ·simp only[aa5,if_true]
 ·have c1:¬ (i:Int)<(j:Int):=om
  rw[Go.Sort.reverseLoop,if_neg hlt] at hI;simp only[go_sem,c1];rw[<- hI];exact ⟨hS.next,hS.other,hS.row⟩
theorem cd5 (lt:α->α->Bool)(hi fst:Nat):∀ (n root:Nat) (d:Array α),hi-root<=n->(Go.Sort.siftDown lt hi fst root d).size=d.size:=by
 intro n
 induction n with
 | zero=>
  intro root d h
  rw[Go.Sort.siftDown,dif_pos om]
 | succ n ih=>
  intro root d h;rw[Go.Sort.siftDown]
  repeat' split
  all_goals first|rfl|(rw[ih _ _ om,swp_size])
theorem do3 (hC:cd3 emb cf g first cap){σ:Store}(d:Array α)(lo hi fst:Nat)(hb:fst+hi<=d.size)(hz:d.size<2^40)(hlo:lo<2^40)(ho:σ.obj id=za (.row (bb7 emb tl d))) :
  C Tryz.prog EE 219 [.slice id 0 d.size 1,.int .i64 lo,.int .i64 hi,.int .i64 fst,.func (.func g) first cap] σ fun v s=>v=.tuple []/\SO emb tl id (Go.Sort.siftDown (ltOf cf) hi fst lo d) σ s:=by
 refine C_f fok219 (nZ rfl) ?_;simp only[ic219,go_sem];refine ab1 noT (fun k fr t=>∃ (root:Nat) (dk:Array α),fr=[(0,.slice id 0 d.size 1),(2,.int .i64 hi),(3,.int .i64 fst),(4,.func (.func g) first cap),(10,.int .i64 (root:Int))]/\SO emb tl id dk σ t/\dk.size=d.size/\k<=root/\root<2^40/\Go.Sort.siftDown (ltOf cf) hi fst root dk=Go.Sort.siftDown (ltOf cf) hi fst lo d) hi ⟨lo,d,rfl,⟨zc _,fun _ _=>rfl,ho⟩,rfl,z0 _,hlo,rfl⟩ ?_;rintro k fr t hk ⟨root,dk,rfl,hS,hsz,hkr,hrt,hI⟩;have w1:=kg1 (a:=root) om;have w2:=ac4 (i:=2*root) om;have w3:=ac4 (i:=2*root+1) om;rw[Go.Sort.siftDown] at hI;by_cases hge:2*root+1≥hi
 ·have c1:((hi:Nat):Int)<=((2*root+1:Nat):Int):=om
  rw[dif_pos hge] at hI;simp only[go_sem,w1,w2,c1];rw[<- hI];exact ⟨hS.next,hS.other,hS.row⟩
 have c1:¬ ((hi:Nat):Int)<=((2*root+1:Nat):Int):=om
 have v1:=gt7 (a:=fst) (b:=root) om;have v2:=gt7 (a:=fst) (b:=2*root+1) om;have v3:=ac4 (i:=fst+(2*root+1)) om;have p1:(0:Int)<=((fst+(2*root+1):Nat):Int):=om
 have p2:((fst+(2*root+1):Nat):Int)<d.size:=om
 have p3:(0:Int)<=((fst+root:Nat):Int):=om
 have p4:((fst+root:Nat):Int)<d.size:=om
 rw[dif_neg hge] at hI;have x1:=ak1 emb tl (d:=dk) (k:=fst+(2*root+1)) om;have x0:=ak1 emb tl (d:=dk) (k:=fst+root) om;by_cases h2:2*root+2<hi
 ·have c2:((2*root+1+1:Nat):Int)<hi:=om
  have p5:(0:Int)<=((fst+(2*root+1)+1:Nat):Int):=om
  have p6:((fst+(2*root+1)+1:Nat):Int)<d.size:=om
  have x2:=ak1 emb tl (d:=dk) (k:=fst+(2*root+1)+1) om;have e2:(2*root+1+1<hi)=True:=eq_true om;have hc1:=hC.pc dk[fst+(2*root+1)]! dk[fst+(2*root+1)+1]!;simp only[go_sem,w1,w2,w3,c1,c2,p1,p2,p5,p6,v2,v3,x1,x2,hS.row,zb];refine am8 hC.ok hc1 ?_;by_cases hcf:cf dk[fst+(2*root+1)]! dk[fst+(2*root+1)+1]! < 0
  ·have hl2:ltOf cf dk[fst+(2*root+1)]! dk[fst+(2*root+1)+1]! = true:=decide_eq_true hcf;have hh:decide (2*root+1+1<hi)=true:=decide_eq_true om;rw[hl2,hh,Bool.and_self,if_pos rfl] at hI;simp only[h2,dite_true] at hI;have e3:2*root+1+1=2*root+2:=om
   have v4:=gt7 (a:=fst) (b:=2*root+2) om;have q1:(0:Int)<=((fst+(2*root+2):Nat):Int):=om
   have q2:((fst+(2*root+2):Nat):Int)<d.size:=om
   have x4:=ak1 emb tl (d:=dk) (k:=fst+(2*root+2)) om;have hc2:=hC.pc dk[fst+root]! dk[fst+(2*root+2)]!;simp only[go_sem,hcf,w3,e3,v1,v4,p3,p4,q1,q2,x0,x4,hS.row,zb];refine am8 hC.ok hc2 ?_;by_cases hcg:cf dk[fst+root]! dk[fst+(2*root+2)]! < 0
   ·have hl3:ltOf cf dk[fst+root]! dk[fst+(2*root+2)]! = true:=decide_eq_true hcg;rw[hl3] at hI;simp only[qa,zn,if_false] at hI;obtain ⟨r1,r2,r3,r4,r5⟩:=ak2 emb tl (d:=dk) (i:=fst+root) (j:=fst+(2*root+2)) om om;simp only[go_sem,hcg,v1,v4,p3,p4,q1,q2,r1,r2,r3,r4,r5,hS.row,zb];refine ⟨om,2*root+2,Go.Sort.swp dk (fst+root) (fst+(2*root+2)),rfl,⟨?_,fun m hm=>?_,?_⟩,by rw[swp_size]; exact hsz,om,om,hI⟩
    ·have:=hS.next; simp only[aa7]; omega
    ·simp only[aa5,hm,if_false]; exact hS.other m hm
    ·simp only[aa5,if_true]
   ·have hl3:ltOf cf dk[fst+root]! dk[fst+(2*root+2)]! = false:=decide_eq_false hcg;rw[hl3] at hI;simp only[z8,if_true] at hI;simp only[go_sem,hcg];rw[<- hI];exact ⟨by have:=hS.next; show σ.next<=t.next+_+_; omega,hS.other,hS.row⟩
  ·have hl2:ltOf cf dk[fst+(2*root+1)]! dk[fst+(2*root+1)+1]! = false:=decide_eq_false hcf;rw[hl2,Bool.and_false,if_neg (by decide)] at hI;have hc2:=hC.pc dk[fst+root]! dk[fst+(2*root+1)]!;simp only[go_sem,hcf,v1,v2,p3,p4,p1,p2,x0,x1,hS.row,zb];refine am8 hC.ok hc2 ?_;by_cases hcg:cf dk[fst+root]! dk[fst+(2*root+1)]! < 0
   ·have hl3:ltOf cf dk[fst+root]! dk[fst+(2*root+1)]! = true:=decide_eq_true hcg;rw[hl3] at hI;simp only[qa,zn,if_false] at hI;obtain ⟨r1,r2,r3,r4,r5⟩:=ak2 emb tl (d:=dk) (i:=fst+root) (j:=fst+(2*root+1)) om om;simp only[go_sem,hcg,v1,v2,p3,p4,p1,p2,r1,r2,r3,r4,r5,hS.row,zb];refine ⟨om,2*root+1,Go.Sort.swp dk (fst+root) (fst+(2*root+1)),rfl,⟨?_,fun m hm=>?_,?_⟩,by rw[swp_size]; exact hsz,om,om,hI⟩
    ·have:=hS.next; simp only[aa7]; omega
    ·simp only[aa5,hm,if_false]; exact hS.other m hm
    ·simp only[aa5,if_true]
   ·have hl3:ltOf cf dk[fst+root]! dk[fst+(2*root+1)]! = false:=decide_eq_false hcg;rw[hl3] at hI;simp only[z8,if_true] at hI;simp only[go_sem,hcg];rw[<- hI];exact ⟨by have:=hS.next; show σ.next<=t.next+_+_; omega,hS.other,hS.row⟩
 ·have c2:¬ ((2*root+1+1:Nat):Int)<hi:=om
  have hh:decide (2*root+1+1<hi)=false:=decide_eq_false om;rw[hh,Bool.false_and,if_neg (by decide)] at hI;have hc2:=hC.pc dk[fst+root]! dk[fst+(2*root+1)]!;simp only[go_sem,w1,w2,w3,c1,c2,v1,v2,p3,p4,p1,p2,x0,x1,hS.row,zb];refine am8 hC.ok hc2 ?_;by_cases hcg:cf dk[fst+root]! dk[fst+(2*root+1)]! < 0
  ·have hl3:ltOf cf dk[fst+root]! dk[fst+(2*root+1)]! = true:=decide_eq_true hcg;rw[hl3] at hI;simp only[qa,zn,if_false] at hI;obtain ⟨r1,r2,r3,r4,r5⟩:=ak2 emb tl (d:=dk) (i:=fst+root) (j:=fst+(2*root+1)) om om;simp only[go_sem,hcg,v1,v2,p3,p4,p1,p2,r1,r2,r3,r4,r5,hS.row,zb];refine ⟨om,2*root+1,Go.Sort.swp dk (fst+root) (fst+(2*root+1)),rfl,⟨?_,fun m hm=>?_,?_⟩,by rw[swp_size]; exact hsz,om,om,hI⟩
   ·have:=hS.next; simp only[aa7]; omega
   ·simp only[aa5,hm,if_false]; exact hS.other m hm
   ·simp only[aa5,if_true]
  ·have hl3:ltOf cf dk[fst+root]! dk[fst+(2*root+1)]! = false:=decide_eq_false hcg;rw[hl3] at hI;simp only[z8,if_true] at hI;simp only[go_sem,hcg];rw[<- hI];exact ⟨by have:=hS.next; show σ.next<=t.next+_+_; omega,hS.other,hS.row⟩
theorem fw2 (hC:cd3 emb cf g first cap){σ:Store}(d:Array α)(a b:Nat)(hab:a<b)(hb:b<=d.size)(hz:d.size<2^40)(ho:σ.obj id=za (.row (bb7 emb tl d))) :
  C Tryz.prog EE 174 [.slice id 0 d.size 1,.int .i64 a,.int .i64 b,.func (.func g) first cap] σ fun v s=>v=.tuple []/\SO emb tl id (Go.Sort.heapSort (ltOf cf) d a b) σ s:=by
 refine C_f fok174 (nZ rfl) ?_;have w0:=fx3 (a:=b) (b:=a) om om;obtain ⟨hi,hhi⟩:∃ hi,hi=b-a:=⟨_,rfl⟩;rw[<- hhi] at w0;have w1:=bl6 (a:=hi) om om
 have w2:IntKind.i64.wrap (((hi-1:Nat):Int).tdiv 2)=(((hi-1)/2+1:Nat):Int)-1:=by
  have:((hi-1:Nat):Int).tdiv 2=(((hi-1)/2:Nat):Int):=by
   rw[zo om]; omega
  rw[this,wrap64 om om]; omega
 unfold Go.Sort.heapSort;rw[<- hhi];have n2:¬ ((2:Int)=0):=by decide
 simp only[ic174,go_sem,w0,w1,w2,n2];refine ab1 noT (fun k fr t=>∃ (r:Nat) (dk:Array α),fr=[(0,.slice id 0 d.size 1),(3,.func (.func g) first cap),(8,.int .i64 a),(9,.int .i64 0),(10,.int .i64 hi),(11,.int .i64 ((r:Int)-1))]/\r+k=(hi-1)/2+1/\SO emb tl id dk σ t/\dk.size=d.size/\Go.Sort.heapBuild (ltOf cf) hi a r dk=Go.Sort.heapBuild (ltOf cf) hi a ((hi-1)/2+1) d) ((hi-1)/2+1) ⟨_,d,rfl,rfl,⟨zc _,fun _ _=>rfl,ho⟩,rfl,rfl⟩ ?_;rintro k fr t hk ⟨r,dk,rfl,hrk,hS,hsz,hI⟩
 cases r with
 | succ r=>
  have e1:(((r+1:Nat):Int)-1)=(r:Int):=om
  have c1:(0:Int)<=(r:Int):=om
  have w3:IntKind.i64.wrap ((r:Int)-1)=(r:Int)-1:=wrap64 om om;have hs1:=do3 emb tl hC (id:=id) (σ:=t) dk r hi a om om om hS.row;rw[hsz] at hs1;simp only[go_sem,e1,c1];refine ad3 fok219 hs1 ?_;rintro v s ⟨rfl,h1⟩;refine ⟨h1.next,?_⟩;simp only[go_sem,w3]
  refine ⟨om,r,_,rfl,om,hS.trans emb tl h1,by rw[cd5 _ _ _ _ _ _ (zc _)]; exact hsz,hI⟩
 | zero=>
  have e1:¬ (0:Int)<=0-1:=by decide
  have e0:(((0:Nat):Int))=0:=rfl;have e2:Go.Sort.heapBuild (ltOf cf) hi a 0 dk=dk:=rfl;rw[e2] at hI;have w4:(((hi-1:Nat):Int))=((hi:Nat):Int)-1:=om
  simp only[go_sem,e0,e1,w1,w4];rw[<- hI];refine ab1 noT (fun k fr t=>∃ (r:Nat) (dj:Array α),fr=[(0,.slice id 0 d.size 1),(3,.func (.func g) first cap),(8,.int .i64 a),(9,.int .i64 0),(12,.int .i64 ((r:Int)-1))]/\r+k=hi/\SO emb tl id dj σ t/\dj.size=d.size/\Go.Sort.heapPop (ltOf cf) a r dj=Go.Sort.heapPop (ltOf cf) a hi dk) hi ⟨_,dk,rfl,rfl,⟨by have:=hS.next; show σ.next<=t.next; omega,hS.other,hS.row⟩,hsz,rfl⟩ ?_;rintro k fr t hk ⟨r,dj,rfl,hrk,hS,hsz,hI⟩
  cases r with
  | succ r=>
   have e1:(((r+1:Nat):Int)-1)=(r:Int):=om
   have c1:(0:Int)<=(r:Int):=om
   have c2:(0:Int)<=(a:Int):=om
   have c3:(a:Int)<d.size:=om
   have c4:(0:Int)<=((a+r:Nat):Int):=om
   have c5:((a+r:Nat):Int)<d.size:=om
   have v1:=gt7 (a:=a) (b:=r) om;have w3:IntKind.i64.wrap ((r:Int)-1)=(r:Int)-1:=wrap64 om om;obtain ⟨r1,r2,r3,r4,r5⟩:=ak2 emb tl (d:=dj) (i:=a) (j:=a+r) om om;simp only[go_sem,e1,c1,c2,c3,c4,c5,v1,r1,r2,r3,r4,r5,hS.row,zb]
   have hs1:∀ U:Store,SO emb tl id (Go.Sort.swp dj a (a+r)) σ U->C Tryz.prog EE 219 [.slice id 0 d.size 1,.int .i64 0,.int .i64 r,.int .i64 a,.func (.func g) first cap] U fun v s=>v=.tuple []/\σ.next<=U.next/\SO emb tl id (Go.Sort.swp dj a (a+r)) σ U/\SO emb tl id (Go.Sort.siftDown (ltOf cf) r a 0 (Go.Sort.swp dj a (a+r))) U s:=fun U hU=>by
    have h:=do3 emb tl hC (id:=id) (σ:=U) (Go.Sort.swp dj a (a+r)) 0 r a (by rw[swp_size]; omega) (by rw[swp_size]; omega) om hU.row;rw[swp_size,hsz] at h;exact h.mono fun v s ⟨e,h⟩=>⟨e,hU.next,hU,h⟩
   refine ad3 fok219 (hs1 _ ⟨?_,fun m hm=>?_,?_⟩) ?_
   ·have:=hS.next; simp only[aa7]; omega
   ·simp only[aa5,hm,if_false]; exact hS.other m hm
   ·simp only[aa5,if_true]
   rintro v s ⟨rfl,_,hUs,h1⟩;refine ⟨h1.next,?_⟩;simp only[go_sem,w3]
   refine ⟨om,r,_,rfl,om,hUs.trans emb tl h1,by rw[cd5 _ _ _ _ _ _ (zc _),swp_size]; exact hsz,hI⟩
  | zero=>
   have e1:¬ (0:Int)<=0-1:=by decide
   have e0:(((0:Nat):Int))=0:=rfl;have e2:Go.Sort.heapPop (ltOf cf) a 0 dj=dj:=rfl;rw[e2] at hI;simp only[go_sem,e0,e1];rw[<- hI];exact ⟨hS.next,hS.other,hS.row⟩
end
end Go.Id.Tryz
namespace Go.Id.Tryz
open Go Go.Id Go.Proofs
section
variable {α:Type} [Inhabited α] (emb:α->Int) (tl:List IV) {cf:α->α->Int} {g:Nat} {first cap:List IV} {id:Nat}
structure SKp (id:Nat) (d':Array α) (σ s:Store):Prop where
 next:σ.next<=s.next
 other:∀ i,i<σ.next->i≠id->s.obj i=σ.obj i
 row:s.obj id=za (.row (bb7 emb tl d'))
theorem SO.kp {d:Array α}{σ s:Store}(h:SO emb tl id d σ s):SKp emb tl id d σ s:=⟨h.next,fun i _ hi=>h.other i hi,h.row⟩
theorem SKp.trans {d d':Array α}{σ s t:Store}(h:SKp emb tl id d σ s)(h2:SKp emb tl id d' s t):SKp emb tl id d' σ t :=
 ⟨zh h.next h2.next,fun i hi hn=>by rw[h2.other i (zx hi h.next) hn,h.other i hi hn],h2.row⟩
structure Bx (c:Nat) (σ s:Store):Prop where
 next:σ.next<=s.next
 other:∀ i,i≠c->s.obj i=σ.obj i
 box:∃ z:Int,s.obj c=za (.cells [.int .i64 z])
theorem Bx.trans {c:Nat}{σ s t:Store}(h:Bx c σ s)(h2:Bx c s t):Bx c σ t:=⟨zh h.next h2.next,fun i hi=>by rw[h2.other i hi,h.other i hi],h2.box⟩
theorem dw1 (hC:cd3 emb cf g first cap){σ:Store}(d:Array α)(a b c:Nat)(z:Int)(ha:a<d.size)(hb:b<d.size)(hc:c≠id)(ho:σ.obj id=za (.row (bb7 emb tl d)))(hbx:σ.obj c=za (.cells [.int .i64 z])) :
  C Tryz.prog EE 242 [.slice id 0 d.size 1,.int .i64 a,.int .i64 b,.ptr c 0,.func (.func g) first cap] σ fun v s=>(v=.tuple [.int .i64 a,.int .i64 b]\/v=.tuple [.int .i64 b,.int .i64 a])/\Bx c σ s:=by
 refine C_f fok242 (nZ rfl) ?_;have c1:(0:Int)<=(a:Int):=om
 have c2:(a:Int)<d.size:=om
 have c3:(0:Int)<=(b:Int):=om
 have c4:(b:Int)<d.size:=om
 have x1:=ak1 emb tl ha;have x2:=ak1 emb tl hb;have hcm:=hC.pc d[b]! d[a]!;simp only[ic242,go_sem,c1,c2,c3,c4,x1,x2,ho,zb];refine am8 hC.ok hcm ?_;by_cases hcf:cf d[b]! d[a]! < 0
 ·simp only[go_sem,hcf,hbx];exact ⟨.inr (by first|rfl|trivial),by simp only[aa7]; omega,fun i hi=>by simp only[aa5,hi,if_false],_,by simp only[aa5,if_true]; rfl⟩
 ·simp only[go_sem,hcf];exact ⟨.inl (by first|rfl|trivial),zd _ _,fun _ _=>rfl,z,hbx⟩
theorem fe2 (hC:cd3 emb cf g first cap){σ:Store}(d:Array α)(a b e c:Nat)(z:Int)(ha:a<d.size)(hb:b<d.size)(he:e<d.size)(hc:c≠id)(ho:σ.obj id=za (.row (bb7 emb tl d)))(hbx:σ.obj c=za (.cells [.int .i64 z])) :
  C Tryz.prog EE 223 [.slice id 0 d.size 1,.int .i64 a,.int .i64 b,.int .i64 e,.ptr c 0,.func (.func g) first cap] σ fun v s=>(∃ m:Nat,v=.int .i64 m/\(m=a\/m=b\/m=e))/\Bx c σ s:=by
 refine C_f fok223 (nZ rfl) ?_;simp only[ic223,go_sem];refine ad3 fok242 (dw1 emb tl hC d a b c z ha hb hc ho hbx) ?_;rintro v s ⟨hv,h1⟩;obtain ⟨z1,hz1⟩:=h1.box;refine ⟨h1.next,?_⟩;have key:∀ x y:Nat,((x=a/\y=b)\/(x=b/\y=a))->v=.tuple [.int .i64 x,.int .i64 y]->x<d.size/\y<d.size:=fun x y h _=>by omega
 obtain ⟨x,y,hxy,rfl⟩:∃ x y:Nat,((x=a/\y=b)\/(x=b/\y=a))/\v=.tuple [.int .i64 x,.int .i64 y]:=by
  rcases hv with rfl|rfl
  ·exact ⟨a,b,.inl ⟨rfl,rfl⟩,rfl⟩
  ·exact ⟨b,a,.inr ⟨rfl,rfl⟩,rfl⟩
 have hx:x<d.size:=om
 have hy:y<d.size:=om
 have ho1:s.obj id=za (.row (bb7 emb tl d)):=by rw[h1.other id (Ne.symm hc)]; exact ho
 simp only[go_sem];refine ad3 fok242 (dw1 emb tl hC d y e c z1 hy he hc ho1 hz1) ?_;rintro v s2 ⟨hv,h2⟩;obtain ⟨z2,hz2⟩:=h2.box;refine ⟨h2.next,?_⟩
 obtain ⟨p,q,hpq,rfl⟩:∃ p q:Nat,((p=y/\q=e)\/(p=e/\q=y))/\v=.tuple [.int .i64 p,.int .i64 q]:=by
  rcases hv with rfl|rfl
  ·exact ⟨y,e,.inl ⟨rfl,rfl⟩,rfl⟩
  ·exact ⟨e,y,.inr ⟨rfl,rfl⟩,rfl⟩
 have hp:p<d.size:=om
 have ho2:s2.obj id=za (.row (bb7 emb tl d)):=by rw[h2.other id (Ne.symm hc)]; exact ho1
 simp only[go_sem];refine ad3 fok242 (dw1 emb tl hC d x p c z2 hx hp hc ho2 hz2) ?_;rintro v s3 ⟨hv,h3⟩;refine ⟨h3.next,?_⟩
 obtain ⟨m,n,hmn,rfl⟩:∃ m n:Nat,((m=x/\n=p)\/(m=p/\n=x))/\v=.tuple [.int .i64 m,.int .i64 n]:=by
  rcases hv with rfl|rfl
  ·exact ⟨x,p,.inl ⟨rfl,rfl⟩,rfl⟩
  ·exact ⟨p,x,.inr ⟨rfl,rfl⟩,rfl⟩
 simp only[go_sem];exact ⟨⟨n,rfl,om⟩,(h1.trans h2).trans h3⟩
theorem et8 (hC:cd3 emb cf g first cap){σ:Store}(d:Array α)(a c:Nat)(z:Int)(ha:1<=a)(hb:a+1<d.size)(hz:d.size<2^40)(hc:c≠id)(ho:σ.obj id=za (.row (bb7 emb tl d)))(hbx:σ.obj c=za (.cells [.int .i64 z])) :
  C Tryz.prog EE 222 [.slice id 0 d.size 1,.int .i64 a,.ptr c 0,.func (.func g) first cap] σ fun v s=>(∃ m:Nat,v=.int .i64 m/\a-1<=m/\m<=a+1)/\Bx c σ s:=by
 refine C_f fok222 (nZ rfl) ?_;have w1:=bl6 (a:=a) ha om;have w2:=ac4 (i:=a) om;simp only[ic222,go_sem,w1,w2];refine ad3 fok223 (fe2 emb tl hC d (a-1) a (a+1) c z om om hb hc ho hbx) ?_;rintro v s ⟨⟨m,rfl,hm⟩,h⟩;refine ⟨h.next,?_⟩;simp only[go_sem];exact ⟨⟨m,rfl,om,om⟩,h⟩
theorem hv9 (hC:cd3 emb cf g first cap){σ:Store}(d:Array α)(a b:Nat)(hab:a+12<b)(hb:b<=d.size)(hz:d.size<2^40)(hid:id<σ.next)(ho:σ.obj id=za (.row (bb7 emb tl d))) :
  C Tryz.prog EE 176 [.slice id 0 d.size 1,.int .i64 a,.int .i64 b,.func (.func g) first cap] σ fun v s=>(∃ (m:Nat) (h:Int),v=.tuple [.int .i64 m,.int .i64 h]/\a<=m/\m<b)/\SKp emb tl id d σ s:=by
 refine C_f fok176 (nZ rfl) ?_;obtain ⟨l,hl⟩:∃ l,l=b-a:=⟨_,rfl⟩;have w0:=fx3 (a:=b) (b:=a) om om;rw[<- hl] at w0;have n4:¬ ((4:Int)=0):=by decide
 have q4:IntKind.i64.wrap ((l:Int).tdiv 4)=((l/4:Nat):Int):=by
  have:(l:Int).tdiv 4=((l/4:Nat):Int):=by rw[zo om]; omega
  rw[this,wrap64 om om]
 have m1:IntKind.i64.wrap (((l/4:Nat):Int)*1)=((l/4:Nat):Int):=by rw[wrap64 om om]; omega
 have m2:IntKind.i64.wrap (((l/4:Nat):Int)*2)=((l/4*2:Nat):Int):=by rw[wrap64 om om]; omega
 have m3:IntKind.i64.wrap (((l/4:Nat):Int)*3)=((l/4*3:Nat):Int):=by rw[wrap64 om om]; omega
 have a1:=gt7 (a:=a) (b:=l/4) om;have a2:=gt7 (a:=a) (b:=l/4*2) om;have a3:=gt7 (a:=a) (b:=l/4*3) om;have c8:(8:Int)<=(l:Int):=om
 have hne:σ.next≠id:=om
 simp only[ic176,go_sem,w0,n4,q4,m1,m2,m3,a1,a2,a3,c8]
 -- the last median,and what is told of it
 have fin:∀ (u:Store) (i j k:Nat) (z:Int),a<=i->i<b->a<=j->j<b->a<=k->k<b->σ.next<u.next->(∀ x,x<σ.next->u.obj x=σ.obj x)->u.obj σ.next=za (.cells [.int .i64 z])->C Tryz.prog EE 223 [.slice id 0 d.size 1,.int .i64 i,.int .i64 j,.int .i64 k,.ptr σ.next 0,.func (.func g) first cap] u fun v s=>∃ m:Nat,v=.int .i64 m/\a<=m/\m<b/\u.next<=s.next/\(∀ x,x<σ.next->s.obj x=σ.obj x)/\∃ z:Int,s.obj σ.next=za (.cells [.int .i64 z]):=fun u i j k z h1 h2 h3 h4 h5 h6 h7 h8 h9=>
  (fe2 emb tl hC d i j k σ.next z om om om hne (by rw[h8 id hid]; exact ho) h9).mono fun v s ⟨⟨m,e,hm⟩,h⟩=>⟨m,e,om,om,h.next,fun x hx=>by rw[h.other x om]; exact h8 x hx,h.box⟩
 have sw:∀ (s:Store) (m:Nat),a<=m->m<b->σ.next<=s.next->(∀ x,x<σ.next->s.obj x=σ.obj x)->∀ h:Int,(∃ (m':Nat) (h':Int),IV.tuple [.int .i64 m,.int .i64 h]=.tuple [.int .i64 m',.int .i64 h']/\a<=m'/\m'<b)/\SKp emb tl id d σ s:=fun s m h1 h2 h3 h4 h=>⟨⟨m,h,rfl,h1,h2⟩,h3,fun x hx _=>h4 x hx,by rw[h4 id hid]; exact ho⟩
 have adj:∀ (u:Store) (i:Nat) (z:Int),a+1<=i->i+1<b->σ.next<u.next->(∀ x,x<σ.next->u.obj x=σ.obj x)->u.obj σ.next=za (.cells [.int .i64 z])->C Tryz.prog EE 222 [.slice id 0 d.size 1,.int .i64 i,.ptr σ.next 0,.func (.func g) first cap] u fun v s=>∃ m:Nat,v=.int .i64 m/\a<=m/\m<b/\u.next<=s.next/\(∀ x,x<σ.next->s.obj x=σ.obj x)/\∃ z:Int,s.obj σ.next=za (.cells [.int .i64 z]):=fun u i z h1 h2 h7 h8 h9=>
  (et8 emb tl hC d i σ.next z om om hz hne (by rw[h8 id hid]; exact ho) h9).mono fun v s ⟨⟨m,e,hm,hm2⟩,h⟩=>⟨m,e,om,om,h.next,fun x hx=>by rw[h.other x om]; exact h8 x hx,h.box⟩
 have start:∀ x,x<σ.next->(Store.put ⟨σ.next+1,σ.obj⟩ σ.next (.cells [.int .i64 0])).obj x=σ.obj x:=fun x hx=>by
  have:¬ x=σ.next:=om
  simp only[aa5,this,if_false]
 have zero:(Store.put ⟨σ.next+1,σ.obj⟩ σ.next (.cells [.int .i64 0])).obj σ.next=za (.cells [.int .i64 0]):=by simp only[aa5,if_true]
 by_cases h50:50<=l
 ·have c50:(50:Int)<=(l:Int):=om
  simp only[go_sem,c50];refine ad3 fok222 (adj _ (a+l/4) 0 om om (by first|exact zy _|(simp only[aa7]; omega)) start zero) ?_;rintro v s1 ⟨i,rfl,i1,i2,n1,o1,z1,b1⟩;refine ⟨n1,?_⟩;have n1':σ.next<s1.next:=zx (by first|exact zy _|(simp only[aa7]; omega)) n1;simp only[go_sem];refine ad3 fok222 (adj s1 (a+l/4*2) z1 om om n1' o1 b1) ?_;rintro v s2 ⟨j,rfl,j1,j2,n2,o2,z2,b2⟩;refine ⟨n2,?_⟩;simp only[go_sem];refine ad3 fok222 (adj s2 (a+l/4*3) z2 om om om o2 b2) ?_;rintro v s3 ⟨k,rfl,k1,k2,n3,o3,z3,b3⟩;refine ⟨n3,?_⟩;simp only[go_sem];refine ad3 fok223 (fin s3 i j k z3 i1 i2 j1 j2 k1 k2 om o3 b3) ?_;rintro v s4 ⟨m,rfl,m1,m2,n4,o4,z4,b4⟩;refine ⟨n4,?_⟩;have hs:=sw s4 m m1 m2 om o4;by_cases e0:z4=0
  ·simp only[go_sem,b4,e0]; exact hs _
  by_cases e1:z4=12
  ·simp only[go_sem,b4,e0,e1]; exact hs _
  simp only[go_sem,b4,e0,e1]; exact hs _
 ·have c50:¬ (50:Int)<=(l:Int):=om
  simp only[go_sem,c50];refine ad3 fok223 (fin _ (a+l/4) (a+l/4*2) (a+l/4*3) 0 om om om om om om (by first|exact zy _|(simp only[aa7]; omega)) start zero) ?_;rintro v s4 ⟨m,rfl,m1,m2,n4,o4,z4,b4⟩;refine ⟨n4,?_⟩;have n4':σ.next<=s4.next:=zh (by first|exact Nat.le_succ _|(simp only[aa7]; omega)) n4;have hs:=sw s4 m m1 m2 n4' o4;by_cases e0:z4=0
  ·simp only[go_sem,b4,e0]; exact hs _
  by_cases e1:z4=12
  ·simp only[go_sem,b4,e0,e1]; exact hs _
  simp only[go_sem,b4,e0,e1]; exact hs _
end
def gr8:List UInt8:=[0,1,2,2,3,3,3,3,4,4,4,4,4,4,4,4,5,5,5,5,5,5,5,5,5,5,5,5,5,5,5,5,6,6,6,6,6,6,6,6,6,6,6,6,6,6,6,6,6,6,6,6,6,6,6,6,6,6,6,6,6,6,6,6,7,7,7,7,7,7,7,7,7,7,7,7,7,7,7,7,7,7,7,7,7,7,7,7,7,7,7,7,7,7,7,7,7,7,7,7,7,7,7,7,7,7,7,7,7,7,7,7,7,7,7,7,7,7,7,7,7,7,7,7,7,7,7,7,8,8,8,8,8,8,8,8,8,8,8,8,8,8,8,8,8,8,8,8,8,8,8,8,8,8,8,8,8,8,8,8,8,8,8,8,8,8,8,8,8,8,8,8,8,8,8,8,8,8,8,8,8,8,8,8,8,8,8,8,8,8,8,8,8,8,8,8,8,8,8,8,8,8,8,8,8,8,8,8,8,8,8,8,8,8,8,8,8,8,8,8,8,8,8,8,8,8,8,8,8,8,8,8,8,8,8,8,8,8,8,8,8,8,8,8,8,8,8,8,8,8,8,8,8,8,8,8]
theorem gr9:∀ n:Nat,n<256->gr8[n]? = za (zw (Go.Sort.bitsLen n)):=by
 have h:∀ n:Fin 256,gr8[n.1]? = za (zw (Go.Sort.bitsLen n.1)):=by decide +kernel
 exact fun n hn=>h ⟨n,hn⟩
theorem cd6:∀ n:Nat,n<256->Go.Sort.bitsLen n<=8/\2^Go.Sort.bitsLen n<=2*n+1/\(zw (Go.Sort.bitsLen n)).toNat=Go.Sort.bitsLen n:=by
 have h:∀ n:Fin 256,Go.Sort.bitsLen n.1<=8/\2^Go.Sort.bitsLen n.1<=2*n.1+1/\(zw (Go.Sort.bitsLen n.1)).toNat=Go.Sort.bitsLen n.1:=by decide +kernel
 exact fun n hn=>h ⟨n,hn⟩
theorem hw5 {n:Nat}(hn:n<256):do7 (.str [0,1,2,2,3,3,3,3,4,4,4,4,4,4,4,4,5,5,5,5,5,5,5,5,5,5,5,5,5,5,5,5,6,6,6,6,6,6,6,6,6,6,6,6,6,6,6,6,6,6,6,6,6,6,6,6,6,6,6,6,6,6,6,6,7,7,7,7,7,7,7,7,7,7,7,7,7,7,7,7,7,7,7,7,7,7,7,7,7,7,7,7,7,7,7,7,7,7,7,7,7,7,7,7,7,7,7,7,7,7,7,7,7,7,7,7,7,7,7,7,7,7,7,7,7,7,7,7,8,8,8,8,8,8,8,8,8,8,8,8,8,8,8,8,8,8,8,8,8,8,8,8,8,8,8,8,8,8,8,8,8,8,8,8,8,8,8,8,8,8,8,8,8,8,8,8,8,8,8,8,8,8,8,8,8,8,8,8,8,8,8,8,8,8,8,8,8,8,8,8,8,8,8,8,8,8,8,8,8,8,8,8,8,8,8,8,8,8,8,8,8,8,8,8,8,8,8,8,8,8,8,8,8,8,8,8,8,8,8,8,8,8,8,8,8,8,8,8,8,8,8,8,8,8,8,8]) (.int .u8 n)=za (.int .u8 (Go.Sort.bitsLen n:Nat)):=by
 have h1:=gr9 n hn;have h0:(0:Int)<=(n:Int):=om
 show (if 0<=(n:Int) then (gr8[((n:Int)).toNat]?).map fun b=>IV.int .u8 b.toNat else none)=_;rw[if_pos h0,zg,h1];show za (IV.int .u8 ((zw (Go.Sort.bitsLen n)).toNat:Nat))=_;rw[(cd6 n hn).2.2]
theorem hw6 (n:Nat)(hn:n<256):PC Tryz.prog EE 182 [.int .u64 n] (.int .i64 (Go.Sort.bitsLen n:Nat)):=by
 refine av9 fok182 (nZ rfl) fun σ=>?_
 have c1:¬ (4294967296:Int)<=n:=om
 have c2:¬ (65536:Int)<=n:=om
 have c3:¬ (256:Int)<=n:=om
 have w1:IntKind.u8.wrap (n:Int)=n:=by
  show (n:Int)%256=n;omega
 have h8:=(cd6 n hn).1;have w2:IntKind.i64.wrap ((Go.Sort.bitsLen n:Nat):Int)=(Go.Sort.bitsLen n:Nat):=wrap64 om om;have w3:IntKind.i64.wrap (0+((Go.Sort.bitsLen n:Nat):Int))=(Go.Sort.bitsLen n:Nat):=by rw[Int.zero_add]; exact w2
 simp only[ic182,go_sem,c1,c2,c3,w1,hw5 hn,w2,w3,and_self]
theorem gs2 (n:Nat)(hn:n<256):PC Tryz.prog EE 121 [.int .u64 n] (.int .i64 (Go.Sort.bitsLen n:Nat)):=by
 refine av9 fok121 (nZ rfl) fun σ=>?_
 simp only[ic121,go_sem];refine aa3 fok182 (hw6 n hn) ?_;simp only[go_sem,and_self]
theorem it3 (n:Nat)(hn:n<256):PC Tryz.prog EE 220 [.int .i64 n] (.int .u64 (2^Go.Sort.bitsLen n:Nat)):=by
 refine av9 fok220 (nZ rfl) fun σ=>?_
 have w0:IntKind.u64.wrap (n:Int)=n:=by
  show (n:Int)%18446744073709551616=n;omega
 obtain ⟨h8,hp,_⟩:=cd6 n hn;have h0:(0:Int)<=((Go.Sort.bitsLen n:Nat):Int):=om
 have w1:IntKind.u64.wrap (1*2^min (Go.Sort.bitsLen n) 64)=(2^Go.Sort.bitsLen n:Nat):=by
  have e:min (Go.Sort.bitsLen n) 64=Go.Sort.bitsLen n:=Nat.min_eq_left om;rw[e,Int.one_mul];have e2:((2:Int)^Go.Sort.bitsLen n)=((2^Go.Sort.bitsLen n:Nat):Int):=by norm_cast
  rw[e2];have:2^Go.Sort.bitsLen n<=511:=zh hp om;generalize 2^Go.Sort.bitsLen n=q at *;show (q:Int)%18446744073709551616=_;omega
 have b64:IntKind.u64.bits=64:=rfl;simp only[ic220,go_sem,w0];refine aa3 fok121 (gs2 n hn) ?_;simp only[go_sem,h0,b64,w1,and_self]
theorem fw3:∀ n:Nat,1<=n->n<256->2^Go.Sort.bitsLen n<=2*n:=by
 have h:∀ n:Fin 256,1<=n.1->2^Go.Sort.bitsLen n.1<=2*n.1:=by decide +kernel
 exact fun n h1 hn=>h ⟨n,hn⟩ h1
theorem it4 (a b:Int):∃ c:Nat,c<2^64/\au9 .xor (.int .u64 a) (.int .u64 b)=za (.int .u64 c):=by
 have h:au9 .xor (.int .u64 a) (.int .u64 b)=za (.int .u64 (IntKind.u64.wrap ((BitVec.ofInt 64 a ^^^ BitVec.ofInt 64 b).toNat:Int))):=by simp[au9,dw6]; rfl
 have hl:(BitVec.ofInt 64 a ^^^ BitVec.ofInt 64 b).toNat<2^64:=BitVec.isLt _;refine ⟨_,hl,?_⟩;rw[h];congr 2;show (((BitVec.ofInt 64 a ^^^ BitVec.ofInt 64 b).toNat:Nat):Int)%18446744073709551616=_;omega
theorem js3 (a b:Nat)(hb:b<2^64):∃ c:Nat,c<=b/\au9 .and (.int .u64 a) (.int .u64 b)=za (.int .u64 c):=by
 have h:au9 .and (.int .u64 a) (.int .u64 b)=za (.int .u64 (IntKind.u64.wrap ((BitVec.ofInt 64 a &&& BitVec.ofInt 64 b).toNat:Int))):=by simp[au9,dw6]; rfl
 have hl:(BitVec.ofInt 64 a &&& BitVec.ofInt 64 b).toNat<=b:=by
  rw[BitVec.toNat_and];refine zh Nat.and_le_right ?_;simp[BitVec.toNat_ofInt];omega
 refine ⟨_,hl,?_⟩;rw[h];congr 2;show (((BitVec.ofInt 64 a &&& BitVec.ofInt 64 b).toNat:Nat):Int)%18446744073709551616=_;omega
theorem it5 {σ:Store}{r:Nat}{x:Int}(ho:σ.obj r=za (.cells [.int .u64 x])) :
  C Tryz.prog EE 221 [.ptr r 0] σ fun v s=>∃ y:Nat,y<2^64/\v=.int .u64 y/\σ.next<=s.next/\(∀ i,i≠r->s.obj i=σ.obj i)/\s.obj r=za (.cells [.int .u64 y]):=by
 refine C_f fok221 (nZ rfl) ?_;obtain ⟨y1,h1,k1⟩:=it4 x (IntKind.u64.wrap (x*2^min (13:Int).toNat IntKind.u64.bits));obtain ⟨y2,h2,k2⟩:=it4 (y1:Int) ((y1:Int).fdiv (2^min (7:Int).toNat IntKind.u64.bits));obtain ⟨y3,h3,k3⟩:=it4 (y2:Int) (IntKind.u64.wrap ((y2:Int)*2^min (17:Int).toNat IntKind.u64.bits));generalize hA:IntKind.u64.wrap (x*2^min (13:Int).toNat IntKind.u64.bits)=A at *;generalize hB:(y1:Int).fdiv (2^min (7:Int).toNat IntKind.u64.bits)=B at *;generalize hD:IntKind.u64.wrap ((y2:Int)*2^min (17:Int).toNat IntKind.u64.bits)=D at *;have s1:au9 .shl (.int .u64 x) (.int .u64 13)=za (.int .u64 A):=by rw[eb8,if_pos (by decide),hA]
 have s2:au9 .shr (.int .u64 y1) (.int .u64 7)=za (.int .u64 B):=by rw[em9,if_pos (by decide),hB]
 have s3:au9 .shl (.int .u64 y2) (.int .u64 17)=za (.int .u64 D):=by rw[eb8,if_pos (by decide),hD]
 simp only[ic221,go_sem,ho,s1,s2,s3,k1,k2,k3];exact ⟨y3,h3,by first|rfl|trivial,by first|omega|(simp only[aa7]; omega),fun i hi=>by simp only[hi,if_false],by first|rfl|trivial⟩
section
variable {α:Type} [Inhabited α] (emb:α->Int) (tl:List IV) {cf:α->α->Int} {g:Nat} {first cap:List IV} {id:Nat}
theorem it6 {σ:Store}(d:Array α)(a b:Nat)(fv:IV)(hab:a+12<b)(hb:b<=d.size)(hz:d.size<256)(hid:id<σ.next)(ho:σ.obj id=za (.row (bb7 emb tl d))) :
  C Tryz.prog EE 175 [.slice id 0 d.size 1,.int .i64 a,.int .i64 b,fv] σ fun v s=>v=.tuple []/\∃ d',Go.Sort.PermIn a b d d'/\SKp emb tl id d' σ s:=by
 refine C_f fok175 (nZ rfl) ?_;obtain ⟨l,hl⟩:∃ l,l=b-a:=⟨_,rfl⟩;have w0:=fx3 (a:=b) (b:=a) om om;rw[<- hl] at w0;have n4:¬ ((4:Int)=0):=by decide
 have q4:IntKind.i64.wrap ((l:Int).tdiv 4)=((l/4:Nat):Int):=by
  have:(l:Int).tdiv 4=((l/4:Nat):Int):=by rw[zo om]; omega
  rw[this,wrap64 om om]
 have m2:IntKind.i64.wrap (((l/4:Nat):Int)*2)=((l/4*2:Nat):Int):=by rw[wrap64 om om]; omega
 have a2:=gt7 (a:=a) (b:=l/4*2) om;obtain ⟨base,hbase⟩:∃ base,base+1=a+l/4*2:=⟨a+l/4*2-1,om⟩;rw[<- hbase] at a2;have a3:IntKind.i64.wrap (((base+1:Nat):Int)-1)=((base+0:Nat):Int):=by rw[wrap64 om om]; omega
 have a4:=ac4 (i:=base+1) om;have c8:(8:Int)<=(l:Int):=om
 have u0:IntKind.u64.wrap (l:Int)=l:=by
  show (l:Int)%18446744073709551616=l;omega
 have hne:σ.next≠id:=om
 have hnp:=it3 l om;have h2:=fw3 l om om;obtain ⟨Q,hQ⟩:∃ Q,Q=2^Go.Sort.bitsLen l:=⟨_,rfl⟩;have hQ0:0<Q:=by rw[hQ]; exact Nat.pow_pos (by decide)
 rw[<- hQ] at hnp h2;simp only[ic175,go_sem,w0,c8,u0];refine aa3 fok220 hnp ?_;simp only[go_sem,n4,q4,m2,a2,a3];refine ab1 noT (fun k fr t=>∃ (dk:Array α) (y:Int),fr=[(0,.slice id 0 d.size 1),(1,.int .i64 a),(8,.int .i64 l),(9,.ptr σ.next 0),(10,.int .u64 Q),(11,.int .i64 ((base+k:Nat):Int))]/\σ.next<t.next/\(∀ x,x<σ.next->x≠id->t.obj x=σ.obj x)/\t.obj id=za (.row (bb7 emb tl dk))/\t.obj σ.next=za (.cells [.int .u64 y])/\dk.size=d.size/\Go.Sort.PermIn a b d dk) 3 ⟨d,l,rfl,by show σ.next<σ.next+1; omega,fun x hx _=>?_,?_,?_,rfl,Go.Sort.permIn_refl d a b⟩ ?_
 ·have:¬ x=σ.next:=om
  simp only[aa5,this,if_false]
 ·have:¬ id=σ.next:=om
  simp only[aa5,this,if_false]; exact ho
 ·simp only[aa5,if_true]
 rintro k fr t hk ⟨dk,y,rfl,hn,hoth,hrow,hbox,hsz,hP⟩;by_cases h3:k<3
 ·have c1:((base+k:Nat):Int)<=((base+1+1:Nat):Int):=om
  have w1:=ac4 (i:=base+k) om;simp only[go_sem,n4,q4,m2,a2,a4,c1];refine ad3 fok221 (it5 hbox) ?_;rintro v s ⟨y',hy',rfl,hn1,ho1,hb1⟩;refine ⟨hn1,?_⟩
  have u1:IntKind.u64.wrap ((Q:Int)-1)=((Q-1:Nat):Int):=by
   show ((Q:Int)-1)%18446744073709551616=_;omega
  obtain ⟨c,hc1,hc2⟩:=js3 y' (Q-1) om;have u2:IntKind.i64.wrap (c:Int)=c:=wrap64 om om;have hrow1:s.obj id=za (.row (bb7 emb tl dk)):=by rw[ho1 id om]; exact hrow
  have goon:∀ (o:Nat),o<l->∀ (U:Store),U.obj=s.obj->s.next<=U.next->True:=fun _ _ _ _ _=>trivial
  by_cases hge:l<=c
  ·have d1:(l:Int)<=c:=om
   have u3:=fx3 (a:=c) (b:=l) hge om;obtain ⟨o,hoo⟩:∃ o,o=c-l:=⟨_,rfl⟩;rw[<- hoo] at u3;have v1:=gt7 (a:=a) (b:=o) om;have p1:(0:Int)<=((base+k:Nat):Int):=om
   have p2:((base+k:Nat):Int)<d.size:=om
   have p3:(0:Int)<=((a+o:Nat):Int):=om
   have p4:((a+o:Nat):Int)<d.size:=om
   obtain ⟨r1,r2,r3,r4,r5⟩:=ak2 emb tl (d:=dk) (i:=base+k) (j:=a+o) om om;simp only[go_sem,u1,hc2,u2,d1,u3,v1,p1,p2,p3,p4,r1,r2,r3,r4,r5,hrow1,w1,zb];refine ⟨h3,Go.Sort.swp dk (base+k) (a+o),y',rfl,?_,fun x hx hxi=>?_,?_,?_,by rw[swp_size]; exact hsz,Go.Sort.permIn_trans _ _ _ a b hP (Go.Sort.swp_permIn dk a b _ _ om om om om om)⟩
   ·first|omega|(simp only[aa7]; omega)
   ·simp only[aa5,hxi,if_false]; rw[ho1 x om]; exact hoth x hx hxi
   ·simp only[aa5,if_true]
   ·simp only[aa5,hne,if_false]; exact hb1
  ·have d1:¬ (l:Int)<=c:=om
   have v1:=gt7 (a:=a) (b:=c) om;have p1:(0:Int)<=((base+k:Nat):Int):=om
   have p2:((base+k:Nat):Int)<d.size:=om
   have p3:(0:Int)<=((a+c:Nat):Int):=om
   have p4:((a+c:Nat):Int)<d.size:=om
   obtain ⟨r1,r2,r3,r4,r5⟩:=ak2 emb tl (d:=dk) (i:=base+k) (j:=a+c) om om;simp only[go_sem,u1,hc2,u2,d1,v1,p1,p2,p3,p4,r1,r2,r3,r4,r5,hrow1,w1,zb];refine ⟨h3,Go.Sort.swp dk (base+k) (a+c),y',rfl,?_,fun x hx hxi=>?_,?_,?_,by rw[swp_size]; exact hsz,Go.Sort.permIn_trans _ _ _ a b hP (Go.Sort.swp_permIn dk a b _ _ om om om om om)⟩
   ·first|omega|(simp only[aa7]; omega)
   ·simp only[aa5,hxi,if_false]; rw[ho1 x om]; exact hoth x hx hxi
   ·simp only[aa5,if_true]
   ·simp only[aa5,hne,if_false]; exact hb1
 ·have e3:k=3:=om
  subst e3;have c1:¬ ((base+3:Nat):Int)<=((base+1+1:Nat):Int):=om
  simp only[go_sem,n4,q4,m2,a2,a4,c1];exact ⟨dk,hP,om,hoth,hrow⟩
end
end Go.Id.Tryz
