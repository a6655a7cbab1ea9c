/- The document's answers on names,versions,dependencies: walked. Conditions: sizes that fit. -/
import Derived.Test.YtcdakaadeghccaaGreatDoorTSNC
import Derived.Test.YtcdakaadeghccaaGreatDoorMv
import Derived.Test.YtcdakaadeghccaaGreatDoorGSR
import Derived.Test.YtcdakaadeghccaaGreatDoorTSPE
open List renaming getD_eq_getElem?_getD→za,getElem_mem→zc,getElem?_eq_getElem→zd,drop_length→zh,take_length→zo,length_map→zq,length_append→zr,length_singleton→zv,mem_cons→zw,range→zx,take_add_one→zy,append_nil→z2,drop_eq_getElem_cons→z5,all_map→z6,filter_append→z9
open Int renaming reduceEq→zb,toNat_natCast→ze,reduceNeg→zg,cast_ofNat_Int→qa
open Bool renaming false_or→zf,false_and→zi,true_and→zj,and_eq_false_iff→zk,and_false→zl,and_eq_true→zp,true_or→zt,not_eq_true'→zz,or_eq_true→z3
open Nat renaming le_refl→zm,zero_add→zu,reduceLT→z0,mul_one→z1,not_lt_zero→z4,add_zero→z7
open Option renaming some→zn
open UInt8 renaming ofNat_toNat→z8
set_option linter.all false
set_option maxRecDepth 100000
set_option maxHeartbeats 1000000
private theorem om{P:Prop}(h:P:=by omega):P:=h
namespace Go.Id.Tryz
open Go Go.Id Go.Proofs Go.Shelf Go.Id.Md
def alN (n:Nat):Bool:=decide (97<=n)&&decide (n<=122)||decide (65<=n)&&decide (n<=90)||decide (48<=n)&&decide (n<=57)
def hh7 (n:Nat):Bool:=alN n || [46,95,43,45,47,58,64,126,94].contains n
def jq9 (n:Nat):Bool:=alN n || [46,95,43,126,94].contains n
theorem gj9 (b:UInt8):bc7 b=hh7 b.toNat:=by
 have h:∀ n,n<256->bc7 (UInt8.ofNat n)=hh7 n:=by decide +kernel
 have:=h b.toNat b.toNat_lt
 rwa [z8] at this
theorem hh8 (b:UInt8):bk7 b=jq9 b.toNat:=by
 have h:∀ n,n<256->bk7 (UInt8.ofNat n)=jq9 n:=by decide +kernel
 have:=h b.toNat b.toNat_lt
 rwa [z8] at this
theorem ez6 (a:Int):PC Tryz.prog EE 38 [.int .u8 a] (.bool (bg8 a)):=by
 refine ae5 hE fok38 (nZ rfl) (ao4 (.int _ _)) ?_;unfold bg8 ak8;by_cases h1:(2:Int)<=a
 ·have e1:(1:Int)<=a:=om
  have e2:¬ a=1:=om
  simp only[ic38,go_sem,h1];exact ab4 (by simp[e1,e2])
 ·simp only[ic38,go_sem,h1];refine ab4 ?_;by_cases e:a=1
  ·simp[e]
  ·have:¬ (1:Int)<=a:=om
   simp[this]
theorem hh9 (n:Nat):PC Tryz.prog EE 146 [.int .u8 n] (.bool (hh7 n)):=by
 refine ae5 hE fok146 (nZ rfl) (ao4 (.int _ _)) ?_;by_cases g:n=46\/n=95\/n=43\/n=45\/n=47\/n=58\/n=64\/n=126\/n=94
 ·rcases g with rfl|rfl|rfl|rfl|rfl|rfl|rfl|rfl|rfl
  all_goals
   simp only[ic146,go_sem,zg,qa];exact ab4 (by decide)
 ·simp only[not_or] at g;obtain ⟨g1,g2,g3,g4,g5,g6,g7,g8,g9⟩:=g;have hc:[46,95,43,45,47,58,64,126,94].contains n=false:=by simp[g1,g2,g3,g4,g5,g6,g7,g8,g9]
  have f1:¬ (n:Int)=46:=om
  have f2:¬ (n:Int)=95:=om
  have f3:¬ (n:Int)=43:=om
  have f4:¬ (n:Int)=45:=om
  have f5:¬ (n:Int)=47:=om
  have f6:¬ (n:Int)=58:=om
  have f7:¬ (n:Int)=64:=om
  have f8:¬ (n:Int)=126:=om
  have f9:¬ (n:Int)=94:=om
  unfold hh7 alN;rw[hc,Bool.or_false];by_cases k1:(97:Int)<=n
  ·by_cases k2:(n:Int)<=122
   ·simp only[ic146,go_sem,k1,k2];have a1:97<=n:=om
    have a2:n<=122:=om
    exact ab4 (by simp[a1,a2])
   ·have k3:(65:Int)<=n:=om
    have k4:¬ (n:Int)<=90:=om
    have k5:(48:Int)<=n:=om
    have k6:¬ (n:Int)<=57:=om
    simp only[ic146,go_sem,k1,k2,k3,k4,k5,k6,f1,f2,f3,f4,f5,f6,f7,f8,f9];have a2:¬ n<=122:=om
    have a4:¬ n<=90:=om
    have a6:¬ n<=57:=om
    exact ab4 (by simp[a2,a4,a6])
  ·have a1:¬ 97<=n:=om
   by_cases k3:(65:Int)<=n
   ·by_cases k4:(n:Int)<=90
    ·simp only[ic146,go_sem,k1,k3,k4];have a3:65<=n:=om
     have a4:n<=90:=om
     exact ab4 (by simp[a3,a4])
    ·have k5:(48:Int)<=n:=om
     have k6:¬ (n:Int)<=57:=om
     simp only[ic146,go_sem,k1,k3,k4,k5,k6,f1,f2,f3,f4,f5,f6,f7,f8,f9];have a4:¬ n<=90:=om
     have a6:¬ n<=57:=om
     exact ab4 (by simp[a1,a4,a6])
   ·have a3:¬ 65<=n:=om
    by_cases k5:(48:Int)<=n
    ·by_cases k6:(n:Int)<=57
     ·simp only[ic146,go_sem,k1,k3,k5,k6];have a5:48<=n:=om
      have a6:n<=57:=om
      exact ab4 (by simp[a5,a6])
     ·simp only[ic146,go_sem,k1,k3,k5,k6,f1,f2,f3,f4,f5,f6,f7,f8,f9];have a6:¬ n<=57:=om
      exact ab4 (by simp[a1,a3,a6])
    ·simp only[ic146,go_sem,k1,k3,k5,f1,f2,f3,f4,f5,f6,f7,f8,f9];have a5:¬ 48<=n:=om
     exact ab4 (by simp[a1,a3,a5])
theorem ez7 (s:Str)(hs:s.length<2^62):PC Tryz.prog EE 88 [.str s] (.bool (as1 s)):=by
 refine ae5 hE fok88 (nZ rfl) (ao4 (.str _)) ?_;unfold as1;by_cases h1:1<=s.length
 case neg=>
  have c1:(s.length:Int)<1:=om
  simp only[ic88,go_sem,c1];exact ab4 (by simp[h1])
 by_cases h2:s.length<=64
 case neg=>
  have c1:¬ (s.length:Int)<1:=om
  have c2:(64:Int)<s.length:=om
  simp only[ic88,go_sem,c1,c2];exact ab4 (by simp[h2])
 have c1:¬ (s.length:Int)<1:=om
 have c2:¬ (64:Int)<s.length:=om
 by_cases hw:s∈words
 ·have hc:words.contains s=true:=by simpa using hw
  have e:s=[97,110,100]\/s=[111,114]\/s=[105,102]\/s=[101,108,115,101]\/s=[117,110,108,101,115,115]\/s=[119,105,116,104]\/s=[119,105,116,104,111,117,116]:=by simpa [words] using hw
  rw[hc];rcases e with rfl|rfl|rfl|rfl|rfl|rfl|rfl
  all_goals
   simp only[ic88,go_sem,c1,c2,List.length_cons,List.length_nil];exact ab4 (by decide)
 have hc:words.contains s=false:=by simpa using hw
 have hn:¬ s=[97,110,100]/\¬ s=[111,114]/\¬ s=[105,102]/\¬ s=[101,108,115,101]/\¬ s=[117,110,108,101,115,115]/\¬ s=[119,105,116,104]/\¬ s=[119,105,116,104,111,117,116]:=by simpa [words,not_or] using hw
 obtain ⟨n1,n2,n3,n4,n5,n6,n7⟩:=hn;rw[hc,decide_eq_true h1,decide_eq_true h2,zj,zj,Bool.not_false,Bool.and_true];simp only[ic88,go_sem,c1,c2,n1,n2,n3,n4,n5,n6,n7];refine ab1 noT (fun i fr t=>fr=[(0,.str s),(3,.int .i64 (i:Int))]/\(s.take i).all bc7=true) s.length ⟨rfl,rfl⟩ ?_;rintro i fr t hi ⟨rfl,ha⟩;by_cases hlt:i<s.length
 ·have d1:(i:Int)<s.length:=om
  have d2:(0:Int)<=i:=om
  have w1:=ac4 (i:=i) om;have hsg:=hh9 s[i].toNat;rw[<- gj9] at hsg;simp only[go_sem,d1,d2,zd hlt,ze];refine aa3 fok146 (hsg) ?_
  cases hb:bc7 s[i] with
  | true=>
   simp only[go_sem,w1]
   exact ⟨hlt,by rw[cu8 hlt,ha,hb]; rfl⟩
  | false=>
   simp only[go_sem];exact ab4 (by rw[bh4 hlt hb])
 ·have d1:¬ (i:Int)<s.length:=om
  have e:i=s.length:=om
  subst e;rw[zo] at ha;simp only[go_sem,d1];exact ab4 (by rw[ha])
theorem hi6 (s:Str)(hs:s.length<2^62):PC Tryz.prog EE 90 [.str s] (.bool (bg3 s)):=by
 refine ae5 hE fok90 (nZ rfl) (ao4 (.str _)) ?_;have h:=ez7 s hs;unfold bg3;simp only[ic90,go_sem];refine aa3 fok88 (h) ?_
 cases hn:as1 s with
 | false=>simp only[go_sem]; exact ab4 rfl
 | true=>
  cases s with
  | nil=>simp[as1] at hn
  | cons b l=>
   simp only[go_sem,List.head?_cons];refine ab4 ?_
   have:(b.toNat:Int)=47↔b=47:=by
    constructor
    ·intro h; exact UInt8.toNat_inj.1 (by show b.toNat=47; omega)
    ·rintro rfl; rfl
   by_cases e:b=47
   ·subst e; rfl
   ·have e2:¬ (b.toNat:Int)=47:=fun h=>e (this.1 h)
    simp[e,e2]
end Go.Id.Tryz
namespace Go.Id.Tryz
open Go Go.Id Go.Proofs Go.Shelf Go.Id.Md
theorem ez8 (s:Str)(hs:s.length<2^62):PC Tryz.prog EE 147 [.str s] (.bool (aw1 s)):=by
 refine ae5 hE fok147 (nZ rfl) (ao4 (.str _)) ?_;simp only[ic147,go_sem];refine ab1 noT (fun i fr t=>fr=[(0,.str s),(3,.int .i64 (i:Int))]/\(s.take i).all bk7=true) s.length ⟨rfl,rfl⟩ ?_;rintro i fr t hi ⟨rfl,ha⟩;by_cases hlt:i<s.length
 ·have d1:(i:Int)<s.length:=om
  have d2:(0:Int)<=i:=om
  have w1:=ac4 (i:=i) om;have hv:=hh8 s[i];have step:bk7 s[i]=true->(s.take (i+1)).all bk7=true:=fun h=>by rw[cu8 hlt,ha,h]; rfl
  have fin:bk7 s[i]=false->aw1 s=false:=fun h=>by simp only[aw1,bh4 hlt h,zl]
  simp only[go_sem,d1,d2,zd hlt,ze];generalize s[i].toNat=n at *;by_cases g:n=46\/n=95\/n=43\/n=126\/n=94
  ·rcases g with rfl|rfl|rfl|rfl|rfl
   all_goals
    simp only[go_sem,qa,zb,w1];exact ⟨hlt,step (hv.trans (by decide))⟩
  ·simp only[not_or] at g;obtain ⟨g1,g2,g3,g4,g5⟩:=g;have hc:[46,95,43,126,94].contains n=false:=by simp[g1,g2,g3,g4,g5]
   have f1:¬ (n:Int)=46:=om
   have f2:¬ (n:Int)=95:=om
   have f3:¬ (n:Int)=43:=om
   have f4:¬ (n:Int)=126:=om
   have f5:¬ (n:Int)=94:=om
   unfold jq9 alN at hv;rw[hc,Bool.or_false] at hv;by_cases k1:(97:Int)<=n
   ·have a5:(48:Int)<=n:=om
    have a6:¬ (n:Int)<=57:=om
    by_cases k2:(n:Int)<=122
    ·have a1:97<=n:=om
     have a2:n<=122:=om
     simp only[go_sem,k1,k2,a5,a6,w1];exact ⟨hlt,step (hv.trans (by simp[a1,a2]))⟩
    ·have k3:(65:Int)<=n:=om
     have k4:¬ (n:Int)<=90:=om
     simp only[go_sem,k1,k2,k3,k4,a5,a6,f1,f2,f3,f4,f5];have b2:¬ n<=122:=om
     have b4:¬ n<=90:=om
     have b6:¬ n<=57:=om
     exact ab4 (fin (hv.trans (by simp[b2,b4,b6]))).symm
   ·have b1:¬ 97<=n:=om
    by_cases k3:(65:Int)<=n
    ·have a5:(48:Int)<=n:=om
     have a6:¬ (n:Int)<=57:=om
     by_cases k4:(n:Int)<=90
     ·simp only[go_sem,k1,k3,k4,a5,a6,w1];have a3:65<=n:=om
      have a4:n<=90:=om
      exact ⟨hlt,step (hv.trans (by simp[a3,a4]))⟩
     ·simp only[go_sem,k1,k3,k4,a5,a6,f1,f2,f3,f4,f5];have b4:¬ n<=90:=om
      have b6:¬ n<=57:=om
      exact ab4 (fin (hv.trans (by simp[b1,b4,b6]))).symm
    ·have b3:¬ 65<=n:=om
     by_cases k5:(48:Int)<=n
     ·by_cases k6:(n:Int)<=57
      ·simp only[go_sem,k1,k3,k5,k6,w1];have a5:48<=n:=om
       have a6:n<=57:=om
       exact ⟨hlt,step (hv.trans (by simp[a5,a6]))⟩
      ·simp only[go_sem,k1,k3,k5,k6,f1,f2,f3,f4,f5];have b6:¬ n<=57:=om
       exact ab4 (fin (hv.trans (by simp[b1,b3,b6]))).symm
     ·simp only[go_sem,k1,k3,k5,f1,f2,f3,f4,f5];have b5:¬ 48<=n:=om
      exact ab4 (fin (hv.trans (by simp[b1,b3,b5]))).symm
 ·have d1:¬ (i:Int)<s.length:=om
  have e:i=s.length:=om
  subst e;rw[zo] at ha;unfold aw1;rw[ha,Bool.and_true];by_cases h1:1<=s.length
  ·have c1:(1:Int)<=s.length:=om
   simp only[go_sem,d1,c1];refine ab4 ?_;have:decide ((s.length:Int)<=64)=decide (s.length<=64):=decide_eq_decide.2 om;simp[h1,this]
  ·have c1:¬ (1:Int)<=s.length:=om
   simp only[go_sem,d1,c1];exact ab4 (by simp[h1])
theorem io5 (e:EVR)(dep:Bool)(h1:e.ver.length<2^62)(h2:e.rel.length<2^62):PC Tryz.prog EE 91 [.agg e.cs,.bool dep] (.bool (bc8 e dep)):=by
 obtain ⟨ep,ver,rel⟩:=e;refine ae5 hE fok91 (nZ rfl) (ae9 (.agg _ (at1 (.int _ _) (.str _) (.str _))) (.bool _)) ?_;have hw:=ez8 ver h1;have hw':=ez8 rel h2;unfold bc8;by_cases a1:ep<0
 ·have b1:¬ (0:Int)<=ep:=om
  simp only[ic91,go_sem,EVR.cs,a1];exact ab4 (by simp[b1])
 have b1:(0:Int)<=ep:=om
 by_cases a2:2147483647<ep
 ·have b2:¬ ep<=2147483647:=om
  simp only[ic91,go_sem,EVR.cs,a1,a2];exact ab4 (by simp[b2])
 have b2:ep<=2147483647:=om
 simp only[b1,b2,decide_true,zj];simp only[ic91,go_sem,EVR.cs,a1,a2];refine aa3 fok147 (hw) ?_
 cases hv:aw1 ver with
 | false=>simp only[go_sem]; exact ab4 (by simp)
 | true=>
  by_cases hr:rel=[]
  ·subst hr;simp only[go_sem];refine ab4 ?_;have:aw1 []=false:=by decide
   rw[this]; simp
  ·have he:rel.isEmpty=false:=by simpa using hr
   simp only[go_sem,hr];refine aa3 fok147 (hw') ?_;simp only[go_sem];exact ab4 (by rw[he]; simp)
theorem io6 (n:Int):PC Tryz.prog EE 89 [.int .u8 n] (.bool (dr6 n)):=by
 refine ae5 hE fok89 (nZ rfl) (ao4 (.int _ _)) ?_;unfold dr6;by_cases g:n=0\/n=1\/n=2\/n=3\/n=4\/n=6
 ·rcases g with rfl|rfl|rfl|rfl|rfl|rfl
  all_goals
   simp only[ic89,go_sem];exact ab4 (by decide)
 ·simp only[not_or] at g;obtain ⟨g1,g2,g3,g4,g5,g6⟩:=g;simp only[ic89,go_sem,g1,g2,g3,g4,g5,g6];exact ab4 (by simp[g1,g2,g3,g4,g5,g6])
theorem io7 (e:EVR):allEq [1,2,2] e.cs gf4.cs=zn (decide (e=gf4)):=by
 obtain ⟨ep,ver,rel⟩:=e;simp[EVR.cs,gf4,allEq,al4]
theorem io8 (d:Dep)(h1:d.name.length<2^62)(h2:d.evr.ver.length<2^62)(h3:d.evr.rel.length<2^62):PC Tryz.prog EE 39 [.agg d.cs] (.bool (ak5 d)):=by
 refine ae5 hE fok39 (nZ rfl) (ao4 (.agg _ (gk1 d))) ?_;have hn:=ez7 d.name h1;have hf:=hi6 d.name h1;have ho:=io6 d.op;have hm:=io5 d.evr true h2 h3;have he:=io7 d.evr;unfold ak5;obtain ⟨name,op,⟨ep,ver,rel⟩⟩:=d;unfold EVR.cs gf4 at he;simp only at *;simp only[ic39,go_sem,Dep.cs];refine aa3 fok88 (hn) ?_
 cases as1 name with
 | false=>simp only[go_sem]; exact ab4 (by simp)
 | true=>
  simp only[go_sem];refine aa3 fok89 (ho) ?_
  cases dr6 op with
  | false=>simp only[go_sem]; exact ab4 (by simp)
  | true=>
   by_cases h0:op=0
   ·simp only[go_sem,h0,he,Option.map_some];exact ab4 (by simp[gf4])
   ·simp only[go_sem,h0];refine aa3 fok90 (hf) ?_
    cases bg3 name with
    | true=>simp only[go_sem]; exact ab4 (by simp[h0])
    | false=>
     simp only[go_sem];refine aa3 fok91 (hm) ?_;simp only[go_sem];exact ab4 (by simp[h0])
end Go.Id.Tryz
namespace Go.Id.Tryz
open Go Go.Id Go.Proofs Go.Shelf Go.Id.Md
theorem ez9 (a:Int):PC Tryz.prog EE 234 [.int .u8 a] (.str (as2 a)):=by
 refine ae5 hE fok234 (nZ rfl) (ao4 (.int _ _)) ?_;unfold as2;by_cases g:a=1\/a=2\/a=3\/a=4
 ·rcases g with rfl|rfl|rfl|rfl
  all_goals
   simp only[ic234,go_sem];exact .keep _ (.str _)
 ·simp only[not_or] at g;obtain ⟨g1,g2,g3,g4⟩:=g;simp only[ic234,go_sem,g1,g2,g3,g4];exact .keep _ (.str _)
end Go.Id.Tryz
namespace Go.Id.Tryz
open Go Go.Id Go.Proofs Go.Id.Md
theorem fa8 (a:Int):bg8 a=(decide (a=2)||decide (a=3)||decide (a=4)):=by
 unfold bg8 ak8;rw[Bool.eq_iff_iff];simp only[zp,z3,decide_eq_true_eq,zz,decide_eq_false_iff_not];omega
theorem cz6 (m a:Int):PC Tryz.prog EE 57 [.int .u8 m,.int .u8 a] (.int .i64 (al1 m a)):=by
 refine ae5 hE fok57 (nZ rfl) (ae9 (.int _ _) (.int _ _)) ?_;have hm:=ez6 m;by_cases g:m=2\/m=3\/m=4
 ·have hmm:bg8 m=true:=by rw[fa8]; rcases g with rfl|rfl|rfl<;>rfl
  rw[hmm] at hm;by_cases e1:a=m
  ·subst e1;simp only[ic57,go_sem];refine aa3 fok38 (hm) ?_;simp only[go_sem];exact ax5 (by unfold al1; rcases g with rfl|rfl|rfl<;>rfl)
  by_cases e2:a=1
  ·subst e2;simp only[ic57,go_sem];refine aa3 fok38 (hm) ?_;simp only[go_sem,e1];exact ax5 (by unfold al1; rcases g with rfl|rfl|rfl<;>rfl)
  simp only[ic57,go_sem];refine aa3 fok38 (hm) ?_;by_cases e3:m=2
  ·subst e3;by_cases e4:a=3
   ·subst e4;simp only[go_sem,zb];exact ax5 rfl
   ·simp only[go_sem,e1,e2,e4];exact ax5 (by unfold al1; simp[e1,e2,e4])
  ·simp only[go_sem,e1,e2,e3];refine ax5 ?_;unfold al1;rw[if_neg e3];rcases g with rfl|rfl|rfl
   ·exact absurd rfl e3
   ·simp[e1,e2]
   ·simp[e1,e2]
 ·have hmm:bg8 m=false:=by
   rw[fa8];simp only[not_or] at g;simp[g.1,g.2.1,g.2.2]
  rw[hmm] at hm;simp only[ic57,go_sem];refine aa3 fok38 (hm) ?_;simp only[go_sem];simp only[not_or] at g;exact ax5 (by unfold al1; simp[g.1,g.2.1,g.2.2])
theorem hi8 (m a:Int):0<=al1 m a:=by
 unfold al1
 repeat' split
 all_goals decide
theorem hj4 (m a:Int):PC Tryz.prog EE 117 [.int .u8 m,.int .u8 a] (.bool (hf4 m a)):=by
 refine ae5 hE fok117 (nZ rfl) (ae9 (.int _ _) (.int _ _)) ?_;have h:=cz6 m a;have hn:=hi8 m a;simp only[ic117,go_sem]
 first|refine aa3 fok57 (h) ?_|refine aa8 (h) ?_
 simp only[go_sem];refine ab4 ?_;unfold hf4;by_cases h0:al1 m a=0
 ·simp[h0]
 ·have:0<al1 m a:=om
  simp[h0,this]
theorem cq8 (a:Int):(as2 a=[])↔ak8 a=false:=by
 unfold as2 ak8;by_cases g:a=1\/a=2\/a=3\/a=4
 ·rcases g with rfl|rfl|rfl|rfl<;>simp
 ·simp only[not_or] at g;have:¬ (1<=a/\a<=4):=om
  simp only[g.1,g.2.1,g.2.2.1,g.2.2.2,if_false,true_iff,zk,decide_eq_false_iff_not];omega
theorem ep5 (a b:Int):PC Tryz.prog EE 194 [.int .u8 a,.int .u8 b] (.bool (av5 a b)):=by
 refine ae5 hE fok194 (nZ rfl) (ae9 (.int _ _) (.int _ _)) ?_;have ha:=ez9 a;have hb:=ez9 b;have na:=cq8 a;have nb:=cq8 b;simp only[ic194,go_sem];refine aa3 fok234 (ha) ?_;by_cases h1:as2 a=[]
 ·have:=na.1 h1;simp only[go_sem,h1];exact ab4 (by unfold av5; simp[this])
 have oa:ak8 a=true:=by
  cases h:ak8 a with
  | true=>rfl
  | false=>exact absurd (na.2 h) h1
 simp only[go_sem,h1];refine aa3 fok234 (hb) ?_;by_cases h2:as2 b=[]
 ·have:=nb.1 h2;simp only[go_sem,h2];exact ab4 (by unfold av5; simp[this])
 have ob:ak8 b=true:=by
  cases h:ak8 b with
  | true=>rfl
  | false=>exact absurd (nb.2 h) h2
 have hf:av5 a b=(decide (a=b)||decide (a=1)||decide (b=1)):=by
  unfold av5 ey3 bg8;rw[oa,ob];rw[Bool.eq_iff_iff];simp only[zp,z3,decide_eq_true_eq,zz,zj,zk,decide_eq_false_iff_not,Bool.not_eq_false'];omega
 rw[hf];by_cases e1:a=b
 ·simp only[go_sem,h2,e1]; exact ab4 (by simp)
 by_cases e2:a=1
 ·subst e2;simp only[go_sem,h2,e1];exact ab4 (by simp)
 ·simp only[go_sem,h2,e1,e2];exact ab4 (by simp[e1,e2])
theorem io9 (n:Str)(e:EVR):PC Tryz.prog EE 215 [.str n,.agg e.cs] (.agg (Dep.cs ⟨n,2,e⟩)):=by
 refine ae5 hE fok215 (nZ rfl) (ae9 (.str _) (bt5 e)) ?_;simp only[ic215,go_sem,EVR.cs,Dep.cs];exact .keep _ (.agg _ (il5 (.str _) (.int _ _) (.int _ _) (.str _) (.str _)))
theorem hj5 (p:aa2):PC Tryz.prog EE 161 [.agg p.cs] (.agg (own p).cs):=by
 refine ae5 hE fok161 (nZ rfl) (ao4 (am6 p)) ?_;have ho:=io9 p.name p.evr;have hb:=an3 (own p);simp only[EVR.cs,Dep.cs,own] at ho hb;simp only[ic161,go_sem,aa2.cs,own,Dep.cs];refine aa3 fok215 (ho) ?_;simp only[go_sem];exact .keep _ hb
theorem hj6 (p:aa2):p.cs.head? = zn (.str p.name):=rfl
theorem ep6 (d:Dep):d.cs.head? = zn (.str d.name):=rfl
theorem cn8 (p:aa2)(d:Dep)(hp:Pkg.small p)(hd:Dep.small d):PC Tryz.prog EE 102 [.agg p.cs,.agg d.cs] (.bool (named p d)):=by
 refine ae5 hE fok102 (nZ rfl) (al3 (am6 p) (an3 d)) ?_;have ho:=hj5 p;have hm:=ez5 (own p) d (eg2 hp) hd;have hnm:named p d=(decide (p.name=d.name)&&meet (own p) d):=rfl;rw[hnm];generalize hx:Dep.cs (own p)=x at ho hm;by_cases e:p.name=d.name
 ·have e':d.name=p.name:=e.symm;simp only[ic102,go_sem,ag8,ai2,ah4,aj5,ah1,ag7,hj6,ep6,e'];refine aa8 (ho) ?_;simp only[go_sem,aj5,ah1,ag7]
  first|refine aa3 fok103 (hm) ?_|refine aa8 (hm) ?_
  simp only[go_sem];exact ab4 (by simp)
 ·have e':¬ d.name=p.name:=fun h=>e h.symm
  simp only[ic102,go_sem,ag8,ai2,ah4,aj5,ah1,ag7,hj6,ep6,e'];exact ab4 (by simp[e])
theorem ee7 {α:Type}{q:α->Bool}{l:List α}{i:Nat}{a:α}(h:l.drop i=a::l.drop (i+1)):(l.drop i).any q=(q a||(l.drop (i+1)).any q):=by rw[h]; simp
theorem ip1 (p:aa2):(p.cs.drop 6).head? = zn (deps p.provides):=rfl
theorem jf8 (p:aa2):(p.cs.drop 9).head? = zn (deps p.ab2):=rfl
theorem fa9 (p:aa2):(p.cs.drop 14).head? = zn (strs p.files):=rfl
theorem ip2 (d:Dep):(d.cs.drop 1).head? = zn (.int .u8 d.op):=rfl
theorem cb6 (p:aa2)(d:Dep)(hp:Pkg.small p)(hd:Dep.small d):PC Tryz.prog EE 53 [.agg p.cs,.agg d.cs] (.bool (provides p d)):=by
 refine ae5 hE fok53 (nZ rfl) (al3 (am6 p) (an3 d)) ?_;have hn:=cn8 p d hp hd;have l1:=hp.2.2.2.1;have l2:=hp.2.2.2.2.2;have hpv:provides p d=(named p d||p.provides.any (fun a=>meets a d)||decide (d.op=0)&&p.files.contains d.name):=rfl;rw[hpv];simp only[ic53,go_sem,ag8,ai2,ah4,aj5,ah1,ag7];refine aa3 fok102 (hn) ?_
 cases hnb:named p d with
 | true=>simp only[go_sem]; exact ab4 (by simp)
 | false=>
 simp only[go_sem];refine ab1 noT (fun i fr s=>fr=[(2,.ab5 p.cs),(3,.ab5 d.cs),(5,.int .i64 (i:Int))]/\p.provides.any (fun a=>meets a d)=(p.provides.drop i).any (fun a=>meets a d)) p.provides.length ⟨rfl,rfl⟩ ?_;rintro i fr s hi ⟨rfl,ha⟩;by_cases hlt:i<p.provides.length
 ·obtain ⟨x,hx,hxi,hdr,hget,htk⟩:=ad6 p.provides i hlt;have d1:(i:Int)<p.provides.length:=om
  have d2:(0:Int)<=(i:Int):=om
  have w1:=ac4 (i:=i) om;have hm:=ez5 x d (hp.2.1 x hx) hd;have hms:meets x d=(decide (x.name=d.name)&&meet x d):=rfl;rw[ee7 hdr,hms] at ha;by_cases e:x.name=d.name
  ·simp only[go_sem,ip1,d1,d2,hget,ep6,aj5,ah1,ag7,e]
   first|refine aa3 fok103 (hm) ?_|refine aa8 (hm) ?_
   cases hb:meet x d with
   | true=>
    rw[hb] at ha;simp only[go_sem]
    exact ab4 (by rw[ha]; simp[e])
   | false=>
    rw[hb,zl,zf] at ha;simp only[go_sem,w1];exact ⟨hlt,ha⟩
  ·rw[decide_eq_false e,zi,zf] at ha;simp only[go_sem,ip1,d1,d2,hget,ep6,aj5,ah1,ag7,e,w1];exact ⟨hlt,ha⟩
 have hi':i=p.provides.length:=om
 subst hi';have d1:¬ (p.provides.length:Int)<p.provides.length:=om
 rw[zh,List.any_nil] at ha;rw[ha];simp only[go_sem,ip1,d1];refine ab1 noT (fun i fr s=>fr=[(2,.ab5 p.cs),(3,.ab5 d.cs),(6,.int .i64 (i:Int))]/\(d.op=0->p.files.contains d.name=(p.files.drop i).contains d.name)) p.files.length ⟨rfl,fun _=>rfl⟩ ?_;rintro i fr s hi ⟨rfl,hf⟩;by_cases hlt:i<p.files.length
 ·obtain ⟨x,hx,hxi,hdr,hget,htk⟩:=ad6 p.files i hlt;have d1:(i:Int)<p.files.length:=om
  have d2:(0:Int)<=(i:Int):=om
  have w1:=ac4 (i:=i) om;have hgs:=hget bs8;by_cases e0:d.op=0
  ·have hf:=hf e0;rw[hdr,List.contains_cons] at hf;by_cases e:x=d.name
   ·have hin:p.files.contains d.name=true:=by rw[hf,e]; simp
    simp only[go_sem,fa9,d1,d2,hgs,bs8,ep6,ip2,e0,e];exact ab4 (by first|(rw[hin]; rfl)|rw[hin])
   ·have e2:(d.name==x)=false:=by simpa using fun h=>e h.symm
    rw[e2,zf] at hf;simp only[go_sem,fa9,d1,d2,hgs,bs8,ep6,ip2,e0,e,w1];exact ⟨hlt,fun _=>hf⟩
  ·simp only[go_sem,fa9,d1,d2,hgs,bs8,ep6,ip2,e0,w1];exact ⟨hlt,fun h=>by first|exact absurd h e0|exact h.elim⟩
 ·have hi':i=p.files.length:=om
  subst hi';have d1:¬ (p.files.length:Int)<p.files.length:=om
  rw[zh] at hf;simp only[go_sem,fa9,d1];refine ab4 ?_;by_cases e0:d.op=0
  ·rw[hf e0]; simp
  ·simp[e0]
theorem dd3 (p q:aa2)(hp:Pkg.small p)(hq:Pkg.small q):PC Tryz.prog EE 191 [.agg p.cs,.agg q.cs] (.bool (ab2 p q)):=by
 refine ae5 hE fok191 (nZ rfl) (al3 (am6 p) (am6 q)) ?_;have l1:=hp.2.2.2.2.1;have hob:ab2 p q=p.ab2.any fun d=>named q d:=rfl
 rw[hob];simp only[ic191,go_sem,ah4];refine ab1 noT (fun i fr s=>fr=[(2,.ab5 p.cs),(3,.ab5 q.cs),(5,.int .i64 (i:Int))]/\p.ab2.any (fun d=>named q d)=(p.ab2.drop i).any fun d=>named q d) p.ab2.length ⟨rfl,rfl⟩ ?_;rintro i fr s hi ⟨rfl,ha⟩;by_cases hlt:i<p.ab2.length
 ·obtain ⟨x,hx,hxi,hdr,hget,htk⟩:=ad6 p.ab2 i hlt;have d1:(i:Int)<p.ab2.length:=om
  have d2:(0:Int)<=(i:Int):=om
  have w1:=ac4 (i:=i) om;have hm:=cn8 q x hq (hp.2.2.1 x hx);rw[ee7 hdr] at ha;simp only[go_sem,jf8,d1,d2,hget,ag8,ai2,ah4,aj5,ah1,ag7];refine aa3 fok102 (hm) ?_
  cases hb:named q x with
  | true=>
   rw[hb,zt] at ha;simp only[go_sem]
   exact ab4 ha.symm
  | false=>
   rw[hb,zf] at ha;simp only[go_sem,w1];exact ⟨hlt,ha⟩
 ·have hi':i=p.ab2.length:=om
  subst hi';have d1:¬ (p.ab2.length:Int)<p.ab2.length:=om
  rw[zh,List.any_nil] at ha;simp only[go_sem,jf8,d1];exact ab4 ha.symm
theorem cz7 (l:List Int):∀ x∈l.map Md.ae4,x.length=1/\x.all IV.leaf=true:=fun x hx=>by
 obtain ⟨n,_,rfl⟩:=List.mem_map.1 hx; exact ⟨rfl,rfl⟩
end Go.Id.Tryz
namespace Go.Id.Tryz
open Go Go.Id Go.Proofs Go.Id.Md
def msV (m:Nat×Nat×Bool):IV:=.tuple [.int .i64 m.1,.int .i64 m.2.1,.bool m.2.2]
theorem fd3 {s:Store}(m:Nat×Nat×Bool):cs9 s 0 (.tuple [.int .i64 m.1,.int .i64 m.2.1,.bool m.2.2]) (msV m):=.keep _ (.tuple _ (at1 (.int _ _) (.int _ _) (.bool _)))
theorem fv1 (r:aa6):r.fit->r.count<2^31->PC Tryz.prog EE 153 [.agg r.cs] (msV r.ms):=by
 induction r using aa6.ind with
 | h k d xs ih=>
  intro hf hc;obtain ⟨f1,f2,f3,f4,f5⟩:=aa6.ca5.1 hf;have hms:∀ a∈xs,a.ms.1<=a.count/\a.ms.2.1<=a.count:=fun a _=>aa6.je3 a
  refine ae5 hE fok153 (nZ rfl) (af3 (ag3 _)) ?_;by_cases k1:k=1
  ·subst k1;have hm:=bn9 d f3.1 f3.2.1 f3.2.2;by_cases h0:xs.length=0
   ·have h0':(xs.length:Int)=0:=om
    simp only[ic153,go_sem,aa6.aq6,aa6.kind,aa6.dep,aa6.args,h0'];refine aa3 fok29 (hm) ?_;simp only[go_sem];have e:aa6.ms (.mk 1 d xs)=(1,0,ak5 d):=by simp[aa6.ms,h0]
    rw[e]; exact fd3 (1,0,ak5 d)
   ·have h0':¬ (xs.length:Int)=0:=om
    simp only[ic153,go_sem,aa6.aq6,aa6.kind,aa6.dep,aa6.args,h0'];have e:aa6.ms (.mk 1 d xs)=(1,0,false):=by simp[aa6.ms,h0]
    rw[e]; exact fd3 (1,0,false)
  have e:aa6.ms (.mk k d xs)=((aa6.msL xs 1 0 (ao9 k d xs.length)).1,(aa6.msL xs 1 0 (ao9 k d xs.length)).2.1+1,(aa6.msL xs 1 0 (ao9 k d xs.length)).2.2):=by rw[aa6.ms,if_neg k1]
  have hdd:decide (d=cq3)=(decide (d.name=[])&&(decide (d.op=0)&&(decide (d.evr.ak4=0)&&(decide (d.evr.ver=[])&&decide (d.evr.rel=[]))))):=by
   obtain ⟨n,o,e,v,r⟩:=d;simp only[cq3,gf4,Dep.mk.injEq,EVR.mk.injEq,Bool.decide_and]
  have hg:∀ a∈xs,a.fit/\a.count<2^31/\a.count<=aa6.counts xs:=fun a ha=>by
   have h1:a.count<=aa6.counts xs:=by
    clear hc f4 f5 hms ih hdd e hf
    induction xs with
    | nil=>cases ha
    | cons y ys ihy=>
     simp only[aa6.counts];rcases zw.1 ha with rfl|ha
     ·omega
     ·have:=ihy ha; omega
   have h2:aa6.counts xs<2^31:=by simp only[aa6.count] at hc; omega
   exact ⟨f5 a ha,om,h1⟩
  have hcs:aa6.counts xs<2^31:=by simp only[aa6.count] at hc; omega
  -- what holds of Kinds and counts
  by_cases q1:1<k
  case' neg=>
   have hH:ao9 k d xs.length=false:=by simp[ao9,q1]
   simp only[ic153,go_sem,aa6.aq6,aa6.kind,aa6.dep,aa6.args,k1,q1]
  case' pos=>
   by_cases q2:k<=7
   case' neg=>
    have hH:ao9 k d xs.length=false:=by simp[ao9,q2]
    simp only[ic153,go_sem,aa6.aq6,aa6.kind,aa6.dep,aa6.args,k1,q1,q2]
   case' pos=>
    by_cases q3:d=cq3
    case' neg=>
     have hd1:decide (d=cq3)=false:=decide_eq_false q3;rw[hdd] at hd1;have hH:ao9 k d xs.length=false:=by simp[ao9,q3]
     simp only[ic153,go_sem,aa6.aq6,aa6.kind,aa6.dep,aa6.args,k1,q1,q2,hd1]
    case' pos=>
     have hd1:decide (d=cq3)=true:=decide_eq_true q3;rw[hdd] at hd1;by_cases q4:2<=xs.length
     case' neg=>
      have q4':¬ (2:Int)<=xs.length:=om
      have hH:ao9 k d xs.length=false:=by simp[ao9,q4]
      simp only[ic153,go_sem,aa6.aq6,aa6.kind,aa6.dep,aa6.args,k1,q1,q2,hd1,q4']
     case' pos=>
      have q4':(2:Int)<=xs.length:=om
      obtain ⟨ks,hk1,hk2,hk3⟩:∃ ks,(if 0<=k/\k<8 then ce5 (k.toNat*2) (EE 2) else none)=zn (.ab5 ks)/\(ks.drop 1).head? = zn (.int .i64 (ct1 k))/\1<ks.length:=by
       have hk:k=2\/k=3\/k=4\/k=5\/k=6\/k=7:=om
       rcases hk with rfl|rfl|rfl|rfl|rfl|rfl<;>exact ⟨_,rfl,rfl,by decide⟩
      simp only[ic153,go_sem,aa6.aq6,aa6.kind,aa6.dep,aa6.args,k1,q1,q2,hd1,q4',hk1,hk2,hk3];by_cases q5:xs.length<=ct1 k
      case' neg=>
       have q5':¬ (xs.length:Int)<=ct1 k:=om
       have hH:ao9 k d xs.length=false:=by simp[ao9,q5]
       simp only[go_sem,q5']
      case' pos=>
       have q5':(xs.length:Int)<=ct1 k:=om
       have hH:ao9 k d xs.length=true:=by simp[ao9, *]
       simp only[go_sem,q5']
  all_goals
   rw[e]
   refine ab1 noT (fun i fr t=>∃ (p dd:Nat) (ok:Bool),fr=[(2,.int .i64 p),(3,.int .i64 dd),(4,.bool ok),(54,.aa4 (xs.map aa6.cs)),(55,.int .i64 xs.length),(56,.int .i64 (i:Int))]/\p+aa6.counts (xs.drop i)<=1+aa6.counts xs/\dd<=aa6.counts xs /\
    aa6.msL xs 1 0 (ao9 k d xs.length)=aa6.msL (xs.drop i) p dd ok) xs.length ⟨1,0,_,rfl,zm _,Nat.zero_le _,by rw[hH]; rfl⟩ ?_
   rintro i fr t hle ⟨p,dd,ok,rfl,hp,hdl,hI⟩;rw[hI];by_cases hlt:i<xs.length
   ·obtain ⟨x,hx,_,hdr,hget,htk⟩:=ad6 xs i hlt;have c1:(i:Int)<xs.length:=om
    have c2:(0:Int)<=i:=om
    have w1:=ac4 (i:=i) om;rw[hdr] at hp hI ⊢;obtain ⟨x1,x2,x3⟩:=hg x hx
    cases ok with
    | false=>
     have w3:=ac4 (i:=dd) om;simp only[go_sem,c1,c2,hget,ab9,ac3,ab6,w3,aa6.msL]
     exact fd3 (p,dd+1,false)
    | true=>
     have hA:=ih x hx x1 x2;have hml:=aa6.je3 x;simp only[aa6.counts] at hp;have w2:IntKind.i64.wrap ((p:Int)+x.ms.1)=((p+x.ms.1:Nat):Int):=by rw[wrap64 om om]; omega
     simp only[go_sem,c1,c2,hget,ab9,ac3,ab6];refine aa3 fok153 (hA) ?_;simp only[go_sem,msV,w1,w2];have wm:(if (x.ms.2.1:Int)>dd then (x.ms.2.1:Int) else dd)=((max dd x.ms.2.1:Nat):Int):=by split<;>omega
     exact ⟨hlt,p+x.ms.1,max dd x.ms.2.1,x.ms.2.2,by rw[wm],om,om,by simp[aa6.msL]⟩
   ·have hi':i=xs.length:=om
    subst hi';have c1:¬ (xs.length:Int)<xs.length:=om
    have w3:=ac4 (i:=dd) om;rw[zh];simp only[go_sem,c1,w3,aa6.msL];exact fd3 (p,dd+1,ok)
theorem hr5 (r:aa6)(h1:r.fit)(h2:r.count<2^31):PC Tryz.prog EE 99 [.agg r.cs] (.bool (bv5 r)):=by
 refine ae5 hE fok99 (nZ rfl) (af3 (ag3 _)) ?_;have h:=fv1 r h1 h2;unfold bv5;generalize r.ms=m at *;obtain ⟨p,d,ok⟩:=m;simp only[ic99,go_sem,ab9,ac3,ab6];refine aa3 fok153 (h) ?_;have e1:((p:Int)<=24)=(p<=24):=by simp only[eq_iff_iff]; omega
 have e2:((d:Int)<=8)=(d<=8):=by simp only[eq_iff_iff]; omega
 cases ok with
 | false=>simp only[go_sem,msV]; exact ab8 _
 | true=>
  by_cases q1:p<=24
  ·have q1':(p:Int)<=24:=om
   by_cases q2:d<=8
   ·have q2':(d:Int)<=8:=om
    simp only[go_sem,msV,q1,q1',q2,q2']; exact ab8 _
   ·have q2':¬ (d:Int)<=8:=om
    simp only[go_sem,msV,q1,q1',q2,q2']; exact ab8 _
  ·have q1':¬ (p:Int)<=24:=om
   simp only[go_sem,msV,q1,q1']; exact ab8 _
end Go.Id.Tryz
namespace Go.Id.Tryz
open Go Go.Id Go.Proofs Go.Shelf Go.Id.Md
def ei6 (c:Nat->Bool)(n:Nat):List IV:=(zx n).map fun j=>.bool (c j)
theorem bj8 (c:Nat->Bool)(n:Nat):(ei6 c n).length=n:=by simp[ei6]
theorem gp7:∀ n:Nat,rep [IV.bool false] n=ei6 (fun _=>false) n:=by
 intro n
 have h:∀ m,rep [IV.bool false] m=List.replicate m (.bool false):=by
  intro m
  induction m with
  | zero=>rfl
  | succ m ih=>show [IV.bool false]++rep _ m=_; rw[ih]; rfl
 rw[h];exact List.ext_getElem (by simp[ei6]) fun i h1 h2=>by simp[ei6]
theorem fd4 (c:Nat->Bool){n i:Nat}(h:i<(ei6 c n).length):(ei6 c n)[i]=.bool (c i):=by simp[ei6]
theorem hr6 (c:Nat->Bool){n j:Nat}(h:j<n)(x:Bool):av1 (ei6 c n) j [.bool x]=ei6 (fun i=>if i=j then x else c i) n:=by
 refine List.ext_getElem (by rw[ag1 (by rw[bj8]; simp only[zv]; omega),bj8,bj8]) fun i h1 h2=>?_
 rw[fd4];rw[bj8] at h2;unfold av1;simp only[List.getElem_append,List.length_take,bj8,List.getElem_take,List.getElem_drop,zr,zv,fd4];by_cases e:i=j
 ·subst e;have g1:¬ i<min i n:=om
  have g2:i<min i n+1:=om
  simp only[g1,g2,dite_false,dite_true,if_true,List.getElem_singleton]
 ·by_cases e2:i<j
  ·have g1:i<min j n:=om
   have g2:i<min j n+1:=om
   simp only[g1,g2,dite_true,e,if_false]
  ·have g1:¬ i<min j n:=om
   have g2:¬ i<min j n+1:=om
   have g3:j+1+(i-(min j n+1))=i:=om
   simp only[g2,g3,dite_false,e,if_false]
theorem jh9 {pt:PT}{ct:CT}{P:Program}{E:Nat->IV}{e id:Nat}{z:List IV}{x:IX}{fr:Frm}{σ:Store}{K:IV->Store->Prop}:opT pt ct P E (.dr2 e z x) id fr σ K=bw6 (dp8 (x.ev E fr)) fun n=>K (.slice id 0 n e) (σ.put id (.row (rep z n))):=rfl
theorem ir2 {K:Nat->Prop}(n:Nat)(h:n<=2147483648):bw6 (dp8 (.int .i64 (n:Int))) K=K n:=by
 have h1:(0:Int)<=n/\(n:Int)<=2147483648:=om
 show bw6 (if 0<=(n:Int)/\(n:Int)<=2147483648 then zn ((n:Int).toNat) else none) K=K n;rw[if_pos h1]; rfl
theorem hr7 {s:Store}{S:Nat->Prop}{id n:Nat}{c:Nat->Bool}(hid:¬ S id)(ho:s.obj id=zn (.row (ei6 c n))):Frz s S (.slice id 0 n 1) (.aa4 (((zx n).map c).map bu9)):=by
 have hl:(((zx n).map c).map bu9).length=n:=by simp
 refine .slice id 0 n 1 (ei6 c n) _ hid (.inr ho) hl (by rw[bj8]; omega) (fun i hi=>?_) fun i hi j hj=>?_
 ·simp[za,hi,bu9]
 ·have hj0:j=0:=om
  subst hj0;have e2:((((zx n).map c).map bu9).getD i []).getD 0 .undef=.bool (c i):=by simp[za,hi,bu9]
  have e3:(ei6 c n).getD (0+(i*1+0)) .undef=.bool (c i):=by simp[za,hi,ei6]
  rw[e2,e3];exact .keep _ (.bool _)
abbrev eg8 (st:List Bool):IV:=.aa4 (st.map bu9)
def ar6 (l:List aa2):IV:=.ab5 [(ak3 l).v,.int .i64 l.length]
def an5 (l:List aa2)(st:List Bool):List IV:=[ar6 l,eg8 st]
theorem eg9 (st:List Bool):Bnd 0 (eg8 st):=.aa4 _ fun e he c hc=>by
 obtain ⟨b,_,rfl⟩:=List.mem_map.1 he
 cases hc with
 | head=>exact .bool _
 | tail _ h=>cases h
theorem ay9 (l:List aa2):Bnd 0 (ar6 l):=.ab5 _ (ae9 (bj6 _) (.int _ _))
theorem eh1 (l:List aa2)(st:List Bool):∀ c∈an5 l st,Bnd 0 c:=ae9 (ay9 l) (eg9 st)
theorem fd5 (l:List aa2)(zs:List Int)(hl:l.length<=256)(hz:zs.length<2^40):PC Tryz.prog EE 100 [ar6 l,.aa4 (zs.map Md.ae4)] (.agg (an5 l (stB l.length zs))):=by
 refine ae5 hE fok100 (nZ rfl) (ae9 (ay9 l) (ai1 zs)) ?_;have hnc:(ar6 l)=.ab5 [(ak3 l).v,.int .i64 l.length]:=rfl;simp only[ic100,go_sem,ar6];simp only[jh9,ir2 _ (show l.length<=2147483648 by omega),go_sem];rw[gp7]
 refine ab1 noT (fun i fr t=>∃ c:Nat->Bool,fr=[(0,ar6 l),(4,.ptr 0 0),(5,.ptr 2 0),(15,.aa4 (zs.map Md.ae4)),(16,.int .i64 zs.length),(17,.int .i64 (i:Int))]/\2<t.next/\t.obj 0=zn (.cells [.ae7,.aa1])/\t.obj 1=zn (.row (ei6 c l.length)) /\
  t.obj 2=zn (.cells [ar6 l,.slice 1 0 l.length 1])/\∀ j,j<l.length->c j=decide ((j:Int)∈zs.take i)) zs.length ⟨fun _=>false,rfl,by show 2<3; omega,rfl,rfl,rfl,fun j hj=>by simp⟩ ?_
 rintro i fr t hle ⟨c,rfl,hnx,o0,o1,o2,hc⟩;by_cases hlt:i<zs.length
 ·obtain ⟨x,hx,_,hdr,hget,htk⟩:=ad6 zs i hlt;have c1:(i:Int)<zs.length:=om
  have c2:(0:Int)<=i:=om
  have w1:=ac4 (i:=i) om;by_cases q1:0<=x
  ·by_cases q2:x<(l.length:Nat)
   ·have hxn:x.toNat<l.length:=om
    have r2:=hr6 c hxn true;have r3:x.toNat+1<=(ei6 c l.length).length:=by rw[bj8]; omega
    simp only[go_sem,c1,c2,hget,Md.ae4,q1,q2,ar6,o2,o1,zu,z1,r2,r3,w1];refine ⟨hlt,fun i=>if i=x.toNat then true else c i,hnx,o0,rfl,fun j hj=>?_⟩
    ·show (if j=x.toNat then true else c j)=_;rw[htk];by_cases e:j=x.toNat
     ·rw[if_pos e];have:(j:Int)=x:=om
      simp[this]
     ·rw[if_neg e,hc j hj];have:¬ (j:Int)=x:=om
      simp[this]
   ·simp only[go_sem,c1,c2,hget,Md.ae4,q1,q2,ar6,w1];refine ⟨hlt,c,hnx,o0,o1,o2,fun j hj=>?_⟩;have:¬ (j:Int)=x:=om
    rw[hc j hj,htk]; simp[this]
  ·simp only[go_sem,c1,c2,hget,Md.ae4,q1,w1];refine ⟨hlt,c,hnx,o0,o1,o2,fun j hj=>?_⟩;have:¬ (j:Int)=x:=om
   rw[hc j hj,htk]; simp[this]
 ·have hi':i=zs.length:=om
  subst hi';have c1:¬ (zs.length:Int)<zs.length:=om
  have hst:stB l.length zs=(zx l.length).map c:=by
   unfold stB;refine List.map_congr_left fun m hm=>?_
   rw[hc m (List.mem_range.1 hm),zo]
  simp only[go_sem,c1,o0,o1,o2];rw[hst];exact ⟨rfl,.jt2 (.cons (.keep _ (ay9 l)) (.cons (hr7 (z4 _) (by rw[aa5,if_neg (by decide)]; exact o1)) .nil))⟩
end Go.Id.Tryz
namespace Go.Id.Tryz
open Go Go.Id Go.Proofs Go.Shelf Go.Id.Md
theorem cc8 {d:Dep}(h:ak5 d=true):Dep.small d:=by
 obtain ⟨h1,h2,h3,h4⟩:=ds9 h;exact ⟨h1,h2,by have:=h3.1; omega,by have:=h3.2; omega⟩
theorem ad8 (l:List aa2)(st:List Bool):(an5 l st).all IV.leaf=true:=rfl
theorem af2 (l:List aa2)(st:List Bool):(an5 l st).take 2=an5 l st:=rfl
theorem ae6 (l:List aa2)(st:List Bool):(an5 l st).length=2:=rfl
theorem gp8 (l:List aa2)(st:List Bool):((an5 l st).drop 1).head? = zn (eg8 st):=rfl
theorem gp9 (l:List aa2)(st:List Bool):(an5 l st).head? = zn (ar6 l):=rfl
theorem bo5 {st:List Bool}{n:Nat}(h:n<st.length):(st.map bu9).getD n []=[.bool (st.getD n false)]:=by simp[za,h,bu9]
abbrev gq1 (l:List aa2)(r:aa6):Prop:=∀ st:List Bool,st.length=l.length->PC Tryz.prog EE 101 [.agg (an5 l st),.agg r.cs] (.bool (r.tr l st))
theorem ao3 (l:List aa2)(st:List Bool):Bnd 0 (.agg (an5 l st)):=.agg _ (eh1 l st)
theorem dn9 (l:List aa2)(st:List Bool):Bnd 0 (.ab5 (an5 l st)):=.ab5 _ (eh1 l st)
theorem cc9 (r:aa6):Bnd 0 (.ab5 r.cs):=.ab5 _ (dt7 r)
theorem ir3 (d:Dep)(xs:List aa6)(k:Int):((aa6.mk k d xs).cs.drop 1).take 5=d.cs:=by rw[aa6.aq6]; rfl
theorem gq2 (d:Dep)(xs:List aa6)(k:Int):((aa6.mk k d xs).cs.drop 1).length=6:=by rw[aa6.aq6]; rfl
theorem bk4 (d:Dep)(xs:List aa6)(k:Int):((aa6.mk k d xs).cs.drop 6).head? = zn (af1 xs):=by rw[aa6.aq6]; rfl
theorem cd1 (d:Dep)(xs:List aa6)(k:Int):(aa6.mk k d xs).cs.head? = zn (.int .u8 k):=by rw[aa6.aq6]; rfl
theorem eh2 {xs:List aa6}{n:Nat}(h:n<xs.length):(xs.map aa6.cs).getD n []=(xs[n]).cs:=by simp[za,h]
theorem hr8 (l:List aa2)(st:List Bool)(n:Nat)(h:n<st.length):PC Tryz.prog EE 210 [.int .i64 n,.ab5 (an5 l st)] (.bool (st.getD n false)):=by
 refine ae5 hE fok210 (nZ rfl) (ae9 (.int _ _) (dn9 l st)) ?_;have c1:(n:Int)<st.length:=om
 have c2:(0:Int)<=n:=om
 have g:=bo5 h;simp only[ic210,go_sem,ae6,gp8,c1,c2,g];exact ab4 rfl
theorem ir4 (l:List aa2)(hl:l.length<=256)(hs:∀ p∈l,Pkg.small p)(st:List Bool)(hst:st.length=l.length)(d:Dep)(hd:ak5 d=true) :
  PC Tryz.prog EE 154 [.agg (an5 l st),.agg (aa6.mk 1 d []).cs] (.bool ((ap6 l d).any fun n=>st.getD n.toNat false)):=by
 refine ae5 hE fok154 (nZ rfl) (ae9 (ao3 l st) (ag3 _)) ?_;have h1:=da4 l d om hs (cc8 hd)
 have h2:=gp3 (ap6 l d) 210 [] [.ab5 (an5 l st)] (fun n=>st.getD n.toNat false) (by have:=ba2 (fun p=>provides p d) l; unfold ap6; omega) fok210.1 fun x hx=>by
  obtain ⟨m,rfl,hm⟩:=numsOf_at hx;rw[ze];exact hr8 l st m om
 have ht:ar6 l=.ab5 [(ak3 l).v,.int .i64 l.length]:=rfl;have h7:=ab6 (.mk 1 d []);simp only[ic154,go_sem,ae6,ad8,gp9,ab9,h7,ir3,gq2,ht];refine aa8 (h1) ?_;simp only[go_sem,ae6,ad8];refine aa8 (h2) ?_;simp only[go_sem];exact ab4 rfl
theorem ir5 (l:List aa2)(st:List Bool)(hst:st.length=l.length)(x:aa6)(hx:gq1 l x):PC Tryz.prog EE 211 [.agg x.cs,.ab5 (an5 l st)] (.bool !(x.tr l st)):=by
 refine ae5 hE fok211 (nZ rfl) (ae9 (ag3 _) (dn9 l st)) ?_;have h:=hx st hst;simp only[ic211,go_sem,ae6,af2,ad8,ab9,ac3,ab6]
 first|refine aa3 fok101 (h) ?_|refine aa8 (h) ?_
 simp only[go_sem];exact ab4 rfl
theorem if4 (l:List aa2)(st:List Bool)(hst:st.length=l.length)(k:Int)(d:Dep)(xs:List aa6)(hn:xs.length<2^62)(hx:∀ x∈xs,gq1 l x):PC Tryz.prog EE 155 [.agg (an5 l st),.agg (aa6.mk k d xs).cs] (.bool ((aa6.trs l xs).all fun f=>f st)):=by
 refine ae5 hE fok155 (nZ rfl) (ae9 (ao3 l st) (ag3 _)) ?_;have h:=bt4 xs 211 [] [.ab5 (an5 l st)] (fun x=>!(x.tr l st)) hn fok211.1 fun x hm=>ir5 l st hst x (hx x hm)
 have e:(aa6.trs l xs).all (fun f=>f st)=!xs.any fun x=>!(x.tr l st):=by
  rw[aa6.at7,z6,List.not_any_eq_all_not];congr 1; funext x; simp
 have h7:=ab6 (.mk k d xs);rw[e];simp only[ic155,go_sem,ae6,ad8,ab9,h7,bk4];refine aa3 fok47 (h) ?_;simp only[go_sem];exact ab4 rfl
theorem ji1 (l:List aa2)(st:List Bool)(hst:st.length=l.length)(k:Int)(d:Dep)(xs:List aa6)(hn:xs.length<2^62)(hx:∀ x∈xs,gq1 l x):PC Tryz.prog EE 156 [.agg (an5 l st),.agg (aa6.mk k d xs).cs] (.bool ((aa6.trs l xs).any fun f=>f st)):=by
 refine ae5 hE fok156 (nZ rfl) (ae9 (ao3 l st) (ag3 _)) ?_;have h:=bt4 xs 101 [.agg (an5 l st)] [] (fun x=>x.tr l st) hn fok101.1 fun x hm=>hx x hm st hst
 have e:(aa6.trs l xs).any (fun f=>f st)=xs.any fun x=>x.tr l st:=by
  rw[aa6.at7,List.any_map]; rfl
 have h7:=ab6 (.mk k d xs);rw[e];simp only[ic156,go_sem,ae6,ad8,af2,ab9,h7,bk4];refine aa3 fok47 (h) ?_;simp only[go_sem];exact ab4 rfl
theorem eh3 {l:List aa2}{xs:List aa6}{n:Nat}(h:n<xs.length)(st:List Bool):((aa6.trs l xs).getD n ff) st=(xs[n]).tr l st:=by rw[aa6.at7]; simp[za,h]
theorem gq3 (l:List aa2)(xs:List aa6):(aa6.trs l xs).length=xs.length:=by rw[aa6.at7,zq]
theorem ji2 (l:List aa2)(st:List Bool)(hst:st.length=l.length)(k:Int)(d:Dep)(xs:List aa6)(hn:2<=xs.length)(hx:∀ x∈xs,gq1 l x):PC Tryz.prog EE 157 [.agg (an5 l st),.agg (aa6.mk k d xs).cs]
  (.bool (if ((aa6.trs l xs).getD 1 ff) st then ((aa6.trs l xs).getD 0 ff) st else decide ((aa6.trs l xs).length<3)||((aa6.trs l xs).getD 2 ff) st)):=by
 refine ae5 hE fok157 (nZ rfl) (ae9 (ao3 l st) (ag3 _)) ?_;have n0:0<xs.length:=om
 have n1:1<xs.length:=om
 have h0:=hx _ (zc n0) st hst;have h1:=hx _ (zc n1) st hst;have g0:=eh2 n0;have g1:=eh2 n1;have c0:(0:Int)<xs.length:=om
 have c1:(1:Int)<xs.length:=om
 have h7:=ab6 (.mk k d xs);rw[eh3 n1,eh3 n0,gq3];simp only[ic157,go_sem,ae6,ad8,af2,ab9,h7,bk4,c0,c1,g0,g1,ac3,ab6]
 first|refine aa3 fok101 (h1) ?_|refine aa8 (h1) ?_
 cases xs[1].tr l st with
 | true=>
  simp only[go_sem,ae6,ad8,af2,ab9,h7,bk4,c0,c1,g0,g1,ac3,ab6]
  first|refine aa3 fok101 (h0) ?_|refine aa8 (h0) ?_
  simp only[go_sem]
  exact ab4 rfl
 | false=>
  by_cases q:xs.length<3
  ·have q':(xs.length:Int)<3:=om
   simp only[go_sem,ae6,ad8,af2,ab9,h7,bk4,q'];exact ab4 (by simp[q])
  ·have q':¬ (xs.length:Int)<3:=om
   have n2:2<xs.length:=om
   have h2:=hx _ (zc n2) st hst;have g2:=eh2 n2;have c2:(2:Int)<xs.length:=om
   rw[eh3 n2];simp only[go_sem,ae6,ad8,af2,ab9,h7,bk4,q',c2,g2,ac3,ab6]
   first|refine aa3 fok101 (h2) ?_|refine aa8 (h2) ?_
   simp only[go_sem];exact ab4 (by simp[q])
theorem gq4 (l:List aa2)(st:List Bool)(hst:st.length=l.length)(k:Int)(d:Dep)(xs:List aa6)(hn:2<=xs.length)(hn2:xs.length<2^31)(hx:∀ x∈xs,gq1 l x):PC Tryz.prog EE 158 [.agg (an5 l st),.agg (aa6.mk k d xs).cs]
  (.bool (if ((aa6.trs l xs).getD 1 ff) st then decide ((aa6.trs l xs).length=3)&&((aa6.trs l xs).getD 2 ff) st else ((aa6.trs l xs).getD 0 ff) st)):=by
 refine ae5 hE fok158 (nZ rfl) (ae9 (ao3 l st) (ag3 _)) ?_;have n0:0<xs.length:=om
 have n1:1<xs.length:=om
 have h0:=hx _ (zc n0) st hst;have h1:=hx _ (zc n1) st hst;have g0:=eh2 n0;have g1:=eh2 n1;have c0:(0:Int)<xs.length:=om
 have c1:(1:Int)<xs.length:=om
 have h7:=ab6 (.mk k d xs);rw[eh3 n1,eh3 n0,gq3];simp only[ic158,go_sem,ae6,ad8,af2,ab9,h7,bk4,c0,c1,g0,g1,ac3,ab6]
 first|refine aa3 fok101 (h1) ?_|refine aa8 (h1) ?_
 cases xs[1].tr l st with
 | false=>
  simp only[go_sem,ae6,ad8,af2,ab9,h7,bk4,c0,c1,g0,g1,ac3,ab6]
  first|refine aa3 fok101 (h0) ?_|refine aa8 (h0) ?_
  simp only[go_sem]
  exact ab4 rfl
 | true=>
  by_cases q:xs.length=3
  ·have q':(xs.length:Int)=3:=om
   have n2:2<xs.length:=om
   have h2:=hx _ (zc n2) st hst;have g2:=eh2 n2;have c2:(2:Int)<3:=om
   rw[eh3 n2];simp only[go_sem,ae6,ad8,af2,ab9,h7,bk4,q',c2,g2,ac3,ab6]
   first|refine aa3 fok101 (h2) ?_|refine aa8 (h2) ?_
   simp only[go_sem];exact ab4 (by simp[q])
  ·have q':¬ (xs.length:Int)=3:=om
   simp only[go_sem,ae6,ad8,af2,ab9,h7,bk4,q'];exact ab4 (by simp[q])
end Go.Id.Tryz
namespace Go.Id.Tryz
open Go Go.Id Go.Proofs Go.Shelf Go.Id.Md
theorem cv3 (xs:List aa6){i:Nat}(h:i<xs.length):(xs.map aa6.cs).getD i []=xs[i].cs:=by simp[za,h]
theorem dv5 {α:Type}{q:α->Bool}{xs:List α}{i:Nat}{x:α}(h:xs.drop i=x::xs.drop (i+1)):(xs.drop i).any q=(q x||(xs.drop (i+1)).any q):=by rw[h,List.any_cons]
def hq5 (r:aa6):Prop:=∀ (l:List aa2) (st:List Int),l.length<2^40->(∀ p∈l,Pkg.small p)->st.length<2^40->PC Tryz.prog EE 54 [au1 l,.aa4 (st.map Md.ae4),.agg r.cs,.int .i64 (-1)] (.bool (r.tr l (stB l.length st)))
theorem hq6 (k:Int)(d:Dep)(xs:List aa6)(hA:∀ x∈xs,hq5 x)(l:List aa2)(st:List Int)(hl:l.length<2^40)(hs:∀ p∈l,Pkg.small p)(hst:st.length<2^40)(i:Nat)(hi:i<xs.length) :
  PC Tryz.prog EE 104 [au1 l,.aa4 (st.map Md.ae4),.agg (aa6.mk k d xs).cs,.int .i64 (i:Int),.int .i64 (-1)] (.bool (xs[i].tr l (stB l.length st))):=by
 refine ae5 hE fok104 (nZ rfl) (fun a ha=>by
  simp only[zw,List.not_mem_nil,or_false] at ha;rcases ha with rfl|rfl|rfl|rfl|rfl
  ·exact aq4 l
  ·exact ai1 st
  ·exact ag3 _
  ·exact .int _ _
  ·exact .int _ _) ?_
 have h:=hA xs[i] (zc hi) l st hl hs hst;have g:=cv3 xs hi;have d1:(i:Int)<xs.length:=om
 have d2:(0:Int)<=(i:Int):=om
 rw[aa6.aq6];simp only[ic104,go_sem,aa6.kind,aa6.args,aa6.dep,d1,d2,g,ab9,ac3,ab6];refine aa3 fok54 (h) ?_;simp only[go_sem];exact ab4 rfl
theorem co8 (x:aa6)(hx:hq5 x)(l:List aa2)(n:Nat)(hn:n<l.length)(hs:∀ p∈l,Pkg.small p):PC Tryz.prog EE 105 [.agg (l[n]).cs,.agg x.cs] (.bool (x.tr l (stB l.length [(n:Int)]))):=by
 refine ae5 hE fok105 (nZ rfl) (ae9 (.agg _ (ah7 _)) (ag3 _)) ?_;have h:=hx [l[n]] [0] (by show 1<2^40; decide) (fun p hp=>by rw[List.mem_singleton.1 hp]; exact hs _ (zc hn)) (by show 1<2^40; decide);have ht:aa6.tr [l[n]] x (stB ([l[n]]:List aa2).length [0])=x.tr l (stB l.length [(n:Int)]):=aa6.hd8 l n hn x;rw[ht] at h;have e1:au1 [l[n]]=.aa4 [(l[n]).cs]:=rfl;have e2:IV.aa4 (([0]:List Int).map Md.ae4)=.aa4 [[.int .i64 0]]:=rfl;rw[e1,e2] at h;simp only[ic105,go_sem,af8,ah2,af4,ab9,ac3,ab6];refine aa3 fok54 (h) ?_;simp only[go_sem];exact ab4 rfl
theorem hq7 (r:aa6):r.Good->r.fit->hq5 r:=by
 induction r using aa6.ind with
 | h k d xs ih=>
  intro hg hfit l st hl hs hst;obtain ⟨f1,f2,f3,f4,f5⟩:=aa6.ca5.1 hfit;have hbA:=ag3 (.mk k d xs);refine ae5 hE fok54 (nZ rfl) (en4 (aq4 l) (ai1 st) hbA (.int _ _)) ?_;have rcs:[.int .u8 k,.str d.name,.int .u8 d.op,.int .i64 d.evr.ak4,.str d.evr.ver,.str d.evr.rel,.aa4 (xs.map aa6.cs)]=(aa6.mk k d xs).cs:=(aa6.aq6 (.mk k d xs)).symm
  cases hg with
  | atom _ hd=>
   have htr:aa6.tr l (.mk 1 d []) (stB l.length st)=st.any fun z=>decide (0<=z)&&decide (z<l.length)&&provides (l.getD z.toNat default) d:=by
    rw[<- eo3]; rfl
   rw[htr,aa6.aq6];have hds:Dep.small d:=cc8 hd;simp only[ic54,go_sem,zb,aa6.kind,aa6.args,aa6.dep];refine ab1 noT (fun i fr t=>fr=[(0,au1 l),(1,.aa4 (st.map Md.ae4)),(3,.int .i64 (-1)),(6,.ab5 [.int .u8 1,.str d.name,.int .u8 d.op,.int .i64 d.evr.ak4,.str d.evr.ver,.str d.evr.rel,.aa4 (([]:List aa6).map aa6.cs)]),(11,.int .i64 (i:Int))]/\((st.drop i).any fun z=>decide (0<=z)&&decide (z<l.length)&&provides (l.getD z.toNat default) d)=st.any fun z=>decide (0<=z)&&decide (z<l.length)&&provides (l.getD z.toNat default) d) st.length ⟨rfl,rfl⟩ ?_;rintro i fr t hi ⟨rfl,ha⟩;by_cases hlt:i<st.length
   ·obtain ⟨z,hz,_,hdr,hget,_⟩:=ad6 st i hlt;have d1:(i:Int)<st.length:=om
    have d2:(0:Int)<=i:=om
    have w1:=ac4 (i:=i) om;have g:=hget Md.ae4;rw[dv5 hdr] at ha;by_cases hz:0<=z/\z<l.length
    ·obtain ⟨m,rfl⟩:∃ m:Nat,z=m:=⟨z.toNat,om⟩;have hm:m<l.length:=om
     have c0:¬ (m:Int)=-1:=om
     have c1:¬ (m:Int)<0:=om
     have c2:¬ (l.length:Int)<=(m:Int):=om
     have c3:(0:Int)<=(m:Int):=om
     have c4:(m:Int)<l.length:=om
     have gp:(l.map aa2.cs).getD m []=(l.getD m default).cs:=by simp[za,hm]
     have hmem:l.getD m default∈l:=by
      rw[za,zd hm]; exact zc hm
     have hP:=cb6 (l.getD m default) d (hs _ hmem) hds;rw[ze] at ha;have dcs:[IV.str d.name,.int .u8 d.op,.int .i64 d.evr.ak4,.str d.evr.ver,.str d.evr.rel]=d.cs:=rfl;simp only[go_sem,zg,zb,c0,c1,c2,c3,c4,d1,d2,g,gp,Md.ae4,af8,ah2,af4,dcs,aj5,ah1,ag7];refine aa3 fok53 (hP) ?_
     cases hb:provides (l.getD m default) d with
     | true=>
      rw[hb] at ha;simp only[go_sem]
      exact ab4 (by rw[<- ha]; simp[c3,c4])
     | false=>
      rw[hb,zl,zf] at ha;simp only[go_sem,w1];exact ⟨hlt,ha⟩
    ·have hz':(decide (0<=z)&&decide (z<l.length))=false:=by
      rw[zk,decide_eq_false_iff_not,decide_eq_false_iff_not]; omega
     rw[hz',zi,zf] at ha;by_cases c0:z=-1
     ·simp only[go_sem,zg,d1,d2,g,Md.ae4,c0,w1];exact ⟨hlt,ha⟩
     by_cases c1:z<0
     ·simp only[go_sem,zg,d1,d2,g,Md.ae4,c0,c1,w1];exact ⟨hlt,ha⟩
     ·have c2:(l.length:Int)<=z:=om
      simp only[go_sem,zg,d1,d2,g,Md.ae4,c0,c1,c2,w1];exact ⟨hlt,ha⟩
   ·have d1:¬ (i:Int)<st.length:=om
    have e:i=st.length:=om
    subst e;rw[zh] at ha;simp only[go_sem,d1]
    exact ab4 ha
  | node _ _ _ h1 h2 h3 h4 h5=>
   have hA:∀ x∈xs,hq5 x:=fun x hx=>ih x hx (h5 x hx) (f5 x hx)
   have hArg:=hq6 k d xs hA l st hl hs hst;have hlx:xs.length<=24:=by unfold ct1 at h4; split at h4<;>(try split at h4)<;>(try split at h4)<;>omega
   have tg:∀ i (h:i<xs.length),(aa6.trs l xs).getD i ff=fun st=>xs[i].tr l st:=fun i h=>by rw[aa6.eo4,dif_pos h]
   have tl:(aa6.trs l xs).length=xs.length:=by rw[aa6.at7,zq]
   have a0:=hArg 0 om;have a1:=hArg 1 om;have i0:((0:Nat):Int)=0:=rfl;have i1:((1:Nat):Int)=1:=rfl;rw[i0] at a0;rw[i1] at a1;have hk:k=2\/k=3\/k=4\/k=5\/k=6\/k=7:=om
   have rl:((aa6.mk k d xs).cs).length=7:=ab9 _;have rk:=ac3 (aa6.mk k d xs);have rf:=ab6 (aa6.mk k d xs);have r0:(aa6.mk k d xs).cs.head? = zn (.int .u8 k):=by rw[<- rcs]; rfl
   have r6:((aa6.mk k d xs).cs.drop 6).head? = zn (.aa4 (xs.map aa6.cs)):=by rw[<- rcs]; rfl
   rcases hk with rfl|rfl|rfl|rfl|rfl|rfl
   ·rw[show aa6.tr l (.mk 2 d xs) (stB l.length st)=trK l 2 d (aa6.trs l xs) (stB l.length st) from rfl];simp only[trK,zb,if_true,if_false,aa6.at7,z6];generalize (aa6.mk 2 d xs).cs=rc at *;simp only[ic54,go_sem,zb,rl,rk,rf,r0];refine ab1 noT (fun i fr t=>fr=[(0,au1 l),(1,.aa4 (st.map Md.ae4)),(3,.int .i64 (-1)),(6,.ab5 rc),(9,.int .i64 (i:Int))]/\((xs.drop i).all fun x=>x.tr l (stB l.length st))=xs.all fun x=>x.tr l (stB l.length st)) xs.length ⟨rfl,rfl⟩ ?_;rintro i fr t hi ⟨rfl,ha⟩;by_cases hlt:i<xs.length
    ·have d1:(i:Int)<xs.length:=om
     have w1:=ac4 (i:=i) om;have hAx:=hArg i hlt;rw[z5 hlt,List.all_cons] at ha;simp only[go_sem,r6,d1,rl,rk,rf];refine aa3 fok104 (hAx) ?_
     cases hb:xs[i].tr l (stB l.length st) with
     | true=>
      rw[hb,zj] at ha;simp only[go_sem,w1]
      exact ⟨hlt,ha⟩
     | false=>
      rw[hb,zi] at ha;simp only[go_sem];exact ab4 ha
    ·have d1:¬ (i:Int)<xs.length:=om
     have e:i=xs.length:=om
     subst e;rw[zh] at ha;simp only[go_sem,r6,d1];exact ab4 ha
   ·rw[show aa6.tr l (.mk 3 d xs) (stB l.length st)=trK l 3 d (aa6.trs l xs) (stB l.length st) from rfl];simp only[trK,zb,if_true,if_false,aa6.at7,List.any_map];generalize (aa6.mk 3 d xs).cs=rc at *;simp only[ic54,go_sem,zb,rl,rk,rf,r0];refine ab1 noT (fun i fr t=>fr=[(0,au1 l),(1,.aa4 (st.map Md.ae4)),(3,.int .i64 (-1)),(6,.ab5 rc),(10,.int .i64 (i:Int))]/\((xs.drop i).any fun x=>x.tr l (stB l.length st))=xs.any fun x=>x.tr l (stB l.length st)) xs.length ⟨rfl,rfl⟩ ?_;rintro i fr t hi ⟨rfl,ha⟩;by_cases hlt:i<xs.length
    ·have d1:(i:Int)<xs.length:=om
     have w1:=ac4 (i:=i) om;have hAx:=hArg i hlt;rw[z5 hlt,List.any_cons] at ha;simp only[go_sem,r6,d1,rl,rk,rf];refine aa3 fok104 (hAx) ?_
     cases hb:xs[i].tr l (stB l.length st) with
     | false=>
      rw[hb,zf] at ha;simp only[go_sem,w1]
      exact ⟨hlt,ha⟩
     | true=>
      rw[hb,zt] at ha;simp only[go_sem];exact ab4 ha
    ·have d1:¬ (i:Int)<xs.length:=om
     have e:i=xs.length:=om
     subst e;rw[zh] at ha;simp only[go_sem,r6,d1];exact ab4 ha
   ·rw [show aa6.tr l (.mk 4 d xs) (stB l.length st)=trK l 4 d (aa6.trs l xs) (stB l.length st) from rfl];simp only[trK,zb,if_true,if_false,tl];rw[tg 0 om,tg 1 om];by_cases hn:xs.length=3
    ·have n3:(xs.length:Int)=3:=om
     have a2:=hArg 2 om;have i2:((2:Nat):Int)=2:=rfl;rw[i2] at a2;rw[tg 2 om];simp only[hn,z0,decide_false,decide_true,zf,zj];generalize (aa6.mk 4 d xs).cs=rc at *;simp only[ic54,go_sem,zb,rl,rk,rf,r0,r6,n3];refine aa3 fok104 (a1) ?_
     cases hb1:xs[1].tr l (stB l.length st) with
     | true=>
      rw[hb1] at a1;simp only[go_sem,rl,rk,rf];refine aa3 fok104 (a0) ?_
      cases xs[0].tr l (stB l.length st) with
      | true=>simp only[go_sem]; exact ab4 rfl
      | false=>
       simp only[go_sem,rl,rk,rf];refine aa3 fok104 (a1) ?_;simp only[go_sem]
       exact ab4 rfl
     | false=>
      rw[hb1] at a1;simp only[go_sem,rl,rk,rf];refine aa3 fok104 (a1) ?_;simp only[go_sem,rl,rk,rf];refine aa3 fok104 (a2) ?_;simp only[go_sem];exact ab4 (by simp)
    ·have hn2:xs.length=2:=by simp only[ct1,zb,if_true,if_false] at h4; omega
     have n3:¬ (xs.length:Int)=3:=om
     simp only[hn2,z0,Nat.reduceEqDiff,decide_false,decide_true,zt,zi];generalize (aa6.mk 4 d xs).cs=rc at *;simp only[ic54,go_sem,zb,rl,rk,rf,r0,r6,n3];refine aa3 fok104 (a0) ?_
     cases xs[0].tr l (stB l.length st) with
     | true=>simp only[go_sem]; exact ab4 (by simp)
     | false=>
      simp only[go_sem,rl,rk,rf];refine aa3 fok104 (a1) ?_;simp only[go_sem];exact ab4 (by cases xs[1].tr l (stB l.length st)<;>simp)
   ·rw [show aa6.tr l (.mk 5 d xs) (stB l.length st)=trK l 5 d (aa6.trs l xs) (stB l.length st) from rfl];simp only[trK,zb,if_true,if_false,tl];rw[tg 0 om,tg 1 om];by_cases hn:xs.length=3
    ·have n3:(xs.length:Int)=3:=om
     have a2:=hArg 2 om;have i2:((2:Nat):Int)=2:=rfl;rw[i2] at a2;rw[tg 2 om];simp only[hn,z0,decide_false,decide_true,zf,zj];generalize (aa6.mk 5 d xs).cs=rc at *;simp only[ic54,go_sem,zb,rl,rk,rf,r0,r6,n3];refine aa3 fok104 (a1) ?_
     cases hb1:xs[1].tr l (stB l.length st) with
     | true=>
      rw[hb1] at a1;simp only[go_sem,rl,rk,rf];refine aa3 fok104 (a2) ?_
      cases xs[2].tr l (stB l.length st) with
      | true=>simp only[go_sem]; exact ab4 rfl
      | false=>
       simp only[go_sem,rl,rk,rf];refine aa3 fok104 (a1) ?_;simp only[go_sem]
       exact ab4 rfl
     | false=>
      rw[hb1] at a1;simp only[go_sem,rl,rk,rf];refine aa3 fok104 (a1) ?_;simp only[go_sem,rl,rk,rf];refine aa3 fok104 (a0) ?_;simp only[go_sem];exact ab4 (by simp)
    ·have hn2:xs.length=2:=by simp only[ct1,zb,if_true,if_false] at h4; omega
     have n3:¬ (xs.length:Int)=3:=om
     simp only[hn2,z0,Nat.reduceEqDiff,decide_false,decide_true,zt,zi];generalize (aa6.mk 5 d xs).cs=rc at *;simp only[ic54,go_sem,zb,rl,rk,rf,r0,r6,n3];refine aa3 fok104 (a0) ?_
     cases xs[0].tr l (stB l.length st) with
     | false=>simp only[go_sem]; exact ab4 (by simp)
     | true=>
      simp only[go_sem,rl,rk,rf];refine aa3 fok104 (a1) ?_;simp only[go_sem];exact ab4 (by cases xs[1].tr l (stB l.length st)<;>simp)
   ·rw [show aa6.tr l (.mk 6 d xs) (stB l.length st)=trK l 6 d (aa6.trs l xs) (stB l.length st) from rfl];simp only[trK,zb,if_true,if_false,bn2,dr9];rw[cm5];obtain ⟨F,hF⟩:∃ F:Nat->Bool,F=fun n:Nat=>((aa6.trs l xs).all fun f=>f (stB l.length [(n:Int)])):=⟨_,rfl⟩
    have hF2:∀ n:Nat,((aa6.trs l xs).all fun f=>f (stB l.length [(n:Int)]))=F n:=fun n=>by rw[hF]
    simp only[hF2];generalize (aa6.mk 6 d xs).cs=rc at *;simp only[ic54,go_sem,zb,rl,rk,rf,r0];refine ab1 noT (fun i fr t=>fr=[(0,au1 l),(1,.aa4 (st.map Md.ae4)),(3,.int .i64 (-1)),(6,.ab5 rc),(11,.int .i64 (i:Int))]/\((st.drop i).any fun z=>decide (0<=z)&&decide (z<l.length)&&F z.toNat)=st.any fun z=>decide (0<=z)&&decide (z<l.length)&&F z.toNat) st.length ⟨rfl,rfl⟩ ?_;rintro i fr t hi ⟨rfl,ha⟩;by_cases hlt:i<st.length
    ·obtain ⟨z,hz,_,hdr,hget,_⟩:=ad6 st i hlt;have d1:(i:Int)<st.length:=om
     have d2:(0:Int)<=i:=om
     have w1:=ac4 (i:=i) om;have g:=hget Md.ae4;rw[dv5 hdr] at ha;by_cases hz:0<=z/\z<l.length
     ·obtain ⟨m,rfl⟩:∃ m:Nat,z=m:=⟨z.toNat,om⟩;have hm:m<l.length:=om
      have c0:¬ (m:Int)=-1:=om
      have c1:¬ (m:Int)<0:=om
      have c2:¬ (l.length:Int)<=(m:Int):=om
      have c3:(0:Int)<=(m:Int):=om
      have c4:(m:Int)<l.length:=om
      have gp:(l.map aa2.cs).getD m []=(l[m]).cs:=by simp[za,hm]
      rw[ze] at ha;have hal:=fun i (h:i<xs.length)=>co8 xs[i] (hA _ (zc h)) l m hm hs
      simp only[go_sem,zg,c0,c1,c2,d1,d2,g,Md.ae4,r0,zb];obtain ⟨G,hG⟩:∃ G:Nat->Bool,G=fun j=>(xs.take j).all fun x=>x.tr l (stB l.length [(m:Int)]):=⟨_,rfl⟩
      have hG0:G 0=true:=by rw[hG]; rfl
      have hGs:∀ j (h:j<xs.length),G (j+1)=(G j&&xs[j].tr l (stB l.length [(m:Int)])):=fun j h=>by
       rw[hG];show (xs.take (j+1)).all _=_;rw[zy,zd h,List.all_append];simp
      have hGe:G xs.length=F m:=by
       rw[hG,hF];show (xs.take xs.length).all _=(aa6.trs l xs).all _;rw[zo,aa6.at7,z6]; rfl
      clear hG;refine ab1 noT (fun j fr t=>fr=[(0,au1 l),(1,.aa4 (st.map Md.ae4)),(3,.int .i64 (-1)),(6,.ab5 rc),(11,.int .i64 (i:Int)),(12,.int .i64 (m:Int)),(13,.bool (G j)),(14,.int .i64 (j:Int))]) xs.length (by rw[hG0]; rfl) ?_;rintro j fr u hj rfl;by_cases hlj:j<xs.length
      ·have e1:(j:Int)<xs.length:=om
       have e2:(0:Int)<=(j:Int):=om
       have w2:=ac4 (i:=j) om;have gx:=cv3 xs hlj;have hX:=hal j hlj;have hs2:=hGs j hlj
       cases hj2:G j with
       | false=>
        rw[hj2,zi] at hs2;simp only[go_sem,r6,e1,w2,hs2]
        exact hlj
       | true=>
        rw[hj2,zj] at hs2;simp only[go_sem,r6,e1,e2,c3,c4,gp,gx,af8,ah2,af4,ab9,ac3,ab6];refine aa3 fok105 (hX) ?_;simp only[go_sem,w2,hs2];exact hlj
      ·have e1:¬ (j:Int)<xs.length:=om
       have hj':j=xs.length:=om
       subst hj';rw[hGe]
       cases hb:F m with
       | true=>
        rw[hb] at ha;simp only[go_sem,r6,e1]
        exact ab4 (by rw[<- ha]; simp[c3,c4])
       | false=>
        rw[hb,zl,zf] at ha;simp only[go_sem,r6,e1,w1];exact ⟨hlt,ha⟩
     ·have hz':(decide (0<=z)&&decide (z<l.length))=false:=by
       rw[zk,decide_eq_false_iff_not,decide_eq_false_iff_not]; omega
      rw[hz',zi,zf] at ha;by_cases c0:z=-1
      ·simp only[go_sem,zg,d1,d2,g,Md.ae4,c0,w1];exact ⟨hlt,ha⟩
      by_cases c1:z<0
      ·simp only[go_sem,zg,d1,d2,g,Md.ae4,c0,c1,w1];exact ⟨hlt,ha⟩
      ·have c2:(l.length:Int)<=z:=om
       simp only[go_sem,zg,d1,d2,g,Md.ae4,c0,c1,c2,w1];exact ⟨hlt,ha⟩
    ·have d1:¬ (i:Int)<st.length:=om
     have e:i=st.length:=om
     subst e;rw[zh] at ha;simp only[go_sem,d1];exact ab4 ha
   ·rw [show aa6.tr l (.mk 7 d xs) (stB l.length st)=trK l 7 d (aa6.trs l xs) (stB l.length st) from rfl];simp only[trK,zb,if_true,if_false,bn2,dr9];rw[cm5];obtain ⟨F,hF⟩:∃ F:Nat->Bool,F=fun n:Nat=>((aa6.trs l xs).getD 0 ff (stB l.length [(n:Int)])&&!(aa6.trs l xs).getD 1 ff (stB l.length [(n:Int)])):=⟨_,rfl⟩
    have hF2:∀ n:Nat,((aa6.trs l xs).getD 0 ff (stB l.length [(n:Int)])&&!(aa6.trs l xs).getD 1 ff (stB l.length [(n:Int)]))=F n:=fun n=>by rw[hF]
    simp only[hF2];generalize (aa6.mk 7 d xs).cs=rc at *;simp only[ic54,go_sem,zb,rl,rk,rf,r0];refine ab1 noT (fun i fr t=>fr=[(0,au1 l),(1,.aa4 (st.map Md.ae4)),(3,.int .i64 (-1)),(6,.ab5 rc),(11,.int .i64 (i:Int))]/\((st.drop i).any fun z=>decide (0<=z)&&decide (z<l.length)&&F z.toNat)=st.any fun z=>decide (0<=z)&&decide (z<l.length)&&F z.toNat) st.length ⟨rfl,rfl⟩ ?_;rintro i fr t hi ⟨rfl,ha⟩;by_cases hlt:i<st.length
    ·obtain ⟨z,hz,_,hdr,hget,_⟩:=ad6 st i hlt;have d1:(i:Int)<st.length:=om
     have d2:(0:Int)<=i:=om
     have w1:=ac4 (i:=i) om;have g:=hget Md.ae4;rw[dv5 hdr] at ha;by_cases hz:0<=z/\z<l.length
     ·obtain ⟨m,rfl⟩:∃ m:Nat,z=m:=⟨z.toNat,om⟩;have hm:m<l.length:=om
      have c0:¬ (m:Int)=-1:=om
      have c1:¬ (m:Int)<0:=om
      have c2:¬ (l.length:Int)<=(m:Int):=om
      have c3:(0:Int)<=(m:Int):=om
      have c4:(m:Int)<l.length:=om
      have gp:(l.map aa2.cs).getD m []=(l[m]).cs:=by simp[za,hm]
      rw[ze] at ha;have hx2:xs.length=2:=by simp only[ct1,zb,if_true,if_false] at h4; omega
      have e0:(0:Int)<xs.length:=om
      have e1:(1:Int)<xs.length:=om
      have g0:=cv3 xs (i:=0) om;have g1:=cv3 xs (i:=1) om;have p0:=co8 xs[0] (hA _ (zc om)) l m hm hs;have p1:=co8 xs[1] (hA _ (zc om)) l m hm hs;have hFm:F m=(xs[0].tr l (stB l.length [(m:Int)])&&!xs[1].tr l (stB l.length [(m:Int)])):=by rw[hF,tg 0 om,tg 1 om]
      simp only[go_sem,zg,c0,c1,c2,c3,c4,d1,d2,e0,e1,g,g0,g1,gp,Md.ae4,r0,r6,zb,af8,ah2,af4,ab9,ac3,ab6];refine aa3 fok105 (p0) ?_
      cases hb0:xs[0].tr l (stB l.length [(m:Int)]) with
      | false=>
       rw[hFm,hb0,zi,zl,zf] at ha;simp only[go_sem,w1]
       exact ⟨hlt,ha⟩
      | true=>
       simp only[go_sem,c3,c4,e0,e1,g0,g1,gp,r6,af8,ah2,af4,ab9,ac3,ab6];refine aa3 fok105 (p1) ?_
       cases hb1:xs[1].tr l (stB l.length [(m:Int)]) with
       | true=>
        rw[hFm,hb0,hb1,Bool.not_true,zl,zl,zf] at ha;simp only[go_sem,w1]
        exact ⟨hlt,ha⟩
       | false=>
        rw[hFm,hb0,hb1] at ha;simp only[go_sem];exact ab4 (by rw[<- ha]; simp[c3,c4])
     ·have hz':(decide (0<=z)&&decide (z<l.length))=false:=by
       rw[zk,decide_eq_false_iff_not,decide_eq_false_iff_not]; omega
      rw[hz',zi,zf] at ha;by_cases c0:z=-1
      ·simp only[go_sem,zg,d1,d2,g,Md.ae4,c0,w1];exact ⟨hlt,ha⟩
      by_cases c1:z<0
      ·simp only[go_sem,zg,d1,d2,g,Md.ae4,c0,c1,w1];exact ⟨hlt,ha⟩
      ·have c2:(l.length:Int)<=z:=om
       simp only[go_sem,zg,d1,d2,g,Md.ae4,c0,c1,c2,w1];exact ⟨hlt,ha⟩
    ·have d1:¬ (i:Int)<st.length:=om
     have e:i=st.length:=om
     subst e;rw[zh] at ha;simp only[go_sem,d1];exact ab4 ha
end Go.Id.Tryz
namespace Go.Id.Tryz
open Go Go.Id Go.Proofs Go.Shelf Go.Id.Md
theorem er9 {α:Type}(q:α->Bool):∀ (l:List α) (i:Int),aj8 q l i=-1/\(∀ x∈l,q x=false)\/∃ k,∃ h:k<l.length,aj8 q l i=i+k/\q l[k]=true/\∀ x∈l.take k,q x=false:=by
 intro l
 induction l with
 | nil=>intro i; exact .inl ⟨rfl,fun x h=>by cases h⟩
 | cons a l ih=>
  intro i;simp only[aj8]
  cases hq:q a with
  | true=>exact .inr ⟨0,by simp,by simp,by simpa using hq,fun x h=>by cases h⟩
  | false=>
   simp only[Bool.false_eq_true,if_false];rcases ih (i+1) with ⟨h1,h2⟩|⟨k,h,h1,h2,h3⟩
   ·exact .inl ⟨h1,fun x hx=>by
     rcases zw.1 hx with rfl|hx
     ·exact hq
     ·exact h2 x hx⟩
   ·refine .inr ⟨k+1,by simp only[List.length_cons]; omega,by rw[h1]; omega,by simpa using h2,fun x hx=>?_⟩;rw[List.take_succ_cons] at hx;rcases zw.1 hx with rfl|hx
    ·exact hq
    ·exact h3 x hx
theorem da9 {q:Int->Bool}{l:List Int}(h:∀ x∈l,q x=false):(l.filter fun x=>!q x)=l:=List.filter_eq_self.2 fun x hx=>by rw[h x hx]; rfl
theorem cv4 {σ:Store}{id:Nat}{cs:List IV}{zs:List Int}(ho:σ.obj id=zn (.row cs))(hct:cs.take zs.length=zs.map bk6)(hcl:zs.length<=cs.length):cs9 σ 0 (.slice id 0 zs.length 1) (.aa4 (zs.map Md.ae4)):=by
 refine .slice id 0 zs.length 1 cs (zs.map Md.ae4) (z4 _) (.inr ho) (by rw[zq]) om (fun i hi=>?_) fun i hi j hj=>?_
 ·simp[za,hi,Md.ae4]
 ·have hj0:j=0:=om
  subst hj0;have e2:((zs.map Md.ae4).getD i []).getD 0 .undef=bk6 zs[i]:=by simp[za,hi,Md.ae4]
  rw[e2,zu,z1,z7,el9 hct hi];exact .keep _ (.int _ _)
theorem eg7 {σ:Store}{id g:Nat}{cap cs0:List IV}{zs:List Int}(q:Int->Bool)(hz:zs.length<2^40)(ho:σ.obj id=zn (.row cs0))(hct:cs0.take zs.length=zs.map bk6)(hcl:zs.length<=cs0.length)
  (hok:okF Tryz.prog g=true) (hcap:∀ c∈cap,Bnd 0 c) (hq:∀ z∈zs,PC Tryz.prog EE g (.int .i64 z::cap) (.bool (q z))) :
  C Tryz.prog EE 59 [.slice id 0 zs.length 1,.func (.func g) [] cap] σ (fun v s=>σ.next<=s.next/\(∀ i,i≠id->s.obj i=σ.obj i) /\
   ∃ cs,v=.slice id 0 (zs.filter fun x=>!q x).length 1/\s.obj id=zn (.row cs)/\cs.take (zs.filter fun x=>!q x).length=(zs.filter fun x=>!q x).map bk6/\(zs.filter fun x=>!q x).length<=cs.length):=by
 refine C_f fok59 (nZ rfl) ?_;simp only[ic59,go_sem]
 have hI:=be3 (σ:=σ) (args:=[.slice id 0 zs.length 1,.func (.func g) [] cap]) (args':=[.aa4 (zs.map Md.ae4),.func (.func g) [] cap]) hE rfl (fun i hi=>by
  match i,hi with
  | 0,_=>exact cv4 ho hct hcl
  | 1,_=>exact .keep _ (.func _ _ _ (fun c hc=>by cases hc) hcap)) (by simp[IV.plain]) (da8 zs g [] cap q om hok hq)
 refine ad3 fok119 hI ?_;rintro v s ⟨rfl,rfl⟩;refine ⟨zm _,?_⟩;rcases er9 q zs 0 with ⟨h1,h2⟩|⟨i0,hi0,h1,h2,h3⟩
 ·simp only[go_sem,h1,da9 h2];exact ⟨zm _,fun _ _=>trivial,cs0,ho,hct,hcl⟩
 have h1':aj8 q zs 0=(i0:Int):=by rw[h1]; omega
 have d1:¬ (i0:Int)=-1:=om
 have w0:=ac4 (i:=i0) om;simp only[go_sem,h1',d1,w0]
 refine ab1 noT (fun j fr t=>∃ (k:Nat) (cs:List IV),fr=[(0,.slice id 0 zs.length 1),(1,.func (.func g) [] cap),(5,.int .i64 (k:Int)),(6,.int .i64 ((i0+1+j:Nat):Int))] /\
  (s.next<=t.next/\∀ q,q≠id->t.obj q=s.obj q)/\t.obj id=zn (.row cs)/\cs.length=cs0.length/\k<=i0+j/\i0+1+j<=zs.length/\k=((zs.take (i0+1+j)).filter fun x=>!q x).length/\cs.take k=((zs.take (i0+1+j)).filter fun x=>!q x).map bk6 /\
  ∀ (x:Nat) (h:x<zs.length),i0+j<x->(cs.drop x).head? = zn (.int .i64 zs[x])) (zs.length-(i0+1)) ?_ ?_
 ·have e:((zs.take (i0+1)).filter fun x=>!q x)=zs.take i0:=by
   rw[zy,zd hi0,z9,da9 h3];simp[h2]
  refine ⟨i0,cs0,rfl,⟨zm _,fun _ _=>rfl⟩,ho,rfl,om,om,?_,?_,fun x h _=>?_⟩
  ·rw[z7,e,List.length_take]; omega
  ·rw[z7,e,List.map_take,<- hct,List.take_take];congr 1; omega
  ·have:=el9 hct h;rw[List.head?_drop];rw[za,zd om] at this;rw[zd om];exact congrArg zn this
 rintro j fr t hj ⟨k,cs,rfl,⟨un,uo⟩,hoc,hcl2,hk1,hk2,hk3,hk4,hcs⟩;by_cases hlt:j<zs.length-(i0+1)
 ·have e1:((i0+1+j:Nat):Int)<zs.length:=om
  have e2:(0:Int)<=((i0+1+j:Nat):Int):=om
  have hx:i0+1+j<zs.length:=om
  have g1:=hcs (i0+1+j) hx om;have w1:=ac4 (i:=i0+1+j) om;have w2:=ac4 (i:=k) om;have hqz:=hq _ (zc hx);have e3:(0:Int)<=(k:Int):=om
  have e4:(k:Int)<zs.length:=om
  have e5:k+1<=cs.length:=om
  have htk:(zs.take (i0+1+j+1)).filter (fun x=>!q x)=(zs.take (i0+1+j)).filter (fun x=>!q x)++if q zs[i0+1+j] then [] else [zs[i0+1+j]]:=by
   rw[zy,zd hx,z9];congr 1;simp only[Option.toList,List.filter_cons,List.filter_nil];cases q zs[i0+1+j]<;>rfl
  simp only[go_sem,e1,e2,hoc,g1,ze,zu,z1];refine aq1 hok (en1 hqz) ?_;rintro v u ⟨rfl,rfl⟩;refine ⟨zm _,?_⟩
  cases hb:q zs[i0+1+j] with
  | true=>
   rw[hb,if_pos rfl,z2] at htk;simp only[go_sem,w1]
   exact ⟨hlt,k,cs,rfl,⟨un,uo⟩,hoc,hcl2,om,om,by rw[show i0+1+(j+1)=i0+1+j+1 by omega,htk]; exact hk3,by rw[show i0+1+(j+1)=i0+1+j+1 by omega,htk]; exact hk4,fun x h hx=>hcs x h om⟩
  | false=>
   rw[hb,if_neg (by simp)] at htk;simp only[go_sem,w1,w2,e3,e4,e5,hoc,ze,zu,z1];refine ⟨hlt,k+1,av1 cs k [.int .i64 zs[i0+1+j]],rfl,⟨un,fun q hq=>?_⟩,?_,?_,om,om,?_,?_,fun x h hx=>?_⟩
   ·simp only[if_neg hq]; exact uo q hq
   ·rfl
   ·rw[ag1 (by rw[zv]; omega)]; exact hcl2
   ·rw[show i0+1+(j+1)=i0+1+j+1 by omega,htk,zr,<- hk3]; rfl
   ·rw[show i0+1+(j+1)=i0+1+j+1 by omega,htk,dn5 om,hk4,List.map_append]; rfl
   ·rw[dn6 om om];exact hcs x h om
 ·have hj':i0+1+j=zs.length:=om
  have e1:¬ ((i0+1+j:Nat):Int)<zs.length:=om
  rw[hj',zo] at hk3 hk4;have hkn:k<zs.length:=om
  simp only[go_sem,e1,go6 (show k<=zs.length by omega),ie9 (show k<=zs.length by omega),hoc,jh3,go7 hoc hkn om];have hrl:(rep [IV.int .i64 0] (zs.length-k)).length=zs.length-k:=by rw[ar4]; simp
  refine ⟨un,fun q hq=>?_,av1 cs k (rep [IV.int .i64 0] (zs.length-k)),by rw[hk3],by simp only[aa5,if_true],?_,?_⟩
  ·simp only[aa5,if_neg hq]; exact uo q hq
  ·rw[<- hk3,eg4 om]; exact hk4
  ·rw[ag1 (by rw[hrl]; omega),<- hk3]; omega
theorem es3 (a:ad9)(down other:Bool)(old q:aa2)(h1:Pkg.small old)(h2:Pkg.small q):PC Tryz.prog EE 187 [.agg q.cs,.ab5 old.cs,.ab5 [.bool down],.ab5 [.bool other],.ab5 [a.v]] (.bool (ad9.dt2 a.r.vendor down other old q)):=by
 refine ae5 hE fok187 (nZ rfl) (il5 (am6 _) (.ab5 _ (ah7 _)) (.ab5 _ (ao4 (.bool _))) (.ab5 _ (ao4 (.bool _))) (.ab5 _ (ao4 (au2 a)))) ?_;have hf:=fu4 q.aj1 old.aj1;have hev:=az7 q.evr old.evr h2.1 h1.1;have p0:q.cs.head? = zn (.str q.name):=rfl;have q0:old.cs.head? = zn (.str old.name):=rfl;have p4:(q.cs.drop 4).head? = zn (.int .u8 q.aj1):=rfl;have q4:(old.cs.drop 4).head? = zn (.int .u8 old.aj1):=rfl;have p5:(q.cs.drop 5).head? = zn (.str q.vendor):=rfl;have q5:(old.cs.drop 5).head? = zn (.str old.vendor):=rfl;have p1:(q.cs.drop 1).take 3=q.evr.cs:=rfl;have q1:(old.cs.drop 1).take 3=old.evr.cs:=rfl;unfold ad9.dt2;unfold ad9.v ad9.cs;by_cases e1:q.name=old.name
 case neg=>
  simp only[ic187,go_sem,af8,ah2,af4,p0,q0,e1];exact ab4 (by simp)
 simp only[ic187,go_sem,af8,ah2,af4,p0,q0,e1];cases down
 case' true=>simp only[go_sem]
 case' false=>
  simp only[go_sem,cc7,p1,q1];refine aa3 fok115 (hev) ?_;by_cases e2:0<=ai5 q.evr old.evr
  case neg=>
   simp only[go_sem,e2];exact ab4 (by simp)
  simp only[go_sem,e2]
 all_goals
  cases other
  case' true=>simp only[go_sem]
  case' false=>
   simp only[go_sem,p4,q4];refine aa3 fok188 (hf) ?_;cases av5 q.aj1 old.aj1
   case false=>
    simp only[go_sem];exact ab4 (by simp)
   simp only[go_sem]
  all_goals
   cases a.r.vendor
   case true=>
    simp only[go_sem];exact ab4 (by simp)
   by_cases e3:q.vendor=old.vendor
   ·simp only[go_sem,p5,q5,e3];exact ab4 (by simp)
   ·simp only[go_sem,p5,q5,e3];exact ab4 (by simp)
theorem db1 (l:List aa2)(n:Nat)(hl:l.length<2^20)(hn:n<l.length)(hs:∀ p∈l,Pkg.small p)(σ:Store):C Tryz.prog EE 189 [(ak3 l).v,.int .i64 n] σ (eb4 σ (am3 l n)):=by
 have hi:=bn1 l;have hlook:=hi.over (l.getD n default).name
 have hsift:∀ (σ:Store) v,(v=.aa4 ((ae2 (ak3 l).over (l.getD n default).name).map Md.ae4)\/v=.aa1/\ae2 (ak3 l).over (l.getD n default).name=[])->C Tryz.prog EE 229 [(ak3 l).v,v,.func (.func 230) [] [.ab5 [.int .i64 n],.ab5 [(ak3 l).v]]] σ (eb4 σ (am3 l n)):=by
  intro σ v hv
  have h:=jh6 (ak3 l) (ae2 (ak3 l).over (l.getD n default).name) (by rw[hlook]; have:=ba2 (fun p=>decide (∃ d∈p.ab2,d.name=(l.getD n default).name)) l; omega) 230 [.ab5 [.int .i64 n],.ab5 [(ak3 l).v]] (fun k=>decide (k.toNat≠n)&&ab2 (l.getD k.toNat default) (l.getD n default)) fok230.1 (fun k hk=>by
   rw[hlook] at hk;obtain ⟨m,rfl,hm⟩:=numsOf_at hk;refine ⟨m,rfl,by rw[hi.all]; exact hm,?_⟩;have e:(ak3 l).all[m]'(by rw[hi.all]; exact hm)=l[m]:=by simp only[hi.all]
   rw[e,ze,getD_at l m hm,getD_at l n hn];exact go5 l m n hm hn hs) σ
  have e:am3 l n=(ae2 (ak3 l).over (l.getD n default).name).filter fun k=>decide (k.toNat≠n)&&ab2 (l.getD k.toNat default) (l.getD n default):=rfl
  rw[<- e] at h;rcases hv with rfl|⟨rfl,h0⟩
  ·exact h
  ·rw[h0] at h;refine if2 (args':=[(ak3 l).v,.aa4 [],.func (.func 230) [] [.ab5 [.int .i64 n],.ab5 [(ak3 l).v]]]) rfl (fun i hi=>?_) h;have hw:∀ {v:IV} {σ:Store},Bnd 0 v->Frz σ (fun _=>true=true) v v:=fun h=>.keep _ (h.weak fun _ _=>rfl)
   have hb:=bj6 (ak3 l)
   match i,hi with
   | 0,_=>exact hw hb
   | 1,_=>exact .dc1
   | 2,_=>exact hw (.func _ _ _ (fun c hc=>by cases hc) (ae9 (.ab5 _ (ao4 (.int _ _))) (.ab5 _ (ao4 hb))))
 have hx:(ak3 l).v=.ab5 [.aa4 (l.map aa2.cs),.an9 (nmV (ak3 l).ax2),.an9 (nmV (ak3 l).names),.an9 (nmV (ak3 l).over)]:=by
  show IV.ab5 [.aa4 ((ak3 l).all.map aa2.cs),_,_,_]=_;rw[hi.all]
 have his:=iq6 (ak3 l) n
 have i1:(decide ((0:Int)<=(n:Int))&&decide ((n:Int)<(ak3 l).all.length))=true:=by
  rw[hi.all]; simp only[zp,decide_eq_true_eq]; omega
 rw[i1] at his
 have hk0:∀ σ:Store,∃ v,de1 σ 2 .aa1 false (.an9 (nmV (ak3 l).over)) (.str (l.getD n default).name)=zn v/\∀ τ,C Tryz.prog EE 229 [(ak3 l).v,v,.func (.func 230) [] [.ab5 [.int .i64 n],.ab5 [(ak3 l).v]]] τ (eb4 τ (am3 l n)):=fun σ=>
  let ⟨v,h1,h2⟩:=go3 (ak3 l).over σ (l.getD n default).name
  ⟨v,h1,fun τ=>hsift τ v h2⟩
 have hg:(l.map aa2.cs).getD n []=l[n].cs:=by simp[za,hn]
 have hnm:(l.getD n default).name=l[n].name:=by rw[getD_at l n hn]
 have p0:l[n].cs.head? = zn (.str l[n].name):=rfl;have hle:(l.map aa2.cs).length=l.length:=zq ..;clear hsift hlook i1;rw[hnm] at hk0;rw[hx] at hk0 his ⊢;generalize am3 l n=res at *;generalize l.map aa2.cs=a0 at *;generalize l[n]=q at *;have c1:(0:Int)<=n:=om
 have c2:(n:Int)<a0.length:=om
 refine C_f fok189 (nZ rfl) ?_;simp only[ic189,go_sem];refine aa3 fok228 (his) ?_;simp only[go_sem,c1,c2,hg,p0,ag8,ai2,ah4];obtain ⟨v,hk,hsv⟩:=hk0 ⟨σ.next+17,σ.obj⟩;simp only[go_sem,hk];refine ad3 fok229 (hsv _) ?_;rintro v' s ⟨hkp,hr⟩;refine ⟨hkp.next,?_⟩;simp only[go_sem];exact ⟨hkp.low,hr.low (Nat.le_add_right _ _)⟩
end Go.Id.Tryz
namespace Go.Id.Tryz
open Go Go.Id Go.Proofs Go.Shelf Go.Id.Md
theorem dv6 {σ:Store}{id:Nat}{cs:List IV}(ho:σ.obj id=zn (.cells cs))(hb:∀ c∈cs,Bnd 0 c):cs9 σ 0 (.ptr id 0) (.ab5 cs):=by
 refine .ptr id 0 cs cs (z4 _) (.inl ho) om (fun j hj=>?_);rw[zu];exact .keep _ (hb _ (ae1 _ hj))
theorem jh8 (zs:List Int):(iq7 zs).Pairwise (·<=·):=by
 refine List.Pairwise.imp (fun h=>of_decide_eq_true h) (List.pairwise_mergeSort (le:=fun x y:Int=>decide (x<=y)) (fun a b c h1 h2=>?_) (fun a b=>?_) _)
 ·exact decide_eq_true (Int.le_trans (of_decide_eq_true h1) (of_decide_eq_true h2))
 ·rcases Int.le_total a b with h|h
  ·simp[h]
  ·simp[h]
theorem fu9 (a:ad9)(i:Int)(hA:AOK a)(σ:Store):C Tryz.prog EE 123 [a.v,.int .i64 i] σ (jp4 σ (a.av8 i)):=by
 have hin:=fu8 a i;refine C_f fok123 (nZ rfl) ?_;unfold ad9.av8
 cases hi:a.inst i with
 | false=>
  rw[hi] at hin;unfold ad9.v ad9.cs at *;simp only[ic123,go_sem];refine aa3 fok184 (hin) ?_;simp only[go_sem]
  exact ⟨Kept.refl σ,.inl ⟨rfl,rfl⟩⟩
 | true=>
 rw[hi] at hin;have his:a.is i=true:=by unfold ad9.inst at hi; exact (zp _ _▸hi).1
 obtain ⟨i1,i2,i3,i4⟩:=jh7 a his;obtain ⟨m,rfl⟩:∃ m:Nat,i=m:=⟨i.toNat,om⟩;have hml:m<a.l.length:=by rw[zq] at i2; omega
 have e3:=bo4 a 3 m hA;have e4:=bo4 a 4 m hA;have n4:=er8 a 4 m hA;have hob:=db1 a.l m (by have:=hA.len; omega) hml hA.small;have hlen:=hA.len
 have hall:∀ n (h:n<a.l.length),(a.l.map aa2.cs).getD n []=(a.pk n).cs/\a.pk (n:Int)∈a.l:=fun n h=>by
  have hn:a.is (n:Int)=true:=by rw[ad9.bn5]; exact decide_eq_true h
  obtain ⟨_,_,h3,h4⟩:=jh7 a hn;exact ⟨by simpa using h3,h4⟩
 have hfl:∀ down other n (h:n<a.l.length),PC Tryz.prog EE 187 [.agg (a.pk n).cs,.ab5 (a.pk m).cs,.ab5 [.bool down],.ab5 [.bool other],.ab5 [a.v]] (.bool (ad9.dt2 a.r.vendor down other (a.pk m) (a.pk n))):=
  fun down other n h=>es3 a down other _ _ (hA.small _ i4) (hA.small _ (hall n h).2)
 have hba:=au2 a;unfold ad9.jk2;unfold ad9.v ad9.cs at *;generalize (ak3 a.l).v=X at *;generalize a.p.v=Pv at *;have c0:(0:Int)<=m:=om
 have c2:(m:Int)<a.l.length:=om
 have hgm:=(hall m hml).1;generalize hdn:(a.bd1 3 m||a.bi9 4 m)=down;generalize hot:a.bd1 4 m=other at *;simp only[ic123,go_sem];refine aa3 fok184 (hin) ?_;simp only[go_sem,c0,c2,hgm,af8,ah2,af4];cases h3:a.bd1 3 m
 case' true=>
  rw[h3] at hdn e3;have hd:true=down:=by simpa using hdn
  refine aa3 fok185 (e3) ?_;simp only[go_sem]
 case' false=>
  rw[h3] at hdn e3;have hd:a.bi9 4 m=down:=by simpa using hdn
  refine aa3 fok185 (e3) ?_;simp only[go_sem];refine aa3 fok186 (n4) ?_;simp only[go_sem]
 all_goals
  refine aa3 fok185 (e4) ?_;simp only[go_sem];refine ad3 fok189 (hob _) ?_;rintro v s ⟨hk0,hr0⟩;refine ⟨hk0.next,?_⟩;simp only[go_sem];have g1:¬ σ.next=σ.next+1+1:=om
  have g2:¬ σ.next=σ.next+1:=om
  have g3:¬ σ.next+1=σ.next+1+1:=om
  have b5:s.obj σ.next=zn (.cells (a.pk m).cs):=(hk0.obj σ.next (by show σ.next<σ.next+_; omega)).trans (by simp only[aa5,g1,g2,if_true,if_false]);have b6:s.obj (σ.next+1)=zn (.cells [.bool down]):=(hk0.obj (σ.next+1) (by show σ.next+1<σ.next+_; omega)).trans (by simp only[aa5,g3,if_true,if_false,hd]);have b7:s.obj (σ.next+1+1)=zn (.cells [.bool other]):=(hk0.obj (σ.next+1+1) (by show σ.next+1+1<σ.next+_; omega)).trans (by simp only[aa5,if_true])
  have blo:∀ i,i<σ.next->s.obj i=σ.obj i:=fun i hi=>(hk0.obj i (by show i<σ.next+_; omega)).trans (by
   have u1:¬ i=σ.next:=om
   have u2:¬ i=σ.next+1:=om
   have u3:¬ i=σ.next+1+1:=om
   simp only[aa5,u1,u2,u3,if_false])
  have bnx:σ.next+1+1+1<=s.next:=Nat.le_trans (by show σ.next+1+1+1<=σ.next+_; omega) hk0.next;have hr1:aj3 s (σ.next+1+1+1) v (am3 a.l m):=hr0.low (by show σ.next+1+1+1<=σ.next+_; omega);clear hk0 hr0 hob e3 e4 n4 hin;generalize hq:(fun n:Nat=>decide ((n:Int)=m)||ad9.dt2 a.r.vendor down other (a.pk m) (a.pk n))=qq;have hqn:∀ n,qq n=(decide ((n:Int)=m)||ad9.dt2 a.r.vendor down other (a.pk m) (a.pk n)):=fun n=>by rw[<- hq]
  have hobl:=da6 a.l m;have obm:=fun k=>da5 (l:=a.l) (n:=m) (k:=k)
  generalize am3 a.l m=ob at *
  refine ab1 noT (fun n fr t=>∃ gv,fr=[(1,.int .i64 (m:Int)),(8,.func (.func 187) [] [.ptr σ.next 0,.ptr (σ.next+1) 0,.ptr (σ.next+1+1) 0,.ab5 [.ab5 [Pv,X,.int .u8 a.r.aj1,.bool a.r.vendor,bc3 a.r.ai4,aq2 a.r.ag5,.int .i64 a.r.budget,.aa4 (a.l.map aa2.cs)]]]),(9,gv),(44,.aa4 (a.l.map aa2.cs)),(45,.int .i64 a.l.length),(46,.int .i64 (n:Int))] /\
   Kept ⟨σ.next+1+1+1,s.obj⟩ t/\aj3 t (σ.next+1+1+1) gv (ob++ak9 qq n)) a.l.length ⟨v,rfl,⟨bnx,fun _ _=>rfl⟩,by rw[show ak9 qq 0=[] from rfl,z2]; exact hr1⟩ ?_
  rintro n fr t hn ⟨gv,rfl,hk,hg⟩;by_cases hlt:n<a.l.length
  ·have d1:(n:Int)<a.l.length:=om
   have d2:(0:Int)<=n:=om
   have w1:=ac4 (i:=n) om;have hgn:=(hall n hlt).1;have hpn:=hfl down other n hlt;have hsn:=cm8 qq n;have hln:=av4 qq n;have hzl:(ob++ak9 qq n).length<2147483648:=by rw[zr]; omega
   have n5:¬ σ.next=t.next:=by have:=hk.next; show ¬ _; intro e; have:σ.next+1+1+1<=t.next:=this; omega
   have n6:¬ σ.next+1=t.next:=by have:=hk.next; intro e; have:σ.next+1+1+1<=t.next:=this; omega
   have n7:¬ σ.next+1+1=t.next:=by have:=hk.next; intro e; have:σ.next+1+1+1<=t.next:=this; omega
   have t5:=(hk.obj σ.next (by show σ.next<σ.next+1+1+1; omega)).trans b5;have t6:=(hk.obj (σ.next+1) (by show σ.next+1<σ.next+1+1+1; omega)).trans b6;have t7:=(hk.obj (σ.next+1+1) (by show σ.next+1+1<σ.next+1+1+1; omega)).trans b7;by_cases e:(n:Int)=m
   case' pos=>
    have hqt:qq n=true:=by rw[hqn,e]; simp
    have e':n=m:=om
    subst e';simp only[go_sem,d1,d2,hgn,af8,ah2,af4,eq_self]
   case' neg=>
    simp only[go_sem,d1,d2,hgn,af8,ah2,af4,e]
    refine aq1 fok187.1 (be3 (args':=[.agg (a.pk n).cs,.ab5 (a.pk m).cs,.ab5 [.bool down],.ab5 [.bool other],.ab5 [.ab5 [Pv,X,.int .u8 a.r.aj1,.bool a.r.vendor,bc3 a.r.ai4,aq2 a.r.ag5,.int .i64 a.r.budget,.aa4 (a.l.map aa2.cs)]]]) hE rfl (fun i hi=>by
     match i,hi with
     | 0,_=>exact .keep _ (am6 _)
     | 1,_=>exact dv6 (by simp only[aa5,n5,if_false]; exact t5) (ah7 _)
     | 2,_=>exact dv6 (by simp only[aa5,n6,if_false]; exact t6) (ao4 (.bool _))
     | 3,_=>exact dv6 (by simp only[aa5,n7,if_false]; exact t7) (ao4 (.bool _))
     | 4,_=>exact .keep _ (.ab5 _ (ao4 hba))) (by simp[IV.plain]) hpn) ?_
    rintro v' u ⟨rfl,rfl⟩;refine ⟨zm _,?_⟩;cases hfb:ad9.dt2 a.r.vendor down other (a.pk m) (a.pk n)
    case' false=>
     have hqt:qq n=false:=by rw[hqn,hfb]; simp[e]
     rw[hqt] at hsn;simp only[go_sem,w1];rw[if_neg (by simp),z2] at hsn;exact ⟨hlt,gv,rfl,hk.trans (Kept.box t _ _),by rw[hsn]; exact hg.kept (Kept.box t _ _)⟩
    have hqt:qq n=true:=by rw[hqn,hfb]; simp
    simp only[go_sem]
   all_goals
    rw[hqt,if_pos rfl] at hsn;rw[cx3 (s:=⟨t.next+1+1,_⟩) (lo:=σ.next+1+1+1) (zs:=ob++ak9 qq n) ((hg.kept (Kept.box t _ _)).up 1) (n:Int) hzl];simp only[go_sem,w1];have hz:=ew6 (hk.trans (Kept.box t (.cells [.str [],.int .i64 0,.str [],.str [],.int .u8 0,.str [],.aa1,.aa1,.aa1,.aa1,.aa1,.aa1,.aa1,.aa1,.aa1]) (.cells (a.pk n).cs))) (hg.kept (Kept.box t _ _)) (n:Int) (a:=1) (nid:=t.next+1) (zm _) (Nat.lt_succ_self _) rfl;rw[hsn,<- List.append_assoc];exact ⟨hlt,_,rfl,hz.1,hz.2⟩
  ·have hn':n=a.l.length:=om
   subst hn';have d1:¬ (a.l.length:Int)<(a.l.length:Int):=om
   simp only[go_sem,d1];have hln:=av4 qq a.l.length;have hzl:(ob++ak9 qq a.l.length).length<2^20:=by rw[zr]; omega
   have hmm:(m:Int)∈ob++ak9 qq a.l.length:=List.mem_append_right _ (bg7.2 ⟨m,rfl,hml,by rw[hqn]; simp⟩)
   have hfin:∀ D:List Int,D.Pairwise (· < ·)->(∀ x,x∈D↔x∈ob++ak9 qq a.l.length)->D=ak9 (fun n=>decide ((n:Int)=m)||ad9.dt2 a.r.vendor down other (a.pk m) (a.pk n)||(!decide ((n:Int)=m)&&ab2 (a.pk n) (a.pk m))) a.l.length:=fun D h1 h2=>go9 h1 (dt1 _ _) fun x=>by
    rw[h2,List.mem_append,obm,bg7,bg7];constructor
    ·rintro (⟨u,rfl,h3,h4,h5⟩|⟨u,rfl,h3,h4⟩)
     ·refine ⟨u,rfl,h3,?_⟩;have h6:¬ (u:Int)=m:=om
      simp only[ad9.pk,ze,h5,h6,decide_false,Bool.not_false,Bool.and_self,Bool.or_true]
     ·rw[hqn] at h4;exact ⟨u,rfl,h3,by rw[h4,zt]⟩
    ·rintro ⟨u,rfl,h3,h4⟩;rw[z3] at h4;rcases h4 with h4|h4
     ·exact .inr ⟨u,rfl,h3,by rw[hqn]; exact h4⟩
     ·simp only[zp,zz,decide_eq_false_iff_not,ad9.pk,ze] at h4;exact .inl ⟨u,rfl,h3,om,h4.2⟩
   generalize ob++ak9 qq a.l.length=zs at *;rcases hg with ⟨_,h0⟩|⟨id,hid1,hid2,rfl,ho⟩
   ·rw[h0] at hmm; cases hmm
   refine ad3 fok190 (fu3 (zs:=zs) om ho) ?_;rintro v s' ⟨rfl,rfl⟩;refine ⟨by show t.next<=_; exact zm _,?_⟩;simp only[go_sem];have hsl:(iq7 zs).length=zs.length:=List.length_mergeSort _;have hc:=go8 (σ:=t.put id (.row ((iq7 zs).map (IV.int .i64)))) (id:=id) (zs:=iq7 zs) om (by simp only[aa5,if_true]) (jh8 zs);rw[hsl] at hc;refine ad3 fok63 hc ?_;rintro v s' ⟨⟨D,cs,q1,q2,rfl,q4,q5,q6⟩,hsn,hso⟩;refine ⟨hsn,?_⟩;have hD:=hfin D q1 fun x=>(q2 x).trans List.mem_mergeSort
   simp only[go_sem];have hsn':t.next<=s'.next:=hsn;have hkn:σ.next+1+1+1<=t.next:=hk.next;rw[<- hD];refine ⟨⟨om,fun i hi=>?_⟩,.inr ⟨id,cs,om,om,rfl,q4,q5,q6⟩⟩;have hne:i≠id:=om
   rw[hso i hne];show (if i=id then _ else t.obj i)=_;rw[if_neg hne,hk.obj i (by show i<σ.next+1+1+1; omega)];exact blo i hi
end Go.Id.Tryz
namespace Go.Id.Tryz
open Go Go.Id Go.Proofs Go.Shelf Go.Id.Md
theorem hq9 {σ:Store}{g:Nat}{cap:List IV}(hok:okF Tryz.prog g=true)(hcap:∀ c∈cap,Bnd 0 c):C Tryz.prog EE 59 [.aa1,.func (.func g) [] cap] σ (jp4 σ []):=by
 refine C_f fok59 (nZ rfl) ?_;simp only[ic59,go_sem]
 have hI:C Tryz.prog EE 119 [.aa1,.func (.func g) [] cap] σ (jb8 (.int .i64 (-1)) σ):=by
  refine if2 (args':=[.aa4 (([]:List Int).map Md.ae4),.func (.func g) [] cap]) rfl (fun i hi=>?_) (en1 (da8 [] g [] cap (fun _=>true) (by simp) hok (fun z hz=>by cases hz)))
  match i,hi with
  | 0,_=>exact .dc1
  | 1,_=>exact .keep _ ((Nm.func _ _ _ (fun c hc=>by cases hc) hcap:Bnd 0 (.func (.func g) [] cap)).weak fun _ _=>rfl)
 refine ad3 fok119 hI ?_;rintro v s ⟨rfl,rfl⟩;refine ⟨zm _,?_⟩;simp only[go_sem];exact ⟨Kept.refl _,.inl ⟨rfl,rfl⟩⟩
theorem jr4 {σ:Store}{v:IV}{lo g:Nat}{cap:List IV}{zs:List Int}(q:Int->Bool)(hz:zs.length<2^40)(hr:el8 σ lo v zs)(hok:okF Tryz.prog g=true)(hcap:∀ c∈cap,Bnd 0 c)(hq:∀ z∈zs,PC Tryz.prog EE g (.int .i64 z::cap) (.bool (q z))) :
  C Tryz.prog EE 59 [v,.func (.func g) [] cap] σ (fun v s=>(σ.next<=s.next/\∀ i,i<lo->i<σ.next->s.obj i=σ.obj i)/\el8 s (min lo σ.next) v (zs.filter fun x=>!q x)):=by
 rcases hr with ⟨rfl,rfl⟩|⟨id,cs,h1,h2,rfl,h4,h5,h6⟩
 ·exact (hq9 hok hcap).mono fun v s ⟨h1,h2⟩=>⟨⟨h1.next,fun i _ hi=>h1.obj i hi⟩,h2.low (Nat.min_le_right _ _)⟩
 ·refine (eg7 q hz h4 h5 h6 hok hcap hq).mono fun v s ⟨k1,k2,cs',k3,k4,k5,k6⟩=>⟨⟨k1,fun i hi _=>k2 i om⟩,.inr ⟨id,cs',om,om,k3,k4,k5,k6⟩⟩
end Go.Id.Tryz
