/- The document's answers on names,versions,dependencies: walked. Conditions: sizes that fit. -/
import Derived.Test.YtphnnoolpagclaaGreatDoorTQNC
import Derived.Test.YtphnnoolpagclaaGreatDoorMv
import Derived.Test.YtphnnoolpagclaaGreatDoorFwZb
import Derived.Test.YtphnnoolpagclaaGreatDoorTQQN
set_option linter.all false
namespace Go.Id.Tryz
open Go Go.Id Go.Proofs Go.Shelf Go.Id.Md
set_option maxRecDepth 100000
def alN (n:Nat):Bool:=decide (97<=n)&&decide (n<=122)||decide (65<=n)&&decide (n<=90)||decide (48<=n)&&decide (n<=57)
def gg8 (n:Nat):Bool:=alN n || [46,95,43,45,47,58,64,126,94].contains n
def ii5 (n:Nat):Bool:=alN n || [46,95,43,126,94].contains n
theorem fs1 (b:UInt8):az9 b=gg8 b.toNat:=by
 have h:∀ n,n<256->az9 (UInt8.ofNat n)=gg8 n:=by decide +kernel
 have:=h b.toNat b.toNat_lt
 rwa [UInt8.ofNat_toNat] at this
theorem gg9 (b:UInt8):bf5 b=ii5 b.toNat:=by
 have h:∀ n,n<256->bf5 (UInt8.ofNat n)=ii5 n:=by decide +kernel
 have:=h b.toNat b.toNat_lt
 rwa [UInt8.ofNat_toNat] at this
theorem ci6 (a:Int):PC Tryz.prog EE 46 [.int .u8 a] (.bool (bb3 a)):=by
 refine af5 hE fok46 (nZ rfl) (am3 (.int _ _)) ?_;unfold bb3 ai7;by_cases h1:(2:Int)<=a
 ·have e1:(1:Int)<=a:=by omega
  have e2:¬ a=1:=by omega
  simp only[ic46,go_sem,h1];exact ab2 (by simp[e1,e2])
 ·simp only[ic46,go_sem,h1];refine ab2 ?_;by_cases e:a=1
  ·simp[e]
  ·have:¬ (1:Int)<=a:=by omega
   simp[this]
theorem gh1 (n:Nat):PC Tryz.prog EE 144 [.int .u8 n] (.bool (gg8 n)):=by
 refine af5 hE fok144 (nZ rfl) (am3 (.int _ _)) ?_;by_cases g:n=46\/n=95\/n=43\/n=45\/n=47\/n=58\/n=64\/n=126\/n=94
 ·rcases g with rfl|rfl|rfl|rfl|rfl|rfl|rfl|rfl|rfl
  all_goals
   simp only[ic144,go_sem,Int.reduceNeg,Int.cast_ofNat_Int];exact ab2 (by decide)
 ·simp only[not_or] at g;obtain ⟨g1,g2,g3,g4,g5,g6,g7,g8,g9⟩:=g;have hc:[46,95,43,45,47,58,64,126,94].contains n=false:=by simp[g1,g2,g3,g4,g5,g6,g7,g8,g9]
  have f1:¬ (n:Int)=46:=by omega
  have f2:¬ (n:Int)=95:=by omega
  have f3:¬ (n:Int)=43:=by omega
  have f4:¬ (n:Int)=45:=by omega
  have f5:¬ (n:Int)=47:=by omega
  have f6:¬ (n:Int)=58:=by omega
  have f7:¬ (n:Int)=64:=by omega
  have f8:¬ (n:Int)=126:=by omega
  have f9:¬ (n:Int)=94:=by omega
  unfold gg8 alN;rw[hc,Bool.or_false];by_cases k1:(97:Int)<=n
  ·by_cases k2:(n:Int)<=122
   ·simp only[ic144,go_sem,k1,k2];have a1:97<=n:=by omega
    have a2:n<=122:=by omega
    exact ab2 (by simp[a1,a2])
   ·have k3:(65:Int)<=n:=by omega
    have k4:¬ (n:Int)<=90:=by omega
    have k5:(48:Int)<=n:=by omega
    have k6:¬ (n:Int)<=57:=by omega
    simp only[ic144,go_sem,k1,k2,k3,k4,k5,k6,f1,f2,f3,f4,f5,f6,f7,f8,f9];have a2:¬ n<=122:=by omega
    have a4:¬ n<=90:=by omega
    have a6:¬ n<=57:=by omega
    exact ab2 (by simp[a2,a4,a6])
  ·have a1:¬ 97<=n:=by omega
   by_cases k3:(65:Int)<=n
   ·by_cases k4:(n:Int)<=90
    ·simp only[ic144,go_sem,k1,k3,k4];have a3:65<=n:=by omega
     have a4:n<=90:=by omega
     exact ab2 (by simp[a3,a4])
    ·have k5:(48:Int)<=n:=by omega
     have k6:¬ (n:Int)<=57:=by omega
     simp only[ic144,go_sem,k1,k3,k4,k5,k6,f1,f2,f3,f4,f5,f6,f7,f8,f9];have a4:¬ n<=90:=by omega
     have a6:¬ n<=57:=by omega
     exact ab2 (by simp[a1,a4,a6])
   ·have a3:¬ 65<=n:=by omega
    by_cases k5:(48:Int)<=n
    ·by_cases k6:(n:Int)<=57
     ·simp only[ic144,go_sem,k1,k3,k5,k6];have a5:48<=n:=by omega
      have a6:n<=57:=by omega
      exact ab2 (by simp[a5,a6])
     ·simp only[ic144,go_sem,k1,k3,k5,k6,f1,f2,f3,f4,f5,f6,f7,f8,f9];have a6:¬ n<=57:=by omega
      exact ab2 (by simp[a1,a3,a6])
    ·simp only[ic144,go_sem,k1,k3,k5,f1,f2,f3,f4,f5,f6,f7,f8,f9];have a5:¬ 48<=n:=by omega
     exact ab2 (by simp[a1,a3,a5])
theorem ej5 (s:Str)(hs:s.length<2^62):PC Tryz.prog EE 98 [.str s] (.bool (ap6 s)):=by
 refine af5 hE fok98 (nZ rfl) (am3 (.str _)) ?_;unfold ap6;by_cases h1:1<=s.length
 case neg=>
  have c1:(s.length:Int)<1:=by omega
  simp only[ic98,go_sem,c1];exact ab2 (by simp[h1])
 by_cases h2:s.length<=64
 case neg=>
  have c1:¬ (s.length:Int)<1:=by omega
  have c2:(64:Int)<s.length:=by omega
  simp only[ic98,go_sem,c1,c2];exact ab2 (by simp[h2])
 have c1:¬ (s.length:Int)<1:=by omega
 have c2:¬ (64:Int)<s.length:=by omega
 by_cases hw:s∈words
 ·have hc:words.contains s=true:=by simpa using hw
  have e:s=[97,110,100]\/s=[111,114]\/s=[105,102]\/s=[101,108,115,101]\/s=[117,110,108,101,115,115]\/s=[119,105,116,104]\/s=[119,105,116,104,111,117,116]:=by simpa [words] using hw
  rw[hc];rcases e with rfl|rfl|rfl|rfl|rfl|rfl|rfl
  all_goals
   simp only[ic98,go_sem,c1,c2,List.length_cons,List.length_nil];exact ab2 (by decide)
 have hc:words.contains s=false:=by simpa using hw
 have hn:¬ s=[97,110,100]/\¬ s=[111,114]/\¬ s=[105,102]/\¬ s=[101,108,115,101]/\¬ s=[117,110,108,101,115,115]/\¬ s=[119,105,116,104]/\¬ s=[119,105,116,104,111,117,116]:=by simpa [words,not_or] using hw
 obtain ⟨n1,n2,n3,n4,n5,n6,n7⟩:=hn;rw[hc,decide_eq_true h1,decide_eq_true h2,Bool.true_and,Bool.true_and,Bool.not_false,Bool.and_true];simp only[ic98,go_sem,c1,c2,n1,n2,n3,n4,n5,n6,n7];refine ab5 noT (fun i fr t=>fr=[(0,.str s),(3,.int .i64 (i:Int))]/\(s.take i).all az9=true) s.length ⟨rfl,rfl⟩ ?_;rintro i fr t hi ⟨rfl,ha⟩;by_cases hlt:i<s.length
 ·have d1:(i:Int)<s.length:=by omega
  have d2:(0:Int)<=i:=by omega
  have w1:=ad9 (i:=i) (by omega);have hsg:=gh1 s[i].toNat;rw[<- fs1] at hsg;simp only[go_sem,d1,d2,List.getElem?_eq_getElem hlt,Int.toNat_natCast]
  first|refine aa4 fok144 (hsg) ?_|refine aa2 (hsg) ?_
  cases hb:az9 s[i] with
  | true=>
   simp only[go_sem,w1]
   exact ⟨hlt,by rw[ch9 hlt,ha,hb]; rfl⟩
  | false=>
   simp only[go_sem];exact ab2 (by rw[bd5 hlt hb])
 ·have d1:¬ (i:Int)<s.length:=by omega
  have e:i=s.length:=by omega
  subst e;rw[List.take_length] at ha;simp only[go_sem,d1];exact ab2 (by rw[ha])
theorem gh2 (s:Str)(hs:s.length<2^62):PC Tryz.prog EE 100 [.str s] (.bool (bd1 s)):=by
 refine af5 hE fok100 (nZ rfl) (am3 (.str _)) ?_;have h:=ej5 s hs;unfold bd1;simp only[ic100,go_sem]
 first|refine aa4 fok98 (h) ?_|refine aa2 (h) ?_
 cases hn:ap6 s with
 | false=>simp only[go_sem]; exact ab2 rfl
 | true=>
  cases s with
  | nil=>simp[ap6] at hn
  | cons b l=>
   simp only[go_sem,List.head?_cons];refine ab2 ?_
   have:(b.toNat:Int)=47↔b=47:=by
    constructor
    ·intro h; exact UInt8.toNat_inj.1 (by show b.toNat=47; omega)
    ·rintro rfl; rfl
   by_cases e:b=47
   ·subst e; rfl
   ·have e2:¬ (b.toNat:Int)=47:=fun h=>e (this.1 h)
    simp[e,e2]
theorem ej6 (s:Str)(hs:s.length<2^62):PC Tryz.prog EE 145 [.str s] (.bool (au7 s)):=by
 refine af5 hE fok145 (nZ rfl) (am3 (.str _)) ?_;simp only[ic145,go_sem];refine ab5 noT (fun i fr t=>fr=[(0,.str s),(3,.int .i64 (i:Int))]/\(s.take i).all bf5=true) s.length ⟨rfl,rfl⟩ ?_;rintro i fr t hi ⟨rfl,ha⟩;by_cases hlt:i<s.length
 ·have d1:(i:Int)<s.length:=by omega
  have d2:(0:Int)<=i:=by omega
  have w1:=ad9 (i:=i) (by omega);have hv:=gg9 s[i];have step:bf5 s[i]=true->(s.take (i+1)).all bf5=true:=fun h=>by rw[ch9 hlt,ha,h]; rfl
  have fin:bf5 s[i]=false->au7 s=false:=fun h=>by simp only[au7,bd5 hlt h,Bool.and_false]
  simp only[go_sem,d1,d2,List.getElem?_eq_getElem hlt,Int.toNat_natCast];generalize s[i].toNat=n at *;by_cases g:n=46\/n=95\/n=43\/n=126\/n=94
  ·rcases g with rfl|rfl|rfl|rfl|rfl
   all_goals
    simp only[go_sem,Int.cast_ofNat_Int,Int.reduceEq,w1];exact ⟨hlt,step (hv.trans (by decide))⟩
  ·simp only[not_or] at g;obtain ⟨g1,g2,g3,g4,g5⟩:=g;have hc:[46,95,43,126,94].contains n=false:=by simp[g1,g2,g3,g4,g5]
   have f1:¬ (n:Int)=46:=by omega
   have f2:¬ (n:Int)=95:=by omega
   have f3:¬ (n:Int)=43:=by omega
   have f4:¬ (n:Int)=126:=by omega
   have f5:¬ (n:Int)=94:=by omega
   unfold ii5 alN at hv;rw[hc,Bool.or_false] at hv;by_cases k1:(97:Int)<=n
   ·have a5:(48:Int)<=n:=by omega
    have a6:¬ (n:Int)<=57:=by omega
    by_cases k2:(n:Int)<=122
    ·have a1:97<=n:=by omega
     have a2:n<=122:=by omega
     simp only[go_sem,k1,k2,a5,a6,w1];exact ⟨hlt,step (hv.trans (by simp[a1,a2]))⟩
    ·have k3:(65:Int)<=n:=by omega
     have k4:¬ (n:Int)<=90:=by omega
     simp only[go_sem,k1,k2,k3,k4,a5,a6,f1,f2,f3,f4,f5];have b2:¬ n<=122:=by omega
     have b4:¬ n<=90:=by omega
     have b6:¬ n<=57:=by omega
     exact ab2 (fin (hv.trans (by simp[b2,b4,b6]))).symm
   ·have b1:¬ 97<=n:=by omega
    by_cases k3:(65:Int)<=n
    ·have a5:(48:Int)<=n:=by omega
     have a6:¬ (n:Int)<=57:=by omega
     by_cases k4:(n:Int)<=90
     ·simp only[go_sem,k1,k3,k4,a5,a6,w1];have a3:65<=n:=by omega
      have a4:n<=90:=by omega
      exact ⟨hlt,step (hv.trans (by simp[a3,a4]))⟩
     ·simp only[go_sem,k1,k3,k4,a5,a6,f1,f2,f3,f4,f5];have b4:¬ n<=90:=by omega
      have b6:¬ n<=57:=by omega
      exact ab2 (fin (hv.trans (by simp[b1,b4,b6]))).symm
    ·have b3:¬ 65<=n:=by omega
     by_cases k5:(48:Int)<=n
     ·by_cases k6:(n:Int)<=57
      ·simp only[go_sem,k1,k3,k5,k6,w1];have a5:48<=n:=by omega
       have a6:n<=57:=by omega
       exact ⟨hlt,step (hv.trans (by simp[a5,a6]))⟩
      ·simp only[go_sem,k1,k3,k5,k6,f1,f2,f3,f4,f5];have b6:¬ n<=57:=by omega
       exact ab2 (fin (hv.trans (by simp[b1,b3,b6]))).symm
     ·simp only[go_sem,k1,k3,k5,f1,f2,f3,f4,f5];have b5:¬ 48<=n:=by omega
      exact ab2 (fin (hv.trans (by simp[b1,b3,b5]))).symm
 ·have d1:¬ (i:Int)<s.length:=by omega
  have e:i=s.length:=by omega
  subst e;rw[List.take_length] at ha;unfold au7;rw[ha,Bool.and_true];by_cases h1:1<=s.length
  ·have c1:(1:Int)<=s.length:=by omega
   simp only[go_sem,d1,c1];refine ab2 ?_;have:decide ((s.length:Int)<=64)=decide (s.length<=64):=decide_eq_decide.2 (by omega);simp[h1,this]
  ·have c1:¬ (1:Int)<=s.length:=by omega
   simp only[go_sem,d1,c1];exact ab2 (by simp[h1])
theorem gw6 (e:EVR)(dep:Bool)(h1:e.ver.length<2^62)(h2:e.rel.length<2^62):PC Tryz.prog EE 101 [.agg e.cs,.bool dep] (.bool (bd2 e dep)):=by
 obtain ⟨ep,ver,rel⟩:=e;refine af5 hE fok101 (nZ rfl) (aj2 (.agg _ (bc8 (.int _ _) (.str _) (.str _))) (.bool _)) ?_;have hw:=ej6 ver h1;have hw':=ej6 rel h2;unfold bd2;by_cases a1:ep<0
 ·have b1:¬ (0:Int)<=ep:=by omega
  simp only[ic101,go_sem,EVR.cs,a1];exact ab2 (by simp[b1])
 have b1:(0:Int)<=ep:=by omega
 by_cases a2:2147483647<ep
 ·have b2:¬ ep<=2147483647:=by omega
  simp only[ic101,go_sem,EVR.cs,a1,a2];exact ab2 (by simp[b2])
 have b2:ep<=2147483647:=by omega
 simp only[b1,b2,decide_true,Bool.true_and];simp only[ic101,go_sem,EVR.cs,a1,a2]
 first|refine aa4 fok145 (hw) ?_|refine aa2 (hw) ?_
 cases hv:au7 ver with
 | false=>simp only[go_sem]; exact ab2 (by simp)
 | true=>
  by_cases hr:rel=[]
  ·subst hr;simp only[go_sem];refine ab2 ?_;have:au7 []=false:=by decide
   rw[this]; simp
  ·have he:rel.isEmpty=false:=by simpa using hr
   simp only[go_sem,hr]
   first|refine aa4 fok145 (hw') ?_|refine aa2 (hw') ?_
   simp only[go_sem];exact ab2 (by rw[he]; simp)
theorem gw7 (n:Int):PC Tryz.prog EE 99 [.int .u8 n] (.bool (df2 n)):=by
 refine af5 hE fok99 (nZ rfl) (am3 (.int _ _)) ?_;unfold df2;by_cases g:n=0\/n=1\/n=2\/n=3\/n=4\/n=6
 ·rcases g with rfl|rfl|rfl|rfl|rfl|rfl
  all_goals
   simp only[ic99,go_sem];exact ab2 (by decide)
 ·simp only[not_or] at g;obtain ⟨g1,g2,g3,g4,g5,g6⟩:=g;simp only[ic99,go_sem,g1,g2,g3,g4,g5,g6];exact ab2 (by simp[g1,g2,g3,g4,g5,g6])
theorem gw8 (e:EVR):allEq [1,2,2] e.cs ft7.cs=some (decide (e=ft7)):=by
 obtain ⟨ep,ver,rel⟩:=e;simp[EVR.cs,ft7,allEq,ai2]
theorem gw9 (d:Dep)(h1:d.name.length<2^62)(h2:d.evr.ver.length<2^62)(h3:d.evr.rel.length<2^62):PC Tryz.prog EE 47 [.agg d.cs] (.bool (an8 d)):=by
 refine af5 hE fok47 (nZ rfl) (am3 (.agg _ (fm2 d))) ?_;have hn:=ej5 d.name h1;have hf:=gh2 d.name h1;have ho:=gw7 d.op;have hm:=gw6 d.evr true h2 h3;have he:=gw8 d.evr;unfold an8;obtain ⟨name,op,⟨ep,ver,rel⟩⟩:=d;unfold EVR.cs ft7 at he;simp only at *;simp only[ic47,go_sem,Dep.cs]
 first|refine aa4 fok98 (hn) ?_|refine aa2 (hn) ?_
 cases ap6 name with
 | false=>simp only[go_sem]; exact ab2 (by simp)
 | true=>
  simp only[go_sem]
  first|refine aa4 fok99 (ho) ?_|refine aa2 (ho) ?_
  cases df2 op with
  | false=>simp only[go_sem]; exact ab2 (by simp)
  | true=>
   by_cases h0:op=0
   ·simp only[go_sem,h0,he,Option.map_some];exact ab2 (by simp[ft7])
   ·simp only[go_sem,h0]
    first|refine aa4 fok100 (hf) ?_|refine aa2 (hf) ?_
    cases bd1 name with
    | true=>simp only[go_sem]; exact ab2 (by simp[h0])
    | false=>
     simp only[go_sem]
     first|refine aa4 fok101 (hm) ?_|refine aa2 (hm) ?_
     simp only[go_sem];exact ab2 (by simp[h0])
theorem ej7 (a:Int):PC Tryz.prog EE 170 [.int .u8 a] (.str (ap7 a)):=by
 refine af5 hE fok170 (nZ rfl) (am3 (.int _ _)) ?_;unfold ap7;by_cases g:a=1\/a=2\/a=3\/a=4
 ·rcases g with rfl|rfl|rfl|rfl
  all_goals
   simp only[ic170,go_sem];exact .keep _ (.str _)
 ·simp only[not_or] at g;obtain ⟨g1,g2,g3,g4⟩:=g;simp only[ic170,go_sem,g1,g2,g3,g4];exact .keep _ (.str _)
open Go Go.Id Go.Proofs Go.Id.Md
set_option maxHeartbeats 1000000
theorem ej8 (a:Int):bb3 a=(decide (a=2)||decide (a=3)||decide (a=4)):=by
 unfold bb3 ai7;rw[Bool.eq_iff_iff];simp only[Bool.and_eq_true,Bool.or_eq_true,decide_eq_true_eq,Bool.not_eq_true',decide_eq_false_iff_not];omega
theorem fs2 (m a:Int):PC Tryz.prog EE 107 [.int .u8 m,.int .u8 a] (.int .i64 (ay1 m a)):=by
 refine af5 hE fok107 (nZ rfl) (aj2 (.int _ _) (.int _ _)) ?_;have hm:=ci6 m;by_cases g:m=2\/m=3\/m=4
 ·have hmm:bb3 m=true:=by rw[ej8]; rcases g with rfl|rfl|rfl<;>rfl
  rw[hmm] at hm;by_cases e1:a=m
  ·subst e1;simp only[ic107,go_sem]
   first|refine aa4 fok46 (hm) ?_|refine aa2 (hm) ?_
   simp only[go_sem];exact co1 (by unfold ay1; rcases g with rfl|rfl|rfl<;>rfl)
  by_cases e2:a=1
  ·subst e2;simp only[ic107,go_sem]
   first|refine aa4 fok46 (hm) ?_|refine aa2 (hm) ?_
   simp only[go_sem,e1];exact co1 (by unfold ay1; rcases g with rfl|rfl|rfl<;>rfl)
  simp only[ic107,go_sem]
  first|refine aa4 fok46 (hm) ?_|refine aa2 (hm) ?_
  by_cases e3:m=2
  ·subst e3;by_cases e4:a=3
   ·subst e4;simp only[go_sem,Int.reduceEq];exact co1 rfl
   ·simp only[go_sem,e1,e2,e4];exact co1 (by unfold ay1; simp[e1,e2,e4])
  ·simp only[go_sem,e1,e2,e3];refine co1 ?_;unfold ay1;rw[if_neg e3];rcases g with rfl|rfl|rfl
   ·exact absurd rfl e3
   ·simp[e1,e2]
   ·simp[e1,e2]
 ·have hmm:bb3 m=false:=by
   rw[ej8];simp only[not_or] at g;simp[g.1,g.2.1,g.2.2]
  rw[hmm] at hm;simp only[ic107,go_sem]
  first|refine aa4 fok46 (hm) ?_|refine aa2 (hm) ?_
  simp only[go_sem];simp only[not_or] at g;exact co1 (by unfold ay1; simp[g.1,g.2.1,g.2.2])
theorem gh3 (m a:Int):0<=ay1 m a:=by
 unfold ay1
 repeat' split
 all_goals decide
theorem gh4 (m a:Int):PC Tryz.prog EE 55 [.int .u8 m,.int .u8 a] (.bool (gb4 m a)):=by
 refine af5 hE fok55 (nZ rfl) (aj2 (.int _ _) (.int _ _)) ?_;have h:=fs2 m a;have hn:=gh3 m a;simp only[ic55,go_sem]
 first|refine aa4 fok107 (h) ?_|refine aa2 (h) ?_
 simp only[go_sem];refine ab2 ?_;unfold gb4;by_cases h0:ay1 m a=0
 ·simp[h0]
 ·have:0<ay1 m a:=by omega
  simp[h0,this]
theorem fs3 (a b:Int):PC Tryz.prog EE 58 [.int .u8 a,.int .u8 b] (.bool (bt3 a b)):=by
 refine af5 hE fok58 (nZ rfl) (aj2 (.int _ _) (.int _ _)) ?_;have ha:=ci6 a;have hb:=ci6 b;unfold bt3;by_cases e:a=b
 ·simp only[ic58,go_sem,e];exact ab2 (by simp)
 ·simp only[ic58,go_sem,e]
  first|refine aa4 fok46 (ha) ?_|refine aa2 (ha) ?_
  cases bb3 a with
  | false=>simp only[go_sem]; exact ab2 (by simp)
  | true=>
   simp only[go_sem]
   first|refine aa4 fok46 (hb) ?_|refine aa2 (hb) ?_
   simp only[go_sem];exact ab2 (by simp[e])
theorem cf5 (a:Int):(ap7 a=[])↔ai7 a=false:=by
 unfold ap7 ai7;by_cases g:a=1\/a=2\/a=3\/a=4
 ·rcases g with rfl|rfl|rfl|rfl<;>simp
 ·simp only[not_or] at g;have:¬ (1<=a/\a<=4):=by omega
  simp only[g.1,g.2.1,g.2.2.1,g.2.2.2,if_false,true_iff,Bool.and_eq_false_iff,decide_eq_false_iff_not];omega
theorem eb5 (a b:Int):PC Tryz.prog EE 118 [.int .u8 a,.int .u8 b] (.bool (ar7 a b)):=by
 refine af5 hE fok118 (nZ rfl) (aj2 (.int _ _) (.int _ _)) ?_;have ha:=ej7 a;have hb:=ej7 b;have na:=cf5 a;have nb:=cf5 b;simp only[ic118,go_sem]
 first|refine aa4 fok170 (ha) ?_|refine aa2 (ha) ?_
 by_cases h1:ap7 a=[]
 ·have:=na.1 h1;simp only[go_sem,h1];exact ab2 (by unfold ar7; simp[this])
 have oa:ai7 a=true:=by
  cases h:ai7 a with
  | true=>rfl
  | false=>exact absurd (na.2 h) h1
 simp only[go_sem,h1]
 first|refine aa4 fok170 (hb) ?_|refine aa2 (hb) ?_
 by_cases h2:ap7 b=[]
 ·have:=nb.1 h2;simp only[go_sem,h2];exact ab2 (by unfold ar7; simp[this])
 have ob:ai7 b=true:=by
  cases h:ai7 b with
  | true=>rfl
  | false=>exact absurd (nb.2 h) h2
 have hf:ar7 a b=(decide (a=b)||decide (a=1)||decide (b=1)):=by
  unfold ar7 bt3 bb3;rw[oa,ob];rw[Bool.eq_iff_iff];simp only[Bool.and_eq_true,Bool.or_eq_true,decide_eq_true_eq,Bool.not_eq_true',Bool.true_and,Bool.and_eq_false_iff,decide_eq_false_iff_not,Bool.not_eq_false'];omega
 rw[hf];by_cases e1:a=b
 ·simp only[go_sem,h2,e1]; exact ab2 (by simp)
 by_cases e2:a=1
 ·subst e2;simp only[go_sem,h2,e1];exact ab2 (by simp)
 ·simp only[go_sem,h2,e1,e2];exact ab2 (by simp[e1,e2])
theorem gx1 (n:Str)(e:EVR):PC Tryz.prog EE 189 [.str n,.agg e.cs] (.agg (Dep.cs ⟨n,2,e⟩)):=by
 refine af5 hE fok189 (nZ rfl) (aj2 (.str _) (bm9 e)) ?_;simp only[ic189,go_sem,EVR.cs,Dep.cs];exact .keep _ (.agg _ (gs7 (.str _) (.int _ _) (.int _ _) (.str _) (.str _)))
theorem gh5 (p:aa3):PC Tryz.prog EE 150 [.agg p.cs] (.agg (own p).cs):=by
 refine af5 hE fok150 (nZ rfl) (am3 (aj7 p)) ?_;have ho:=gx1 p.name p.evr;have hb:=aj8 (own p);simp only[EVR.cs,Dep.cs,own] at ho hb;simp only[ic150,go_sem,aa3.cs,own,Dep.cs]
 first|refine aa4 fok189 (ho) ?_|refine aa2 (ho) ?_
 simp only[go_sem];exact .keep _ hb
theorem fb4 (p:aa3):p.cs.head? = some (.str p.name):=rfl
theorem eb6 (d:Dep):d.cs.head? = some (.str d.name):=rfl
theorem bn1 (p:aa3)(d:Dep)(hp:Pkg.small p)(hd:Dep.small d):PC Tryz.prog EE 105 [.agg p.cs,.agg d.cs] (.bool (named p d)):=by
 refine af5 hE fok105 (nZ rfl) (ag9 (aj7 p) (aj8 d)) ?_;have ho:=gh5 p;have hm:=eh2 (own p) d (dr1 hp) hd;have hnm:named p d=(decide (p.name=d.name)&&meet (own p) d):=rfl;rw[hnm];generalize hx:Dep.cs (own p)=x at ho hm;by_cases e:p.name=d.name
 ·have e':d.name=p.name:=e.symm;simp only[ic105,go_sem,ag3,ae8,ae4,ai9,ag5,af9,fb4,eb6,e']
  first|refine aa4 fok150 (ho) ?_|refine aa2 (ho) ?_
  simp only[go_sem,ai9,ag5,af9]
  first|refine aa4 fok149 (hm) ?_|refine aa2 (hm) ?_
  simp only[go_sem];exact ab2 (by simp)
 ·have e':¬ d.name=p.name:=fun h=>e h.symm
  simp only[ic105,go_sem,ag3,ae8,ae4,ai9,ag5,af9,fb4,eb6,e'];exact ab2 (by simp[e])
theorem bv1 {α:Type}{q:α->Bool}{l:List α}{i:Nat}{a:α}(h:l.drop i=a::l.drop (i+1)):(l.drop i).any q=(q a||(l.drop (i+1)).any q):=by rw[h]; simp
theorem gx2 (p:aa3):(p.cs.drop 6).head? = some (deps p.provides):=rfl
theorem ht6 (p:aa3):(p.cs.drop 9).head? = some (deps p.aa8):=rfl
theorem ej9 (p:aa3):(p.cs.drop 14).head? = some (strs p.files):=rfl
theorem gx3 (d:Dep):(d.cs.drop 1).head? = some (.int .u8 d.op):=rfl
theorem di1 (p:aa3)(d:Dep)(hp:Pkg.small p)(hd:Dep.small d):PC Tryz.prog EE 123 [.agg p.cs,.agg d.cs] (.bool (provides p d)):=by
 refine af5 hE fok123 (nZ rfl) (ag9 (aj7 p) (aj8 d)) ?_;have hn:=bn1 p d hp hd;have l1:=hp.2.2.2.1;have l2:=hp.2.2.2.2.2;have hpv:provides p d=(named p d||p.provides.any (fun a=>meets a d)||decide (d.op=0)&&p.files.contains d.name):=rfl;rw[hpv];simp only[ic123,go_sem,ag3,ae8,ae4,ai9,ag5,af9]
 first|refine aa4 fok105 (hn) ?_|refine aa2 (hn) ?_
 cases hnb:named p d with
 | true=>simp only[go_sem]; exact ab2 (by simp)
 | false=>
 simp only[go_sem];refine ab5 noT (fun i fr s=>fr=[(2,.ab7 p.cs),(3,.ab7 d.cs),(5,.int .i64 (i:Int))]/\p.provides.any (fun a=>meets a d)=(p.provides.drop i).any (fun a=>meets a d)) p.provides.length ⟨rfl,rfl⟩ ?_;rintro i fr s hi ⟨rfl,ha⟩;by_cases hlt:i<p.provides.length
 ·obtain ⟨x,hx,hxi,hdr,hget,htk⟩:=ad5 p.provides i hlt;have d1:(i:Int)<p.provides.length:=by omega
  have d2:(0:Int)<=(i:Int):=by omega
  have w1:=ad9 (i:=i) (by omega);have hm:=eh2 x d (hp.2.1 x hx) hd;have hms:meets x d=(decide (x.name=d.name)&&meet x d):=rfl;rw[bv1 hdr,hms] at ha;by_cases e:x.name=d.name
  ·simp only[go_sem,gx2,d1,d2,hget,eb6,ai9,ag5,af9,e]
   first|refine aa4 fok149 (hm) ?_|refine aa2 (hm) ?_
   cases hb:meet x d with
   | true=>
    rw[hb] at ha;simp only[go_sem]
    exact ab2 (by rw[ha]; simp[e])
   | false=>
    rw[hb,Bool.and_false,Bool.false_or] at ha;simp only[go_sem,w1];exact ⟨hlt,ha⟩
  ·rw[decide_eq_false e,Bool.false_and,Bool.false_or] at ha;simp only[go_sem,gx2,d1,d2,hget,eb6,ai9,ag5,af9,e,w1];exact ⟨hlt,ha⟩
 have hi':i=p.provides.length:=by omega
 subst hi';have d1:¬ (p.provides.length:Int)<p.provides.length:=by omega
 rw[List.drop_length,List.any_nil] at ha;rw[ha];simp only[go_sem,gx2,d1];refine ab5 noT (fun i fr s=>fr=[(2,.ab7 p.cs),(3,.ab7 d.cs),(6,.int .i64 (i:Int))]/\(d.op=0->p.files.contains d.name=(p.files.drop i).contains d.name)) p.files.length ⟨rfl,fun _=>rfl⟩ ?_;rintro i fr s hi ⟨rfl,hf⟩;by_cases hlt:i<p.files.length
 ·obtain ⟨x,hx,hxi,hdr,hget,htk⟩:=ad5 p.files i hlt;have d1:(i:Int)<p.files.length:=by omega
  have d2:(0:Int)<=(i:Int):=by omega
  have w1:=ad9 (i:=i) (by omega);have hgs:=hget bm3;by_cases e0:d.op=0
  ·have hf:=hf e0;rw[hdr,List.contains_cons] at hf;by_cases e:x=d.name
   ·have hin:p.files.contains d.name=true:=by rw[hf,e]; simp
    simp only[go_sem,ej9,d1,d2,hgs,bm3,eb6,gx3,e0,e];exact ab2 (by first|(rw[hin]; rfl)|rw[hin])
   ·have e2:(d.name==x)=false:=by simpa using fun h=>e h.symm
    rw[e2,Bool.false_or] at hf;simp only[go_sem,ej9,d1,d2,hgs,bm3,eb6,gx3,e0,e,w1];exact ⟨hlt,fun _=>hf⟩
  ·simp only[go_sem,ej9,d1,d2,hgs,bm3,eb6,gx3,e0,w1];exact ⟨hlt,fun h=>by first|exact absurd h e0|exact h.elim⟩
 ·have hi':i=p.files.length:=by omega
  subst hi';have d1:¬ (p.files.length:Int)<p.files.length:=by omega
  rw[List.drop_length] at hf;simp only[go_sem,ej9,d1];refine ab2 ?_;by_cases e0:d.op=0
  ·rw[hf e0]; simp
  ·simp[e0]
theorem bo2 (p q:aa3)(hp:Pkg.small p)(hq:Pkg.small q):PC Tryz.prog EE 52 [.agg p.cs,.agg q.cs] (.bool (aa8 p q)):=by
 refine af5 hE fok52 (nZ rfl) (ag9 (aj7 p) (aj7 q)) ?_;have l1:=hp.2.2.2.2.1;have hob:aa8 p q=p.aa8.any fun d=>named q d:=rfl
 rw[hob];simp only[ic52,go_sem,ae4];refine ab5 noT (fun i fr s=>fr=[(2,.ab7 p.cs),(3,.ab7 q.cs),(5,.int .i64 (i:Int))]/\p.aa8.any (fun d=>named q d)=(p.aa8.drop i).any fun d=>named q d) p.aa8.length ⟨rfl,rfl⟩ ?_;rintro i fr s hi ⟨rfl,ha⟩;by_cases hlt:i<p.aa8.length
 ·obtain ⟨x,hx,hxi,hdr,hget,htk⟩:=ad5 p.aa8 i hlt;have d1:(i:Int)<p.aa8.length:=by omega
  have d2:(0:Int)<=(i:Int):=by omega
  have w1:=ad9 (i:=i) (by omega);have hm:=bn1 q x hq (hp.2.2.1 x hx);rw[bv1 hdr] at ha;simp only[go_sem,ht6,d1,d2,hget,ag3,ae8,ae4,ai9,ag5,af9]
  first|refine aa4 fok105 (hm) ?_|refine aa2 (hm) ?_
  cases hb:named q x with
  | true=>
   rw[hb,Bool.true_or] at ha;simp only[go_sem]
   exact ab2 ha.symm
  | false=>
   rw[hb,Bool.false_or] at ha;simp only[go_sem,w1];exact ⟨hlt,ha⟩
 ·have hi':i=p.aa8.length:=by omega
  subst hi';have d1:¬ (p.aa8.length:Int)<p.aa8.length:=by omega
  rw[List.drop_length,List.any_nil] at ha;simp only[go_sem,ht6,d1];exact ab2 ha.symm
theorem bi1 (l:List Int):∀ x∈l.map Md.af2,x.length=1/\x.all IV.leaf=true:=fun x hx=>by
 obtain ⟨n,_,rfl⟩:=List.mem_map.1 hx; exact ⟨rfl,rfl⟩
theorem db6 (l:List aa3)(d:Dep)(hl:l.length<2^30)(hs:∀ p∈l,Pkg.small p)(hd:Dep.small d):PC Tryz.prog EE 77 [ar8 l,.agg d.cs] (.aa5 ((al8 l d).map Md.af2)):=by
 refine af5 hE fok77 (nZ rfl) (ag9 (ao6 l) (aj8 d)) ?_;have hM:al8 l d=numsOf (fun p=>named p d) l:=rfl;rw[hM];simp only[ic77,go_sem,af9];refine ab5 noT (fun i fr t=>∃ gv,fr=[(0,ar8 l),(3,.ab7 d.cs),(5,gv),(6,.int .i64 (i:Int))]/\Grow t gv 1 ((numsOf (fun p=>named p d) (l.take i)).map Md.af2)) l.length ⟨.aa1,rfl,.inl ⟨rfl,rfl⟩⟩ ?_;rintro i fr t hi ⟨gv,rfl,hg⟩;by_cases hlt:i<l.length
 ·obtain ⟨x,hx,hxi,hdr,hget,htk⟩:=ad5 l i hlt;have d1:(i:Int)<l.length:=by omega
  have d2:(0:Int)<=(i:Int):=by omega
  have w1:=ad9 (i:=i) (by omega);have hm:=bn1 x d (hs x hx) hd;have hsn:=at1 (fun p=>named p d) (l.take i) x;rw[<- htk,List.length_take,Nat.min_eq_left (by omega)] at hsn;simp only[go_sem,d1,d2,hget,ag3,ae8,ae4,ai9,ag5,af9]
  first|refine aa4 fok105 (hm) ?_|refine aa2 (hm) ?_
  cases hb:named x d with
  | true=>
   rw[if_pos hb] at hsn;have hnl:=ag7 (fun p=>named p d) (l.take i);rw[List.length_take] at hnl;obtain ⟨v',σ',h1,h2,h3⟩:=ay7 (n:=7) (nid:=t.next+6) (e:=[.int .i64 (i:Int)]) hg (bi1 _) ⟨rfl,rfl⟩ (by rw[List.length_map]; omega) (by omega) (by omega);have h1':ba7 ({ next:=t.next+6+1,obj:=t.obj }:Store) (t.next+6) 1 gv (.aa5 [[.int .i64 (i:Int)]])=some (v',σ'):=h1;simp only[go_sem,h1',w1];refine ⟨hlt,v',rfl,?_⟩;rw[hsn,List.map_append]
   exact h3
  | false=>
   rw[if_neg (by rw[hb]; simp),List.append_nil] at hsn;simp only[go_sem,w1];exact ⟨hlt,gv,rfl,by rw[hsn]; exact hg.mono (Nat.le_add_right _ _) fun _ _ _=>rfl⟩
 ·have hi':i=l.length:=by omega
  subst hi';have d1:¬ (l.length:Int)<l.length:=by omega
  rw[List.take_length] at hg;simp only[go_sem,d1]
  exact hg.frz (fun x hx=>(bi1 _ x hx).1) (fun _ _=>Nat.not_lt_zero _) fun e he c hc=>by
   obtain ⟨n,_,rfl⟩:=List.mem_map.1 he;exact am3 (.int _ _) c hc
theorem di2 (l:List aa3)(d:Dep)(hl:l.length<2^30)(hs:∀ p∈l,Pkg.small p)(hd:Dep.small d):PC Tryz.prog EE 76 [ar8 l,.agg d.cs] (.aa5 ((al7 l d).map Md.af2)):=by
 refine af5 hE fok76 (nZ rfl) (ag9 (ao6 l) (aj8 d)) ?_;have hM:al7 l d=numsOf (fun p=>provides p d) l:=rfl;rw[hM];simp only[ic76,go_sem,af9];refine ab5 noT (fun i fr t=>∃ gv,fr=[(0,ar8 l),(3,.ab7 d.cs),(5,gv),(6,.int .i64 (i:Int))]/\Grow t gv 1 ((numsOf (fun p=>provides p d) (l.take i)).map Md.af2)) l.length ⟨.aa1,rfl,.inl ⟨rfl,rfl⟩⟩ ?_;rintro i fr t hi ⟨gv,rfl,hg⟩;by_cases hlt:i<l.length
 ·obtain ⟨x,hx,hxi,hdr,hget,htk⟩:=ad5 l i hlt;have d1:(i:Int)<l.length:=by omega
  have d2:(0:Int)<=(i:Int):=by omega
  have w1:=ad9 (i:=i) (by omega);have hm:=di1 x d (hs x hx) hd;have hsn:=at1 (fun p=>provides p d) (l.take i) x;rw[<- htk,List.length_take,Nat.min_eq_left (by omega)] at hsn;simp only[go_sem,d1,d2,hget,ag3,ae8,ae4,ai9,ag5,af9]
  first|refine aa4 fok123 (hm) ?_|refine aa2 (hm) ?_
  cases hb:provides x d with
  | true=>
   rw[if_pos hb] at hsn;have hnl:=ag7 (fun p=>provides p d) (l.take i);rw[List.length_take] at hnl;obtain ⟨v',σ',h1,h2,h3⟩:=ay7 (n:=7) (nid:=t.next+6) (e:=[.int .i64 (i:Int)]) hg (bi1 _) ⟨rfl,rfl⟩ (by rw[List.length_map]; omega) (by omega) (by omega);have h1':ba7 ({ next:=t.next+6+1,obj:=t.obj }:Store) (t.next+6) 1 gv (.aa5 [[.int .i64 (i:Int)]])=some (v',σ'):=h1;simp only[go_sem,h1',w1];refine ⟨hlt,v',rfl,?_⟩;rw[hsn,List.map_append]
   exact h3
  | false=>
   rw[if_neg (by rw[hb]; simp),List.append_nil] at hsn;simp only[go_sem,w1];exact ⟨hlt,gv,rfl,by rw[hsn]; exact hg.mono (Nat.le_add_right _ _) fun _ _ _=>rfl⟩
 ·have hi':i=l.length:=by omega
  subst hi';have d1:¬ (l.length:Int)<l.length:=by omega
  rw[List.take_length] at hg;simp only[go_sem,d1]
  exact hg.frz (fun x hx=>(bi1 _ x hx).1) (fun _ _=>Nat.not_lt_zero _) fun e he c hc=>by
   obtain ⟨n,_,rfl⟩:=List.mem_map.1 he;exact am3 (.int _ _) c hc
theorem eb7 {α:Type}(q:α->Bool):∀ (l:List α) (i:Int),ah8 q l i=-1/\(∀ x∈l,q x=false)\/∃ k,∃ h:k<l.length,ah8 q l i=i+k/\q l[k]=true/\∀ x∈l.take k,q x=false:=by
 intro l
 induction l with
 | nil=>intro i; exact .inl ⟨rfl,fun x h=>by cases h⟩
 | cons a l ih=>
  intro i;simp only[ah8]
  cases hq:q a with
  | true=>exact .inr ⟨0,by simp,by simp,by simpa using hq,fun x h=>by cases h⟩
  | false=>
   simp only[Bool.false_eq_true,if_false];rcases ih (i+1) with ⟨h1,h2⟩|⟨k,h,h1,h2,h3⟩
   ·exact .inl ⟨h1,fun x hx=>by
     rcases List.mem_cons.1 hx with rfl|hx
     ·exact hq
     ·exact h2 x hx⟩
   ·refine .inr ⟨k+1,by simp only[List.length_cons]; omega,by rw[h1]; omega,by simpa using h2,fun x hx=>?_⟩;rw[List.take_succ_cons] at hx;rcases List.mem_cons.1 hx with rfl|hx
    ·exact hq
    ·exact h3 x hx
theorem co5 {q:Int->Bool}{l:List Int}(h:∀ x∈l,q x=false):(l.filter fun x=>!q x)=l:=List.filter_eq_self.2 fun x hx=>by rw[h x hx]; rfl
theorem gh6 {σ:Store}{id:Nat}{cs:List IV}{zs:List Int}(ho:σ.obj id=some (.row cs))(hct:cs.take zs.length=zs.map dw1)(hcl:zs.length<=cs.length):dj1 σ 0 (.slice id 0 zs.length 1) (.aa5 (zs.map Md.af2)):=by
 refine .slice id 0 zs.length 1 cs (zs.map Md.af2) (Nat.not_lt_zero _) (.inr ho) (by rw[List.length_map]) (by omega) (fun i hi=>?_) fun i hi j hj=>?_
 ·simp[List.getD_eq_getElem?_getD,hi,Md.af2]
 ·have hj0:j=0:=by omega
  subst hj0;have e2:((zs.map Md.af2).getD i []).getD 0 .undef=dw1 zs[i]:=by simp[List.getD_eq_getElem?_getD,hi,Md.af2]
  rw[e2,Nat.zero_add,Nat.mul_one,Nat.add_zero,dw3 hct hi];exact .keep _ (.int _ _)
theorem fs4 {σ:Store}{id g:Nat}{cap cs0:List IV}{zs:List Int}(q:Int->Bool)(hz:zs.length<2^40)(ho:σ.obj id=some (.row cs0))(hct:cs0.take zs.length=zs.map dw1)(hcl:zs.length<=cs0.length)
  (hok:okF Tryz.prog g=true) (hcap:∀ c∈cap,Bnd 0 c) (hq:∀ z∈zs,PC Tryz.prog EE g (.int .i64 z::cap) (.bool (q z))) :
  C Tryz.prog EE 71 [.slice id 0 zs.length 1,.func (.func g) [] cap] σ (fun v s=>σ.next<=s.next/\(∀ i,i≠id->s.obj i=σ.obj i) /\
   ∃ cs,v=.slice id 0 (zs.filter fun x=>!q x).length 1/\s.obj id=some (.row cs)/\cs.take (zs.filter fun x=>!q x).length=(zs.filter fun x=>!q x).map dw1/\(zs.filter fun x=>!q x).length<=cs.length):=by
 refine C_f fok71 (nZ rfl) ?_;simp only[ic71,go_sem]
 have hI:=de9 (σ:=σ) (args:=[.slice id 0 zs.length 1,.func (.func g) [] cap]) (args':=[.aa5 (zs.map Md.af2),.func (.func g) [] cap]) hE rfl (fun i hi=>by
  match i,hi with
  | 0,_=>exact gh6 ho hct hcl
  | 1,_=>exact .keep _ (.func _ _ _ (fun c hc=>by cases hc) hcap)) (by simp[IV.plain]) (bu8 zs g [] cap q (by omega) hok hq)
 refine aj9 fok119 hI ?_;rintro v s ⟨rfl,rfl⟩;refine ⟨Nat.le_refl _,?_⟩;rcases eb7 q zs 0 with ⟨h1,h2⟩|⟨i0,hi0,h1,h2,h3⟩
 ·simp only[go_sem,h1,co5 h2];exact ⟨Nat.le_refl _,fun _ _=>trivial,cs0,ho,hct,hcl⟩
 have h1':ah8 q zs 0=(i0:Int):=by rw[h1]; omega
 have d1:¬ (i0:Int)=-1:=by omega
 have w0:=ad9 (i:=i0) (by omega);simp only[go_sem,h1',d1,w0]
 refine ab5 noT (fun j fr t=>∃ (k:Nat) (cs:List IV),fr=[(0,.slice id 0 zs.length 1),(1,.func (.func g) [] cap),(5,.int .i64 (k:Int)),(6,.int .i64 ((i0+1+j:Nat):Int))] /\
  (s.next<=t.next/\∀ q,q≠id->t.obj q=s.obj q)/\t.obj id=some (.row cs)/\cs.length=cs0.length/\k<=i0+j/\i0+1+j<=zs.length/\k=((zs.take (i0+1+j)).filter fun x=>!q x).length/\cs.take k=((zs.take (i0+1+j)).filter fun x=>!q x).map dw1 /\
  ∀ (x:Nat) (h:x<zs.length),i0+j<x->(cs.drop x).head? = some (.int .i64 zs[x])) (zs.length-(i0+1)) ?_ ?_
 ·have e:((zs.take (i0+1)).filter fun x=>!q x)=zs.take i0:=by
   rw[List.take_add_one,List.getElem?_eq_getElem hi0,List.filter_append,co5 h3];simp[h2]
  refine ⟨i0,cs0,rfl,⟨Nat.le_refl _,fun _ _=>rfl⟩,ho,rfl,by omega,by omega,?_,?_,fun x h _=>?_⟩
  ·rw[Nat.add_zero,e,List.length_take]; omega
  ·rw[Nat.add_zero,e,List.map_take,<- hct,List.take_take];congr 1; omega
  ·have:=dw3 hct h;rw[List.head?_drop];rw[List.getD_eq_getElem?_getD,List.getElem?_eq_getElem (by omega)] at this;rw[List.getElem?_eq_getElem (by omega)];exact congrArg some this
 rintro j fr t hj ⟨k,cs,rfl,⟨un,uo⟩,hoc,hcl2,hk1,hk2,hk3,hk4,hcs⟩;by_cases hlt:j<zs.length-(i0+1)
 ·have e1:((i0+1+j:Nat):Int)<zs.length:=by omega
  have e2:(0:Int)<=((i0+1+j:Nat):Int):=by omega
  have hx:i0+1+j<zs.length:=by omega
  have g1:=hcs (i0+1+j) hx (by omega);have w1:=ad9 (i:=i0+1+j) (by omega);have w2:=ad9 (i:=k) (by omega);have hqz:=hq _ (List.getElem_mem hx);have e3:(0:Int)<=(k:Int):=by omega
  have e4:(k:Int)<zs.length:=by omega
  have e5:k+1<=cs.length:=by omega
  have htk:(zs.take (i0+1+j+1)).filter (fun x=>!q x)=(zs.take (i0+1+j)).filter (fun x=>!q x)++if q zs[i0+1+j] then [] else [zs[i0+1+j]]:=by
   rw[List.take_add_one,List.getElem?_eq_getElem hx,List.filter_append];congr 1;simp only[Option.toList,List.filter_cons,List.filter_nil];cases q zs[i0+1+j]<;>rfl
  simp only[go_sem,e1,e2,hoc,g1,Int.toNat_natCast,Nat.zero_add,Nat.mul_one];refine an2 hok (ew4 hqz) ?_;rintro v u ⟨rfl,rfl⟩;refine ⟨Nat.le_refl _,?_⟩
  cases hb:q zs[i0+1+j] with
  | true=>
   rw[hb,if_pos rfl,List.append_nil] at htk;simp only[go_sem,w1]
   exact ⟨hlt,k,cs,rfl,⟨un,uo⟩,hoc,hcl2,by omega,by omega,by rw[show i0+1+(j+1)=i0+1+j+1 by omega,htk]; exact hk3,by rw[show i0+1+(j+1)=i0+1+j+1 by omega,htk]; exact hk4,fun x h hx=>hcs x h (by omega)⟩
  | false=>
   rw[hb,if_neg (by simp)] at htk;simp only[go_sem,w1,w2,e3,e4,e5,hoc,Int.toNat_natCast,Nat.zero_add,Nat.mul_one];refine ⟨hlt,k+1,az3 cs k [.int .i64 zs[i0+1+j]],rfl,⟨un,fun q hq=>?_⟩,?_,?_,by omega,by omega,?_,?_,fun x h hx=>?_⟩
   ·simp only[if_neg hq]; exact uo q hq
   ·rfl
   ·rw[ai3 (by rw[List.length_singleton]; omega)]; exact hcl2
   ·rw[show i0+1+(j+1)=i0+1+j+1 by omega,htk,List.length_append,<- hk3]; rfl
   ·rw[show i0+1+(j+1)=i0+1+j+1 by omega,htk,db2 (by omega),hk4,List.map_append]; rfl
   ·rw[db3 (by omega) (by omega)];exact hcs x h (by omega)
 ·have hj':i0+1+j=zs.length:=by omega
  have e1:¬ ((i0+1+j:Nat):Int)<zs.length:=by omega
  rw[hj',List.take_length] at hk3 hk4;have hkn:k<zs.length:=by omega
  simp only[go_sem,e1,fr4 (show k<=zs.length by omega),gm5 (show k<=zs.length by omega),hoc,hs8,fr5 hoc hkn (by omega)];have hrl:(rep [IV.int .i64 0] (zs.length-k)).length=zs.length-k:=by rw[aq7]; simp
  refine ⟨un,fun q hq=>?_,az3 cs k (rep [IV.int .i64 0] (zs.length-k)),by rw[hk3],by simp only[aa7,if_true],?_,?_⟩
  ·simp only[aa7,if_neg hq]; exact uo q hq
  ·rw[<- hk3,dr7 (by omega)]; exact hk4
  ·rw[ai3 (by rw[hrl]; omega),<- hk3]; omega
theorem eb8 (a:ab9)(down other:Bool)(old q:aa3)(h1:Pkg.small old)(h2:Pkg.small q):PC Tryz.prog EE 66 [.agg q.cs,.ab7 old.cs,.ab7 [.bool down],.ab7 [.bool other],.ab7 [a.v]] (.bool (ab9.df7 a.r.vendor down other old q)):=by
 refine af5 hE fok66 (nZ rfl) (gs7 (aj7 _) (.ab7 _ (ay6 _)) (.ab7 _ (am3 (.bool _))) (.ab7 _ (am3 (.bool _))) (.ab7 _ (am3 (ah1 a)))) ?_;have hf:=fa9 q.ao9 old.ao9;have hev:=be9 q.evr old.evr h2.1 h1.1;have p0:q.cs.head? = some (.str q.name):=rfl;have q0:old.cs.head? = some (.str old.name):=rfl;have p4:(q.cs.drop 4).head? = some (.int .u8 q.ao9):=rfl;have q4:(old.cs.drop 4).head? = some (.int .u8 old.ao9):=rfl;have p5:(q.cs.drop 5).head? = some (.str q.vendor):=rfl;have q5:(old.cs.drop 5).head? = some (.str old.vendor):=rfl;have p1:(q.cs.drop 1).take 3=q.evr.cs:=rfl;have q1:(old.cs.drop 1).take 3=old.evr.cs:=rfl;unfold ab9.df7;unfold ab9.v ab9.cs;by_cases e1:q.name=old.name
 case neg=>
  simp only[ic66,go_sem,al9,al2,ah9,p0,q0,e1];exact ab2 (by simp)
 simp only[ic66,go_sem,al9,al2,ah9,p0,q0,e1];cases down
 case' true=>simp only[go_sem]
 case' false=>
  simp only[go_sem,ci4,p1,q1]
  first|refine aa4 fok57 (hev) ?_|refine aa2 (hev) ?_
  by_cases e2:0<=au9 q.evr old.evr
  case neg=>
   simp only[go_sem,e2];exact ab2 (by simp)
  simp only[go_sem,e2]
 all_goals
  cases other
  case' true=>simp only[go_sem]
  case' false=>
   simp only[go_sem,p4,q4]
   first|refine aa4 fok67 (hf) ?_|refine aa2 (hf) ?_
   cases ar7 q.ao9 old.ao9
   case false=>
    simp only[go_sem];exact ab2 (by simp)
   simp only[go_sem]
  all_goals
   cases a.r.vendor
   case true=>
    simp only[go_sem];exact ab2 (by simp)
   by_cases e3:q.vendor=old.vendor
   ·simp only[go_sem,p5,q5,e3];exact ab2 (by simp)
   ·simp only[go_sem,p5,q5,e3];exact ab2 (by simp)
theorem co6 (l:List aa3)(n:Nat)(hl:l.length<2^20)(hn:n<l.length)(hs:∀ p∈l,Pkg.small p)(σ:Store):C Tryz.prog EE 15 [(ae2 l).v,.int .i64 n] σ (de5 σ (ad2 l n)):=by
 have hi:=av5 l;have hlook:=hi.over (l.getD n default).name
 have hsift:∀ (σ:Store) v,(v=.aa5 ((ac6 (ae2 l).over (l.getD n default).name).map Md.af2)\/v=.aa1/\ac6 (ae2 l).over (l.getD n default).name=[])->C Tryz.prog EE 49 [(ae2 l).v,v,.func (.func 50) [] [.ab7 [.int .i64 n],.ab7 [(ae2 l).v]]] σ (de5 σ (ad2 l n)):=by
  intro σ v hv
  have h:=gm7 (ae2 l) (ac6 (ae2 l).over (l.getD n default).name) (by rw[hlook]; have:=ag7 (fun p=>decide (∃ d∈p.aa8,d.name=(l.getD n default).name)) l; omega) 50 [.ab7 [.int .i64 n],.ab7 [(ae2 l).v]] (fun k=>decide (k.toNat≠n)&&aa8 (l.getD k.toNat default) (l.getD n default)) fok50.1 (fun k hk=>by
   rw[hlook] at hk;obtain ⟨m,rfl,hm⟩:=numsOf_at hk;refine ⟨m,rfl,by rw[hi.all]; exact hm,?_⟩;have e:(ae2 l).all[m]'(by rw[hi.all]; exact hm)=l[m]:=by simp only[hi.all]
   rw[e,Int.toNat_natCast,getD_at l m hm,getD_at l n hn];exact dr6 l m n hm hn hs) σ
  have e:ad2 l n=(ac6 (ae2 l).over (l.getD n default).name).filter fun k=>decide (k.toNat≠n)&&aa8 (l.getD k.toNat default) (l.getD n default):=rfl
  rw[<- e] at h;rcases hv with rfl|⟨rfl,h0⟩
  ·exact h
  ·rw[h0] at h;refine fr7 (args':=[(ae2 l).v,.aa5 [],.func (.func 50) [] [.ab7 [.int .i64 n],.ab7 [(ae2 l).v]]]) rfl (fun i hi=>?_) h;have hw:∀ {v:IV} {σ:Store},Bnd 0 v->Frz σ (fun _=>true=true) v v:=fun h=>.keep _ (h.weak fun _ _=>rfl)
   have hb:=av7 (ae2 l)
   match i,hi with
   | 0,_=>exact hw hb
   | 1,_=>exact .dd3
   | 2,_=>exact hw (.func _ _ _ (fun c hc=>by cases hc) (aj2 (.ab7 _ (am3 (.int _ _))) (.ab7 _ (am3 hb))))
 have hx:(ae2 l).v=.ab7 [.aa5 (l.map aa3.cs),.ak1 (nmV (ae2 l).as2),.ak1 (nmV (ae2 l).names),.ak1 (nmV (ae2 l).over)]:=by
  show IV.ab7 [.aa5 ((ae2 l).all.map aa3.cs),_,_,_]=_;rw[hi.all]
 have his:=eb2 (ae2 l) n
 have i1:(decide ((0:Int)<=(n:Int))&&decide ((n:Int)<(ae2 l).all.length))=true:=by
  rw[hi.all]; simp only[Bool.and_eq_true,decide_eq_true_eq]; omega
 rw[i1] at his
 have hk0:∀ σ:Store,∃ v,co8 σ 2 .aa1 false (.ak1 (nmV (ae2 l).over)) (.str (l.getD n default).name)=some v/\∀ τ,C Tryz.prog EE 49 [(ae2 l).v,v,.func (.func 50) [] [.ab7 [.int .i64 n],.ab7 [(ae2 l).v]]] τ (de5 τ (ad2 l n)):=fun σ=>
  let ⟨v,h1,h2⟩:=dr5 (ae2 l).over σ (l.getD n default).name
  ⟨v,h1,fun τ=>hsift τ v h2⟩
 have hg:(l.map aa3.cs).getD n []=l[n].cs:=by simp[List.getD_eq_getElem?_getD,hn]
 have hnm:(l.getD n default).name=l[n].name:=by rw[getD_at l n hn]
 have p0:l[n].cs.head? = some (.str l[n].name):=rfl;have hle:(l.map aa3.cs).length=l.length:=List.length_map ..;clear hsift hlook i1;rw[hnm] at hk0;rw[hx] at hk0 his ⊢;generalize ad2 l n=res at *;generalize l.map aa3.cs=a0 at *;generalize l[n]=q at *;have c1:(0:Int)<=n:=by omega
 have c2:(n:Int)<a0.length:=by omega
 refine C_f fok15 (nZ rfl) ?_;simp only[ic15,go_sem]
 first|refine aa4 fok48 (his) ?_|refine aa2 (his) ?_
 simp only[go_sem,c1,c2,hg,p0,ag3,ae8,ae4];obtain ⟨v,hk,hsv⟩:=hk0 ⟨σ.next+17,σ.obj⟩;simp only[go_sem,hk];refine aj9 fok49 (hsv _) ?_;rintro v' s ⟨hkp,hr⟩;refine ⟨hkp.next,?_⟩;simp only[go_sem];exact ⟨hkp.low,hr.low (Nat.le_add_right _ _)⟩
end Go.Id.Tryz
