/- The document's answers on names,versions,dependencies: walked. Conditions: sizes that fit. -/
import Derived.Test.YtebfbbjghhagbaaGreatDoorTMSD
import Derived.Test.YtebfbbjghhagbaaGreatDoorMv
import Derived.Test.YtebfbbjghhagbaaGreatDoorFwZb
import Derived.Test.YtebfbbjghhagbaaGreatDoorTMSJ
set_option linter.all false
namespace Go.Id.Tryz
open Go Go.Id Go.Proofs Go.Shelf Go.Id.Md
set_option maxRecDepth 100000
def alN (n:Nat):Bool:=decide (97<=n)&&decide (n<=122)||decide (65<=n)&&decide (n<=90)||decide (48<=n)&&decide (n<=57)
def gv3 (n:Nat):Bool:=alN n || [46,95,43,45,47,58,64,126,94].contains n
def je9 (n:Nat):Bool:=alN n || [46,95,43,126,94].contains n
theorem gb8 (b:UInt8):bd3 b=gv3 b.toNat:=by
 have h:∀ n,n<256->bd3 (UInt8.ofNat n)=gv3 n:=by decide +kernel
 have:=h b.toNat b.toNat_lt
 rwa [UInt8.ofNat_toNat] at this
theorem gv4 (b:UInt8):bk9 b=je9 b.toNat:=by
 have h:∀ n,n<256->bk9 (UInt8.ofNat n)=je9 n:=by decide +kernel
 have:=h b.toNat b.toNat_lt
 rwa [UInt8.ofNat_toNat] at this
theorem gv5 (a:Int):PC Tryz.prog EE 92 [.int .u8 a] (.bool (bt1 a)):=by
 refine ae8 hE fok92 (nZ rfl) (aj1 (.int _ _)) ?_;unfold bt1 an5;by_cases h1:(2:Int)<=a
 ·have e1:(1:Int)<=a:=by omega
  have e2:¬ a=1:=by omega
  simp only[ic92,go_sem,h1];exact ab2 (by simp[e1,e2])
 ·simp only[ic92,go_sem,h1];refine ab2 ?_;by_cases e:a=1
  ·simp[e]
  ·have:¬ (1:Int)<=a:=by omega
   simp[this]
theorem gv6 (n:Nat):PC Tryz.prog EE 210 [.int .u8 n] (.bool (gv3 n)):=by
 refine ae8 hE fok210 (nZ rfl) (aj1 (.int _ _)) ?_;by_cases g:n=46\/n=95\/n=43\/n=45\/n=47\/n=58\/n=64\/n=126\/n=94
 ·rcases g with rfl|rfl|rfl|rfl|rfl|rfl|rfl|rfl|rfl
  all_goals
   simp only[ic210,go_sem,Int.reduceNeg,Int.cast_ofNat_Int];exact ab2 (by decide)
 ·simp only[not_or] at g;obtain ⟨g1,g2,g3,g4,g5,g6,g7,g8,g9⟩:=g;have hc:[46,95,43,45,47,58,64,126,94].contains n=false:=by simp[g1,g2,g3,g4,g5,g6,g7,g8,g9]
  have f1:¬ (n:Int)=46:=by omega
  have f2:¬ (n:Int)=95:=by omega
  have f3:¬ (n:Int)=43:=by omega
  have f4:¬ (n:Int)=45:=by omega
  have f5:¬ (n:Int)=47:=by omega
  have f6:¬ (n:Int)=58:=by omega
  have f7:¬ (n:Int)=64:=by omega
  have f8:¬ (n:Int)=126:=by omega
  have f9:¬ (n:Int)=94:=by omega
  unfold gv3 alN;rw[hc,Bool.or_false];by_cases k1:(97:Int)<=n
  ·by_cases k2:(n:Int)<=122
   ·simp only[ic210,go_sem,k1,k2];have a1:97<=n:=by omega
    have a2:n<=122:=by omega
    exact ab2 (by simp[a1,a2])
   ·have k3:(65:Int)<=n:=by omega
    have k4:¬ (n:Int)<=90:=by omega
    have k5:(48:Int)<=n:=by omega
    have k6:¬ (n:Int)<=57:=by omega
    simp only[ic210,go_sem,k1,k2,k3,k4,k5,k6,f1,f2,f3,f4,f5,f6,f7,f8,f9];have a2:¬ n<=122:=by omega
    have a4:¬ n<=90:=by omega
    have a6:¬ n<=57:=by omega
    exact ab2 (by simp[a2,a4,a6])
  ·have a1:¬ 97<=n:=by omega
   by_cases k3:(65:Int)<=n
   ·by_cases k4:(n:Int)<=90
    ·simp only[ic210,go_sem,k1,k3,k4];have a3:65<=n:=by omega
     have a4:n<=90:=by omega
     exact ab2 (by simp[a3,a4])
    ·have k5:(48:Int)<=n:=by omega
     have k6:¬ (n:Int)<=57:=by omega
     simp only[ic210,go_sem,k1,k3,k4,k5,k6,f1,f2,f3,f4,f5,f6,f7,f8,f9];have a4:¬ n<=90:=by omega
     have a6:¬ n<=57:=by omega
     exact ab2 (by simp[a1,a4,a6])
   ·have a3:¬ 65<=n:=by omega
    by_cases k5:(48:Int)<=n
    ·by_cases k6:(n:Int)<=57
     ·simp only[ic210,go_sem,k1,k3,k5,k6];have a5:48<=n:=by omega
      have a6:n<=57:=by omega
      exact ab2 (by simp[a5,a6])
     ·simp only[ic210,go_sem,k1,k3,k5,k6,f1,f2,f3,f4,f5,f6,f7,f8,f9];have a6:¬ n<=57:=by omega
      exact ab2 (by simp[a1,a3,a6])
    ·simp only[ic210,go_sem,k1,k3,k5,f1,f2,f3,f4,f5,f6,f7,f8,f9];have a5:¬ 48<=n:=by omega
     exact ab2 (by simp[a1,a3,a5])
theorem dq7 (s:Str)(hs:s.length<2^62):PC Tryz.prog EE 136 [.str s] (.bool (ar1 s)):=by
 refine ae8 hE fok136 (nZ rfl) (aj1 (.str _)) ?_;unfold ar1;by_cases h1:1<=s.length
 case neg=>
  have c1:(s.length:Int)<1:=by omega
  simp only[ic136,go_sem,c1];exact ab2 (by simp[h1])
 by_cases h2:s.length<=64
 case neg=>
  have c1:¬ (s.length:Int)<1:=by omega
  have c2:(64:Int)<s.length:=by omega
  simp only[ic136,go_sem,c1,c2];exact ab2 (by simp[h2])
 have c1:¬ (s.length:Int)<1:=by omega
 have c2:¬ (64:Int)<s.length:=by omega
 by_cases hw:s∈words
 ·have hc:words.contains s=true:=by simpa using hw
  have e:s=[97,110,100]\/s=[111,114]\/s=[105,102]\/s=[101,108,115,101]\/s=[117,110,108,101,115,115]\/s=[119,105,116,104]\/s=[119,105,116,104,111,117,116]:=by simpa [words] using hw
  rw[hc];rcases e with rfl|rfl|rfl|rfl|rfl|rfl|rfl
  all_goals
   simp only[ic136,go_sem,c1,c2,List.length_cons,List.length_nil];exact ab2 (by decide)
 have hc:words.contains s=false:=by simpa using hw
 have hn:¬ s=[97,110,100]/\¬ s=[111,114]/\¬ s=[105,102]/\¬ s=[101,108,115,101]/\¬ s=[117,110,108,101,115,115]/\¬ s=[119,105,116,104]/\¬ s=[119,105,116,104,111,117,116]:=by simpa [words,not_or] using hw
 obtain ⟨n1,n2,n3,n4,n5,n6,n7⟩:=hn;rw[hc,decide_eq_true h1,decide_eq_true h2,Bool.true_and,Bool.true_and,Bool.not_false,Bool.and_true];simp only[ic136,go_sem,c1,c2,n1,n2,n3,n4,n5,n6,n7];refine ab7 noT (fun i fr t=>fr=[(0,.str s),(3,.int .i64 (i:Int))]/\(s.take i).all bd3=true) s.length ⟨rfl,rfl⟩ ?_;rintro i fr t hi ⟨rfl,ha⟩;by_cases hlt:i<s.length
 ·have d1:(i:Int)<s.length:=by omega
  have d2:(0:Int)<=i:=by omega
  have w1:=ad6 (i:=i) (by omega);have hsg:=gv6 s[i].toNat;rw[<- gb8] at hsg;simp only[go_sem,d1,d2,List.getElem?_eq_getElem hlt,Int.toNat_natCast]
  first|refine aa4 fok210 (hsg) ?_|refine aa2 (hsg) ?_
  cases hb:bd3 s[i] with
  | true=>
   simp only[go_sem,w1]
   exact ⟨hlt,by rw[cq5 hlt,ha,hb]; rfl⟩
  | false=>
   simp only[go_sem];exact ab2 (by rw[bg7 hlt hb])
 ·have d1:¬ (i:Int)<s.length:=by omega
  have e:i=s.length:=by omega
  subst e;rw[List.take_length] at ha;simp only[go_sem,d1];exact ab2 (by rw[ha])
theorem dq8 (s:Str)(hs:s.length<2^62):PC Tryz.prog EE 137 [.str s] (.bool (aw2 s)):=by
 refine ae8 hE fok137 (nZ rfl) (aj1 (.str _)) ?_;have h:=dq7 s hs;unfold aw2;simp only[ic137,go_sem]
 first|refine aa4 fok136 (h) ?_|refine aa2 (h) ?_
 cases hn:ar1 s with
 | false=>simp only[go_sem]; exact ab2 rfl
 | true=>
  cases s with
  | nil=>simp[ar1] at hn
  | cons b l=>
   simp only[go_sem,List.head?_cons];refine ab2 ?_
   have:(b.toNat:Int)=47↔b=47:=by
    constructor
    ·intro h; exact UInt8.toNat_inj.1 (by show b.toNat=47; omega)
    ·rintro rfl; rfl
   by_cases e:b=47
   ·subst e; rfl
   ·have e2:¬ (b.toNat:Int)=47:=fun h=>e (this.1 h)
    simp[e,e2]
theorem es8 (s:Str)(hs:s.length<2^62):PC Tryz.prog EE 211 [.str s] (.bool (ay4 s)):=by
 refine ae8 hE fok211 (nZ rfl) (aj1 (.str _)) ?_;simp only[ic211,go_sem];refine ab7 noT (fun i fr t=>fr=[(0,.str s),(3,.int .i64 (i:Int))]/\(s.take i).all bk9=true) s.length ⟨rfl,rfl⟩ ?_;rintro i fr t hi ⟨rfl,ha⟩;by_cases hlt:i<s.length
 ·have d1:(i:Int)<s.length:=by omega
  have d2:(0:Int)<=i:=by omega
  have w1:=ad6 (i:=i) (by omega);have hv:=gv4 s[i];have step:bk9 s[i]=true->(s.take (i+1)).all bk9=true:=fun h=>by rw[cq5 hlt,ha,h]; rfl
  have fin:bk9 s[i]=false->ay4 s=false:=fun h=>by simp only[ay4,bg7 hlt h,Bool.and_false]
  simp only[go_sem,d1,d2,List.getElem?_eq_getElem hlt,Int.toNat_natCast];generalize s[i].toNat=n at *;by_cases g:n=46\/n=95\/n=43\/n=126\/n=94
  ·rcases g with rfl|rfl|rfl|rfl|rfl
   all_goals
    simp only[go_sem,Int.cast_ofNat_Int,Int.reduceEq,w1];exact ⟨hlt,step (hv.trans (by decide))⟩
  ·simp only[not_or] at g;obtain ⟨g1,g2,g3,g4,g5⟩:=g;have hc:[46,95,43,126,94].contains n=false:=by simp[g1,g2,g3,g4,g5]
   have f1:¬ (n:Int)=46:=by omega
   have f2:¬ (n:Int)=95:=by omega
   have f3:¬ (n:Int)=43:=by omega
   have f4:¬ (n:Int)=126:=by omega
   have f5:¬ (n:Int)=94:=by omega
   unfold je9 alN at hv;rw[hc,Bool.or_false] at hv;by_cases k1:(97:Int)<=n
   ·have a5:(48:Int)<=n:=by omega
    have a6:¬ (n:Int)<=57:=by omega
    by_cases k2:(n:Int)<=122
    ·have a1:97<=n:=by omega
     have a2:n<=122:=by omega
     simp only[go_sem,k1,k2,a5,a6,w1];exact ⟨hlt,step (hv.trans (by simp[a1,a2]))⟩
    ·have k3:(65:Int)<=n:=by omega
     have k4:¬ (n:Int)<=90:=by omega
     simp only[go_sem,k1,k2,k3,k4,a5,a6,f1,f2,f3,f4,f5];have b2:¬ n<=122:=by omega
     have b4:¬ n<=90:=by omega
     have b6:¬ n<=57:=by omega
     exact ab2 (fin (hv.trans (by simp[b2,b4,b6]))).symm
   ·have b1:¬ 97<=n:=by omega
    by_cases k3:(65:Int)<=n
    ·have a5:(48:Int)<=n:=by omega
     have a6:¬ (n:Int)<=57:=by omega
     by_cases k4:(n:Int)<=90
     ·simp only[go_sem,k1,k3,k4,a5,a6,w1];have a3:65<=n:=by omega
      have a4:n<=90:=by omega
      exact ⟨hlt,step (hv.trans (by simp[a3,a4]))⟩
     ·simp only[go_sem,k1,k3,k4,a5,a6,f1,f2,f3,f4,f5];have b4:¬ n<=90:=by omega
      have b6:¬ n<=57:=by omega
      exact ab2 (fin (hv.trans (by simp[b1,b4,b6]))).symm
    ·have b3:¬ 65<=n:=by omega
     by_cases k5:(48:Int)<=n
     ·by_cases k6:(n:Int)<=57
      ·simp only[go_sem,k1,k3,k5,k6,w1];have a5:48<=n:=by omega
       have a6:n<=57:=by omega
       exact ⟨hlt,step (hv.trans (by simp[a5,a6]))⟩
      ·simp only[go_sem,k1,k3,k5,k6,f1,f2,f3,f4,f5];have b6:¬ n<=57:=by omega
       exact ab2 (fin (hv.trans (by simp[b1,b3,b6]))).symm
     ·simp only[go_sem,k1,k3,k5,f1,f2,f3,f4,f5];have b5:¬ 48<=n:=by omega
      exact ab2 (fin (hv.trans (by simp[b1,b3,b5]))).symm
 ·have d1:¬ (i:Int)<s.length:=by omega
  have e:i=s.length:=by omega
  subst e;rw[List.take_length] at ha;unfold ay4;rw[ha,Bool.and_true];by_cases h1:1<=s.length
  ·have c1:(1:Int)<=s.length:=by omega
   simp only[go_sem,d1,c1];refine ab2 ?_;have:decide ((s.length:Int)<=64)=decide (s.length<=64):=decide_eq_decide.2 (by omega);simp[h1,this]
  ·have c1:¬ (1:Int)<=s.length:=by omega
   simp only[go_sem,d1,c1];exact ab2 (by simp[h1])
theorem gb9 (e:EVR)(dep:Bool)(h1:e.ver.length<2^62)(h2:e.rel.length<2^62):PC Tryz.prog EE 138 [.agg e.cs,.bool dep] (.bool (bd4 e dep)):=by
 obtain ⟨ep,ver,rel⟩:=e;refine ae8 hE fok138 (nZ rfl) (aj6 (.agg _ (az8 (.int _ _) (.str _) (.str _))) (.bool _)) ?_;have hw:=es8 ver h1;have hw':=es8 rel h2;unfold bd4;by_cases a1:ep<0
 ·have b1:¬ (0:Int)<=ep:=by omega
  simp only[ic138,go_sem,EVR.cs,a1];exact ab2 (by simp[b1])
 have b1:(0:Int)<=ep:=by omega
 by_cases a2:2147483647<ep
 ·have b2:¬ ep<=2147483647:=by omega
  simp only[ic138,go_sem,EVR.cs,a1,a2];exact ab2 (by simp[b2])
 have b2:ep<=2147483647:=by omega
 simp only[b1,b2,decide_true,Bool.true_and];simp only[ic138,go_sem,EVR.cs,a1,a2]
 first|refine aa4 fok211 (hw) ?_|refine aa2 (hw) ?_
 cases hv:ay4 ver with
 | false=>simp only[go_sem]; exact ab2 (by simp)
 | true=>
  by_cases hr:rel=[]
  ·subst hr;simp only[go_sem];refine ab2 ?_;have:ay4 []=false:=by decide
   rw[this]; simp
  ·have he:rel.isEmpty=false:=by simpa using hr
   simp only[go_sem,hr]
   first|refine aa4 fok211 (hw') ?_|refine aa2 (hw') ?_
   simp only[go_sem];exact ab2 (by rw[he]; simp)
theorem ib9 (n:Int):PC Tryz.prog EE 154 [.int .u8 n] (.bool (dp4 n)):=by
 refine ae8 hE fok154 (nZ rfl) (aj1 (.int _ _)) ?_;unfold dp4;by_cases g:n=0\/n=1\/n=2\/n=3\/n=4\/n=6
 ·rcases g with rfl|rfl|rfl|rfl|rfl|rfl
  all_goals
   simp only[ic154,go_sem];exact ab2 (by decide)
 ·simp only[not_or] at g;obtain ⟨g1,g2,g3,g4,g5,g6⟩:=g;simp only[ic154,go_sem,g1,g2,g3,g4,g5,g6];exact ab2 (by simp[g1,g2,g3,g4,g5,g6])
theorem ic1 (e:EVR):allEq [1,2,2] e.cs fq2.cs=some (decide (e=fq2)):=by
 obtain ⟨ep,ver,rel⟩:=e;simp[EVR.cs,fq2,allEq,aj9]
theorem ej7 (d:Dep)(h1:d.name.length<2^62)(h2:d.evr.ver.length<2^62)(h3:d.evr.rel.length<2^62):PC Tryz.prog EE 93 [.agg d.cs] (.bool (ah5 d)):=by
 refine ae8 hE fok93 (nZ rfl) (aj1 (.agg _ (dr6 d))) ?_;have hn:=dq7 d.name h1;have hf:=dq8 d.name h1;have ho:=ib9 d.op;have hm:=gb9 d.evr true h2 h3;have he:=ic1 d.evr;unfold ah5;obtain ⟨name,op,⟨ep,ver,rel⟩⟩:=d;unfold EVR.cs fq2 at he;simp only at *;simp only[ic93,go_sem,Dep.cs]
 first|refine aa4 fok136 (hn) ?_|refine aa2 (hn) ?_
 cases ar1 name with
 | false=>simp only[go_sem]; exact ab2 (by simp)
 | true=>
  simp only[go_sem]
  first|refine aa4 fok154 (ho) ?_|refine aa2 (ho) ?_
  cases dp4 op with
  | false=>simp only[go_sem]; exact ab2 (by simp)
  | true=>
   by_cases h0:op=0
   ·simp only[go_sem,h0,he,Option.map_some];exact ab2 (by simp[fq2])
   ·simp only[go_sem,h0]
    first|refine aa4 fok137 (hf) ?_|refine aa2 (hf) ?_
    cases aw2 name with
    | true=>simp only[go_sem]; exact ab2 (by simp[h0])
    | false=>
     simp only[go_sem]
     first|refine aa4 fok138 (hm) ?_|refine aa2 (hm) ?_
     simp only[go_sem];exact ab2 (by simp[h0])
theorem gv7 (a:Int):PC Tryz.prog EE 139 [.int .u8 a] (.str (bg6 a)):=by
 refine ae8 hE fok139 (nZ rfl) (aj1 (.int _ _)) ?_;unfold bg6;by_cases g:a=1\/a=2\/a=3\/a=4
 ·rcases g with rfl|rfl|rfl|rfl
  all_goals
   simp only[ic139,go_sem];exact .keep _ (.str _)
 ·simp only[not_or] at g;obtain ⟨g1,g2,g3,g4⟩:=g;simp only[ic139,go_sem,g1,g2,g3,g4];exact .keep _ (.str _)
theorem ea7 (l:List Dep)(hl:l.length<2^31)(hf:∀ d∈l,d.fit):PC Tryz.prog EE 140 [deps l] (.bool (decide (l.length<=32)&&l.all ah5)):=by
 refine ae8 hE fok140 (nZ rfl) (aj1 (.aa5 _ fun e he c hc=>by obtain ⟨d,_,rfl⟩:=List.mem_map.1 he; exact dr6 d c hc)) ?_;by_cases h1:l.length<=32
 case neg=>
  have c1:(32:Int)<l.length:=by omega
  simp only[ic140,go_sem,c1];exact ab2 (by simp[h1])
 have c1:¬ (32:Int)<l.length:=by omega
 simp only[ic140,go_sem,c1];refine ab7 noT (fun i fr t=>fr=[(0,deps l),(3,.int .i64 (i:Int))]/\(l.drop i).all ah5=l.all ah5) l.length ⟨rfl,rfl⟩ ?_;rintro i fr t hi ⟨rfl,ha⟩;by_cases hlt:i<l.length
 ·obtain ⟨x,hx,_,hdr,hget,_⟩:=ae3 l i hlt;have d1:(i:Int)<l.length:=by omega
  have d2:(0:Int)<=i:=by omega
  have w1:=ad6 (i:=i) (by omega);have hm:=ej7 x (hf x hx).1 (hf x hx).2.1 (hf x hx).2.2;have dl:x.cs.length=5:=rfl;have dt:x.cs.take 5=x.cs:=rfl;have df:x.cs.all IV.leaf=true:=rfl;rw[hdr,List.all_cons] at ha;simp only[go_sem,d1,d2,hget,dl,dt,df]
  first|refine aa4 fok93 (hm) ?_|refine aa2 (hm) ?_
  cases hb:ah5 x with
  | true=>
   rw[hb,Bool.true_and] at ha;simp only[go_sem,w1]
   exact ⟨hlt,ha⟩
  | false=>
   rw[hb,Bool.false_and] at ha;simp only[go_sem];exact ab2 (by rw[<- ha]; simp)
 ·have d1:¬ (i:Int)<l.length:=by omega
  have e:i=l.length:=by omega
  subst e;rw[List.drop_length] at ha;simp only[go_sem,d1];exact ab2 (by rw[<- ha]; simp[h1])
theorem gc1 (r:aa8):r.fit->r.count<2^62->PC Tryz.prog EE 253 [.agg r.cs] (.int .i64 r.count):=by
 induction r using aa8.ind with
 | h k d xs ih=>
  intro hf hc;obtain ⟨f1,f2,f3,f4,f5⟩:=aa8.bk1.1 hf;refine ae8 hE fok253 (nZ rfl) (ae2 (af7 _)) ?_;rw[aa8.an4];simp only[aa8.count] at hc ⊢;simp only[ic253,go_sem,aa8.kind,aa8.args,aa8.dep];refine ab7 noT (fun i fr σ=>∃ n:Nat,fr=[(1,.ac1 [.int .u8 k,.str d.name,.int .u8 d.op,.int .i64 d.evr.am7,.str d.evr.ver,.str d.evr.rel,.aa5 (xs.map aa8.cs)]),(3,.int .i64 n),(4,.int .i64 i)]/\n+aa8.counts (xs.drop i)=aa8.counts xs+1) xs.length ⟨1,rfl,by simp; omega⟩ ?_;rintro i fr σ hi ⟨n,rfl,hn⟩;by_cases hlt:i<xs.length
  ·obtain ⟨a,ha,_,hdr,hget,_⟩:=ae3 xs i hlt;have c1:(i:Int)<xs.length:=by omega
   have c2:(0:Int)<=i:=by omega
   have w1:=ad6 (i:=i) (by omega);rw[hdr] at hn;simp only[aa8.counts] at hn;have hcm:=aa8.dj4 ha;have hl:a.cs.all IV.leaf=true:=by rw[aa8.an4]; rfl
   have ht:a.cs.take 7=a.cs:=List.take_of_length_le (by rw[ab9]; exact Nat.le_refl _);have hA:=ih a ha (f5 a ha) (by omega);have w2:IntKind.i64.wrap ((n:Int)+(a.count:Int))=((n+a.count:Nat):Int):=by rw[wrap64 (by omega) (by omega)]; omega
   simp only[go_sem,c1,c2,hget,ab9,ht,hl,List.drop_zero]
   first|refine aa4 fok253 (hA) ?_|refine aa2 (hA) ?_
   simp only[go_sem,w2,w1];exact ⟨hlt,n+a.count,rfl,by omega⟩
  ·have d1:¬ (i:Int)<xs.length:=by omega
   have e:i=xs.length:=by omega
   subst e;rw[List.drop_length] at hn;simp only[aa8.counts] at hn;simp only[go_sem,d1];exact bv6 (by omega)
theorem gc2 (r:aa8):r.fit->r.depth<2^62->PC Tryz.prog EE 254 [.agg r.cs] (.int .i64 r.depth):=by
 induction r using aa8.ind with
 | h k d xs ih=>
  intro hf hd;obtain ⟨f1,f2,f3,f4,f5⟩:=aa8.bk1.1 hf;refine ae8 hE fok254 (nZ rfl) (ae2 (af7 _)) ?_;rw[aa8.an4];by_cases hk:k=1
  ·simp only[ic254,go_sem,aa8.kind,aa8.depth,hk];exact ae1 _ _
  ·simp only[aa8.depth,hk,if_false] at hd ⊢;simp only[ic254,go_sem,aa8.kind,aa8.args,aa8.dep,hk];refine ab7 noT (fun i fr σ=>∃ n:Nat,fr=[(1,.ac1 [.int .u8 k,.str d.name,.int .u8 d.op,.int .i64 d.evr.am7,.str d.evr.ver,.str d.evr.rel,.aa5 (xs.map aa8.cs)]),(3,.int .i64 n),(4,.int .i64 i)]/\max n (aa8.bd5 (xs.drop i))=aa8.bd5 xs) xs.length ⟨0,rfl,by simp⟩ ?_;rintro i fr σ hi ⟨n,rfl,hn⟩;by_cases hlt:i<xs.length
   ·obtain ⟨a,ha,_,hdr,hget,_⟩:=ae3 xs i hlt;have c1:(i:Int)<xs.length:=by omega
    have c2:(0:Int)<=i:=by omega
    have w1:=ad6 (i:=i) (by omega);rw[hdr,cw9] at hn;have hl:a.cs.all IV.leaf=true:=by rw[aa8.an4]; rfl
    have ht:a.cs.take 7=a.cs:=List.take_of_length_le (by rw[ab9]; exact Nat.le_refl _);have hA:=ih a ha (f5 a ha) (by omega);simp only[go_sem,c1,c2,hget,ab9,ht,hl,List.drop_zero]
    first|refine aa4 fok254 (hA) ?_|refine aa2 (hA) ?_
    by_cases hg:n<a.depth
    ·have g1:(n:Int)<(a.depth:Int):=by omega
     simp only[go_sem,g1,w1];exact ⟨hlt,a.depth,rfl,by rw[<- hn]; omega⟩
    ·have g1:¬ (n:Int)<(a.depth:Int):=by omega
     simp only[go_sem,g1,w1];exact ⟨hlt,n,rfl,by rw[<- hn]; omega⟩
   ·have d1:¬ (i:Int)<xs.length:=by omega
    have e:i=xs.length:=by omega
    subst e;rw[List.drop_length] at hn;simp only[aa8.bd5] at hn;have w2:IntKind.i64.wrap ((n:Int)+1)=((n+1:Nat):Int):=ad6 (i:=n) (by omega);simp only[go_sem,d1,w2];exact bv6 (by omega)
theorem ic2 (d:Dep):allEq [2,1,1,2,2] d.cs by2.cs=some (decide (d=by2)):=by
 obtain ⟨name,op,⟨ep,ver,rel⟩⟩:=d;simp[Dep.cs,by2,fq2,allEq,aj9]
theorem gv8 (wh:Int)(r:aa8):r.fit->∀ alone:Bool,PC Tryz.prog EE 255 [.agg r.cs,.int .u8 wh,.bool alone] (.bool (r.co1 wh alone)):=by
 induction r using aa8.ind with
 | h k d xs ih=>
  intro hf alone;obtain ⟨f1,f2,f3,f4,f5⟩:=aa8.bk1.1 hf;have hbA:=af7 (.mk k d xs);have hm:=ej7 d f3.1 f3.2.1 f3.2.2;have he:allEq [2,1,1,2,2] [.str d.name,.int .u8 d.op,.int .i64 d.evr.am7,.str d.evr.ver,.str d.evr.rel] [.str [],.int .u8 0,.int .i64 0,.str [],.str []]=some (decide (d=by2)):=ic2 d;unfold Dep.cs at hm;rw[aa8.an4] at hbA ⊢;simp only[aa8.co1,aa8.fk7];unfold gt6;by_cases k1:k=1
  ·subst k1;refine ae8 hE fok255 (nZ rfl) (az8 hbA (.int _ _) (.bool _)) ?_;by_cases hz:xs.length=0
   ·have e:xs=[]:=List.length_eq_zero_iff.1 hz;subst e;simp only[ic255,go_sem,aa8.kind,aa8.args,aa8.dep,List.map_nil,List.length_nil]
    first|refine aa4 fok93 (hm) ?_|refine aa2 (hm) ?_
    simp only[go_sem];exact ab2 (by simp)
   ·have c0:¬ (xs.length:Int)=0:=by omega
    simp only[ic255,go_sem,aa8.kind,aa8.args,aa8.dep,c0];exact ab2 (by simp[hz])
  rw[if_neg k1];obtain ⟨okb,hok⟩:∃ okb,okb=(if k=2\/k=3\/k=6 then decide (2<=xs.length) else if k=7 then decide (xs.length=2) else if k=4 then (decide (xs.length=2)||decide (xs.length=3))&&!alone&&decide (wh=1) else if k=5 then (decide (xs.length=2)||decide (xs.length=3))&&!alone&&decide (wh<=2) else false):=⟨_,rfl⟩;obtain ⟨al,hal⟩:∃ al,al=(alone||decide (k=6)||decide (k=7)):=⟨_,rfl⟩;rw[<- hok,<- hal];have hA:=fun x hx=>ih x hx (f5 x hx) al
  clear ih;refine hx8 hE fok255 (nZ rfl) (az8 hbA (.int _ _) (.bool _)) ?_;simp only[aa8.kind,aa8.args,aa8.dep] at *;obtain ⟨rc,hrc⟩:∃ rc,rc=[IV.int .u8 k,.str d.name,.int .u8 d.op,.int .i64 d.evr.am7,.str d.evr.ver,.str d.evr.rel,.aa5 (xs.map aa8.cs)]:=⟨_,rfl⟩;have r0:rc.head? = some (.int .u8 k):=by rw[hrc]; rfl
  have r6:(rc.drop 6).head? = some (.aa5 (xs.map aa8.cs)):=by rw[hrc]; rfl
  have r1:(rc.drop 1).take 5=[.str d.name,.int .u8 d.op,.int .i64 d.evr.am7,.str d.evr.ver,.str d.evr.rel]:=by rw[hrc]; rfl
  have rl:rc.length=7:=by rw[hrc]; rfl
  have rt:rc.take 7=rc:=by rw[hrc]; rfl
  have rf:rc.all IV.leaf=true:=by rw[hrc]; rfl
  have rl1:(rc.drop 1).length=6:=by rw[hrc]; rfl
  rw[<- hrc];clear hrc hbA;simp only[ic255];refine ae5 (ah7 ?_);simp only[go_sem,rl,rt,rf];refine ae5 (ah7 ?_);simp only[go_sem,r6];refine ae5 (ah7 ?_);simp only[go_sem];refine ae5 (az1 (Q:=fun e f s=>e=.normal/\∃ rst:Frm,f=(1,.int .u8 wh)::(2,.bool al)::(3,.ac1 rc)::(7,.int .i64 xs.length)::(8,.bool okb)::rst) (ah7 ?_) ?_)
  ·have i2:decide ((2:Int)<=xs.length)=decide (2<=xs.length):=decide_eq_decide.2 (by omega);have e2:decide ((xs.length:Int)=2)=decide (xs.length=2):=decide_eq_decide.2 (by omega);have e3:decide ((xs.length:Int)=3)=decide (xs.length=3):=decide_eq_decide.2 (by omega);have n1:¬ k=1:=k1;by_cases k2:k=2
   ·subst k2;simp only[go_sem,Int.reduceEq,r0,i2,hok,hal];exact ⟨[],by simp⟩
   by_cases k3:k=3
   ·subst k3;simp only[go_sem,Int.reduceEq,r0,i2,hok,hal];exact ⟨[],by simp⟩
   by_cases k6:k=6
   ·subst k6;simp only[go_sem,Int.reduceEq,r0,i2,hok,hal];exact ⟨[],by simp⟩
   by_cases k7:k=7
   ·subst k7;simp only[go_sem,Int.reduceEq,r0,e2,hok,hal];exact ⟨[],by simp⟩
   by_cases k4:k=4
   ·subst k4;by_cases n2:xs.length=2
    ·have c2:(xs.length:Int)=2:=by omega
     cases alone<;>(simp only[go_sem,Int.reduceEq,r0,c2,hok,hal,n2]; exact ⟨[],by simp⟩)
    ·have c2:¬ (xs.length:Int)=2:=by omega
     by_cases n3:xs.length=3
     ·have c3:(xs.length:Int)=3:=by omega
      cases alone<;>(simp only[go_sem,Int.reduceEq,r0,c2,c3,hok,hal,n2,n3]; exact ⟨[],by simp⟩)
     ·have c3:¬ (xs.length:Int)=3:=by omega
      simp only[go_sem,Int.reduceEq,r0,c2,c3,hok,hal,n2,n3];exact ⟨[],by simp⟩
   by_cases k5:k=5
   ·subst k5;by_cases n2:xs.length=2
    ·have c2:(xs.length:Int)=2:=by omega
     cases alone<;>(simp only[go_sem,Int.reduceEq,r0,c2,hok,hal,n2]; exact ⟨[],by simp⟩)
    ·have c2:¬ (xs.length:Int)=2:=by omega
     by_cases n3:xs.length=3
     ·have c3:(xs.length:Int)=3:=by omega
      cases alone<;>(simp only[go_sem,Int.reduceEq,r0,c2,c3,hok,hal,n2,n3]; exact ⟨[],by simp⟩)
     ·have c3:¬ (xs.length:Int)=3:=by omega
      simp only[go_sem,Int.reduceEq,r0,c2,c3,hok,hal,n2,n3];exact ⟨[],by simp⟩
   simp only[go_sem,Int.reduceEq,r0,n1,k2,k3,k4,k5,k6,k7,hok,hal];exact ⟨[(53,.bool false)],by simp⟩
  rintro e f s ⟨rfl,rst,rfl⟩;simp only[go_sem];refine ae5 (ah7 ?_)
  cases hob:okb with
  | false=>
   simp only[go_sem]
   exact ab2 (by simp)
  | true=>
  by_cases hd:d=by2
  case neg=>
   rw[decide_eq_false hd] at he;simp only[go_sem,rl1,r1,he,Option.map_some];exact ab2 (by simp[hd])
  rw[decide_eq_true hd] at he;simp only[go_sem,rl1,r1,he,Option.map_some];refine ah7 ?_;simp only[go_sem];refine ab7 noT (fun i fr t=>fr=[(1,.int .u8 wh),(2,.bool al),(3,.ac1 rc),(7,.int .i64 xs.length),(9,.int .i64 (i:Int))]/\((xs.drop i).all fun r=>r.co1 wh al)=xs.all fun r=>r.co1 wh al) xs.length ⟨rfl,rfl⟩ ?_;rintro i fr t hi ⟨rfl,ha⟩;by_cases hlt:i<xs.length
  ·obtain ⟨x,hx,_,hdr,hget,_⟩:=ae3 xs i hlt;have d1:(i:Int)<xs.length:=by omega
   have d2:(0:Int)<=i:=by omega
   have w1:=ad6 (i:=i) (by omega);have hl:x.cs.all IV.leaf=true:=by rw[aa8.an4]; rfl
   have ht:x.cs.take 7=x.cs:=List.take_of_length_le (by rw[ab9]; exact Nat.le_refl _);have hAx:=hA x hx;rw[hdr,List.all_cons] at ha;simp only[go_sem,d1,d2,r6,hget,ab9,ht,hl]
   first|refine aa4 fok255 (hAx) ?_|refine aa2 (hAx) ?_
   cases hb:x.co1 wh al with
   | true=>
    rw[hb,Bool.true_and] at ha;simp only[go_sem,w1]
    exact ⟨hlt,ha⟩
   | false=>
    rw[hb,Bool.false_and] at ha;simp only[go_sem];exact ab2 (by rw[<- ha]; simp)
  ·have d1:¬ (i:Int)<xs.length:=by omega
   have e:i=xs.length:=by omega
   subst e;rw[List.drop_length] at ha;simp only[go_sem,d1];exact ab2 (by rw[<- ha]; simp[hd])
theorem ic3 (r:aa8)(wh:Int)(hf:r.fit)(hc:r.count<2^31):PC Tryz.prog EE 212 [.agg r.cs,.int .u8 wh] (.int .i64 (ar4 r wh)):=by
 refine ae8 hE fok212 (nZ rfl) (aj6 (af7 _) (.int _ _)) ?_;have h1:=gc1 r hf (by omega);have hd:r.depth<2^62:=by have:=eu3 r; omega
 have h2:=gc2 r hf hd;have h3:=gv8 wh r hf false;rw[ei5];by_cases w1:wh<1
 ·rw[if_pos (.inl w1)];simp only[ic212,go_sem,ab4,w1];exact ae1 _ _
 by_cases w2:3<wh
 ·rw[if_pos (.inr w2)];simp only[ic212,go_sem,ab4,w1,w2];exact ae1 _ _
 rw[if_neg (by omega)];simp only[ic212,go_sem,ab4,w1,w2,ab9,ac6]
 first|refine aa4 fok253 (h1) ?_|refine aa2 (h1) ?_
 by_cases c1:24<r.count
 ·have d1:(24:Int)<r.count:=by omega
  rw[if_pos c1];simp only[go_sem,d1];exact ae1 _ _
 have d1:¬ (24:Int)<r.count:=by omega
 rw[if_neg c1];simp only[go_sem,d1,ab9,ac6,ab4]
 first|refine aa4 fok254 (h2) ?_|refine aa2 (h2) ?_
 by_cases c2:8<r.depth
 ·have d2:(8:Int)<r.depth:=by omega
  rw[if_pos c2];simp only[go_sem,d2];exact ae1 _ _
 have d2:¬ (8:Int)<r.depth:=by omega
 rw[if_neg c2];simp only[go_sem,d2,ab9,ac6,ab4]
 first|refine aa4 fok255 (h3) ?_|refine aa2 (h3) ?_
 cases r.co1 wh false with
 | true=>simp only[go_sem]; exact bv6 (by simp)
 | false=>simp only[go_sem]; exact bv6 (by simp)
theorem ej8 (l:List aa8)(wh:Int)(hl:l.length<2^31)(hf:∀ r∈l,r.fit/\r.count<2^31):PC Tryz.prog EE 141 [ai5 l,.int .u8 wh] (.bool (ad1 l wh)):=by
 refine ae8 hE fok141 (nZ rfl) (aj6 (aj7 l) (.int _ _)) ?_;unfold ad1;by_cases h1:l.length<=32
 case neg=>
  have c1:(32:Int)<l.length:=by omega
  simp only[ic141,go_sem,c1];exact ab2 (by simp[h1])
 have c1:¬ (32:Int)<l.length:=by omega
 simp only[ic141,go_sem,c1];refine ab7 noT (fun i fr t=>fr=[(0,ai5 l),(1,.int .u8 wh),(5,.int .i64 (i:Int))]/\((l.drop i).all fun r=>decide (ar4 r wh=0))=l.all fun r=>decide (ar4 r wh=0)) l.length ⟨rfl,rfl⟩ ?_;rintro i fr t hi ⟨rfl,ha⟩;by_cases hlt:i<l.length
 ·obtain ⟨x,hx,_,hdr,hget,_⟩:=ae3 l i hlt;have d1:(i:Int)<l.length:=by omega
  have d2:(0:Int)<=i:=by omega
  have w1:=ad6 (i:=i) (by omega);have hm:=ic3 x wh (hf x hx).1 (hf x hx).2;rw[hdr,List.all_cons] at ha;simp only[go_sem,d1,d2,hget,ab9,ac6,ab4]
  first|refine aa4 fok212 (hm) ?_|refine aa2 (hm) ?_
  by_cases hb:ar4 x wh=0
  ·rw[decide_eq_true hb,Bool.true_and] at ha;simp only[go_sem,hb,w1];exact ⟨hlt,ha⟩
  ·rw[decide_eq_false hb,Bool.false_and] at ha;simp only[go_sem,hb];exact ab2 (by rw[<- ha]; simp)
 ·have d1:¬ (i:Int)<l.length:=by omega
  have e:i=l.length:=by omega
  subst e;rw[List.drop_length] at ha;simp only[go_sem,d1];exact ab2 (by rw[<- ha]; simp[h1])
theorem es9 (p:aa3)(hf:p.Fit):PC Tryz.prog EE 79 [.agg p.cs] (.bool (af8 p)):=by
 refine ae8 hE fok79 (nZ rfl) (ae2 (am9 _)) ?_;have g1:=dq7 p.name hf.name;have g2:=dq8 p.name hf.name;have g3:=gb9 p.evr false hf.evr.1 hf.evr.2;have g4:=gv7 p.aq4;have g4':=bi8 p.aq4;unfold EVR.cs at g3;simp only[ic79,go_sem,ac9,aa3.cs]
 first|refine aa4 fok136 (g1) ?_|refine aa2 (g1) ?_
 cases h1:ar1 p.name with
 | false=>simp only[go_sem]; exact ab2 (by simp[af8,h1])
 | true=>
 simp only[go_sem]
 first|refine aa4 fok137 (g2) ?_|refine aa2 (g2) ?_
 cases h2:aw2 p.name with
 | true=>simp only[go_sem]; exact ab2 (by simp[af8,h2])
 | false=>
 simp only[go_sem]
 first|refine aa4 fok138 (g3) ?_|refine aa2 (g3) ?_
 cases h3:bd4 p.evr false with
 | false=>simp only[go_sem]; exact ab2 (by simp[af8,h3])
 | true=>
 simp only[go_sem]
 first|refine aa4 fok139 (g4) ?_|refine aa2 (g4) ?_
 cases h4:an5 p.aq4 with
 | false=>
  rw[h4] at g4'
  simp only[go_sem,g4']; exact ab2 (by simp[af8,h4])
 | true=>
 rw[h4] at g4';simp only[go_sem,g4'];by_cases h5:p.vendor.length<=64
 case neg=>
  have h5':(64:Int)<p.vendor.length:=by omega
  simp only[go_sem,h5']; exact ab2 (by simp[af8,h5])
 have h5':¬ (64:Int)<p.vendor.length:=by omega
 simp only[go_sem,h5'];by_cases h6:p.files.length<=32
 case neg=>
  have h6':(32:Int)<p.files.length:=by omega
  simp only[go_sem,h6']; exact ab2 (by simp[af8,h6])
 have h6':¬ (32:Int)<p.files.length:=by omega
 simp only[go_sem,h6'];have g6:=ea7 p.provides hf.av5.1 hf.av5.2;have g9:=ea7 p.aa9 hf.obs.1 hf.obs.2;have gr:=fun (l:List aa8) (wh:Int) (h:(wh,l)∈p.rows)=>ej8 l wh (hf.rich _ h).1 fun r hr=>(hf.rich _ h).2 r hr
 have r1:=gr p.requires 1 (by simp[aa3.rows]);have r2:=gr p.conflicts 2 (by simp[aa3.rows]);have r3:=gr p.ac3 1 (by simp[aa3.rows]);have r4:=gr p.ac2 3 (by simp[aa3.rows]);have r5:=gr p.suggests 1 (by simp[aa3.rows]);have r6:=gr p.ad7 3 (by simp[aa3.rows]);clear gr;refine ab7 noT (fun i fr s=>fr=[(1,.ac1 p.cs),(3,.int .i64 (i:Int))]/\rising p.files=rising (p.files.drop (i-1))/\(p.files.drop i).all aw2=p.files.all aw2) p.files.length ⟨rfl,rfl,rfl⟩ ?_;rintro i fr s hi ⟨rfl,hr,ha⟩;by_cases hlt:i<p.files.length
 ·obtain ⟨f,hfm,hfi,hdr,hget,_⟩:=ae3 p.files i hlt;have c1:(i:Int)<p.files.length:=by omega
  have c2:(0:Int)<=i:=by omega
  have w1:=ad6 (i:=i) (by omega);have gf:=dq8 f (hf.files.2 f hfm);have hget':(p.files.map bh4).getD i []=bh4 f:=hget bh4;rw[hdr,List.all_cons] at ha;simp only[go_sem,c1,c2,hget',bh4,aa3.cs]
  first|refine aa4 fok137 (gf) ?_|refine aa2 (gf) ?_
  cases hb:aw2 f with
  | false=>
   rw[hb,Bool.false_and] at ha;simp only[go_sem]
   exact ab2 (by simp[af8,<- ha])
  | true=>
   rw[hb,Bool.true_and] at ha;by_cases h0:0<i
   ·have c0:(0:Int)<i:=by omega
    obtain ⟨a,ha1,ha2⟩:=cx2 h0 hdr;have hget2:(p.files.map bh4).getD (i-1) []=bh4 a:=by simp[List.getD_eq_getElem?_getD,ha1]
    have w0:IntKind.i64.wrap ((i:Int)-1)=((i-1:Nat):Int):=by
     rw[wrap64 (by omega) (by omega)]; omega
    have c3:(0:Int)<=((i-1:Nat):Int):=by omega
    have c4:((i-1:Nat):Int)<p.files.length:=by omega
    rw[ha2] at hr;simp only[go_sem,c0,c1,c2,c3,c4,w0,hget',hget2,bh4,aa3.cs]
    cases hb2:Op.bytesLess a f with
    | true=>
     rw[hb2,Bool.true_and] at hr;simp only[go_sem,w1]
     exact ⟨hlt,hr,ha⟩
    | false=>
     rw[hb2,Bool.false_and] at hr;simp only[go_sem];exact ab2 (by simp[af8,hr])
   ·have c0:¬ (0:Int)<i:=by omega
    have e0:i=0:=by omega
    simp only[go_sem,c0,w1];refine ⟨hlt,?_,ha⟩;subst e0; exact hr
 ·have d1:¬ (i:Int)<p.files.length:=by omega
  have e:i=p.files.length:=by omega
  rw[e,List.drop_length] at ha
  have hris:rising p.files=true:=by
   rw[hr,e]
   cases hz:p.files with
   | nil=>rfl
   | cons a l=>
    have:(a::l).drop ((a::l).length-1)=[(a::l)[(a::l).length-1]]:=by
     rw[List.drop_eq_getElem_cons (by simp)];simp
    rw[this]; rfl
  have hall:p.files.all aw2=true:=ha.symm
  have hm:af8 p=((decide (p.provides.length<=32)&&p.provides.all ah5)&&(decide (p.aa9.length<=32)&&p.aa9.all ah5)&&ad1 p.requires 1&&ad1 p.ac3 1&&ad1 p.suggests 1&&ad1 p.conflicts 2&&ad1 p.ac2 3&&ad1 p.ad7 3):=by
   unfold af8;rw[h1,h2,h3,h4,hris,hall,decide_eq_true h5,decide_eq_true h6];generalize (decide (p.provides.length<=32)&&p.provides.all ah5)=A;generalize (decide (p.aa9.length<=32)&&p.aa9.all ah5)=B;generalize ad1 p.requires 1=C;generalize ad1 p.conflicts 2=D;generalize ad1 p.ac3 1=E;generalize ad1 p.ac2 3=F;generalize ad1 p.suggests 1=G;generalize ad1 p.ad7 3=H
   revert A B C D E F G H
   decide
  rw[hm];generalize (decide (p.provides.length<=32)&&p.provides.all ah5)=A at *;generalize (decide (p.aa9.length<=32)&&p.aa9.all ah5)=B at *;generalize ad1 p.requires 1=C at *;generalize ad1 p.conflicts 2=D at *;generalize ad1 p.ac3 1=E at *;generalize ad1 p.ac2 3=F at *;generalize ad1 p.suggests 1=G at *;generalize ad1 p.ad7 3=H at *;simp only[go_sem,d1,aa3.cs]
  first|refine aa4 fok140 (g6) ?_|refine aa2 (g6) ?_
  cases A with
  | false=>simp only[go_sem]; exact ab2 (by simp)
  | true=>
  simp only[go_sem]
  first|refine aa4 fok140 (g9) ?_|refine aa2 (g9) ?_
  cases B with
  | false=>simp only[go_sem]; exact ab2 (by simp)
  | true=>
  simp only[go_sem]
  first|refine aa4 fok141 (r1) ?_|refine aa2 (r1) ?_
  cases C with
  | false=>simp only[go_sem]; exact ab2 (by simp)
  | true=>
  simp only[go_sem]
  first|refine aa4 fok141 (r3) ?_|refine aa2 (r3) ?_
  cases E with
  | false=>simp only[go_sem]; exact ab2 (by simp)
  | true=>
  simp only[go_sem]
  first|refine aa4 fok141 (r5) ?_|refine aa2 (r5) ?_
  cases G with
  | false=>simp only[go_sem]; exact ab2 (by simp)
  | true=>
  simp only[go_sem]
  first|refine aa4 fok141 (r2) ?_|refine aa2 (r2) ?_
  cases D with
  | false=>simp only[go_sem]; exact ab2 (by simp)
  | true=>
  simp only[go_sem]
  first|refine aa4 fok141 (r4) ?_|refine aa2 (r4) ?_
  cases F with
  | false=>simp only[go_sem]; exact ab2 (by simp)
  | true=>
  simp only[go_sem]
  first|refine aa4 fok141 (r6) ?_|refine aa2 (r6) ?_
  simp only[go_sem];exact ab2 (by simp)
end Go.Id.Tryz
set_option linter.all false
namespace Go.Id.Tryz
open Go Go.Id Go.Proofs Go.Shelf Go.Id.Md
set_option maxRecDepth 100000
set_option maxHeartbeats 1000000
theorem gw7 (r:aa8):r.fit->PC Tryz.prog EE 213 [.agg r.cs] (.agg r.cs):=by
 induction r using aa8.ind with
 | h k d xs ih=>
  intro hf;obtain ⟨f1,f2,f3,f4,f5⟩:=aa8.bk1.1 hf;have hbA:=af7 (.mk k d xs);rw[aa8.an4] at hbA ⊢;simp only[aa8.kind,aa8.args,aa8.dep] at *;refine ae8 hE fok213 (nZ rfl) (aj1 hbA) ?_;simp only[ic213,go_sem]
  refine ab7 noT (fun i fr s=>∃ gv,fr=[(1,.ac1 [.int .u8 k,.str d.name,.int .u8 d.op,.int .i64 d.evr.am7,.str d.evr.ver,.str d.evr.rel,.aa5 (xs.map aa8.cs)]),(2,.ptr 0 0),(3,.ptr 1 0),(4,.int .i64 (i:Int))]/\2<=s.next /\
   s.obj 0=some (.cells [.int .u8 0,.str [],.int .u8 0,.int .i64 0,.str [],.str [],.aa1])/\s.obj 1=some (.cells [.int .u8 k,.str d.name,.int .u8 d.op,.int .i64 d.evr.am7,.str d.evr.ver,.str d.evr.rel,gv])/\Grow s gv 7 ((xs.take i).map aa8.cs)) xs.length
   ⟨.aa1,rfl,Nat.le_refl _,rfl,rfl,.inl ⟨rfl,rfl⟩⟩ ?_
  rintro i fr s hi ⟨gv,rfl,hnx,h0,h1,hg⟩;by_cases hlt:i<xs.length
  ·obtain ⟨a,ha,_,hdr,hget,htk⟩:=ae3 xs i hlt;have c1:(i:Int)<xs.length:=by omega
   have c2:(0:Int)<=i:=by omega
   have w1:=ad6 (i:=i) (by omega);have hA:=ih a ha (f5 a ha);have hl0:((xs.take i).map aa8.cs).length=i:=by rw[List.length_map,List.length_take]; omega
   have hg1:Grow (⟨s.next+12,s.obj⟩:Store) gv 7 ((xs.take i).map aa8.cs):=hg.mono (by show s.next<=s.next+12; omega) fun _ _ _=>rfl
   have hap:=al4 (nid:=s.next+9) (e:=a.cs) hg1 (ap3 _) ⟨ab9 a,ab4 a⟩ (by rw[hl0]; omega);rw[hl0] at hap;have k0:=af4 hg1 0 _ h0 (fun _ e=>by cases e);have k1:=af4 hg1 1 _ h1 (fun _ e=>by cases e);have kn:(ai2 gv (⟨s.next+12,s.obj⟩:Store)).next=s.next+12:=ad9 gv;have m0:¬ 0=s.next+9:=by omega
   have m1:¬ 1=s.next+9:=by omega
   simp only[go_sem,c1,c2,hget,ab9,ac6,ab4,h1,b_o,b_p,b_t];refine aa2 hA ?_;simp only[go_sem,ab9,ac6,ab4];generalize ai2 gv (⟨s.next+12,s.obj⟩:Store)=K at *;simp only[show s.next+1+1+1+1+1+1+1+1+1=s.next+9 from rfl,hap,go_sem,m0,m1,k0,k1,w1];refine ⟨hlt,_,by rw[kn]; omega,rfl,?_⟩;rw[htk,List.map_append,List.map_cons,List.map_nil];refine .inr ⟨s.next+9,by rw[List.length_append,hl0]; rfl,?_,by show s.next+9<K.next; rw[kn]; omega⟩;simp only[aa7];rw[if_neg (fun e=>m1 e.symm),if_pos trivial]
  ·have c1:¬ (i:Int)<xs.length:=by omega
   have e:i=xs.length:=by omega
   subst e;rw[List.take_length] at hg;have hvl:gv.leaf=true:=by rcases hg with ⟨rfl,_⟩|⟨id,rfl,_⟩<;>rfl
   simp only[go_sem,c1,h0,h1];refine ⟨hvl,.ii3 (.cons (bv6 rfl) (.cons (.keep _ (.str _)) (.cons (bv6 rfl) (.cons (bv6 rfl) (.cons (.keep _ (.str _)) (.cons (.keep _ (.str _)) (.cons ?_ .nil)))))))⟩;have hne:∀ id,gv=.slice id 0 (xs.map aa8.cs).length 7->id≠0:=fun id hv=>hg.ne hv h0 (fun _ h=>by cases h)
   refine Grow.frz (hg.mono (Nat.le_refl _) fun id hv _=>?_) (fun x hx=>(ap3 xs x hx).1) (fun _ _=>Nat.not_lt_zero _) (ak6 (aj7 xs));rw[aa7,if_neg (hne id hv)]
theorem dr2 (l:List Dep):∀ x∈l.map Dep.cs,x.length=5/\x.all IV.leaf=true:=fun x hx=>by
 obtain ⟨d,_,rfl⟩:=List.mem_map.1 hx;exact ⟨rfl,rfl⟩
theorem et3 (l:List Str):∀ x∈l.map bh4,x.length=1/\x.all IV.leaf=true:=fun x hx=>by
 obtain ⟨d,_,rfl⟩:=List.mem_map.1 hx;exact ⟨rfl,rfl⟩
theorem gc8 (xs:List aa8)(hl:xs.length<2^31)(hf:∀ r∈xs,r.fit):PC Tryz.prog EE 142 [ai5 xs] (ai5 xs):=by
 refine ae8 hE fok142 (nZ rfl) (aj1 (aj7 xs)) ?_;simp only[ic142,go_sem];refine ab7 noT (fun i fr s=>∃ gv,fr=[(0,ai5 xs),(3,gv),(4,.int .i64 (i:Int))]/\Grow s gv 7 ((xs.take i).map aa8.cs)) xs.length ⟨.aa1,rfl,.inl ⟨rfl,rfl⟩⟩ ?_;rintro i fr s hi ⟨gv,rfl,hg⟩;by_cases hlt:i<xs.length
 ·obtain ⟨a,ha,_,hdr,hget,htk⟩:=ae3 xs i hlt;have c1:(i:Int)<xs.length:=by omega
  have c2:(0:Int)<=i:=by omega
  have w1:=ad6 (i:=i) (by omega);have hA:=gw7 a (hf a ha);have hl0:((xs.take i).map aa8.cs).length=i:=by rw[List.length_map,List.length_take]; omega
  simp only[go_sem,c1,c2,hget,ab9,ac6,ab4]
  first|refine aa4 fok213 (hA) ?_|refine aa2 (hA) ?_
  simp only[go_sem,ab9,ac6,ab4];have hap:=al4 (nid:=s.next) (e:=a.cs) (hg.mono (σ':=⟨s.next+1,s.obj⟩) (Nat.le_succ _) fun _ _ _=>rfl) (ap3 _) ⟨ab9 a,ab4 a⟩ (by rw[hl0]; omega);rw[hl0] at hap;simp only[go_sem,hap,w1];refine ⟨hlt,_,rfl,?_⟩;rw[htk,List.map_append,List.map_cons,List.map_nil];exact .inr ⟨s.next,by rw[List.length_append,hl0]; rfl,by rw[aa7,if_pos rfl],by show s.next<(ai2 gv _).next; rw[ad9]; exact Nat.lt_succ_self _⟩
 ·have c1:¬ (i:Int)<xs.length:=by omega
  have e:i=xs.length:=by omega
  subst e;rw[List.take_length] at hg;simp only[go_sem,c1];exact hg.frz (fun x hx=>(ap3 xs x hx).1) (fun _ _=>Nat.not_lt_zero _) (ak6 (aj7 xs))
theorem eb3 (p:aa3)(hf:p.Fit):PC Tryz.prog EE 80 [.agg p.cs] (.agg p.cs):=by
 refine ae8 hE fok80 (nZ rfl) (aj1 (am9 p)) ?_;have gr:=fun (l:List aa8) (wh:Int) (h:(wh,l)∈p.rows)=>gc8 l (hf.rich _ h).1 fun r hr=>((hf.rich _ h).2 r hr).1
 have r1:=gr p.requires 1 (by simp[aa3.rows]);have r2:=gr p.conflicts 2 (by simp[aa3.rows]);have r3:=gr p.ac3 1 (by simp[aa3.rows]);have r4:=gr p.ac2 3 (by simp[aa3.rows]);have r5:=gr p.suggests 1 (by simp[aa3.rows]);have r6:=gr p.ad7 3 (by simp[aa3.rows]);clear gr;simp only[ic80,go_sem,ac9,aa3.cs];generalize hS0:Store.put _ 9 (ak5.row [])=S0;have S0n:S0.next=41:=by rw[<- hS0]; rfl
 have g0:Grow S0 (.slice 9 0 0 5) 5 []:=.inr ⟨9,rfl,by rw[<- hS0,aa7,if_pos rfl]; rfl,by omega⟩;have b0:S0.obj 0=some (.cells [.str [],.int .i64 0,.str [],.str [],.int .u8 0,.str [],.aa1,.aa1,.aa1,.aa1,.aa1,.aa1,.aa1,.aa1,.aa1]):=by rw[<- hS0]; rfl
 obtain ⟨v1,t1,a1,n1,q1,k1,o1⟩:=bm1 (nid:=12) (xs:=p.provides.map Dep.cs) g0 (fun x h=>by cases h) (dr2 _) (by rw[List.length_map,List.length_nil]; have:=hf.av5.1; omega) (by omega);have b1:t1.obj 0=_:=(k1 0 (by decide) (fun k h=>by cases h)).trans b0;rw[List.nil_append] at q1;simp only[go_sem,a1];refine aa2 r1 ?_;simp only[go_sem];refine aa2 r2 ?_;simp only[go_sem]
 have i1:∀ i k,v1=.slice i 0 k 5->i=9\/i=12:=fun i k h=>by
  rcases o1 with e|e<;>(rw[e] at h; cases h)<;>simp
 generalize hS1:Store.put t1 19 (ak5.row [])=S1;have S1n:S1.next=41:=by rw[<- hS1,ab5,n1,S0n]
 have e1:∀ i,i≠19->S1.obj i=t1.obj i:=fun i hi=>by rw[<- hS1,aa7,if_neg hi]
 have g1:Grow S1 (.slice 19 0 0 5) 5 []:=.inr ⟨19,rfl,by rw[<- hS1,aa7,if_pos rfl]; rfl,by omega⟩;obtain ⟨v2,t2,a2,n2,q2,k2,o2⟩:=bm1 (nid:=22) (xs:=p.aa9.map Dep.cs) g1 (fun x h=>by cases h) (dr2 _) (by rw[List.length_map,List.length_nil]; have:=hf.obs.1; omega) (by omega);rw[List.nil_append] at q2
 have i2:∀ i k,v2=.slice i 0 k 5->i=19\/i=22:=fun i k h=>by
  rcases o2 with e|e<;>(rw[e] at h; cases h)<;>simp
 have b2:t2.obj 0=_:=(k2 0 (by decide) (fun k h=>by cases h)).trans ((e1 0 (by decide)).trans b1)
 have p1:Grow t2 v1 5 (p.provides.map Dep.cs):=q1.mono (by rw[n2,S1n,n1,S0n]; exact Nat.le_refl _) fun id hv _=>by
  have hid:=i1 _ _ hv;rw[k2 id (by omega) (fun k h=>by cases h; omega),e1 id (by omega)]
 simp only[go_sem,a2];refine aa2 r3 ?_;simp only[go_sem];refine aa2 r4 ?_;simp only[go_sem];refine aa2 r5 ?_;simp only[go_sem];refine aa2 r6 ?_;simp only[go_sem];generalize hS2:Store.put t2 35 (ak5.row [])=S2;have S2n:S2.next=41:=by rw[<- hS2,ab5,n2,S1n]
 have e2:∀ i,i≠35->S2.obj i=t2.obj i:=fun i hi=>by rw[<- hS2,aa7,if_neg hi]
 have g2:Grow S2 (.slice 35 0 0 1) 1 []:=.inr ⟨35,rfl,by rw[<- hS2,aa7,if_pos rfl]; rfl,by omega⟩;obtain ⟨v3,t3,a3,n3,q3,k3,o3⟩:=bm1 (nid:=38) (xs:=p.files.map bh4) g2 (fun x h=>by cases h) (et3 _) (by rw[List.length_map,List.length_nil]; have:=hf.files.1; omega) (by omega);rw[List.nil_append] at q3
 have i3:∀ i k,v3=.slice i 0 k 1->i=35\/i=38:=fun i k h=>by
  rcases o3 with e|e<;>(rw[e] at h; cases h)<;>simp
 have b3:t3.obj 0=_:=(k3 0 (by decide) (fun k h=>by cases h)).trans ((e2 0 (by decide)).trans b2)
 have pp1:Grow t3 v1 5 (p.provides.map Dep.cs):=p1.mono (by rw[n3,S2n,n2,S1n]; exact Nat.le_refl _) fun id hv _=>by
  have hid:=i1 _ _ hv;rw[k3 id (by omega) (fun k h=>by cases h; omega),e2 id (by omega)]
 have pp2:Grow t3 v2 5 (p.aa9.map Dep.cs):=q2.mono (by rw[n3,S2n,n2,S1n]; exact Nat.le_refl _) fun id hv _=>by
  have hid:=i2 _ _ hv;rw[k3 id (by omega) (fun k h=>by cases h; omega),e2 id (by omega)]
 have l1:v1.leaf=true:=by rcases o1 with e|e<;>(rw[e]; rfl)
 have l2:v2.leaf=true:=by rcases o2 with e|e<;>(rw[e]; rfl)
 have l3:v3.leaf=true:=by rcases o3 with e|e<;>(rw[e]; rfl)
 have c1:v1.cs=[v1]:=by rcases o1 with e|e<;>(rw[e]; rfl)
 have c2:v2.cs=[v2]:=by rcases o2 with e|e<;>(rw[e]; rfl)
 have c3:v3.cs=[v3]:=by rcases o3 with e|e<;>(rw[e]; rfl)
 simp only[go_sem,a3,l1,l2,l3,c1,c2,c3,b3];have bs:∀ s:Str,Bnd 0 (.str s):=fun s=>.str s
 have fd:∀ (v:IV) (l:List Dep),(∀ i k,v=.slice i 0 k 5->i≠0)->Grow t3 v 5 (l.map Dep.cs)->∀ c,cm1 (t3.put 0 c) 0 v (deps l):=fun v l hv hg c=>by
  refine Grow.frz (hg.mono (Nat.le_refl _) fun id hid _=>by rw[aa7,if_neg (hv _ _ hid)]) (fun x hx=>(dr2 l x hx).1) (fun _ _=>Nat.not_lt_zero _) fun e he c hc=>?_
  obtain ⟨d,_,rfl⟩:=List.mem_map.1 he;exact dr6 d c hc
 have fs:∀ (v:IV) (l:List Str),(∀ i k,v=.slice i 0 k 1->i≠0)->Grow t3 v 1 (l.map bh4)->∀ c,cm1 (t3.put 0 c) 0 v (strs l):=fun v l hv hg c=>by
  refine Grow.frz (hg.mono (Nat.le_refl _) fun id hid _=>by rw[aa7,if_neg (hv _ _ hid)]) (fun x hx=>(et3 l x hx).1) (fun _ _=>Nat.not_lt_zero _) fun e he c hc=>?_
  obtain ⟨d,_,rfl⟩:=List.mem_map.1 he
  cases hc with
  | head=>exact .str _
  | tail _ h=>cases h
 refine .ii3 (.cons (.keep _ (bs _)) (.cons (bv6 rfl) (.cons (.keep _ (bs _)) (.cons (.keep _ (bs _)) (.cons (bv6 rfl) (.cons (.keep _ (bs _)) (.cons (fd _ _ (fun i k h=>by have:=i1 _ _ h; omega) pp1 _) (.cons (.keep _ (aj7 _)) (.cons (.keep _ (aj7 _)) (.cons (fd _ _ (fun i k h=>by have:=i2 _ _ h; omega) pp2 _)
  (.cons (.keep _ (aj7 _)) (.cons (.keep _ (aj7 _)) (.cons (.keep _ (aj7 _)) (.cons (.keep _ (aj7 _)) (.cons (fs _ _ (fun i k h=>by have:=i3 _ _ h; omega) q3 _) .nil)))))))))))))))
set_option maxHeartbeats 1000000
def it4 (e:Nat)(es:List (List IV)):Prop:=∀ x∈es,x.length=e/\x.all IV.leaf=true
def Far (v w:IV):Prop:=∀ i k e j l f,v=.slice i 0 k e->w=.slice j 0 l f->i≠j
structure Q12 (s:Store) (id:Nat) (n:Int) (k:Nat) (Lv Rv Pv:IV) (eL eR eP:List (List IV)):Prop where
 cell:s.obj id=some (.cells [Lv,.int .i64 n,Rv,Pv])
 lt:id<s.next
 gL:Grow s Lv 15 eL
 gR:Grow s Rv 1 eR
 gP:Grow s Pv 1 eP
 aL:it4 15 eL
 aR:it4 1 eR
 aP:it4 1 eP
 kL:eL.length<=k
 kR:eR.length<=k
 kP:eP.length<=k
 lr:Far Lv Rv
 lp:Far Lv Pv
 rp:Far Rv Pv
theorem Q12.mono {s s':Store}{id:Nat}{n:Int}{k:Nat}{Lv Rv Pv:IV}{eL eR eP:List (List IV)}(h:Q12 s id n k Lv Rv Pv eL eR eP)(hn:s.next<=s'.next)(ho:∀ i,i<s.next->s'.obj i=s.obj i):Q12 s' id n k Lv Rv Pv eL eR eP :=
 {h with
  cell:=by rw[ho _ h.lt]; exact h.cell
  lt:=Nat.lt_of_lt_of_le h.lt hn
  gL:=h.gL.mono hn fun i _ hi=>ho i hi
  gR:=h.gR.mono hn fun i _ hi=>ho i hi
  gP:=h.gP.mono hn fun i _ hi=>ho i hi }
theorem et4 {s:Store}{v:IV}{e:Nat}{es:List (List IV)}(h:Grow s v e es){i k f:Nat}(hv:v=.slice i 0 k f):i<s.next/\∃ cs,s.obj i=some (.row cs):=by
 rcases h with ⟨h0,_⟩|⟨j,hj,ho,hl⟩
 ·rw[h0] at hv; cases hv
 ·rw[hj] at hv; cases hv; exact ⟨hl,_,ho⟩
theorem gc9 {s:Store}{v:IV}{i:Nat}(h:∀ k e,v≠.slice i 0 k e){e:Nat}{es:List (List IV)}(hg:Grow s v e es):(ai2 v s).obj i=s.obj i:=by
 rcases hg with ⟨h0,_⟩|⟨j,hj,_,_⟩
 ·rw[h0]; rfl
 ·rw[hj];show (if i=j then none else s.obj i)=_;rw[if_neg fun e=>h _ _ (by rw[hj,e])]
theorem fm4 {s:Store}{v w:IV}{e f m nid:Nat}{es fs:List (List IV)}(hm:s.next<=m)(hg:Grow s v e es)(hw:Grow s w f fs)(hf:Far v w)(hn:∀ i k g,w=.slice i 0 k g->i≠nid)(r:ak5) :
  Grow ((ai2 v (⟨m,s.obj⟩:Store)).put nid r) w f fs:=by
 have hg':Grow (⟨m,s.obj⟩:Store) v e es:=hg.mono hm fun _ _ _=>rfl
 refine hw.mono (by rw[ab5,ad9]; exact hm) fun i hv _=>?_
 rw[aa7,if_neg (hn _ _ _ hv),gc9 (fun k g hk=>hf _ _ _ _ _ _ hk hv rfl) hg']
theorem Q12.push {t:Store}{id:Nat}{n:Int}{k:Nat}{Lv Rv Pv:IV}{eL eR eP:List (List IV)}(h:Q12 t id n k Lv Rv Pv eL eR eP)(hk:k<2^20){c:List IV}(hc:c.length=15/\c.all IV.leaf=true)(a b:Int){d1 d2 d3 d4:Nat}(h12:d1<d2)(h23:d2<d3)(h34:d3<d4) :
  ∃ L' R' P' S1 S2 S3,bh3 ⟨t.next+d4,t.obj⟩ (t.next+d1) 15 Lv (.aa5 [c])=some (L',S1)/\S1.obj id=some (.cells [Lv,.int .i64 n,Rv,Pv])/\bh3 S1 (t.next+d2) 1 Rv (.aa5 [[.int .i64 a]])=some (R',S2)/\S2.obj id=some (.cells [Lv,.int .i64 n,Rv,Pv]) /\
   bh3 S2 (t.next+d3) 1 Pv (.aa5 [[.int .i64 b]])=some (P',S3)/\S3.obj id=some (.cells [Lv,.int .i64 n,Rv,Pv])/\(L'.leaf=true/\L'.cs=[L']/\R'.leaf=true/\R'.cs=[R']/\P'.leaf=true/\P'.cs=[P'])/\S3.next=t.next+d4 /\
   ∀ τ:Store,t.next+d4<=τ.next->τ.obj id=some (.cells [L',.int .i64 n,R',P'])->(∀ i,i≠id->τ.obj i=S3.obj i)->Q12 τ id n (k+1) L' R' P' (eL++[c]) (eR++[[.int .i64 a]]) (eP++[[.int .i64 b]]):=by
 have hcell:=h.cell;have nid1:¬ id=t.next+d1:=by have:=h.lt; omega
 have nid2:¬ id=t.next+d2:=by have:=h.lt; omega
 have nid3:¬ id=t.next+d3:=by have:=h.lt; omega
 have notrow:∀ {s:Store} {v:IV} {e:Nat} {es:List (List IV)},Grow s v e es->s.obj id=some (.cells [Lv,.int .i64 n,Rv,Pv])->∀ kk ee,v≠.slice id 0 kk ee:=fun hg ho kk ee hv=>by
  obtain ⟨_,cs,hr⟩:=et4 hg hv;rw[ho] at hr; cases hr
 have old:∀ {s:Store} {v:IV} {e:Nat} {es:List (List IV)},Grow s v e es->s.next=t.next->∀ d i kk g,v=.slice i 0 kk g->i≠t.next+d:=fun hg hs d i kk g hv=>by
  have:=(et4 hg hv).1; omega
 -- the first row
 have G0:Grow (⟨t.next+d4,t.obj⟩:Store) Lv 15 eL:=h.gL.mono (by show t.next<=t.next+d4; omega) fun _ _ _=>rfl
 have A1:=al4 (nid:=t.next+d1) (e:=c) G0 h.aL hc (by have:=h.kL; omega)
 have c1:((ai2 Lv (⟨t.next+d4,t.obj⟩:Store)).put (t.next+d1) (.row (eL++[c]).flatten)).obj id=some (.cells [Lv,.int .i64 n,Rv,Pv]):=by
  rw[aa7,if_neg nid1]; exact af4 G0 id _ hcell (fun _ e=>by cases e)
 have R1:=fm4 (m:=t.next+d4) (nid:=t.next+d1) (Nat.le_add_right _ _) h.gL h.gR h.lr (old h.gR rfl d1) (.row (eL++[c]).flatten);have P1:=fm4 (m:=t.next+d4) (nid:=t.next+d1) (Nat.le_add_right _ _) h.gL h.gP h.lp (old h.gP rfl d1) (.row (eL++[c]).flatten);have L1:Grow ((ai2 Lv (⟨t.next+d4,t.obj⟩:Store)).put (t.next+d1) (.row (eL++[c]).flatten)) (.slice (t.next+d1) 0 (eL.length+1) 15) 15 (eL++[c]):=Grow.new (v:=.aa1) (by rw[ab5,ad9]; show _<t.next+d4; omega) (by rw[aa7,if_pos rfl]);have N1:((ai2 Lv (⟨t.next+d4,t.obj⟩:Store)).put (t.next+d1) (.row (eL++[c]).flatten)).next=t.next+d4:=by rw[ab5,ad9]
 generalize (ai2 Lv (⟨t.next+d4,t.obj⟩:Store)).put (t.next+d1) (.row (eL++[c]).flatten)=S1 at *
 -- the second
 have A2:=al4 (nid:=t.next+d2) (e:=[IV.int .i64 a]) R1 h.aR ⟨rfl,rfl⟩ (by have:=h.kR; omega);have e1:(⟨S1.next,S1.obj⟩:Store)=S1:=rfl
 have c2:((ai2 Rv S1).put (t.next+d2) (.row (eR++[[IV.int .i64 a]]).flatten)).obj id=some (.cells [Lv,.int .i64 n,Rv,Pv]):=by
  rw[aa7,if_neg nid2]; exact af4 R1 id _ c1 (fun _ e=>by cases e)
 have P2:Grow ((ai2 Rv S1).put (t.next+d2) (.row (eR++[[IV.int .i64 a]]).flatten)) Pv 1 eP:=fm4 (s:=S1) (m:=S1.next) (nid:=t.next+d2) (Nat.le_refl _) R1 P1 h.rp (fun i kk g hv=>old h.gP rfl d2 i kk g hv) _;have L2:Grow ((ai2 Rv S1).put (t.next+d2) (.row (eR++[[IV.int .i64 a]]).flatten)) (.slice (t.next+d1) 0 (eL.length+1) 15) 15 (eL++[c]):=fm4 (s:=S1) (m:=S1.next) (nid:=t.next+d2) (Nat.le_refl _) R1 L1 (fun i kk g j l f hv hw=>by cases hw; exact old h.gR rfl d1 _ _ _ hv) (fun i kk g hv=>by cases hv; omega) _;have R2:Grow ((ai2 Rv S1).put (t.next+d2) (.row (eR++[[IV.int .i64 a]]).flatten)) (.slice (t.next+d2) 0 (eR.length+1) 1) 1 (eR++[[IV.int .i64 a]]):=Grow.new (v:=.aa1) (by rw[ab5,ad9,N1]; omega) (by rw[aa7,if_pos rfl]);have N2:((ai2 Rv S1).put (t.next+d2) (.row (eR++[[IV.int .i64 a]]).flatten)).next=t.next+d4:=by rw[ab5,ad9,N1]
 generalize (ai2 Rv S1).put (t.next+d2) (.row (eR++[[IV.int .i64 a]]).flatten)=S2 at *
 -- the third
 have A3:=al4 (nid:=t.next+d3) (e:=[IV.int .i64 b]) P2 h.aP ⟨rfl,rfl⟩ (by have:=h.kP; omega)
 have c3:((ai2 Pv S2).put (t.next+d3) (.row (eP++[[IV.int .i64 b]]).flatten)).obj id=some (.cells [Lv,.int .i64 n,Rv,Pv]):=by
  rw[aa7,if_neg nid3]; exact af4 P2 id _ c2 (fun _ e=>by cases e)
 have L3:Grow ((ai2 Pv S2).put (t.next+d3) (.row (eP++[[IV.int .i64 b]]).flatten)) (.slice (t.next+d1) 0 (eL.length+1) 15) 15 (eL++[c]):=fm4 (s:=S2) (m:=S2.next) (nid:=t.next+d3) (Nat.le_refl _) P2 L2 (fun i kk g j l f hv hw=>by cases hw; exact old h.gP rfl d1 _ _ _ hv) (fun i kk g hv=>by cases hv; omega) _;have R3:Grow ((ai2 Pv S2).put (t.next+d3) (.row (eP++[[IV.int .i64 b]]).flatten)) (.slice (t.next+d2) 0 (eR.length+1) 1) 1 (eR++[[IV.int .i64 a]]):=fm4 (s:=S2) (m:=S2.next) (nid:=t.next+d3) (Nat.le_refl _) P2 R2 (fun i kk g j l f hv hw=>by cases hw; exact old h.gP rfl d2 _ _ _ hv) (fun i kk g hv=>by cases hv; omega) _;have P3:Grow ((ai2 Pv S2).put (t.next+d3) (.row (eP++[[IV.int .i64 b]]).flatten)) (.slice (t.next+d3) 0 (eP.length+1) 1) 1 (eP++[[IV.int .i64 b]]):=Grow.new (v:=.aa1) (by rw[ab5,ad9,N2]; omega) (by rw[aa7,if_pos rfl]);have N3:((ai2 Pv S2).put (t.next+d3) (.row (eP++[[IV.int .i64 b]]).flatten)).next=t.next+d4:=by rw[ab5,ad9,N2]
 generalize (ai2 Pv S2).put (t.next+d3) (.row (eP++[[IV.int .i64 b]]).flatten)=S3 at *;refine ⟨_,_,_,S1,S2,S3,A1,c1,A2,c2,A3,c3,⟨rfl,rfl,rfl,rfl,rfl,rfl⟩,N3,fun τ hτ hcτ hoτ=>?_⟩;have keep:∀ {v:IV} {e:Nat} {es:List (List IV)},Grow S3 v e es->Grow τ v e es:=fun hg=>hg.mono (by omega) fun i hv _=>hoτ i fun e=>notrow hg c3 _ _ (by rw[<- e]; exact hv)
 have snocE:∀ {e:Nat} {es:List (List IV)} {x:List IV},it4 e es->(x.length=e/\x.all IV.leaf=true)->it4 e (es++[x]):=fun h1 h2 y hy=>by
  rcases List.mem_append.1 hy with hy|hy
  ·exact h1 y hy
  ·rw[List.mem_singleton] at hy; rw[hy]; exact h2
 exact {
  cell:=hcτ
  lt:=by have:=h.lt; omega
  gL:=keep L3
  gR:=keep R3
  gP:=keep P3
  aL:=snocE h.aL hc
  aR:=snocE h.aR ⟨rfl,rfl⟩
  aP:=snocE h.aP ⟨rfl,rfl⟩
  kL:=by rw[List.length_append]; have:=h.kL; simp only[List.length_singleton]; omega
  kR:=by rw[List.length_append]; have:=h.kR; simp only[List.length_singleton]; omega
  kP:=by rw[List.length_append]; have:=h.kP; simp only[List.length_singleton]; omega
  lr:=fun i k e j l f h1 h2=>by cases h1; cases h2; omega
  lp:=fun i k e j l f h1 h2=>by cases h1; cases h2; omega
  rp:=fun i k e j l f h1 h2=>by cases h1; cases h2; omega }
def jf1 (σ:Store)(r:Pool ⊕ Int)(v:IV)(s:Store):Prop:=σ.next<=s.next/\match r with
 | .inl p=>∃ id X Y Z,v=.tuple [.ptr id 0,.int .i64 0]/\s.obj id=some (.cells [X,.int .i64 p.inst,Y,Z])
 | .inr e=>v=.tuple [.ab6,.int .i64 e]
theorem ic5 (repos:List al7)(inst:List aa3)(hI:gz7 repos inst)(σ:Store):C Tryz.prog EE 38 [as5 repos,az3 inst] σ (jf1 σ (bs9 repos inst)):=by
 refine C_f fok38 (nZ rfl) ?_;have h1:=hI.r1;have h2:=hI.i1;have h3:=hI.s1;simp only[ic38,go_sem];refine ab7 noT (fun i fr s=>∃ n:Nat,fr=[(0,as5 repos),(1,az3 inst),(6,.int .i64 n),(7,.int .i64 (i:Int))]/\σ.next<=s.next/\n+ak7 (repos.drop i)=inst.length+ak7 repos) repos.length ⟨inst.length,rfl,Nat.le_refl _,rfl⟩ ?_;rintro i fr s hle ⟨n,rfl,hnx,hn⟩;by_cases hlt:i<repos.length
 ·obtain ⟨a,ha,_,hdr,hget,htk⟩:=ae3 repos i hlt;have c1:(i:Int)<repos.length:=by omega
  have c2:(0:Int)<=i:=by omega
  have w1:=ad6 (i:=i) (by omega);rw[bz6 repos i a hdr] at hn
  have w2:IntKind.i64.wrap ((n:Int)+a.packages.length)=((n+a.packages.length:Nat):Int):=by
   rw[wrap64 (by omega) (by omega)]; omega
  simp only[go_sem,c1,c2,hget,ao4,aq3,aq2,al7.cs,w2,w1];exact ⟨hlt,n+a.packages.length,rfl,hnx,by omega⟩
 have hi':i=repos.length:=by omega
 subst hi';have c1:¬ (repos.length:Int)<repos.length:=by omega
 have hn0:n=inst.length+ak7 repos:=by rw[List.drop_length] at hn; simpa [ak7] using hn
 subst hn0;by_cases b1:16<repos.length
 ·have b1':(16:Int)<repos.length:=by omega
  simp only[go_sem,c1,b1',bs9,b1,true_or];exact ⟨hnx,rfl⟩
 have b1':¬ (16:Int)<repos.length:=by omega
 by_cases b2:256<inst.length+ak7 repos
 ·have b2':(256:Int)<((inst.length+ak7 repos:Nat):Int):=by omega
  simp only[go_sem,c1,b1',b2',bs9,b1,b2,or_true];exact ⟨hnx,rfl⟩
 have b2':¬ (256:Int)<((inst.length+ak7 repos:Nat):Int):=by omega
 simp only[go_sem,c1,b1',b2']
 have hnew:inst.all af8=true->bs9 repos inst=match af6 0 repos (rowsOf inst (-1) 1025,cn9 [] 0 inst) with
  | some (rows,nm)=>.inl ⟨rows,inst.length,nm⟩
  | none=>.inr 4:=fun h=>by
  unfold bs9;rw[if_neg (by omega),if_neg (by rw[h]; simp)];rfl
 obtain ⟨B,hB⟩:∃ B,s.next=B:=⟨_,rfl⟩;rw[hB];have hσB:σ.next<=B:=by omega
 refine ab7 noT (fun i fr t=>fr=[(0,as5 repos),(1,az3 inst),(8,.ptr B 0),(9,.int .i64 (i:Int))]/\B<=t.next/\(inst.drop i).all af8=inst.all af8/\∃ Lv Rv Pv eL eR eP,Q12 t B inst.length i Lv Rv Pv eL eR eP) inst.length ⟨rfl,?_,rfl,.aa1,.aa1,.aa1,[],[],[],?_⟩ ?_
 ·show B<=_+1; omega
 ·exact {
      cell:=by simp only[aa7,if_true]
      lt:=Nat.lt_succ_of_le (by omega)
      gL:=.inl ⟨rfl,rfl⟩
      gR:=.inl ⟨rfl,rfl⟩
      gP:=.inl ⟨rfl,rfl⟩
      aL:=fun x h=>by cases h
      aR:=fun x h=>by cases h
      aP:=fun x h=>by cases h
      kL:=Nat.le_refl _
      kR:=Nat.le_refl _
      kP:=Nat.le_refl _
      lr:=fun i k e j l f h=>by cases h
      lp:=fun i k e j l f h=>by cases h
      rp:=fun i k e j l f h=>by cases h }
 rintro i fr t hle ⟨rfl,hnt,ha,Lv,Rv,Pv,eL,eR,eP,hQ⟩;by_cases hlt:i<inst.length
 ·obtain ⟨x,hx,_,hdr,hget,htk⟩:=ae3 inst i hlt;have d1:(i:Int)<inst.length:=by omega
  have d2:(0:Int)<=i:=by omega
  have w1:=ad6 (i:=i) (by omega);have hm:=es9 x (hI.pf x hx);have hcp:=eb3 x (hI.pf x hx);rw[hdr,List.all_cons] at ha;simp only[go_sem,d1,d2,hget,ag4,ag6,ac9]
  first|refine aa4 fok79 (hm) ?_|refine aa2 (hm) ?_
  cases hb:af8 x with
  | false=>
   rw[hb,Bool.false_and] at ha;simp only[go_sem];refine ⟨by omega,?_⟩;unfold bs9
   rw[if_neg (by omega),if_pos ha.symm]
  | true=>
   rw[hb,Bool.true_and] at ha;obtain ⟨L',R',P',S1,S2,S3,q1,o1,q2,o2,q3,o3,⟨l1,l2,l3,l4,l5,l6⟩,n3,fin⟩:=hQ.push (by omega) (c:=x.cs) ⟨rfl,rfl⟩ (-1) 1025 (d1:=13) (d2:=19) (d3:=25) (d4:=35) (by decide) (by decide) (by decide);have hcell:=hQ.cell;simp only[go_sem,d1,d2,hget,ag4,ag6,ac9,hcell,b_o,b_p,b_t];refine aa2 hcp ?_;simp only[go_sem,ag4,ag6,ac9];simp only[show t.next+1+1+1+1+1+1+1+1+1+1+1+1+1=t.next+13 from rfl,q1,go_sem,o1,b_o,b_p,b_t];simp only[show t.next+1+1+1+1+1+1+1+1+1+1+1+1+1+1+1+1+1+1+1=t.next+19 from rfl,q2,go_sem,o2,b_o,b_p,b_t];simp only[show t.next+1+1+1+1+1+1+1+1+1+1+1+1+1+1+1+1+1+1+1+1+1+1+1+1+1=t.next+25 from rfl,q3,go_sem,o3,l1,l2,l3,l4,l5,l6,w1];refine ⟨hlt,by rw[n3]; omega,ha,_,_,_,_,_,_,fin _ (by rw[n3]; exact Nat.le_refl _) (by simp only[aa7,if_true]) fun z hz=>by simp only[aa7,hz,if_false]⟩
 have hi':i=inst.length:=by omega
 subst hi';rw[List.drop_length] at ha;have hmay:inst.all af8=true:=ha.symm;have d1:¬ (inst.length:Int)<inst.length:=by omega
 rw[hnew hmay];simp only[go_sem,d1];clear ha hnew
 refine ab7 noT (fun i fr t=>fr=[(0,as5 repos),(8,.ptr B 0),(10,.int .i64 (i:Int))]/\B<=t.next/\∃ st k,af6 0 repos (rowsOf inst (-1) 1025,cn9 [] 0 inst)=af6 i (repos.drop i) st/\k+ak7 (repos.drop i)=inst.length+ak7 repos /\
  ∃ Lv Rv Pv eL eR eP,Q12 t B inst.length k Lv Rv Pv eL eR eP) repos.length ⟨rfl,hnt,_,inst.length,rfl,rfl,_,_,_,_,_,_,hQ⟩ ?_
 clear hQ hnt eL eR eP Lv Rv Pv t;rintro i fr t hle ⟨rfl,hnt,st,k,hrf,hsum,Lv,Rv,Pv,eL,eR,eP,hQ⟩;by_cases hlt:i<repos.length
 ·obtain ⟨a,ha,_,hdr,hget,htk⟩:=ae3 repos i hlt;have c1:(i:Int)<repos.length:=by omega
  have c2:(0:Int)<=i:=by omega
  have w1:=ad6 (i:=i) (by omega);rw[bz6 repos i a hdr] at hsum;rw[hdr] at hrf;by_cases p1:a.priority<0
  ·simp only[go_sem,c1,c2,hget,ao4,aq3,aq2,al7.cs,p1];rw[hrf,af6,if_pos (.inl p1)];exact ⟨by omega,rfl⟩
  by_cases p2:1024<a.priority
  ·simp only[go_sem,c1,c2,hget,ao4,aq3,aq2,al7.cs,p1,p2];rw[hrf,af6,if_pos (.inr (.inl p2))];exact ⟨by omega,rfl⟩
  simp only[go_sem,c1,c2,hget,ao4,aq3,aq2,al7.cs,p1,p2]
  refine ab7 noT (fun j fr t=>fr=[(0,as5 repos),(8,.ptr B 0),(10,.int .i64 (i:Int)),(11,.int .i64 (j:Int))]/\B<=t.next/\(a.packages.drop j).all af8=a.packages.all af8 /\
   ∃ Lv Rv Pv eL eR eP,Q12 t B inst.length (k+j) Lv Rv Pv eL eR eP) a.packages.length ⟨rfl,hnt,rfl,_,_,_,_,_,_,hQ⟩ ?_
  clear hQ hnt eL eR eP Lv Rv Pv t;rintro j fr t hj ⟨rfl,hnt,hall,Lv,Rv,Pv,eL,eR,eP,hQ⟩;by_cases hjl:j<a.packages.length
  ·obtain ⟨x,hx,_,hdr3,hget3,htk3⟩:=ae3 a.packages j hjl;have d1:(j:Int)<a.packages.length:=by omega
   have d2:(0:Int)<=j:=by omega
   have w2:=ad6 (i:=j) (by omega);have hxf:=(hI.rf a ha).2 x hx;have hm:=es9 x hxf;have hcp:=eb3 x hxf;rw[hdr3,List.all_cons] at hall;simp only[go_sem,c1,c2,d1,d2,hget,hget3,ao4,aq3,aq2,al7.cs,ag4,ag6,ac9]
   first|refine aa4 fok79 (hm) ?_|refine aa2 (hm) ?_
   cases hb:af8 x with
   | false=>
    rw[hb,Bool.false_and] at hall;simp only[go_sem];rw[hrf,af6,if_pos (.inr (.inr hall.symm))]
    exact ⟨by omega,rfl⟩
   | true=>
    rw[hb,Bool.true_and] at hall;obtain ⟨L',R',P',S1,S2,S3,q1,o1,q2,o2,q3,o3,⟨l1,l2,l3,l4,l5,l6⟩,n3,fin⟩:=hQ.push (by omega) (c:=x.cs) ⟨rfl,rfl⟩ i a.priority (d1:=17) (d2:=24) (d3:=35) (d4:=45) (by decide) (by decide) (by decide);have hcell:=hQ.cell;simp only[go_sem,c1,c2,d1,d2,hget,hget3,ao4,aq3,aq2,al7.cs,ag4,ag6,ac9,hcell,b_o,b_p,b_t];refine aa2 hcp ?_;simp only[go_sem,ag4,ag6,ac9];simp only[show t.next+1+1+1+1+1+1+1+1+1+1+1+1+1+1+1+1+1=t.next+17 from rfl,q1,go_sem,o1,b_o,b_p,b_t];simp only[show t.next+1+1+1+1+1+1+1+1+1+1+1+1+1+1+1+1+1+1+1+1+1+1+1+1=t.next+24 from rfl,q2,go_sem,o2,b_o,b_p,b_t,c1,c2,hget,ao4,aq3,aq2,al7.cs];simp only[show t.next+1+1+1+1+1+1+1+1+1+1+1+1+1+1+1+1+1+1+1+1+1+1+1+1+1+1+1+1+1+1+1+1+1+1+1=t.next+35 from rfl,q3,go_sem,o3,l1,l2,l3,l4,l5,l6,w2];refine ⟨hjl,by rw[n3]; omega,hall,_,_,_,_,_,_,fin _ (by rw[n3]; exact Nat.le_refl _) (by simp only[aa7,if_true]) fun z hz=>by simp only[aa7,hz,if_false]⟩
  ·have hj':j=a.packages.length:=by omega
   have d1:¬ (j:Int)<a.packages.length:=by omega
   subst hj';rw[List.drop_length] at hall;simp only[go_sem,c1,c2,d1,hget,ao4,aq3,aq2,al7.cs,w1];refine ⟨hlt,hnt,(st.1++rowsOf a.packages i a.priority,cn9 st.2 st.1.length a.packages),k+a.packages.length,?_,by omega,_,_,_,_,_,_,hQ⟩;rw[hrf,af6,if_neg (by rw[<- hall]; simp[p1,p2])]
 ·have hi':i=repos.length:=by omega
  subst hi';have c1:¬ (repos.length:Int)<repos.length:=by omega
  rw[List.drop_length,af6] at hrf;have hcell:=hQ.cell;rw[hrf];simp only[go_sem,c1];exact ⟨by omega,B,_,_,_,rfl,hcell⟩
end Go.Id.Tryz
