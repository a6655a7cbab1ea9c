/- The document's answers on names,versions,dependencies: walked. Conditions: sizes that fit. -/
import Derived.Test.YtebfbbjghhagbaaGreatDoorTMSJ
import Derived.Test.YtebfbbjghhagbaaGreatDoorMv
import Derived.Test.YtebfbbjghhagbaaGreatDoorFwZb
import Derived.Test.YtebfbbjghhagbaaGreatDoorTMMH
set_option linter.all false
namespace Go.Id.Tryz
open Go Go.Id Go.Proofs Go.Shelf Go.Id.Md
set_option maxRecDepth 100000
def alN (n:Nat):Bool:=decide (97<=n)&&decide (n<=122)||decide (65<=n)&&decide (n<=90)||decide (48<=n)&&decide (n<=57)
def gx9 (n:Nat):Bool:=alN n || [46,95,43,45,47,58,64,126,94].contains n
def ji2 (n:Nat):Bool:=alN n || [46,95,43,126,94].contains n
theorem gd9 (b:UInt8):bd6 b=gx9 b.toNat:=by
 have h:∀ n,n<256->bd6 (UInt8.ofNat n)=gx9 n:=by decide +kernel
 have:=h b.toNat b.toNat_lt
 rwa [UInt8.ofNat_toNat] at this
theorem gy1 (b:UInt8):bl4 b=ji2 b.toNat:=by
 have h:∀ n,n<256->bl4 (UInt8.ofNat n)=ji2 n:=by decide +kernel
 have:=h b.toNat b.toNat_lt
 rwa [UInt8.ofNat_toNat] at this
theorem gy2 (a:Int):PC Tryz.prog EE 92 [.int .u8 a] (.bool (bv7 a)):=by
 refine ae9 hE fok92 (nZ rfl) (ai8 (.int _ _)) ?_;unfold bv7 an8;by_cases h1:(2:Int)<=a
 ·have e1:(1:Int)<=a:=by omega
  have e2:¬ a=1:=by omega
  simp only[ic92,go_sem,h1];exact ab2 (by simp[e1,e2])
 ·simp only[ic92,go_sem,h1];refine ab2 ?_;by_cases e:a=1
  ·simp[e]
  ·have:¬ (1:Int)<=a:=by omega
   simp[this]
theorem gy3 (n:Nat):PC Tryz.prog EE 210 [.int .u8 n] (.bool (gx9 n)):=by
 refine ae9 hE fok210 (nZ rfl) (ai8 (.int _ _)) ?_;by_cases g:n=46\/n=95\/n=43\/n=45\/n=47\/n=58\/n=64\/n=126\/n=94
 ·rcases g with rfl|rfl|rfl|rfl|rfl|rfl|rfl|rfl|rfl
  all_goals
   simp only[ic210,go_sem,Int.cast_ofNat_Int];exact ab2 (by decide)
 ·simp only[not_or] at g;obtain ⟨g1,g2,g3,g4,g5,g6,g7,g8,g9⟩:=g;have hc:[46,95,43,45,47,58,64,126,94].contains n=false:=by simp[g1,g2,g3,g4,g5,g6,g7,g8,g9]
  have f1:¬ (n:Int)=46:=by omega
  have f2:¬ (n:Int)=95:=by omega
  have f3:¬ (n:Int)=43:=by omega
  have f4:¬ (n:Int)=45:=by omega
  have f5:¬ (n:Int)=47:=by omega
  have f6:¬ (n:Int)=58:=by omega
  have f7:¬ (n:Int)=64:=by omega
  have f8:¬ (n:Int)=126:=by omega
  have f9:¬ (n:Int)=94:=by omega
  unfold gx9 alN;rw[hc,Bool.or_false];by_cases k1:(97:Int)<=n
  ·by_cases k2:(n:Int)<=122
   ·simp only[ic210,go_sem,k1,k2];have a1:97<=n:=by omega
    have a2:n<=122:=by omega
    exact ab2 (by simp[a1,a2])
   ·have k3:(65:Int)<=n:=by omega
    have k4:¬ (n:Int)<=90:=by omega
    have k5:(48:Int)<=n:=by omega
    have k6:¬ (n:Int)<=57:=by omega
    simp only[ic210,go_sem,k1,k2,k3,k4,k5,k6,f1,f2,f3,f4,f5,f6,f7,f8,f9];have a2:¬ n<=122:=by omega
    have a4:¬ n<=90:=by omega
    have a6:¬ n<=57:=by omega
    exact ab2 (by simp[a2,a4,a6])
  ·have a1:¬ 97<=n:=by omega
   by_cases k3:(65:Int)<=n
   ·by_cases k4:(n:Int)<=90
    ·simp only[ic210,go_sem,k1,k3,k4];have a3:65<=n:=by omega
     have a4:n<=90:=by omega
     exact ab2 (by simp[a3,a4])
    ·have k5:(48:Int)<=n:=by omega
     have k6:¬ (n:Int)<=57:=by omega
     simp only[ic210,go_sem,k1,k3,k4,k5,k6,f1,f2,f3,f4,f5,f6,f7,f8,f9];have a4:¬ n<=90:=by omega
     have a6:¬ n<=57:=by omega
     exact ab2 (by simp[a1,a4,a6])
   ·have a3:¬ 65<=n:=by omega
    by_cases k5:(48:Int)<=n
    ·by_cases k6:(n:Int)<=57
     ·simp only[ic210,go_sem,k1,k3,k5,k6];have a5:48<=n:=by omega
      have a6:n<=57:=by omega
      exact ab2 (by simp[a5,a6])
     ·simp only[ic210,go_sem,k1,k3,k5,k6,f1,f2,f3,f4,f5,f6,f7,f8,f9];have a6:¬ n<=57:=by omega
      exact ab2 (by simp[a1,a3,a6])
    ·simp only[ic210,go_sem,k1,k3,k5,f1,f2,f3,f4,f5,f6,f7,f8,f9];have a5:¬ 48<=n:=by omega
     exact ab2 (by simp[a1,a3,a5])
theorem dr7 (s:Str)(hs:s.length<2^62):PC Tryz.prog EE 136 [.str s] (.bool (ar3 s)):=by
 refine ae9 hE fok136 (nZ rfl) (ai8 (.str _)) ?_;unfold ar3;by_cases h1:1<=s.length
 case neg=>
  have c1:(s.length:Int)<1:=by omega
  simp only[ic136,go_sem,c1];exact ab2 (by simp[h1])
 by_cases h2:s.length<=64
 case neg=>
  have c1:¬ (s.length:Int)<1:=by omega
  have c2:(64:Int)<s.length:=by omega
  simp only[ic136,go_sem,c1,c2];exact ab2 (by simp[h2])
 have c1:¬ (s.length:Int)<1:=by omega
 have c2:¬ (64:Int)<s.length:=by omega
 by_cases hw:s∈words
 ·have hc:words.contains s=true:=by simpa using hw
  have e:s=[97,110,100]\/s=[111,114]\/s=[105,102]\/s=[101,108,115,101]\/s=[117,110,108,101,115,115]\/s=[119,105,116,104]\/s=[119,105,116,104,111,117,116]:=by simpa [words] using hw
  rw[hc];rcases e with rfl|rfl|rfl|rfl|rfl|rfl|rfl
  all_goals
   simp only[ic136,go_sem,List.length_cons,List.length_nil];exact ab2 (by decide)
 have hc:words.contains s=false:=by simpa using hw
 have hn:¬ s=[97,110,100]/\¬ s=[111,114]/\¬ s=[105,102]/\¬ s=[101,108,115,101]/\¬ s=[117,110,108,101,115,115]/\¬ s=[119,105,116,104]/\¬ s=[119,105,116,104,111,117,116]:=by simpa [words,not_or] using hw
 obtain ⟨n1,n2,n3,n4,n5,n6,n7⟩:=hn;rw[hc,decide_eq_true h1,decide_eq_true h2,Bool.true_and,Bool.true_and,Bool.not_false,Bool.and_true];simp only[ic136,go_sem,c1,c2,n1,n2,n3,n4,n5,n6,n7];refine ab7 noT (fun i fr t=>fr=[(0,.str s),(3,.int .i64 (i:Int))]/\(s.take i).all bd6=true) s.length ⟨rfl,rfl⟩ ?_;rintro i fr t hi ⟨rfl,ha⟩;by_cases hlt:i<s.length
 ·have d1:(i:Int)<s.length:=by omega
  have d2:(0:Int)<=i:=by omega
  have w1:=ad4 (i:=i) (by omega);have hsg:=gy3 s[i].toNat;rw[<- gd9] at hsg;simp only[go_sem,d1,d2,List.getElem?_eq_getElem hlt,Int.toNat_natCast]
  first|refine aa4 fok210 (hsg) ?_|refine aa2 (hsg) ?_
  cases hb:bd6 s[i] with
  | true=>
   simp only[go_sem,w1]
   exact ⟨hlt,by rw[cq5 hlt,ha,hb]; rfl⟩
  | false=>
   simp only[go_sem];exact ab2 (by rw[bh6 hlt hb])
 ·have d1:¬ (i:Int)<s.length:=by omega
  have e:i=s.length:=by omega
  subst e;rw[List.take_length] at ha;simp only[go_sem,d1];exact ab2 (by rw[ha])
theorem dr8 (s:Str)(hs:s.length<2^62):PC Tryz.prog EE 137 [.str s] (.bool (aw7 s)):=by
 refine ae9 hE fok137 (nZ rfl) (ai8 (.str _)) ?_;have h:=dr7 s hs;unfold aw7;simp only[ic137,go_sem]
 first|refine aa4 fok136 (h) ?_|refine aa2 (h) ?_
 cases hn:ar3 s with
 | false=>simp only[go_sem]; exact ab2 rfl
 | true=>
  cases s with
  | nil=>simp[ar3] at hn
  | cons b l=>
   simp only[go_sem,List.head?_cons];refine ab2 ?_
   have:(b.toNat:Int)=47↔b=47:=by
    constructor
    ·intro h; exact UInt8.toNat_inj.1 (by show b.toNat=47; omega)
    ·rintro rfl; rfl
   by_cases e:b=47
   ·subst e; rfl
   ·have e2:¬ (b.toNat:Int)=47:=fun h=>e (this.1 h)
    simp[e,e2]
theorem eu4 (s:Str)(hs:s.length<2^62):PC Tryz.prog EE 211 [.str s] (.bool (ay7 s)):=by
 refine ae9 hE fok211 (nZ rfl) (ai8 (.str _)) ?_;simp only[ic211,go_sem];refine ab7 noT (fun i fr t=>fr=[(0,.str s),(3,.int .i64 (i:Int))]/\(s.take i).all bl4=true) s.length ⟨rfl,rfl⟩ ?_;rintro i fr t hi ⟨rfl,ha⟩;by_cases hlt:i<s.length
 ·have d1:(i:Int)<s.length:=by omega
  have d2:(0:Int)<=i:=by omega
  have w1:=ad4 (i:=i) (by omega);have hv:=gy1 s[i];have step:bl4 s[i]=true->(s.take (i+1)).all bl4=true:=fun h=>by rw[cq5 hlt,ha,h]; rfl
  have fin:bl4 s[i]=false->ay7 s=false:=fun h=>by simp only[ay7,bh6 hlt h,Bool.and_false]
  simp only[go_sem,d1,d2,List.getElem?_eq_getElem hlt,Int.toNat_natCast];generalize s[i].toNat=n at *;by_cases g:n=46\/n=95\/n=43\/n=126\/n=94
  ·rcases g with rfl|rfl|rfl|rfl|rfl
   all_goals
    simp only[go_sem,Int.cast_ofNat_Int,Int.reduceEq,w1];exact ⟨hlt,step (hv.trans (by decide))⟩
  ·simp only[not_or] at g;obtain ⟨g1,g2,g3,g4,g5⟩:=g;have hc:[46,95,43,126,94].contains n=false:=by simp[g1,g2,g3,g4,g5]
   have f1:¬ (n:Int)=46:=by omega
   have f2:¬ (n:Int)=95:=by omega
   have f3:¬ (n:Int)=43:=by omega
   have f4:¬ (n:Int)=126:=by omega
   have f5:¬ (n:Int)=94:=by omega
   unfold ji2 alN at hv;rw[hc,Bool.or_false] at hv;by_cases k1:(97:Int)<=n
   ·have a5:(48:Int)<=n:=by omega
    have a6:¬ (n:Int)<=57:=by omega
    by_cases k2:(n:Int)<=122
    ·have a1:97<=n:=by omega
     have a2:n<=122:=by omega
     simp only[go_sem,k1,k2,a5,a6,w1];exact ⟨hlt,step (hv.trans (by simp[a1,a2]))⟩
    ·have k3:(65:Int)<=n:=by omega
     have k4:¬ (n:Int)<=90:=by omega
     simp only[go_sem,k1,k2,k3,k4,a5,a6,f1,f2,f3,f4,f5];have b2:¬ n<=122:=by omega
     have b4:¬ n<=90:=by omega
     have b6:¬ n<=57:=by omega
     exact ab2 (fin (hv.trans (by simp[b2,b4,b6]))).symm
   ·have b1:¬ 97<=n:=by omega
    by_cases k3:(65:Int)<=n
    ·have a5:(48:Int)<=n:=by omega
     have a6:¬ (n:Int)<=57:=by omega
     by_cases k4:(n:Int)<=90
     ·simp only[go_sem,k1,k3,k4,a5,a6,w1];have a3:65<=n:=by omega
      have a4:n<=90:=by omega
      exact ⟨hlt,step (hv.trans (by simp[a3,a4]))⟩
     ·simp only[go_sem,k1,k3,k4,a5,a6,f1,f2,f3,f4,f5];have b4:¬ n<=90:=by omega
      have b6:¬ n<=57:=by omega
      exact ab2 (fin (hv.trans (by simp[b1,b4,b6]))).symm
    ·have b3:¬ 65<=n:=by omega
     by_cases k5:(48:Int)<=n
     ·by_cases k6:(n:Int)<=57
      ·simp only[go_sem,k1,k3,k5,k6,w1];have a5:48<=n:=by omega
       have a6:n<=57:=by omega
       exact ⟨hlt,step (hv.trans (by simp[a5,a6]))⟩
      ·simp only[go_sem,k1,k3,k5,k6,f1,f2,f3,f4,f5];have b6:¬ n<=57:=by omega
       exact ab2 (fin (hv.trans (by simp[b1,b3,b6]))).symm
     ·simp only[go_sem,k1,k3,k5,f1,f2,f3,f4,f5];have b5:¬ 48<=n:=by omega
      exact ab2 (fin (hv.trans (by simp[b1,b3,b5]))).symm
 ·have d1:¬ (i:Int)<s.length:=by omega
  have e:i=s.length:=by omega
  subst e;rw[List.take_length] at ha;unfold ay7;rw[ha,Bool.and_true];by_cases h1:1<=s.length
  ·have c1:(1:Int)<=s.length:=by omega
   simp only[go_sem,d1,c1];refine ab2 ?_;have:decide ((s.length:Int)<=64)=decide (s.length<=64):=decide_eq_decide.2 (by omega);simp[h1,this]
  ·have c1:¬ (1:Int)<=s.length:=by omega
   simp only[go_sem,d1,c1];exact ab2 (by simp[h1])
theorem ge1 (e:EVR)(dep:Bool)(h1:e.ver.length<2^62)(h2:e.rel.length<2^62):PC Tryz.prog EE 138 [.agg e.cs,.bool dep] (.bool (bd7 e dep)):=by
 obtain ⟨ep,ver,rel⟩:=e;refine ae9 hE fok138 (nZ rfl) (aj9 (.agg _ (ba2 (.int _ _) (.str _) (.str _))) (.bool _)) ?_;have hw:=eu4 ver h1;have hw':=eu4 rel h2;unfold bd7;by_cases a1:ep<0
 ·have b1:¬ (0:Int)<=ep:=by omega
  simp only[ic138,go_sem,EVR.cs,a1];exact ab2 (by simp[b1])
 have b1:(0:Int)<=ep:=by omega
 by_cases a2:2147483647<ep
 ·have b2:¬ ep<=2147483647:=by omega
  simp only[ic138,go_sem,EVR.cs,a1,a2];exact ab2 (by simp[b2])
 have b2:ep<=2147483647:=by omega
 simp only[b1,b2,decide_true,Bool.true_and];simp only[ic138,go_sem,EVR.cs,a1,a2]
 first|refine aa4 fok211 (hw) ?_|refine aa2 (hw) ?_
 cases hv:ay7 ver with
 | false=>simp only[go_sem]; exact ab2 (by simp)
 | true=>
  by_cases hr:rel=[]
  ·subst hr;simp only[go_sem];refine ab2 ?_;have:ay7 []=false:=by decide
   rw[this]; simp
  ·have he:rel.isEmpty=false:=by simpa using hr
   simp only[go_sem,hr]
   first|refine aa4 fok211 (hw') ?_|refine aa2 (hw') ?_
   simp only[go_sem];exact ab2 (by rw[he]; simp)
theorem if2 (n:Int):PC Tryz.prog EE 154 [.int .u8 n] (.bool (dq3 n)):=by
 refine ae9 hE fok154 (nZ rfl) (ai8 (.int _ _)) ?_;unfold dq3;by_cases g:n=0\/n=1\/n=2\/n=3\/n=4\/n=6
 ·rcases g with rfl|rfl|rfl|rfl|rfl|rfl
  all_goals
   simp only[ic154,go_sem];exact ab2 (by decide)
 ·simp only[not_or] at g;obtain ⟨g1,g2,g3,g4,g5,g6⟩:=g;simp only[ic154,go_sem,g1,g2,g3,g4,g5,g6];exact ab2 (by simp[g1,g2,g3,g4,g5,g6])
theorem if3 (e:EVR):allEq [1,2,2] e.cs fs3.cs=some (decide (e=fs3)):=by
 obtain ⟨ep,ver,rel⟩:=e;simp[EVR.cs,fs3,allEq,ak1]
theorem el3 (d:Dep)(h1:d.name.length<2^62)(h2:d.evr.ver.length<2^62)(h3:d.evr.rel.length<2^62):PC Tryz.prog EE 93 [.agg d.cs] (.bool (ah9 d)):=by
 refine ae9 hE fok93 (nZ rfl) (ai8 (.agg _ (ds9 d))) ?_;have hn:=dr7 d.name h1;have hf:=dr8 d.name h1;have ho:=if2 d.op;have hm:=ge1 d.evr true h2 h3;have he:=if3 d.evr;unfold ah9;obtain ⟨name,op,⟨ep,ver,rel⟩⟩:=d;unfold EVR.cs fs3 at he;simp only at *;simp only[ic93,go_sem,Dep.cs]
 first|refine aa4 fok136 (hn) ?_|refine aa2 (hn) ?_
 cases ar3 name with
 | false=>simp only[go_sem]; exact ab2 (by simp)
 | true=>
  simp only[go_sem]
  first|refine aa4 fok154 (ho) ?_|refine aa2 (ho) ?_
  cases dq3 op with
  | false=>simp only[go_sem]; exact ab2 (by simp)
  | true=>
   by_cases h0:op=0
   ·simp only[go_sem,h0,he,Option.map_some];exact ab2 (by simp[fs3])
   ·simp only[go_sem,h0]
    first|refine aa4 fok137 (hf) ?_|refine aa2 (hf) ?_
    cases aw7 name with
    | true=>simp only[go_sem]; exact ab2 (by simp[h0])
    | false=>
     simp only[go_sem]
     first|refine aa4 fok138 (hm) ?_|refine aa2 (hm) ?_
     simp only[go_sem];exact ab2 (by simp[h0])
theorem gy4 (a:Int):PC Tryz.prog EE 139 [.int .u8 a] (.str (bh5 a)):=by
 refine ae9 hE fok139 (nZ rfl) (ai8 (.int _ _)) ?_;unfold bh5;by_cases g:a=1\/a=2\/a=3\/a=4
 ·rcases g with rfl|rfl|rfl|rfl
  all_goals
   simp only[ic139,go_sem];exact .keep _ (.str _)
 ·simp only[not_or] at g;obtain ⟨g1,g2,g3,g4⟩:=g;simp only[ic139,go_sem,g1,g2,g3,g4];exact .keep _ (.str _)
theorem eb8 (l:List Dep)(hl:l.length<2^31)(hf:∀ d∈l,d.fit):PC Tryz.prog EE 140 [deps l] (.bool (decide (l.length<=32)&&l.all ah9)):=by
 refine ae9 hE fok140 (nZ rfl) (ai8 (.aa5 _ fun e he c hc=>by obtain ⟨d,_,rfl⟩:=List.mem_map.1 he; exact ds9 d c hc)) ?_;by_cases h1:l.length<=32
 case neg=>
  have c1:(32:Int)<l.length:=by omega
  simp only[ic140,go_sem,c1];exact ab2 (by simp[h1])
 have c1:¬ (32:Int)<l.length:=by omega
 simp only[ic140,go_sem,c1];refine ab7 noT (fun i fr t=>fr=[(0,deps l),(3,.int .i64 (i:Int))]/\(l.drop i).all ah9=l.all ah9) l.length ⟨rfl,rfl⟩ ?_;rintro i fr t hi ⟨rfl,ha⟩;by_cases hlt:i<l.length
 ·obtain ⟨x,hx,_,hdr,hget,_⟩:=ae2 l i hlt;have d1:(i:Int)<l.length:=by omega
  have d2:(0:Int)<=i:=by omega
  have w1:=ad4 (i:=i) (by omega);have hm:=el3 x (hf x hx).1 (hf x hx).2.1 (hf x hx).2.2;have dl:x.cs.length=5:=rfl;have dt:x.cs.take 5=x.cs:=rfl;have df:x.cs.all IV.leaf=true:=rfl;rw[hdr,List.all_cons] at ha;simp only[go_sem,d1,d2,hget,dl,dt]
  first|refine aa4 fok93 (hm) ?_|refine aa2 (hm) ?_
  cases hb:ah9 x with
  | true=>
   rw[hb,Bool.true_and] at ha;simp only[go_sem,w1]
   exact ⟨hlt,ha⟩
  | false=>
   rw[hb,Bool.false_and] at ha;simp only[go_sem];exact ab2 (by rw[<- ha]; simp)
 ·have d1:¬ (i:Int)<l.length:=by omega
  have e:i=l.length:=by omega
  subst e;rw[List.drop_length] at ha;simp only[go_sem,d1];exact ab2 (by rw[<- ha]; simp[h1])
theorem ge2 (r:aa8):r.fit->r.count<2^62->PC Tryz.prog EE 253 [.agg r.cs] (.int .i64 r.count):=by
 induction r using aa8.ind with
 | h k d xs ih=>
  intro hf hc;obtain ⟨f1,f2,f3,f4,f5⟩:=aa8.bk4.1 hf;refine ae9 hE fok253 (nZ rfl) (ae1 (ag1 _)) ?_;rw[aa8.an7];simp only[aa8.count] at hc ⊢;simp only[ic253,go_sem,aa8.kind,aa8.args,aa8.dep];refine ab7 noT (fun i fr σ=>∃ n:Nat,fr=[(1,.ab8 [.int .u8 k,.str d.name,.int .u8 d.op,.int .i64 d.evr.am9,.str d.evr.ver,.str d.evr.rel,.aa5 (xs.map aa8.cs)]),(3,.int .i64 n),(4,.int .i64 i)]/\n+aa8.counts (xs.drop i)=aa8.counts xs+1) xs.length ⟨1,rfl,by simp; omega⟩ ?_;rintro i fr σ hi ⟨n,rfl,hn⟩;by_cases hlt:i<xs.length
  ·obtain ⟨a,ha,_,hdr,hget,_⟩:=ae2 xs i hlt;have c1:(i:Int)<xs.length:=by omega
   have c2:(0:Int)<=i:=by omega
   have w1:=ad4 (i:=i) (by omega);rw[hdr] at hn;simp only[aa8.counts] at hn;have hcm:=aa8.dk4 ha;have hl:a.cs.all IV.leaf=true:=by rw[aa8.an7]; rfl
   have ht:a.cs.take 7=a.cs:=List.take_of_length_le (by rw[ac1]; exact Nat.le_refl _);have hA:=ih a ha (f5 a ha) (by omega);have w2:IntKind.i64.wrap ((n:Int)+(a.count:Int))=((n+a.count:Nat):Int):=by rw[wrap64 (by omega) (by omega)]; omega
   simp only[go_sem,c1,c2,hget,ac1,ht,List.drop_zero]
   first|refine aa4 fok253 (hA) ?_|refine aa2 (hA) ?_
   simp only[go_sem,w2,w1];exact ⟨hlt,n+a.count,rfl,by omega⟩
  ·have d1:¬ (i:Int)<xs.length:=by omega
   have e:i=xs.length:=by omega
   subst e;rw[List.drop_length] at hn;simp only[aa8.counts] at hn;simp only[go_sem,d1];exact bw3 (by omega)
theorem ge3 (r:aa8):r.fit->r.depth<2^62->PC Tryz.prog EE 254 [.agg r.cs] (.int .i64 r.depth):=by
 induction r using aa8.ind with
 | h k d xs ih=>
  intro hf hd;obtain ⟨f1,f2,f3,f4,f5⟩:=aa8.bk4.1 hf;refine ae9 hE fok254 (nZ rfl) (ae1 (ag1 _)) ?_;rw[aa8.an7];by_cases hk:k=1
  ·simp only[ic254,go_sem,aa8.kind,aa8.depth,hk];exact ad9 _ _
  ·simp only[aa8.depth,hk,if_false] at hd ⊢;simp only[ic254,go_sem,aa8.kind,aa8.args,aa8.dep,hk];refine ab7 noT (fun i fr σ=>∃ n:Nat,fr=[(1,.ab8 [.int .u8 k,.str d.name,.int .u8 d.op,.int .i64 d.evr.am9,.str d.evr.ver,.str d.evr.rel,.aa5 (xs.map aa8.cs)]),(3,.int .i64 n),(4,.int .i64 i)]/\max n (aa8.bd8 (xs.drop i))=aa8.bd8 xs) xs.length ⟨0,rfl,by simp⟩ ?_;rintro i fr σ hi ⟨n,rfl,hn⟩;by_cases hlt:i<xs.length
   ·obtain ⟨a,ha,_,hdr,hget,_⟩:=ae2 xs i hlt;have c1:(i:Int)<xs.length:=by omega
    have c2:(0:Int)<=i:=by omega
    have w1:=ad4 (i:=i) (by omega);rw[hdr,cx4] at hn;have hl:a.cs.all IV.leaf=true:=by rw[aa8.an7]; rfl
    have ht:a.cs.take 7=a.cs:=List.take_of_length_le (by rw[ac1]; exact Nat.le_refl _);have hA:=ih a ha (f5 a ha) (by omega);simp only[go_sem,c1,c2,hget,ac1,ht,List.drop_zero]
    first|refine aa4 fok254 (hA) ?_|refine aa2 (hA) ?_
    by_cases hg:n<a.depth
    ·have g1:(n:Int)<(a.depth:Int):=by omega
     simp only[go_sem,g1,w1];exact ⟨hlt,a.depth,rfl,by rw[<- hn]; omega⟩
    ·have g1:¬ (n:Int)<(a.depth:Int):=by omega
     simp only[go_sem,g1,w1];exact ⟨hlt,n,rfl,by rw[<- hn]; omega⟩
   ·have d1:¬ (i:Int)<xs.length:=by omega
    have e:i=xs.length:=by omega
    subst e;rw[List.drop_length] at hn;simp only[aa8.bd8] at hn;have w2:IntKind.i64.wrap ((n:Int)+1)=((n+1:Nat):Int):=ad4 (i:=n) (by omega);simp only[go_sem,d1,w2];exact bw3 (by omega)
theorem if4 (d:Dep):allEq [2,1,1,2,2] d.cs by7.cs=some (decide (d=by7)):=by
 obtain ⟨name,op,⟨ep,ver,rel⟩⟩:=d;simp[Dep.cs,by7,fs3,allEq,ak1]
theorem gy5 (wh:Int)(r:aa8):r.fit->∀ alone:Bool,PC Tryz.prog EE 255 [.agg r.cs,.int .u8 wh,.bool alone] (.bool (r.co2 wh alone)):=by
 induction r using aa8.ind with
 | h k d xs ih=>
  intro hf alone;obtain ⟨f1,f2,f3,f4,f5⟩:=aa8.bk4.1 hf;have hbA:=ag1 (.mk k d xs);have hm:=el3 d f3.1 f3.2.1 f3.2.2;have he:allEq [2,1,1,2,2] [.str d.name,.int .u8 d.op,.int .i64 d.evr.am9,.str d.evr.ver,.str d.evr.rel] [.str [],.int .u8 0,.int .i64 0,.str [],.str []]=some (decide (d=by7)):=if4 d;unfold Dep.cs at hm;rw[aa8.an7] at hbA ⊢;simp only[aa8.co2,aa8.fm4];unfold gw1;by_cases k1:k=1
  ·subst k1;refine ae9 hE fok255 (nZ rfl) (ba2 hbA (.int _ _) (.bool _)) ?_;by_cases hz:xs.length=0
   ·have e:xs=[]:=List.length_eq_zero_iff.1 hz;subst e;simp only[ic255,go_sem,aa8.kind,aa8.args,aa8.dep,List.map_nil,List.length_nil]
    first|refine aa4 fok93 (hm) ?_|refine aa2 (hm) ?_
    simp only[go_sem];exact ab2 (by simp)
   ·have c0:¬ (xs.length:Int)=0:=by omega
    simp only[ic255,go_sem,aa8.kind,aa8.args,aa8.dep,c0];exact ab2 (by simp[hz])
  rw[if_neg k1];obtain ⟨okb,hok⟩:∃ okb,okb=(if k=2\/k=3\/k=6 then decide (2<=xs.length) else if k=7 then decide (xs.length=2) else if k=4 then (decide (xs.length=2)||decide (xs.length=3))&&!alone&&decide (wh=1) else if k=5 then (decide (xs.length=2)||decide (xs.length=3))&&!alone&&decide (wh<=2) else false):=⟨_,rfl⟩;obtain ⟨al,hal⟩:∃ al,al=(alone||decide (k=6)||decide (k=7)):=⟨_,rfl⟩;rw[<- hok,<- hal];have hA:=fun x hx=>ih x hx (f5 x hx) al
  clear ih;refine ib8 hE fok255 (nZ rfl) (ba2 hbA (.int _ _) (.bool _)) ?_;simp only[aa8.kind,aa8.args,aa8.dep] at *;obtain ⟨rc,hrc⟩:∃ rc,rc=[IV.int .u8 k,.str d.name,.int .u8 d.op,.int .i64 d.evr.am9,.str d.evr.ver,.str d.evr.rel,.aa5 (xs.map aa8.cs)]:=⟨_,rfl⟩;have r0:rc.head? = some (.int .u8 k):=by rw[hrc]; rfl
  have r6:(rc.drop 6).head? = some (.aa5 (xs.map aa8.cs)):=by rw[hrc]; rfl
  have r1:(rc.drop 1).take 5=[.str d.name,.int .u8 d.op,.int .i64 d.evr.am9,.str d.evr.ver,.str d.evr.rel]:=by rw[hrc]; rfl
  have rl:rc.length=7:=by rw[hrc]; rfl
  have rt:rc.take 7=rc:=by rw[hrc]; rfl
  have rf:rc.all IV.leaf=true:=by rw[hrc]; rfl
  have rl1:(rc.drop 1).length=6:=by rw[hrc]; rfl
  rw[<- hrc];clear hrc hbA;simp only[ic255];refine ae5 (ai3 ?_);simp only[go_sem,rf];refine ae5 (ai3 ?_);simp only[go_sem,r6];refine ae5 (ai3 ?_);simp only[go_sem];refine ae5 (az4 (Q:=fun e f s=>e=.normal/\∃ rst:Frm,f=(1,.int .u8 wh)::(2,.bool al)::(3,.ab8 rc)::(7,.int .i64 xs.length)::(8,.bool okb)::rst) (ai3 ?_) ?_)
  ·have i2:decide ((2:Int)<=xs.length)=decide (2<=xs.length):=decide_eq_decide.2 (by omega);have e2:decide ((xs.length:Int)=2)=decide (xs.length=2):=decide_eq_decide.2 (by omega);have e3:decide ((xs.length:Int)=3)=decide (xs.length=3):=decide_eq_decide.2 (by omega);have n1:¬ k=1:=k1;by_cases k2:k=2
   ·subst k2;simp only[go_sem,Int.reduceEq,r0,i2,hok,hal];exact ⟨[],by simp⟩
   by_cases k3:k=3
   ·subst k3;simp only[go_sem,Int.reduceEq,r0,i2,hok,hal];exact ⟨[],by simp⟩
   by_cases k6:k=6
   ·subst k6;simp only[go_sem,Int.reduceEq,r0,i2,hok,hal];exact ⟨[],by simp⟩
   by_cases k7:k=7
   ·subst k7;simp only[go_sem,Int.reduceEq,r0,e2,hok,hal];exact ⟨[],by simp⟩
   by_cases k4:k=4
   ·subst k4;by_cases n2:xs.length=2
    ·have c2:(xs.length:Int)=2:=by omega
     cases alone<;>(simp only[go_sem,Int.reduceEq,r0,hok,hal,n2]; exact ⟨[],by simp⟩)
    ·have c2:¬ (xs.length:Int)=2:=by omega
     by_cases n3:xs.length=3
     ·have c3:(xs.length:Int)=3:=by omega
      cases alone<;>(simp only[go_sem,Int.reduceEq,r0,hok,hal,n3]; exact ⟨[],by simp⟩)
     ·have c3:¬ (xs.length:Int)=3:=by omega
      simp only[go_sem,Int.reduceEq,r0,c2,c3,hok,hal,n2,n3];exact ⟨[],by simp⟩
   by_cases k5:k=5
   ·subst k5;by_cases n2:xs.length=2
    ·have c2:(xs.length:Int)=2:=by omega
     cases alone<;>(simp only[go_sem,Int.reduceEq,r0,hok,hal,n2]; exact ⟨[],by simp⟩)
    ·have c2:¬ (xs.length:Int)=2:=by omega
     by_cases n3:xs.length=3
     ·have c3:(xs.length:Int)=3:=by omega
      cases alone<;>(simp only[go_sem,Int.reduceEq,r0,hok,hal,n3]; exact ⟨[],by simp⟩)
     ·have c3:¬ (xs.length:Int)=3:=by omega
      simp only[go_sem,Int.reduceEq,r0,c2,c3,hok,hal,n2,n3];exact ⟨[],by simp⟩
   simp only[go_sem,r0,n1,k2,k3,k4,k5,k6,k7,hok,hal];exact ⟨[(53,.bool false)],by simp⟩
  rintro e f s ⟨rfl,rst,rfl⟩;simp only[go_sem];refine ae5 (ai3 ?_)
  cases hob:okb with
  | false=>
   simp only[go_sem]
   exact ab2 (by simp)
  | true=>
  by_cases hd:d=by7
  case neg=>
   rw[decide_eq_false hd] at he;simp only[go_sem,rl1,r1,he,Option.map_some];exact ab2 (by simp[hd])
  rw[decide_eq_true hd] at he;simp only[go_sem,rl1,r1,he,Option.map_some];refine ai3 ?_;simp only[go_sem];refine ab7 noT (fun i fr t=>fr=[(1,.int .u8 wh),(2,.bool al),(3,.ab8 rc),(7,.int .i64 xs.length),(9,.int .i64 (i:Int))]/\((xs.drop i).all fun r=>r.co2 wh al)=xs.all fun r=>r.co2 wh al) xs.length ⟨rfl,rfl⟩ ?_;rintro i fr t hi ⟨rfl,ha⟩;by_cases hlt:i<xs.length
  ·obtain ⟨x,hx,_,hdr,hget,_⟩:=ae2 xs i hlt;have d1:(i:Int)<xs.length:=by omega
   have d2:(0:Int)<=i:=by omega
   have w1:=ad4 (i:=i) (by omega);have hl:x.cs.all IV.leaf=true:=by rw[aa8.an7]; rfl
   have ht:x.cs.take 7=x.cs:=List.take_of_length_le (by rw[ac1]; exact Nat.le_refl _);have hAx:=hA x hx;rw[hdr,List.all_cons] at ha;simp only[go_sem,d1,d2,r6,hget,ac1,ht]
   first|refine aa4 fok255 (hAx) ?_|refine aa2 (hAx) ?_
   cases hb:x.co2 wh al with
   | true=>
    rw[hb,Bool.true_and] at ha;simp only[go_sem,w1]
    exact ⟨hlt,ha⟩
   | false=>
    rw[hb,Bool.false_and] at ha;simp only[go_sem];exact ab2 (by rw[<- ha]; simp)
  ·have d1:¬ (i:Int)<xs.length:=by omega
   have e:i=xs.length:=by omega
   subst e;rw[List.drop_length] at ha;simp only[go_sem,d1];exact ab2 (by rw[<- ha]; simp[hd])
theorem if5 (r:aa8)(wh:Int)(hf:r.fit)(hc:r.count<2^31):PC Tryz.prog EE 212 [.agg r.cs,.int .u8 wh] (.int .i64 (ar5 r wh)):=by
 refine ae9 hE fok212 (nZ rfl) (aj9 (ag1 _) (.int _ _)) ?_;have h1:=ge2 r hf (by omega);have hd:r.depth<2^62:=by have:=ev7 r; omega
 have h2:=ge3 r hf hd;have h3:=gy5 wh r hf false;rw[ek2];by_cases w1:wh<1
 ·rw[if_pos (.inl w1)];simp only[ic212,go_sem,ab4,w1];exact ad9 _ _
 by_cases w2:3<wh
 ·rw[if_pos (.inr w2)];simp only[ic212,go_sem,ab4,w1,w2];exact ad9 _ _
 rw[if_neg (by omega)];simp only[ic212,go_sem,ab4,w1,w2,ac1,ac6]
 first|refine aa4 fok253 (h1) ?_|refine aa2 (h1) ?_
 by_cases c1:24<r.count
 ·have d1:(24:Int)<r.count:=by omega
  rw[if_pos c1];simp only[go_sem,d1];exact ad9 _ _
 have d1:¬ (24:Int)<r.count:=by omega
 rw[if_neg c1];simp only[go_sem,d1,ac1,ac6]
 first|refine aa4 fok254 (h2) ?_|refine aa2 (h2) ?_
 by_cases c2:8<r.depth
 ·have d2:(8:Int)<r.depth:=by omega
  rw[if_pos c2];simp only[go_sem,d2];exact ad9 _ _
 have d2:¬ (8:Int)<r.depth:=by omega
 rw[if_neg c2];simp only[go_sem,d2,ac1,ac6]
 first|refine aa4 fok255 (h3) ?_|refine aa2 (h3) ?_
 cases r.co2 wh false with
 | true=>simp only[go_sem]; exact bw3 (by simp)
 | false=>simp only[go_sem]; exact bw3 (by simp)
theorem el4 (l:List aa8)(wh:Int)(hl:l.length<2^31)(hf:∀ r∈l,r.fit/\r.count<2^31):PC Tryz.prog EE 141 [ai9 l,.int .u8 wh] (.bool (ad2 l wh)):=by
 refine ae9 hE fok141 (nZ rfl) (aj9 (aj7 l) (.int _ _)) ?_;unfold ad2;by_cases h1:l.length<=32
 case neg=>
  have c1:(32:Int)<l.length:=by omega
  simp only[ic141,go_sem,c1];exact ab2 (by simp[h1])
 have c1:¬ (32:Int)<l.length:=by omega
 simp only[ic141,go_sem,c1];refine ab7 noT (fun i fr t=>fr=[(0,ai9 l),(1,.int .u8 wh),(5,.int .i64 (i:Int))]/\((l.drop i).all fun r=>decide (ar5 r wh=0))=l.all fun r=>decide (ar5 r wh=0)) l.length ⟨rfl,rfl⟩ ?_;rintro i fr t hi ⟨rfl,ha⟩;by_cases hlt:i<l.length
 ·obtain ⟨x,hx,_,hdr,hget,_⟩:=ae2 l i hlt;have d1:(i:Int)<l.length:=by omega
  have d2:(0:Int)<=i:=by omega
  have w1:=ad4 (i:=i) (by omega);have hm:=if5 x wh (hf x hx).1 (hf x hx).2;rw[hdr,List.all_cons] at ha;simp only[go_sem,d1,d2,hget,ac1,ac6]
  first|refine aa4 fok212 (hm) ?_|refine aa2 (hm) ?_
  by_cases hb:ar5 x wh=0
  ·rw[decide_eq_true hb,Bool.true_and] at ha;simp only[go_sem,hb,w1];exact ⟨hlt,ha⟩
  ·rw[decide_eq_false hb,Bool.false_and] at ha;simp only[go_sem,hb];exact ab2 (by rw[<- ha]; simp)
 ·have d1:¬ (i:Int)<l.length:=by omega
  have e:i=l.length:=by omega
  subst e;rw[List.drop_length] at ha;simp only[go_sem,d1];exact ab2 (by rw[<- ha]; simp[h1])
theorem eu5 (p:aa3)(hf:p.Fit):PC Tryz.prog EE 79 [.agg p.cs] (.bool (ag2 p)):=by
 refine ae9 hE fok79 (nZ rfl) (ae1 (an3 _)) ?_;have g1:=dr7 p.name hf.name;have g2:=dr8 p.name hf.name;have g3:=ge1 p.evr false hf.evr.1 hf.evr.2;have g4:=gy4 p.au2;have g4':=bj4 p.au2;unfold EVR.cs at g3;simp only[ic79,go_sem,aa3.cs]
 first|refine aa4 fok136 (g1) ?_|refine aa2 (g1) ?_
 cases h1:ar3 p.name with
 | false=>simp only[go_sem]; exact ab2 (by simp[ag2,h1])
 | true=>
 simp only[go_sem]
 first|refine aa4 fok137 (g2) ?_|refine aa2 (g2) ?_
 cases h2:aw7 p.name with
 | true=>simp only[go_sem]; exact ab2 (by simp[ag2,h2])
 | false=>
 simp only[go_sem]
 first|refine aa4 fok138 (g3) ?_|refine aa2 (g3) ?_
 cases h3:bd7 p.evr false with
 | false=>simp only[go_sem]; exact ab2 (by simp[ag2,h3])
 | true=>
 simp only[go_sem]
 first|refine aa4 fok139 (g4) ?_|refine aa2 (g4) ?_
 cases h4:an8 p.au2 with
 | false=>
  rw[h4] at g4'
  simp only[go_sem,g4']; exact ab2 (by simp[ag2,h4])
 | true=>
 rw[h4] at g4';simp only[go_sem,g4'];by_cases h5:p.vendor.length<=64
 case neg=>
  have h5':(64:Int)<p.vendor.length:=by omega
  simp only[go_sem,h5']; exact ab2 (by simp[ag2,h5])
 have h5':¬ (64:Int)<p.vendor.length:=by omega
 simp only[go_sem,h5'];by_cases h6:p.files.length<=32
 case neg=>
  have h6':(32:Int)<p.files.length:=by omega
  simp only[go_sem,h6']; exact ab2 (by simp[ag2,h6])
 have h6':¬ (32:Int)<p.files.length:=by omega
 simp only[go_sem,h6'];have g6:=eb8 p.provides hf.av9.1 hf.av9.2;have g9:=eb8 p.aa9 hf.obs.1 hf.obs.2;have gr:=fun (l:List aa8) (wh:Int) (h:(wh,l)∈p.rows)=>el4 l wh (hf.rich _ h).1 fun r hr=>(hf.rich _ h).2 r hr
 have r1:=gr p.requires 1 (by simp[aa3.rows]);have r2:=gr p.conflicts 2 (by simp[aa3.rows]);have r3:=gr p.ac3 1 (by simp[aa3.rows]);have r4:=gr p.ac2 3 (by simp[aa3.rows]);have r5:=gr p.suggests 1 (by simp[aa3.rows]);have r6:=gr p.ad6 3 (by simp[aa3.rows]);clear gr;refine ab7 noT (fun i fr s=>fr=[(1,.ab8 p.cs),(3,.int .i64 (i:Int))]/\rising p.files=rising (p.files.drop (i-1))/\(p.files.drop i).all aw7=p.files.all aw7) p.files.length ⟨rfl,rfl,rfl⟩ ?_;rintro i fr s hi ⟨rfl,hr,ha⟩;by_cases hlt:i<p.files.length
 ·obtain ⟨f,hfm,hfi,hdr,hget,_⟩:=ae2 p.files i hlt;have c1:(i:Int)<p.files.length:=by omega
  have c2:(0:Int)<=i:=by omega
  have w1:=ad4 (i:=i) (by omega);have gf:=dr8 f (hf.files.2 f hfm);have hget':(p.files.map bi1).getD i []=bi1 f:=hget bi1;rw[hdr,List.all_cons] at ha;simp only[go_sem,c1,c2,hget',bi1,aa3.cs]
  first|refine aa4 fok137 (gf) ?_|refine aa2 (gf) ?_
  cases hb:aw7 f with
  | false=>
   rw[hb,Bool.false_and] at ha;simp only[go_sem]
   exact ab2 (by simp[ag2,<- ha])
  | true=>
   rw[hb,Bool.true_and] at ha;by_cases h0:0<i
   ·have c0:(0:Int)<i:=by omega
    obtain ⟨a,ha1,ha2⟩:=cx6 h0 hdr;have hget2:(p.files.map bi1).getD (i-1) []=bi1 a:=by simp[List.getD_eq_getElem?_getD,ha1]
    have w0:IntKind.i64.wrap ((i:Int)-1)=((i-1:Nat):Int):=by
     rw[wrap64 (by omega) (by omega)]; omega
    have c3:(0:Int)<=((i-1:Nat):Int):=by omega
    have c4:((i-1:Nat):Int)<p.files.length:=by omega
    rw[ha2] at hr;simp only[go_sem,c0,c1,c2,c3,c4,w0,hget',hget2,bi1]
    cases hb2:Op.bytesLess a f with
    | true=>
     rw[hb2,Bool.true_and] at hr;simp only[go_sem,w1]
     exact ⟨hlt,hr,ha⟩
    | false=>
     rw[hb2,Bool.false_and] at hr;simp only[go_sem];exact ab2 (by simp[ag2,hr])
   ·have c0:¬ (0:Int)<i:=by omega
    have e0:i=0:=by omega
    simp only[go_sem,c0,w1];refine ⟨hlt,?_,ha⟩;subst e0; exact hr
 ·have d1:¬ (i:Int)<p.files.length:=by omega
  have e:i=p.files.length:=by omega
  rw[e,List.drop_length] at ha
  have hris:rising p.files=true:=by
   rw[hr,e]
   cases hz:p.files with
   | nil=>rfl
   | cons a l=>
    have:(a::l).drop ((a::l).length-1)=[(a::l)[(a::l).length-1]]:=by
     rw[List.drop_eq_getElem_cons (by simp)];simp
    rw[this]; rfl
  have hall:p.files.all aw7=true:=ha.symm
  have hm:ag2 p=((decide (p.provides.length<=32)&&p.provides.all ah9)&&(decide (p.aa9.length<=32)&&p.aa9.all ah9)&&ad2 p.requires 1&&ad2 p.ac3 1&&ad2 p.suggests 1&&ad2 p.conflicts 2&&ad2 p.ac2 3&&ad2 p.ad6 3):=by
   unfold ag2;rw[h1,h2,h3,h4,hris,hall,decide_eq_true h5,decide_eq_true h6];generalize (decide (p.provides.length<=32)&&p.provides.all ah9)=A;generalize (decide (p.aa9.length<=32)&&p.aa9.all ah9)=B;generalize ad2 p.requires 1=C;generalize ad2 p.conflicts 2=D;generalize ad2 p.ac3 1=E;generalize ad2 p.ac2 3=F;generalize ad2 p.suggests 1=G;generalize ad2 p.ad6 3=H
   revert A B C D E F G H
   decide
  rw[hm];generalize (decide (p.provides.length<=32)&&p.provides.all ah9)=A at *;generalize (decide (p.aa9.length<=32)&&p.aa9.all ah9)=B at *;generalize ad2 p.requires 1=C at *;generalize ad2 p.conflicts 2=D at *;generalize ad2 p.ac3 1=E at *;generalize ad2 p.ac2 3=F at *;generalize ad2 p.suggests 1=G at *;generalize ad2 p.ad6 3=H at *;simp only[go_sem,d1,aa3.cs]
  first|refine aa4 fok140 (g6) ?_|refine aa2 (g6) ?_
  cases A with
  | false=>simp only[go_sem]; exact ab2 (by simp)
  | true=>
  simp only[go_sem]
  first|refine aa4 fok140 (g9) ?_|refine aa2 (g9) ?_
  cases B with
  | false=>simp only[go_sem]; exact ab2 (by simp)
  | true=>
  simp only[go_sem]
  first|refine aa4 fok141 (r1) ?_|refine aa2 (r1) ?_
  cases C with
  | false=>simp only[go_sem]; exact ab2 (by simp)
  | true=>
  simp only[go_sem]
  first|refine aa4 fok141 (r3) ?_|refine aa2 (r3) ?_
  cases E with
  | false=>simp only[go_sem]; exact ab2 (by simp)
  | true=>
  simp only[go_sem]
  first|refine aa4 fok141 (r5) ?_|refine aa2 (r5) ?_
  cases G with
  | false=>simp only[go_sem]; exact ab2 (by simp)
  | true=>
  simp only[go_sem]
  first|refine aa4 fok141 (r2) ?_|refine aa2 (r2) ?_
  cases D with
  | false=>simp only[go_sem]; exact ab2 (by simp)
  | true=>
  simp only[go_sem]
  first|refine aa4 fok141 (r4) ?_|refine aa2 (r4) ?_
  cases F with
  | false=>simp only[go_sem]; exact ab2 (by simp)
  | true=>
  simp only[go_sem]
  first|refine aa4 fok141 (r6) ?_|refine aa2 (r6) ?_
  simp only[go_sem];exact ab2 (by simp)
end Go.Id.Tryz
set_option linter.all false
namespace Go.Id.Tryz
open Go Go.Id Go.Proofs Go.Shelf Go.Id.Md
set_option maxRecDepth 100000
set_option maxHeartbeats 1000000
theorem gz3 (r:aa8):r.fit->PC Tryz.prog EE 213 [.agg r.cs] (.agg r.cs):=by
 induction r using aa8.ind with
 | h k d xs ih=>
  intro hf;obtain ⟨f1,f2,f3,f4,f5⟩:=aa8.bk4.1 hf;have hbA:=ag1 (.mk k d xs);rw[aa8.an7] at hbA ⊢;simp only[aa8.kind,aa8.args,aa8.dep] at *;refine ae9 hE fok213 (nZ rfl) (ai8 hbA) ?_;simp only[ic213,go_sem]
  refine ab7 noT (fun i fr s=>∃ gv,fr=[(1,.ab8 [.int .u8 k,.str d.name,.int .u8 d.op,.int .i64 d.evr.am9,.str d.evr.ver,.str d.evr.rel,.aa5 (xs.map aa8.cs)]),(2,.ptr 0 0),(3,.ptr 1 0),(4,.int .i64 (i:Int))]/\2<=s.next /\
   s.obj 0=some (.cells [.int .u8 0,.str [],.int .u8 0,.int .i64 0,.str [],.str [],.aa1])/\s.obj 1=some (.cells [.int .u8 k,.str d.name,.int .u8 d.op,.int .i64 d.evr.am9,.str d.evr.ver,.str d.evr.rel,gv])/\Grow s gv 7 ((xs.take i).map aa8.cs)) xs.length
   ⟨.aa1,rfl,Nat.le_refl _,rfl,rfl,.inl ⟨rfl,rfl⟩⟩ ?_
  rintro i fr s hi ⟨gv,rfl,hnx,h0,h1,hg⟩;by_cases hlt:i<xs.length
  ·obtain ⟨a,ha,_,hdr,hget,htk⟩:=ae2 xs i hlt;have c1:(i:Int)<xs.length:=by omega
   have c2:(0:Int)<=i:=by omega
   have w1:=ad4 (i:=i) (by omega);have hA:=ih a ha (f5 a ha);have hl0:((xs.take i).map aa8.cs).length=i:=by rw[List.length_map,List.length_take]; omega
   have hg1:Grow (⟨s.next+12,s.obj⟩:Store) gv 7 ((xs.take i).map aa8.cs):=hg.mono (by show s.next<=s.next+12; omega) fun _ _ _=>rfl
   have hap:=al4 (nid:=s.next+9) (e:=a.cs) hg1 (ap6 _) ⟨ac1 a,ab4 a⟩ (by rw[hl0]; omega);rw[hl0] at hap;have k0:=af7 hg1 0 _ h0 (fun _ e=>by cases e);have k1:=af7 hg1 1 _ h1 (fun _ e=>by cases e);have kn:(ai7 gv (⟨s.next+12,s.obj⟩:Store)).next=s.next+12:=ad8 gv;have m0:¬ 0=s.next+9:=by omega
   have m1:¬ 1=s.next+9:=by omega
   simp only[go_sem,c1,c2,hget,ac1,ac6,h1,b_o,b_p,b_t];refine aa2 hA ?_;simp only[go_sem,ac1,ac6,ab4];generalize ai7 gv (⟨s.next+12,s.obj⟩:Store)=K at *;simp only[show s.next+1+1+1+1+1+1+1+1+1=s.next+9 from rfl,hap,go_sem,m0,m1,k0,k1,w1];refine ⟨hlt,_,by rw[kn]; omega,rfl,?_⟩;rw[htk,List.map_append,List.map_cons,List.map_nil];refine .inr ⟨s.next+9,by rw[List.length_append,hl0]; rfl,?_,by show s.next+9<K.next; rw[kn]; omega⟩;simp only[aa7];rw[if_neg (fun e=>m1 e.symm),if_pos trivial]
  ·have c1:¬ (i:Int)<xs.length:=by omega
   have e:i=xs.length:=by omega
   subst e;rw[List.take_length] at hg;have hvl:gv.leaf=true:=by rcases hg with ⟨rfl,_⟩|⟨id,rfl,_⟩<;>rfl
   simp only[go_sem,c1,h0,h1];refine ⟨hvl,.il8 (.cons (bw3 rfl) (.cons (.keep _ (.str _)) (.cons (bw3 rfl) (.cons (bw3 rfl) (.cons (.keep _ (.str _)) (.cons (.keep _ (.str _)) (.cons ?_ .nil)))))))⟩;have hne:∀ id,gv=.slice id 0 (xs.map aa8.cs).length 7->id≠0:=fun id hv=>hg.ne hv h0 (fun _ h=>by cases h)
   refine Grow.frz (hg.mono (Nat.le_refl _) fun id hv _=>?_) (fun x hx=>(ap6 xs x hx).1) (fun _ _=>Nat.not_lt_zero _) (ak5 (aj7 xs));rw[aa7,if_neg (hne id hv)]
theorem ds5 (l:List Dep):∀ x∈l.map Dep.cs,x.length=5/\x.all IV.leaf=true:=fun x hx=>by
 obtain ⟨d,_,rfl⟩:=List.mem_map.1 hx;exact ⟨rfl,rfl⟩
theorem eu8 (l:List Str):∀ x∈l.map bi1,x.length=1/\x.all IV.leaf=true:=fun x hx=>by
 obtain ⟨d,_,rfl⟩:=List.mem_map.1 hx;exact ⟨rfl,rfl⟩
theorem ge8 (xs:List aa8)(hl:xs.length<2^31)(hf:∀ r∈xs,r.fit):PC Tryz.prog EE 142 [ai9 xs] (ai9 xs):=by
 refine ae9 hE fok142 (nZ rfl) (ai8 (aj7 xs)) ?_;simp only[ic142,go_sem];refine ab7 noT (fun i fr s=>∃ gv,fr=[(0,ai9 xs),(3,gv),(4,.int .i64 (i:Int))]/\Grow s gv 7 ((xs.take i).map aa8.cs)) xs.length ⟨.aa1,rfl,.inl ⟨rfl,rfl⟩⟩ ?_;rintro i fr s hi ⟨gv,rfl,hg⟩;by_cases hlt:i<xs.length
 ·obtain ⟨a,ha,_,hdr,hget,htk⟩:=ae2 xs i hlt;have c1:(i:Int)<xs.length:=by omega
  have c2:(0:Int)<=i:=by omega
  have w1:=ad4 (i:=i) (by omega);have hA:=gz3 a (hf a ha);have hl0:((xs.take i).map aa8.cs).length=i:=by rw[List.length_map,List.length_take]; omega
  simp only[go_sem,c1,c2,hget,ac1,ac6]
  first|refine aa4 fok213 (hA) ?_|refine aa2 (hA) ?_
  simp only[go_sem,ac1,ac6,ab4];have hap:=al4 (nid:=s.next) (e:=a.cs) (hg.mono (σ':=⟨s.next+1,s.obj⟩) (Nat.le_succ _) fun _ _ _=>rfl) (ap6 _) ⟨ac1 a,ab4 a⟩ (by rw[hl0]; omega);rw[hl0] at hap;simp only[go_sem,hap,w1];refine ⟨hlt,_,rfl,?_⟩;rw[htk,List.map_append,List.map_cons,List.map_nil];exact .inr ⟨s.next,by rw[List.length_append,hl0]; rfl,by rw[aa7,if_pos rfl],by show s.next<(ai7 gv _).next; rw[ad8]; exact Nat.lt_succ_self _⟩
 ·have c1:¬ (i:Int)<xs.length:=by omega
  have e:i=xs.length:=by omega
  subst e;rw[List.take_length] at hg;simp only[go_sem,c1];exact hg.frz (fun x hx=>(ap6 xs x hx).1) (fun _ _=>Nat.not_lt_zero _) (ak5 (aj7 xs))
theorem ec4 (p:aa3)(hf:p.Fit):PC Tryz.prog EE 80 [.agg p.cs] (.agg p.cs):=by
 refine ae9 hE fok80 (nZ rfl) (ai8 (an3 p)) ?_;have gr:=fun (l:List aa8) (wh:Int) (h:(wh,l)∈p.rows)=>ge8 l (hf.rich _ h).1 fun r hr=>((hf.rich _ h).2 r hr).1
 have r1:=gr p.requires 1 (by simp[aa3.rows]);have r2:=gr p.conflicts 2 (by simp[aa3.rows]);have r3:=gr p.ac3 1 (by simp[aa3.rows]);have r4:=gr p.ac2 3 (by simp[aa3.rows]);have r5:=gr p.suggests 1 (by simp[aa3.rows]);have r6:=gr p.ad6 3 (by simp[aa3.rows]);clear gr;simp only[ic80,go_sem,aa3.cs];generalize hS0:Store.put _ 9 (ak4.row [])=S0;have S0n:S0.next=41:=by rw[<- hS0]; rfl
 have g0:Grow S0 (.slice 9 0 0 5) 5 []:=.inr ⟨9,rfl,by rw[<- hS0,aa7,if_pos rfl]; rfl,by omega⟩;have b0:S0.obj 0=some (.cells [.str [],.int .i64 0,.str [],.str [],.int .u8 0,.str [],.aa1,.aa1,.aa1,.aa1,.aa1,.aa1,.aa1,.aa1,.aa1]):=by rw[<- hS0]; rfl
 obtain ⟨v1,t1,a1,n1,q1,k1,o1⟩:=bm3 (nid:=12) (xs:=p.provides.map Dep.cs) g0 (fun x h=>by cases h) (ds5 _) (by rw[List.length_map,List.length_nil]; have:=hf.av9.1; omega) (by omega);have b1:t1.obj 0=_:=(k1 0 (by decide) (fun k h=>by cases h)).trans b0;rw[List.nil_append] at q1;simp only[go_sem,a1];refine aa2 r1 ?_;simp only[go_sem];refine aa2 r2 ?_;simp only[go_sem]
 have i1:∀ i k,v1=.slice i 0 k 5->i=9\/i=12:=fun i k h=>by
  rcases o1 with e|e<;>(rw[e] at h; cases h)<;>simp
 generalize hS1:Store.put t1 19 (ak4.row [])=S1;have S1n:S1.next=41:=by rw[<- hS1,ab5,n1,S0n]
 have e1:∀ i,i≠19->S1.obj i=t1.obj i:=fun i hi=>by rw[<- hS1,aa7,if_neg hi]
 have g1:Grow S1 (.slice 19 0 0 5) 5 []:=.inr ⟨19,rfl,by rw[<- hS1,aa7,if_pos rfl]; rfl,by omega⟩;obtain ⟨v2,t2,a2,n2,q2,k2,o2⟩:=bm3 (nid:=22) (xs:=p.aa9.map Dep.cs) g1 (fun x h=>by cases h) (ds5 _) (by rw[List.length_map,List.length_nil]; have:=hf.obs.1; omega) (by omega);rw[List.nil_append] at q2
 have i2:∀ i k,v2=.slice i 0 k 5->i=19\/i=22:=fun i k h=>by
  rcases o2 with e|e<;>(rw[e] at h; cases h)<;>simp
 have b2:t2.obj 0=_:=(k2 0 (by decide) (fun k h=>by cases h)).trans ((e1 0 (by decide)).trans b1)
 have p1:Grow t2 v1 5 (p.provides.map Dep.cs):=q1.mono (by rw[n2,S1n,n1,S0n]; exact Nat.le_refl _) fun id hv _=>by
  have hid:=i1 _ _ hv;rw[k2 id (by omega) (fun k h=>by cases h; omega),e1 id (by omega)]
 simp only[go_sem,a2];refine aa2 r3 ?_;simp only[go_sem];refine aa2 r4 ?_;simp only[go_sem];refine aa2 r5 ?_;simp only[go_sem];refine aa2 r6 ?_;simp only[go_sem];generalize hS2:Store.put t2 35 (ak4.row [])=S2;have S2n:S2.next=41:=by rw[<- hS2,ab5,n2,S1n]
 have e2:∀ i,i≠35->S2.obj i=t2.obj i:=fun i hi=>by rw[<- hS2,aa7,if_neg hi]
 have g2:Grow S2 (.slice 35 0 0 1) 1 []:=.inr ⟨35,rfl,by rw[<- hS2,aa7,if_pos rfl]; rfl,by omega⟩;obtain ⟨v3,t3,a3,n3,q3,k3,o3⟩:=bm3 (nid:=38) (xs:=p.files.map bi1) g2 (fun x h=>by cases h) (eu8 _) (by rw[List.length_map,List.length_nil]; have:=hf.files.1; omega) (by omega);rw[List.nil_append] at q3
 have i3:∀ i k,v3=.slice i 0 k 1->i=35\/i=38:=fun i k h=>by
  rcases o3 with e|e<;>(rw[e] at h; cases h)<;>simp
 have b3:t3.obj 0=_:=(k3 0 (by decide) (fun k h=>by cases h)).trans ((e2 0 (by decide)).trans b2)
 have pp1:Grow t3 v1 5 (p.provides.map Dep.cs):=p1.mono (by rw[n3,S2n,n2,S1n]; exact Nat.le_refl _) fun id hv _=>by
  have hid:=i1 _ _ hv;rw[k3 id (by omega) (fun k h=>by cases h; omega),e2 id (by omega)]
 have pp2:Grow t3 v2 5 (p.aa9.map Dep.cs):=q2.mono (by rw[n3,S2n,n2,S1n]; exact Nat.le_refl _) fun id hv _=>by
  have hid:=i2 _ _ hv;rw[k3 id (by omega) (fun k h=>by cases h; omega),e2 id (by omega)]
 have l1:v1.leaf=true:=by rcases o1 with e|e<;>(rw[e]; rfl)
 have l2:v2.leaf=true:=by rcases o2 with e|e<;>(rw[e]; rfl)
 have l3:v3.leaf=true:=by rcases o3 with e|e<;>(rw[e]; rfl)
 have c1:v1.cs=[v1]:=by rcases o1 with e|e<;>(rw[e]; rfl)
 have c2:v2.cs=[v2]:=by rcases o2 with e|e<;>(rw[e]; rfl)
 have c3:v3.cs=[v3]:=by rcases o3 with e|e<;>(rw[e]; rfl)
 simp only[go_sem,a3,l1,l2,l3,c1,c2,c3,b3];have bs:∀ s:Str,Bnd 0 (.str s):=fun s=>.str s
 have fd:∀ (v:IV) (l:List Dep),(∀ i k,v=.slice i 0 k 5->i≠0)->Grow t3 v 5 (l.map Dep.cs)->∀ c,bt7 (t3.put 0 c) 0 v (deps l):=fun v l hv hg c=>by
  refine Grow.frz (hg.mono (Nat.le_refl _) fun id hid _=>by rw[aa7,if_neg (hv _ _ hid)]) (fun x hx=>(ds5 l x hx).1) (fun _ _=>Nat.not_lt_zero _) fun e he c hc=>?_
  obtain ⟨d,_,rfl⟩:=List.mem_map.1 he;exact ds9 d c hc
 have fs:∀ (v:IV) (l:List Str),(∀ i k,v=.slice i 0 k 1->i≠0)->Grow t3 v 1 (l.map bi1)->∀ c,bt7 (t3.put 0 c) 0 v (strs l):=fun v l hv hg c=>by
  refine Grow.frz (hg.mono (Nat.le_refl _) fun id hid _=>by rw[aa7,if_neg (hv _ _ hid)]) (fun x hx=>(eu8 l x hx).1) (fun _ _=>Nat.not_lt_zero _) fun e he c hc=>?_
  obtain ⟨d,_,rfl⟩:=List.mem_map.1 he
  cases hc with
  | head=>exact .str _
  | tail _ h=>cases h
 refine .il8 (.cons (.keep _ (bs _)) (.cons (bw3 rfl) (.cons (.keep _ (bs _)) (.cons (.keep _ (bs _)) (.cons (bw3 rfl) (.cons (.keep _ (bs _)) (.cons (fd _ _ (fun i k h=>by have:=i1 _ _ h; omega) pp1 _) (.cons (.keep _ (aj7 _)) (.cons (.keep _ (aj7 _)) (.cons (fd _ _ (fun i k h=>by have:=i2 _ _ h; omega) pp2 _)
  (.cons (.keep _ (aj7 _)) (.cons (.keep _ (aj7 _)) (.cons (.keep _ (aj7 _)) (.cons (.keep _ (aj7 _)) (.cons (fs _ _ (fun i k h=>by have:=i3 _ _ h; omega) q3 _) .nil)))))))))))))))
set_option maxHeartbeats 1000000
def iw7 (e:Nat)(es:List (List IV)):Prop:=∀ x∈es,x.length=e/\x.all IV.leaf=true
def Far (v w:IV):Prop:=∀ i k e j l f,v=.slice i 0 k e->w=.slice j 0 l f->i≠j
structure Q12 (s:Store) (id:Nat) (n:Int) (k:Nat) (Lv Rv Pv:IV) (eL eR eP:List (List IV)):Prop where
 cell:s.obj id=some (.cells [Lv,.int .i64 n,Rv,Pv])
 lt:id<s.next
 gL:Grow s Lv 15 eL
 gR:Grow s Rv 1 eR
 gP:Grow s Pv 1 eP
 aL:iw7 15 eL
 aR:iw7 1 eR
 aP:iw7 1 eP
 kL:eL.length<=k
 kR:eR.length<=k
 kP:eP.length<=k
 lr:Far Lv Rv
 lp:Far Lv Pv
 rp:Far Rv Pv
theorem Q12.mono {s s':Store}{id:Nat}{n:Int}{k:Nat}{Lv Rv Pv:IV}{eL eR eP:List (List IV)}(h:Q12 s id n k Lv Rv Pv eL eR eP)(hn:s.next<=s'.next)(ho:∀ i,i<s.next->s'.obj i=s.obj i):Q12 s' id n k Lv Rv Pv eL eR eP :=
 {h with
  cell:=by rw[ho _ h.lt]; exact h.cell
  lt:=Nat.lt_of_lt_of_le h.lt hn
  gL:=h.gL.mono hn fun i _ hi=>ho i hi
  gR:=h.gR.mono hn fun i _ hi=>ho i hi
  gP:=h.gP.mono hn fun i _ hi=>ho i hi }
theorem eu9 {s:Store}{v:IV}{e:Nat}{es:List (List IV)}(h:Grow s v e es){i k f:Nat}(hv:v=.slice i 0 k f):i<s.next/\∃ cs,s.obj i=some (.row cs):=by
 rcases h with ⟨h0,_⟩|⟨j,hj,ho,hl⟩
 ·rw[h0] at hv; cases hv
 ·rw[hj] at hv; cases hv; exact ⟨hl,_,ho⟩
theorem ge9 {s:Store}{v:IV}{i:Nat}(h:∀ k e,v≠.slice i 0 k e){e:Nat}{es:List (List IV)}(hg:Grow s v e es):(ai7 v s).obj i=s.obj i:=by
 rcases hg with ⟨h0,_⟩|⟨j,hj,_,_⟩
 ·rw[h0]; rfl
 ·rw[hj];show (if i=j then none else s.obj i)=_;rw[if_neg fun e=>h _ _ (by rw[hj,e])]
theorem fo1 {s:Store}{v w:IV}{e f m nid:Nat}{es fs:List (List IV)}(hm:s.next<=m)(hg:Grow s v e es)(hw:Grow s w f fs)(hf:Far v w)(hn:∀ i k g,w=.slice i 0 k g->i≠nid)(r:ak4) :
  Grow ((ai7 v (⟨m,s.obj⟩:Store)).put nid r) w f fs:=by
 have hg':Grow (⟨m,s.obj⟩:Store) v e es:=hg.mono hm fun _ _ _=>rfl
 refine hw.mono (by rw[ab5,ad8]; exact hm) fun i hv _=>?_
 rw[aa7,if_neg (hn _ _ _ hv),ge9 (fun k g hk=>hf _ _ _ _ _ _ hk hv rfl) hg']
theorem Q12.push {t:Store}{id:Nat}{n:Int}{k:Nat}{Lv Rv Pv:IV}{eL eR eP:List (List IV)}(h:Q12 t id n k Lv Rv Pv eL eR eP)(hk:k<2^20){c:List IV}(hc:c.length=15/\c.all IV.leaf=true)(a b:Int){d1 d2 d3 d4:Nat}(h12:d1<d2)(h23:d2<d3)(h34:d3<d4) :
  ∃ L' R' P' S1 S2 S3,bf6 ⟨t.next+d4,t.obj⟩ (t.next+d1) 15 Lv (.aa5 [c])=some (L',S1)/\S1.obj id=some (.cells [Lv,.int .i64 n,Rv,Pv])/\bf6 S1 (t.next+d2) 1 Rv (.aa5 [[.int .i64 a]])=some (R',S2)/\S2.obj id=some (.cells [Lv,.int .i64 n,Rv,Pv]) /\
   bf6 S2 (t.next+d3) 1 Pv (.aa5 [[.int .i64 b]])=some (P',S3)/\S3.obj id=some (.cells [Lv,.int .i64 n,Rv,Pv])/\(L'.leaf=true/\L'.cs=[L']/\R'.leaf=true/\R'.cs=[R']/\P'.leaf=true/\P'.cs=[P'])/\S3.next=t.next+d4 /\
   ∀ τ:Store,t.next+d4<=τ.next->τ.obj id=some (.cells [L',.int .i64 n,R',P'])->(∀ i,i≠id->τ.obj i=S3.obj i)->Q12 τ id n (k+1) L' R' P' (eL++[c]) (eR++[[.int .i64 a]]) (eP++[[.int .i64 b]]):=by
 have hcell:=h.cell;have nid1:¬ id=t.next+d1:=by have:=h.lt; omega
 have nid2:¬ id=t.next+d2:=by have:=h.lt; omega
 have nid3:¬ id=t.next+d3:=by have:=h.lt; omega
 have notrow:∀ {s:Store} {v:IV} {e:Nat} {es:List (List IV)},Grow s v e es->s.obj id=some (.cells [Lv,.int .i64 n,Rv,Pv])->∀ kk ee,v≠.slice id 0 kk ee:=fun hg ho kk ee hv=>by
  obtain ⟨_,cs,hr⟩:=eu9 hg hv;rw[ho] at hr; cases hr
 have old:∀ {s:Store} {v:IV} {e:Nat} {es:List (List IV)},Grow s v e es->s.next=t.next->∀ d i kk g,v=.slice i 0 kk g->i≠t.next+d:=fun hg hs d i kk g hv=>by
  have:=(eu9 hg hv).1; omega
 -- the first row
 have G0:Grow (⟨t.next+d4,t.obj⟩:Store) Lv 15 eL:=h.gL.mono (by show t.next<=t.next+d4; omega) fun _ _ _=>rfl
 have A1:=al4 (nid:=t.next+d1) (e:=c) G0 h.aL hc (by have:=h.kL; omega)
 have c1:((ai7 Lv (⟨t.next+d4,t.obj⟩:Store)).put (t.next+d1) (.row (eL++[c]).flatten)).obj id=some (.cells [Lv,.int .i64 n,Rv,Pv]):=by
  rw[aa7,if_neg nid1]; exact af7 G0 id _ hcell (fun _ e=>by cases e)
 have R1:=fo1 (m:=t.next+d4) (nid:=t.next+d1) (Nat.le_add_right _ _) h.gL h.gR h.lr (old h.gR rfl d1) (.row (eL++[c]).flatten);have P1:=fo1 (m:=t.next+d4) (nid:=t.next+d1) (Nat.le_add_right _ _) h.gL h.gP h.lp (old h.gP rfl d1) (.row (eL++[c]).flatten);have L1:Grow ((ai7 Lv (⟨t.next+d4,t.obj⟩:Store)).put (t.next+d1) (.row (eL++[c]).flatten)) (.slice (t.next+d1) 0 (eL.length+1) 15) 15 (eL++[c]):=Grow.new (v:=.aa1) (by rw[ab5,ad8]; show _<t.next+d4; omega) (by rw[aa7,if_pos rfl]);have N1:((ai7 Lv (⟨t.next+d4,t.obj⟩:Store)).put (t.next+d1) (.row (eL++[c]).flatten)).next=t.next+d4:=by rw[ab5,ad8]
 generalize (ai7 Lv (⟨t.next+d4,t.obj⟩:Store)).put (t.next+d1) (.row (eL++[c]).flatten)=S1 at *
 -- the second
 have A2:=al4 (nid:=t.next+d2) (e:=[IV.int .i64 a]) R1 h.aR ⟨rfl,rfl⟩ (by have:=h.kR; omega);have e1:(⟨S1.next,S1.obj⟩:Store)=S1:=rfl
 have c2:((ai7 Rv S1).put (t.next+d2) (.row (eR++[[IV.int .i64 a]]).flatten)).obj id=some (.cells [Lv,.int .i64 n,Rv,Pv]):=by
  rw[aa7,if_neg nid2]; exact af7 R1 id _ c1 (fun _ e=>by cases e)
 have P2:Grow ((ai7 Rv S1).put (t.next+d2) (.row (eR++[[IV.int .i64 a]]).flatten)) Pv 1 eP:=fo1 (s:=S1) (m:=S1.next) (nid:=t.next+d2) (Nat.le_refl _) R1 P1 h.rp (fun i kk g hv=>old h.gP rfl d2 i kk g hv) _;have L2:Grow ((ai7 Rv S1).put (t.next+d2) (.row (eR++[[IV.int .i64 a]]).flatten)) (.slice (t.next+d1) 0 (eL.length+1) 15) 15 (eL++[c]):=fo1 (s:=S1) (m:=S1.next) (nid:=t.next+d2) (Nat.le_refl _) R1 L1 (fun i kk g j l f hv hw=>by cases hw; exact old h.gR rfl d1 _ _ _ hv) (fun i kk g hv=>by cases hv; omega) _;have R2:Grow ((ai7 Rv S1).put (t.next+d2) (.row (eR++[[IV.int .i64 a]]).flatten)) (.slice (t.next+d2) 0 (eR.length+1) 1) 1 (eR++[[IV.int .i64 a]]):=Grow.new (v:=.aa1) (by rw[ab5,ad8,N1]; omega) (by rw[aa7,if_pos rfl]);have N2:((ai7 Rv S1).put (t.next+d2) (.row (eR++[[IV.int .i64 a]]).flatten)).next=t.next+d4:=by rw[ab5,ad8,N1]
 generalize (ai7 Rv S1).put (t.next+d2) (.row (eR++[[IV.int .i64 a]]).flatten)=S2 at *
 -- the third
 have A3:=al4 (nid:=t.next+d3) (e:=[IV.int .i64 b]) P2 h.aP ⟨rfl,rfl⟩ (by have:=h.kP; omega)
 have c3:((ai7 Pv S2).put (t.next+d3) (.row (eP++[[IV.int .i64 b]]).flatten)).obj id=some (.cells [Lv,.int .i64 n,Rv,Pv]):=by
  rw[aa7,if_neg nid3]; exact af7 P2 id _ c2 (fun _ e=>by cases e)
 have L3:Grow ((ai7 Pv S2).put (t.next+d3) (.row (eP++[[IV.int .i64 b]]).flatten)) (.slice (t.next+d1) 0 (eL.length+1) 15) 15 (eL++[c]):=fo1 (s:=S2) (m:=S2.next) (nid:=t.next+d3) (Nat.le_refl _) P2 L2 (fun i kk g j l f hv hw=>by cases hw; exact old h.gP rfl d1 _ _ _ hv) (fun i kk g hv=>by cases hv; omega) _;have R3:Grow ((ai7 Pv S2).put (t.next+d3) (.row (eP++[[IV.int .i64 b]]).flatten)) (.slice (t.next+d2) 0 (eR.length+1) 1) 1 (eR++[[IV.int .i64 a]]):=fo1 (s:=S2) (m:=S2.next) (nid:=t.next+d3) (Nat.le_refl _) P2 R2 (fun i kk g j l f hv hw=>by cases hw; exact old h.gP rfl d2 _ _ _ hv) (fun i kk g hv=>by cases hv; omega) _;have P3:Grow ((ai7 Pv S2).put (t.next+d3) (.row (eP++[[IV.int .i64 b]]).flatten)) (.slice (t.next+d3) 0 (eP.length+1) 1) 1 (eP++[[IV.int .i64 b]]):=Grow.new (v:=.aa1) (by rw[ab5,ad8,N2]; omega) (by rw[aa7,if_pos rfl]);have N3:((ai7 Pv S2).put (t.next+d3) (.row (eP++[[IV.int .i64 b]]).flatten)).next=t.next+d4:=by rw[ab5,ad8,N2]
 generalize (ai7 Pv S2).put (t.next+d3) (.row (eP++[[IV.int .i64 b]]).flatten)=S3 at *;refine ⟨_,_,_,S1,S2,S3,A1,c1,A2,c2,A3,c3,⟨rfl,rfl,rfl,rfl,rfl,rfl⟩,N3,fun τ hτ hcτ hoτ=>?_⟩;have keep:∀ {v:IV} {e:Nat} {es:List (List IV)},Grow S3 v e es->Grow τ v e es:=fun hg=>hg.mono (by omega) fun i hv _=>hoτ i fun e=>notrow hg c3 _ _ (by rw[<- e]; exact hv)
 have snocE:∀ {e:Nat} {es:List (List IV)} {x:List IV},iw7 e es->(x.length=e/\x.all IV.leaf=true)->iw7 e (es++[x]):=fun h1 h2 y hy=>by
  rcases List.mem_append.1 hy with hy|hy
  ·exact h1 y hy
  ·rw[List.mem_singleton] at hy; rw[hy]; exact h2
 exact {
  cell:=hcτ
  lt:=by have:=h.lt; omega
  gL:=keep L3
  gR:=keep R3
  gP:=keep P3
  aL:=snocE h.aL hc
  aR:=snocE h.aR ⟨rfl,rfl⟩
  aP:=snocE h.aP ⟨rfl,rfl⟩
  kL:=by rw[List.length_append]; have:=h.kL; simp only[List.length_singleton]; omega
  kR:=by rw[List.length_append]; have:=h.kR; simp only[List.length_singleton]; omega
  kP:=by rw[List.length_append]; have:=h.kP; simp only[List.length_singleton]; omega
  lr:=fun i k e j l f h1 h2=>by cases h1; cases h2; omega
  lp:=fun i k e j l f h1 h2=>by cases h1; cases h2; omega
  rp:=fun i k e j l f h1 h2=>by cases h1; cases h2; omega }
def ji3 (σ:Store)(r:Pool ⊕ Int)(v:IV)(s:Store):Prop:=σ.next<=s.next/\match r with
 | .inl p=>∃ id X Y Z,v=.tuple [.ptr id 0,.int .i64 0]/\s.obj id=some (.cells [X,.int .i64 p.inst,Y,Z])
 | .inr e=>v=.tuple [.ab6,.int .i64 e]
theorem if8 (repos:List al7)(inst:List aa3)(hI:hf8 repos inst)(σ:Store):C Tryz.prog EE 38 [as7 repos,az6 inst] σ (ji3 σ (bt2 repos inst)):=by
 refine C_f fok38 (nZ rfl) ?_;have h1:=hI.r1;have h2:=hI.i1;have h3:=hI.s1;simp only[ic38,go_sem];refine ab7 noT (fun i fr s=>∃ n:Nat,fr=[(0,as7 repos),(1,az6 inst),(6,.int .i64 n),(7,.int .i64 (i:Int))]/\σ.next<=s.next/\n+ak7 (repos.drop i)=inst.length+ak7 repos) repos.length ⟨inst.length,rfl,Nat.le_refl _,rfl⟩ ?_;rintro i fr s hle ⟨n,rfl,hnx,hn⟩;by_cases hlt:i<repos.length
 ·obtain ⟨a,ha,_,hdr,hget,htk⟩:=ae2 repos i hlt;have c1:(i:Int)<repos.length:=by omega
  have c2:(0:Int)<=i:=by omega
  have w1:=ad4 (i:=i) (by omega);rw[ca7 repos i a hdr] at hn
  have w2:IntKind.i64.wrap ((n:Int)+a.packages.length)=((n+a.packages.length:Nat):Int):=by
   rw[wrap64 (by omega) (by omega)]; omega
  simp only[go_sem,c1,c2,hget,al7.cs,w2,w1];exact ⟨hlt,n+a.packages.length,rfl,hnx,by omega⟩
 have hi':i=repos.length:=by omega
 subst hi';have c1:¬ (repos.length:Int)<repos.length:=by omega
 have hn0:n=inst.length+ak7 repos:=by rw[List.drop_length] at hn; simpa [ak7] using hn
 subst hn0;by_cases b1:16<repos.length
 ·have b1':(16:Int)<repos.length:=by omega
  simp only[go_sem,c1,b1',bt2,b1,true_or];exact ⟨hnx,rfl⟩
 have b1':¬ (16:Int)<repos.length:=by omega
 by_cases b2:256<inst.length+ak7 repos
 ·have b2':(256:Int)<((inst.length+ak7 repos:Nat):Int):=by omega
  simp only[go_sem,c1,b1',b2',bt2,b1,b2,or_true];exact ⟨hnx,rfl⟩
 have b2':¬ (256:Int)<((inst.length+ak7 repos:Nat):Int):=by omega
 simp only[go_sem,c1,b1',b2']
 have hnew:inst.all ag2=true->bt2 repos inst=match af9 0 repos (rowsOf inst (-1) 1025,co1 [] 0 inst) with
  | some (rows,nm)=>.inl ⟨rows,inst.length,nm⟩
  | none=>.inr 4:=fun h=>by
  unfold bt2;rw[if_neg (by omega),if_neg (by rw[h]; simp)];rfl
 obtain ⟨B,hB⟩:∃ B,s.next=B:=⟨_,rfl⟩;rw[hB];have hσB:σ.next<=B:=by omega
 refine ab7 noT (fun i fr t=>fr=[(0,as7 repos),(1,az6 inst),(8,.ptr B 0),(9,.int .i64 (i:Int))]/\B<=t.next/\(inst.drop i).all ag2=inst.all ag2/\∃ Lv Rv Pv eL eR eP,Q12 t B inst.length i Lv Rv Pv eL eR eP) inst.length ⟨rfl,?_,rfl,.aa1,.aa1,.aa1,[],[],[],?_⟩ ?_
 ·show B<=_+1; omega
 ·exact {
      cell:=by simp only[aa7,if_true]
      lt:=Nat.lt_succ_of_le (by omega)
      gL:=.inl ⟨rfl,rfl⟩
      gR:=.inl ⟨rfl,rfl⟩
      gP:=.inl ⟨rfl,rfl⟩
      aL:=fun x h=>by cases h
      aR:=fun x h=>by cases h
      aP:=fun x h=>by cases h
      kL:=Nat.le_refl _
      kR:=Nat.le_refl _
      kP:=Nat.le_refl _
      lr:=fun i k e j l f h=>by cases h
      lp:=fun i k e j l f h=>by cases h
      rp:=fun i k e j l f h=>by cases h }
 rintro i fr t hle ⟨rfl,hnt,ha,Lv,Rv,Pv,eL,eR,eP,hQ⟩;by_cases hlt:i<inst.length
 ·obtain ⟨x,hx,_,hdr,hget,htk⟩:=ae2 inst i hlt;have d1:(i:Int)<inst.length:=by omega
  have d2:(0:Int)<=i:=by omega
  have w1:=ad4 (i:=i) (by omega);have hm:=eu5 x (hI.pf x hx);have hcp:=ec4 x (hI.pf x hx);rw[hdr,List.all_cons] at ha;simp only[go_sem,d1,d2,hget,ag9,ah2]
  first|refine aa4 fok79 (hm) ?_|refine aa2 (hm) ?_
  cases hb:ag2 x with
  | false=>
   rw[hb,Bool.false_and] at ha;simp only[go_sem];refine ⟨by omega,?_⟩;unfold bt2
   rw[if_neg (by omega),if_pos ha.symm]
  | true=>
   rw[hb,Bool.true_and] at ha;obtain ⟨L',R',P',S1,S2,S3,q1,o1,q2,o2,q3,o3,⟨l1,l2,l3,l4,l5,l6⟩,n3,fin⟩:=hQ.push (by omega) (c:=x.cs) ⟨rfl,rfl⟩ (-1) 1025 (d1:=13) (d2:=19) (d3:=25) (d4:=35) (by decide) (by decide) (by decide);have hcell:=hQ.cell;simp only[go_sem,d1,d2,hget,ag9,ah2,hcell,b_o,b_p,b_t];refine aa2 hcp ?_;simp only[go_sem,ag9,ah2,ad1];simp only[show t.next+1+1+1+1+1+1+1+1+1+1+1+1+1=t.next+13 from rfl,q1,go_sem,o1,b_o,b_p];simp only[show t.next+1+1+1+1+1+1+1+1+1+1+1+1+1+1+1+1+1+1+1=t.next+19 from rfl,q2,go_sem,o2,b_o,b_p];simp only[show t.next+1+1+1+1+1+1+1+1+1+1+1+1+1+1+1+1+1+1+1+1+1+1+1+1+1=t.next+25 from rfl,q3,go_sem,o3,l1,l2,l3,l4,l5,l6,w1];refine ⟨hlt,by rw[n3]; omega,ha,_,_,_,_,_,_,fin _ (by rw[n3]; exact Nat.le_refl _) (by simp only[aa7,if_true]) fun z hz=>by simp only[aa7,hz,if_false]⟩
 have hi':i=inst.length:=by omega
 subst hi';rw[List.drop_length] at ha;have hmay:inst.all ag2=true:=ha.symm;have d1:¬ (inst.length:Int)<inst.length:=by omega
 rw[hnew hmay];simp only[go_sem,d1];clear ha hnew
 refine ab7 noT (fun i fr t=>fr=[(0,as7 repos),(8,.ptr B 0),(10,.int .i64 (i:Int))]/\B<=t.next/\∃ st k,af9 0 repos (rowsOf inst (-1) 1025,co1 [] 0 inst)=af9 i (repos.drop i) st/\k+ak7 (repos.drop i)=inst.length+ak7 repos /\
  ∃ Lv Rv Pv eL eR eP,Q12 t B inst.length k Lv Rv Pv eL eR eP) repos.length ⟨rfl,hnt,_,inst.length,rfl,rfl,_,_,_,_,_,_,hQ⟩ ?_
 clear hQ hnt eL eR eP Lv Rv Pv t;rintro i fr t hle ⟨rfl,hnt,st,k,hrf,hsum,Lv,Rv,Pv,eL,eR,eP,hQ⟩;by_cases hlt:i<repos.length
 ·obtain ⟨a,ha,_,hdr,hget,htk⟩:=ae2 repos i hlt;have c1:(i:Int)<repos.length:=by omega
  have c2:(0:Int)<=i:=by omega
  have w1:=ad4 (i:=i) (by omega);rw[ca7 repos i a hdr] at hsum;rw[hdr] at hrf;by_cases p1:a.priority<0
  ·simp only[go_sem,c1,c2,hget,al7.cs,p1];rw[hrf,af9,if_pos (.inl p1)];exact ⟨by omega,rfl⟩
  by_cases p2:1024<a.priority
  ·simp only[go_sem,c1,c2,hget,al7.cs,p1,p2];rw[hrf,af9,if_pos (.inr (.inl p2))];exact ⟨by omega,rfl⟩
  simp only[go_sem,c1,c2,hget,al7.cs,p1,p2]
  refine ab7 noT (fun j fr t=>fr=[(0,as7 repos),(8,.ptr B 0),(10,.int .i64 (i:Int)),(11,.int .i64 (j:Int))]/\B<=t.next/\(a.packages.drop j).all ag2=a.packages.all ag2 /\
   ∃ Lv Rv Pv eL eR eP,Q12 t B inst.length (k+j) Lv Rv Pv eL eR eP) a.packages.length ⟨rfl,hnt,rfl,_,_,_,_,_,_,hQ⟩ ?_
  clear hQ hnt eL eR eP Lv Rv Pv t;rintro j fr t hj ⟨rfl,hnt,hall,Lv,Rv,Pv,eL,eR,eP,hQ⟩;by_cases hjl:j<a.packages.length
  ·obtain ⟨x,hx,_,hdr3,hget3,htk3⟩:=ae2 a.packages j hjl;have d1:(j:Int)<a.packages.length:=by omega
   have d2:(0:Int)<=j:=by omega
   have w2:=ad4 (i:=j) (by omega);have hxf:=(hI.rf a ha).2 x hx;have hm:=eu5 x hxf;have hcp:=ec4 x hxf;rw[hdr3,List.all_cons] at hall;simp only[go_sem,c1,c2,d1,d2,hget,hget3,al7.cs,ag9,ah2]
   first|refine aa4 fok79 (hm) ?_|refine aa2 (hm) ?_
   cases hb:ag2 x with
   | false=>
    rw[hb,Bool.false_and] at hall;simp only[go_sem];rw[hrf,af9,if_pos (.inr (.inr hall.symm))]
    exact ⟨by omega,rfl⟩
   | true=>
    rw[hb,Bool.true_and] at hall;obtain ⟨L',R',P',S1,S2,S3,q1,o1,q2,o2,q3,o3,⟨l1,l2,l3,l4,l5,l6⟩,n3,fin⟩:=hQ.push (by omega) (c:=x.cs) ⟨rfl,rfl⟩ i a.priority (d1:=17) (d2:=24) (d3:=35) (d4:=45) (by decide) (by decide) (by decide);have hcell:=hQ.cell;simp only[go_sem,c1,c2,d1,d2,hget,hget3,al7.cs,ag9,ah2,hcell,b_o,b_p,b_t];refine aa2 hcp ?_;simp only[go_sem,ag9,ah2,ad1];simp only[show t.next+1+1+1+1+1+1+1+1+1+1+1+1+1+1+1+1+1=t.next+17 from rfl,q1,go_sem,o1,b_o,b_p];simp only[show t.next+1+1+1+1+1+1+1+1+1+1+1+1+1+1+1+1+1+1+1+1+1+1+1+1=t.next+24 from rfl,q2,go_sem,o2,b_o,b_p,b_t,c1,c2,hget,al7.cs];simp only[show t.next+1+1+1+1+1+1+1+1+1+1+1+1+1+1+1+1+1+1+1+1+1+1+1+1+1+1+1+1+1+1+1+1+1+1+1=t.next+35 from rfl,q3,go_sem,o3,l1,l2,l3,l4,l5,l6,w2];refine ⟨hjl,by rw[n3]; omega,hall,_,_,_,_,_,_,fin _ (by rw[n3]; exact Nat.le_refl _) (by simp only[aa7,if_true]) fun z hz=>by simp only[aa7,hz,if_false]⟩
  ·have hj':j=a.packages.length:=by omega
   have d1:¬ (j:Int)<a.packages.length:=by omega
   subst hj';rw[List.drop_length] at hall;simp only[go_sem,c1,c2,d1,hget,al7.cs,w1];refine ⟨hlt,hnt,(st.1++rowsOf a.packages i a.priority,co1 st.2 st.1.length a.packages),k+a.packages.length,?_,by omega,_,_,_,_,_,_,hQ⟩;rw[hrf,af9,if_neg (by rw[<- hall]; simp[p1,p2])]
 ·have hi':i=repos.length:=by omega
  subst hi';have c1:¬ (repos.length:Int)<repos.length:=by omega
  rw[List.drop_length,af9] at hrf;have hcell:=hQ.cell;rw[hrf];simp only[go_sem,c1];exact ⟨by omega,B,_,_,_,rfl,hcell⟩
end Go.Id.Tryz
set_option linter.all false
namespace Go.Id.Tryz
open Go Go.Id Go.Proofs Go.Shelf Go.Id.Md
set_option maxRecDepth 100000
set_option maxHeartbeats 1000000
theorem MO.frz {s:Store}{pp mid:Nat}{a:ac5}{allv itv:IV}(h:MO s pp mid a.v (al5 a.l) allv itv a.l a.items):bt7 s 0 (.ptr pp 0) a.mv:=by
 refine .ptr pp 0 _ _ (Nat.not_lt_zero _) (.inl h.cell) (Nat.le_refl _) fun j hj=>?_
 match j,hj with
 | 0,_=>exact .keep _ (ah4 a)
 | 1,_=>exact .keep _ (as9 _)
 | 2,_=>
  exact h.all.frz (fun x hx=>(bc3 _ x hx).1) (fun _ _=>Nat.not_lt_zero _) fun e he c hc=>by
   obtain ⟨y,_,rfl⟩:=List.mem_map.1 he
   exact az5 y c hc
 | 3,_=>
  exact h.grow.frz (fun x hx=>(eu7 _ x hx).1) (fun _ _=>Nat.not_lt_zero _) fun e he c hc=>by
   obtain ⟨y,_,rfl⟩:=List.mem_map.1 he
   exact dr9 y c hc
 | 4,_=>
  refine .map mid (ba4 a.items) (ba4 a.items) (ba4 a.items) (Nat.not_lt_zero _) h.map rfl (List.Perm.refl _) (gc3 a.nodup) (fun i hi=>?_) fun i hi=>?_
  ·have:(ba4 a.items).getD i (.undef,.undef)∈ba4 a.items:=ac9 _ hi;obtain ⟨x,_,hx⟩:=List.mem_map.1 this;rw[<- hx]; exact .keep _ (bc2 x)
  ·have:(ba4 a.items).getD i (.undef,.undef)∈ba4 a.items:=ac9 _ hi;obtain ⟨x,_,hx⟩:=List.mem_map.1 this;rw[<- hx]; exact .keep _ (.agg _ fun c hc=>by cases hc)
theorem em3 (a:ac5)(hA:AOK a)(hI:0<=a.p.inst)(hIt:a.items.length<2^30):PC Tryz.prog EE 42 [a.v] (.tuple [a.mv,.int .i64 0]):=by
 refine ib8 hE fok42 (nZ rfl) (ai8 (ah4 a)) ?_;have hP:=dn1 a;have hT:=ep4 a.p hA.len fun x hx=>⟨hA.fit x hx,hA.tiny x hx⟩
 have hC:=be3 a.p;have hrl:a.p.rows.length=a.l.length:=by show _=(ae3 a.p).length; simp[ae3]
 rw[hrl] at hC;have hlen:=hA.len
 have hpk:∀ j (h:j<a.l.length),PC Tryz.prog EE 91 [a.p.v,.int .i64 j] (.tuple [.agg (a.pk j).cs,.int .i64 0]):=fun j h=>by
  have hj:j<a.p.rows.length:=by omega
  have hq:a.p.rows[j].pkg=a.pk j:=by
   have:a.pk j=a.l[j]:=by simp[ac5.pk,List.getD_eq_getElem?_getD,h]
   rw[this]; simp[ac5.l,ae3]
  have h1:=bf3 a.p j hj (by rw[hq]; exact hA.fit _ (eu6 a h));rw[hq] at h1; exact h1
 have vcs:a.v.cs=[a.v]:=rfl;have vlf:a.v.leaf=true:=rfl;have pvl:a.p.v.leaf=true:=rfl;have pvc:a.p.v.cs=[a.p.v]:=rfl;have tvl:(al5 a.l).leaf=true:=rfl;have tvc:(al5 a.l).cs=[al5 a.l]:=rfl;have hnl:∀ d:TypeId,bt8 (.pointer d) a.v=some false:=fun _=>rfl
 have hT:PC Tryz.prog EE 94 [a.p.v] (.tuple [al5 a.l,.int .i64 0]):=hT;simp only[ic42];refine ae5 (ai3 ?_);simp only[go_sem];refine ae5 (ai3 ?_);simp only[go_sem,hnl];refine ae5 (ai3 ?_);simp only[go_sem]
 first|refine aa4 fok26 (hP) ?_|refine aa2 (hP) ?_
 simp only[go_sem]
 first|refine aa4 fok94 (hT) ?_|refine aa2 (hT) ?_
 simp only[go_sem];refine ae5 (ai3 ?_);simp only[go_sem];refine ae5 (ai3 ?_);simp only[go_sem,vcs,vlf,tvl,tvc];refine ae5 (ae5 (ai3 ?_));simp only[go_sem]
 first|refine aa4 fok26 (hP) ?_|refine aa2 (hP) ?_
 simp only[go_sem]
 first|refine aa4 fok27 (hC) ?_|refine aa2 (hC) ?_
 simp only[go_sem]
 refine av6 (az4 (Q:=fun e f s=>e=.exit 0/\(∃ allv,MO s 1 0 a.v (al5 a.l) allv .aa1 a.l [])/\∃ rst:Frm,f=(0,a.v)::(6,.ptr 1 0)::rst)
  (ab7 noT (fun n fr s=>∃ gv,fr=[(0,a.v),(6,.ptr 1 0),(28,.int .i64 a.l.length),(29,.int .i64 (n:Int))]/\2<=s.next/\s.obj 0=some (.map [])/\s.obj 1=some (.cells [a.v,al5 a.l,gv,.aa1,.map 0])/\Grow s gv 15 ((a.l.take n).map aa3.cs)) a.l.length
   ⟨.aa1,rfl,Nat.le_refl _,rfl,rfl,.inl ⟨rfl,rfl⟩⟩ ?_) ?_)
 ·rintro n fr s hn ⟨gv,rfl,hnx,hm,ho,hg⟩;by_cases hlt:n<a.l.length
  ·have d1:(n:Int)<a.l.length:=by omega
   have w1:=ad4 (i:=n) (by omega);have hp:=hpk n hlt;have n1:¬ 1=s.next:=by omega
   have n0:¬ 0=s.next:=by omega
   have htk:a.l.take (n+1)=a.l.take n++[a.pk n]:=by
    have:a.pk n=a.l[n]:=by simp[ac5.pk,List.getD_eq_getElem?_getD,hlt]
    rw[this,List.take_add_one,List.getElem?_eq_getElem hlt]; rfl
   have hgl:gv.leaf=true:=by rcases hg with ⟨rfl,_⟩|⟨id,rfl,_⟩<;>rfl
   have hgc:gv.cs=[gv]:=by rcases hg with ⟨rfl,_⟩|⟨id,rfl,_⟩<;>rfl
   obtain ⟨S,hS⟩:∃ S:Store,S=(({ next:=s.next+1,obj:=s.obj }:Store).put s.next (ak4.cells [.str [],.int .i64 0,.str [],.str [],.int .u8 0,.str [],.aa1,.aa1,.aa1,.aa1,.aa1,.aa1,.aa1,.aa1,.aa1])).put s.next (ak4.cells (a.pk n).cs):=⟨_,rfl⟩;have So:∀ i,¬ i=s.next->S.obj i=s.obj i:=fun i hi=>by rw[hS]; simp only[aa7,hi,if_false]
   have hg1:Grow (⟨s.next+1+11,S.obj⟩:Store) gv 15 ((a.l.take n).map aa3.cs):=hg.mono (by show s.next<=s.next+1+11; omega) fun id _ hid=>So id (by omega)
   have hap:=al4 (nid:=s.next+1+7) (e:=(a.pk n).cs) hg1 (bc3 _) ⟨rfl,rfl⟩ (by rw[List.length_map,List.length_take]; omega);rw[List.length_map] at hap;have k1:=af7 hg1 1 _ (by rw[<- ho]; exact So 1 n1) (fun _ e=>by cases e);have k0:=af7 hg1 0 _ (by rw[<- hm]; exact So 0 n0) (fun _ e=>by cases e);have kn:(ai7 gv (⟨s.next+1+11,S.obj⟩:Store)).next=s.next+1+11:=ad8 gv;have m1:¬ 1=s.next+1+7:=by omega
   have m0:¬ 0=s.next+1+7:=by omega
   have hcl:∀ i cs,¬ i=s.next->s.obj i=some (.cells cs)->S.obj i=some (.cells cs):=fun i cs h1 h2=>by rw[So i h1]; exact h2
   simp only[go_sem,d1]
   first|refine aa4 fok26 (hP) ?_|refine aa2 (hP) ?_
   simp only[go_sem]
   first|refine aa4 fok91 (hp) ?_|refine aa2 (hp) ?_
   simp only[go_sem,ag9,ah2,ad1,n1,ho,b_o,b_p];rw[<- hS];generalize ai7 gv (⟨s.next+1+11,S.obj⟩:Store)=K at *;simp only[show s.next+1+1+1+1+1+1+1+1=s.next+1+7 from rfl,hap,go_sem,m1,m0,k1,k0,w1];refine ⟨hlt,_,by rw[kn]; omega,rfl,?_⟩;rw[htk,List.map_append];refine .inr ⟨s.next+1+7,by rw[List.length_append,List.length_map]; rfl,?_,by rw[kn]; omega⟩;simp only[aa7];rw[if_neg (fun e=>m1 e.symm),if_pos trivial]; rfl
  ·have d1:¬ (n:Int)<a.l.length:=by omega
   rw[List.take_of_length_le (by omega)] at hg;simp only[go_sem,d1];exact ⟨⟨gv,{ cell:=ho,grow:=.inl ⟨rfl,rfl⟩,map:=hm,all:=hg,ne:=fun _ _ _ _ h=>(by cases h),lt:=⟨by omega,by omega⟩ }⟩,_,rfl⟩
 rintro e f t ⟨rfl,⟨allv,hM⟩,rst,rfl⟩;simp only[go_sem];refine ae5 (ai3 ?_);simp only[go_sem];refine af1 fok95 (iw6 a hA hI t 1 0 _ _ _ hM hIt) ?_;rintro v s ⟨s1,itv,hM2⟩;refine ⟨s1,?_⟩;simp only[go_sem];refine ai3 ?_;simp only[go_sem];exact .cm2 (.cons hM2.frz (.cons (bw3 rfl) .nil))
set_option maxHeartbeats 1000000
def ev1 (repos:List al7)(inst:List aa3):List aa3:=inst++repos.flatMap fun r=>r.packages
theorem gz4 (repos:List al7)(inst:List aa3)(hN:inst.length+ak7 repos<=256)(hr:repos.length<=16):PC Tryz.prog EE 41 [as7 repos,az6 inst] (az6 (ev1 repos inst)):=by
 refine ae9 hE fok41 (nZ rfl) (aj9 (bo4 repos) (aw3 inst)) ?_;have g0:Grow (({ next:=2,obj:=emp.obj }:Store).put 0 (ak4.row [])) (.slice 0 0 0 15) 15 []:=.inr ⟨0,rfl,by rw[aa7,if_pos rfl]; rfl,by show 0<2; omega⟩;obtain ⟨v1,t1,a1,n1,q1,_,_⟩:=bm3 (nid:=1) (xs:=inst.map aa3.cs) g0 (fun x h=>by cases h) (bc3 _) (by rw[List.length_map,List.length_nil]; omega) (by show 1<2; omega);rw[List.nil_append] at q1;simp only[ic41,go_sem,a1];refine ab7 noT (fun i fr t=>∃ gv,fr=[(0,as7 repos),(5,gv),(6,.int .i64 (i:Int))]/\Grow t gv 15 ((ev1 (repos.take i) inst).map aa3.cs)/\(ev1 (repos.take i) inst).length+ak7 (repos.drop i)=inst.length+ak7 repos) repos.length ⟨v1,rfl,by simpa [ev1] using q1,by simp[ev1]⟩ ?_;rintro i fr t hle ⟨gv,rfl,hg,hsum⟩;by_cases hlt:i<repos.length
 ·obtain ⟨a,ha,_,hdr,hget,htk⟩:=ae2 repos i hlt;have c1:(i:Int)<repos.length:=by omega
  have c2:(0:Int)<=i:=by omega
  have w1:=ad4 (i:=i) (by omega);rw[ca7 repos i a hdr] at hsum
  have hap:ev1 (repos.take (i+1)) inst=ev1 (repos.take i) inst++a.packages:=by
   unfold ev1
   have:repos.take (i+1)=repos.take i++[a]:=by
    rw[List.take_add_one];have:=congrArg List.head? hdr;rw[List.head?_drop] at this;rw[this]; rfl
   rw[this,List.flatMap_append]; simp
  obtain ⟨v2,t2,a2,n2,q2,_,_⟩:=bm3 (nid:=t.next) (xs:=a.packages.map aa3.cs) (hg.mono (σ':=⟨t.next+1,t.obj⟩) (Nat.le_succ _) fun _ _ _=>rfl) (bc3 _) (bc3 _) (by rw[List.length_map,List.length_map]; omega) (Nat.lt_succ_self _);simp only[go_sem,c1,c2,hget,al7.cs,a2,w1];refine ⟨hlt,v2,rfl,?_,?_⟩
  ·rw[hap,List.map_append]; exact q2
  ·rw[hap,List.length_append]; omega
 ·have hi':i=repos.length:=by omega
  subst hi';have c1:¬ (repos.length:Int)<repos.length:=by omega
  rw[List.take_length] at hg;simp only[go_sem,c1];refine hg.frz (fun x hx=>(bc3 _ x hx).1) (fun _ _=>Nat.not_lt_zero _) fun e he c hc=>?_
  obtain ⟨y,_,rfl⟩:=List.mem_map.1 he;exact az5 y c hc
def dl2 (all:List aa3)(inst:Int)(r:Req):IV:=if ak8 r inst=0 then .tuple [.ab8 (az6 all::.int .i64 inst::r.cs),.int .i64 0] else .tuple [.ab6,.int .i64 (ak8 r inst)]
theorem gz5 (all:List aa3)(inst:Int)(r:Req)(hR:dv2 r):PC Tryz.prog EE 40 [az6 all,.int .i64 inst,.agg r.cs] (dl2 all inst r):=by
 refine ae9 hE fok40 (nZ rfl) (ba2 (aw3 all) (.int _ _) (.agg _ (bc6 r))) ?_;have hm:=gy2 r.au2;have k0:r.cs.head? = some (.int .u8 r.au2):=rfl;have k2:(r.cs.drop 2).head? = some (bi9 r.ai4):=rfl;have k3:(r.cs.drop 3).head? = some (au9 r.ai5):=rfl;have k4:(r.cs.drop 4).head? = some (.int .i64 r.budget):=rfl;obtain ⟨V,hV⟩:∃ V,dl2 all inst r=V:=⟨_,rfl⟩
 have herr:∀ (s:Store) (e:Int),ak8 r inst=e->e≠0->bt7 s 0 (.tuple [.ab6,.int .i64 e]) V:=fun s e h1 h2=>by
  rw[<- hV];unfold dl2;rw[h1,if_neg h2];exact .keep _ (.tuple _ (aj9 .ab6 (.int _ _)))
 rw[hV];by_cases c1:bv7 r.au2=false
 ·rw[c1] at hm;simp only[ic40,go_sem,ah3,k0]
  first|refine aa4 fok92 (hm) ?_|refine aa2 (hm) ?_
  simp only[go_sem];exact herr _ 1 (by unfold ak8; rw[if_pos (.inl c1)]) (by decide)
 have c1':bv7 r.au2=true:=by simpa using c1
 rw[c1'] at hm;by_cases c2:r.budget<0
 ·simp only[ic40,go_sem,ah3,k0]
  first|refine aa4 fok92 (hm) ?_|refine aa2 (hm) ?_
  simp only[go_sem,k4,c2];exact herr _ 1 (by unfold ak8; rw[if_pos (.inr (.inl c2))]) (by decide)
 by_cases c3:1099511627776<r.budget
 ·simp only[ic40,go_sem,ah3,k0]
  first|refine aa4 fok92 (hm) ?_|refine aa2 (hm) ?_
  simp only[go_sem,k4,c2,c3];exact herr _ 1 (by unfold ak8; rw[if_pos (.inr (.inr c3))]) (by decide)
 have q1:¬ (bv7 r.au2=false\/r.budget<0\/1099511627776<r.budget):=fun h=>h.elim c1 fun h=>h.elim c2 c3
 by_cases c4:64<r.ai4.length
 ·have c4':(64:Int)<r.ai4.length:=by omega
  simp only[ic40,go_sem,ah3,k0]
  first|refine aa4 fok92 (hm) ?_|refine aa2 (hm) ?_
  simp only[go_sem,k4,c2,c3,k2,c4'];exact herr _ 40 (by unfold ak8; rw[if_neg q1,if_pos (.inl c4)]) (by decide)
 have c4':¬ (64:Int)<r.ai4.length:=by omega
 by_cases c5:64<r.ai5.length
 ·have c5':(64:Int)<r.ai5.length:=by omega
  simp only[ic40,go_sem,ah3,k0]
  first|refine aa4 fok92 (hm) ?_|refine aa2 (hm) ?_
  simp only[go_sem,k4,c2,c3,k2,k3,c4',c5'];exact herr _ 40 (by unfold ak8; rw[if_neg q1,if_pos (.inr c5)]) (by decide)
 have c5':¬ (64:Int)<r.ai5.length:=by omega
 have q2:¬ (64<r.ai4.length\/64<r.ai5.length):=fun h=>h.elim c4 c5
 simp only[ic40,go_sem,ah3,k0]
 first|refine aa4 fok92 (hm) ?_|refine aa2 (hm) ?_
 simp only[go_sem,k4,c2,c3,k2,k3,c4',c5'];refine ab7 noT (fun i fr t=>fr=[(0,az6 all),(1,.int .i64 inst),(5,.ab8 r.cs),(8,.int .i64 (i:Int))]/\(r.ai4.drop i).all ay9=r.ai4.all ay9) r.ai4.length ⟨rfl,rfl⟩ ?_;rintro i fr t hi ⟨rfl,ha⟩;by_cases hlt:i<r.ai4.length
 ·obtain ⟨x,hx,_,hdr,hget,_⟩:=ae2 r.ai4 i hlt;have d1:(i:Int)<r.ai4.length:=by omega
  have d2:(0:Int)<=i:=by omega
  have w1:=ad4 (i:=i) (by omega);obtain ⟨hs1,hs2⟩:=hR.in2 x hx;have hmay:=el3 x.dep (by omega) (by have:=hs1.2.2.1; omega) (by have:=hs1.2.2.2; omega);have x0:x.cs.head? = some (.int .u8 x.kind):=rfl;have x1:=cq8 x;have x2:(x.cs.drop 1).length=5:=rfl;rw[hdr,List.all_cons] at ha
  have hbad:ay9 x=false->ak8 r inst=4:=fun h=>by
   rw[h,Bool.false_and] at ha;unfold ak8; rw[if_neg q1,if_neg q2,if_pos ha.symm]
  by_cases e1:x.kind<1
  ·have e1':¬ 1<=x.kind:=by omega
   simp only[go_sem,d1,d2,k2,hget,ax9,x0,e1];exact herr _ 4 (hbad (by unfold ay9; simp[e1'])) (by decide)
  by_cases e2:4<x.kind
  ·have e2':¬ x.kind<=4:=by omega
   simp only[go_sem,d1,d2,k2,hget,ax9,x0,e1,e2];exact herr _ 4 (hbad (by unfold ay9; simp[e2'])) (by decide)
  have e1':1<=x.kind:=by omega
  have e2':x.kind<=4:=by omega
  simp only[go_sem,d1,d2,k2,hget,ax9,x0,x1,x2,e1,e2]
  first|refine aa4 fok93 (hmay) ?_|refine aa2 (hmay) ?_
  cases hb:ah9 x.dep with
  | false=>
   simp only[go_sem]
   exact herr _ 4 (hbad (by unfold ay9; simp[hb])) (by decide)
  | true=>
   have:ay9 x=true:=by unfold ay9; simp[e1',e2',hb]
   rw[this,Bool.true_and] at ha;simp only[go_sem,w1];exact ⟨hlt,ha⟩
 have hi':i=r.ai4.length:=by omega
 subst hi';rw[List.drop_length] at ha;have hjm:¬ r.ai4.all ay9=false:=by rw[<- ha]; simp
 have d1:¬ (r.ai4.length:Int)<r.ai4.length:=by omega
 simp only[go_sem,d1,k2];refine ab7 noT (fun i fr t=>fr=[(0,az6 all),(1,.int .i64 inst),(5,.ab8 r.cs),(9,.int .i64 (i:Int))]/\((r.ai5.drop i).all fun e=>au4 e r.ai4.length inst)=r.ai5.all fun e=>au4 e r.ai4.length inst) r.ai5.length ⟨rfl,rfl⟩ ?_;clear ha;rintro i fr t hi ⟨rfl,ha⟩;by_cases hlt:i<r.ai5.length
 ·obtain ⟨x,hx,_,hdr,hget,_⟩:=ae2 r.ai5 i hlt;have d1:(i:Int)<r.ai5.length:=by omega
  have d2:(0:Int)<=i:=by omega
  have w1:=ad4 (i:=i) (by omega);have x0:x.cs.head? = some (.int .u8 x.kind):=rfl;have x1:(x.cs.drop 1).head? = some (.int .i64 x.n):=rfl;rw[hdr,List.all_cons] at ha
  have hbad:au4 x r.ai4.length inst=false->ak8 r inst=5:=fun h=>by
   rw[h,Bool.false_and] at ha;unfold ak8; rw[if_neg q1,if_neg q2,if_neg hjm,if_pos ha.symm]
  have hgood:au4 x r.ai4.length inst=true->((r.ai5.drop (i+1)).all fun e=>au4 e r.ai4.length inst)=r.ai5.all fun e=>au4 e r.ai4.length inst:=fun h=>by
   rw[h,Bool.true_and] at ha; exact ha
  unfold au4 at hbad hgood;by_cases e1:0<=x.n
  case neg=>
   simp only[go_sem,d1,d2,k3,hget,ar2,ap3,aj6,x1,e1];exact herr _ 5 (hbad (by simp[e1])) (by decide)
  by_cases e2:x.kind=1
  ·by_cases e3:x.n<r.ai4.length
   ·simp only[go_sem,d1,d2,k2,k3,hget,ar2,ap3,aj6,x0,x1,e1,e2,e3,w1];exact ⟨hlt,hgood (by simp[e1,e2,e3])⟩
   ·simp only[go_sem,d1,d2,k2,k3,hget,ar2,ap3,aj6,x0,x1,e1,e2,e3];exact herr _ 5 (hbad (by simp[e2,e3])) (by decide)
  ·by_cases e4:1<x.kind
   ·by_cases e5:x.kind<=4
    ·have e6:1<=x.kind:=by omega
     by_cases e3:x.n<inst
     ·simp only[go_sem,d1,d2,k3,hget,ar2,ap3,aj6,x0,x1,e1,e2,e3,e4,e5,w1];exact ⟨hlt,hgood (by simp[e1,e2,e3,e5,e6])⟩
     ·simp only[go_sem,d1,d2,k3,hget,ar2,ap3,aj6,x0,x1,e1,e2,e3,e4,e5];exact herr _ 5 (hbad (by simp[e2,e3])) (by decide)
    ·simp only[go_sem,d1,d2,k3,hget,ar2,ap3,aj6,x0,x1,e1,e2,e4,e5];exact herr _ 5 (hbad (by simp[e5])) (by decide)
   ·have e6:¬ 1<=x.kind:=by omega
    simp only[go_sem,d1,d2,k3,hget,ar2,ap3,aj6,x0,x1,e1,e2,e4];exact herr _ 5 (hbad (by simp[e6])) (by decide)
 have hi':i=r.ai5.length:=by omega
 subst hi';rw[List.drop_length] at ha;have hem:¬ (r.ai5.all fun e=>au4 e r.ai4.length inst)=false:=by rw[<- ha]; simp
 have d2:¬ (r.ai5.length:Int)<r.ai5.length:=by omega
 have hz:ak8 r inst=0:=by unfold ak8; rw[if_neg q1,if_neg q2,if_neg hjm,if_neg hem]
 have hrc:r.cs=[.int .u8 r.au2,.bool r.vendor,bi9 r.ai4,au9 r.ai5,.int .i64 r.budget]:=rfl;rw[<- hV];unfold dl2;rw[if_pos hz];have rl:r.cs.length=5:=rfl;simp only[go_sem,d2,k3,rl,bj8,ah3];refine .keep _ (.tuple _ (aj9 (.ab8 _ fun c hc=>?_) (.int _ _)));rcases List.mem_cons.1 hc with rfl|hc
 ·exact aw3 all
 ·rcases List.mem_cons.1 hc with rfl|hc
  ·exact .int _ _
  ·exact bc6 r c hc
open Go Go.Id Go.Proofs Go.Id.Md
theorem aok {repos:List al7}{inst:List aa3}{p:Pool}{r:Req}(hI:hf8 repos inst)(hn:bt2 repos inst=.inl p)(hR:dv2 r)(he:ak8 r p.inst=0):AOK ⟨p,r⟩:=by
 have hf:=hr9 hI hn;have hlen:(ae3 p).length<=256:=by simp only[ae3,List.length_map]; exact et5 hn
 unfold ak8 at he;split at he
 ·cases he
 split at he
 ·cases he
 rename_i hb;split at he
 ·cases he
 rename_i hj;refine ⟨hlen,fun x hx=>(hf x hx).2.1,fun x hx=>(hf x hx).1,fun x hx=>(hf x hx).2.2,?_,?_,?_,fun j hj=>(hR.in2 j hj).1,fun j hjm=>?_⟩
 ·have h1:=cv8 hn
  have h2:p.inst=inst.length:=by
   unfold bt2 at hn;split at hn
   ·cases hn
   split at hn
   ·cases hn
   split at hn
   ·cases hn; rfl
   ·cases hn
  show p.inst<=((ae3 p).length:Nat);rw[h2,h1,List.length_append]; omega
 ·show r.ai4.length<=64; omega
 ·show r.ai5.length<=128; omega
 ·have h1:r.ai4.all ay9=true:=by simpa using hj
  have h2:=List.all_eq_true.1 h1 j hjm;unfold ay9 at h2;simp only[Bool.and_eq_true,decide_eq_true_eq] at h2;exact ⟨h2.1.1,h2.1.2⟩
set_option maxHeartbeats 1000000
def fo2:IV:=.tuple [.ab6,.ab6,.ab6,.bool false,.bool false]
def em4 (repos:List al7)(inst:List aa3)(r:Req):IV:=match bt2 repos inst with
 | .inr _=>fo2
 | .inl p=>if ak8 r p.inst=0 then .tuple [(ac5.mk p r).mv,(ac5.mk p r).v,.ab8 (az6 (ev1 repos inst)::.int .i64 p.inst::r.cs),.bool true,.bool false] else fo2
theorem ev2 {repos:List al7}{inst:List aa3}{p:Pool}{r:Req}(hI:hf8 repos inst)(hn:bt2 repos inst=.inl p)(hR:dv2 r)(he:ak8 r p.inst=0):(ac5.mk p r).items.length<2^30/\0<=p.inst:=by
 have hA:=aok hI hn hR he;have hp:p.inst=inst.length:=(cp8 hn).2;refine ⟨ac5.gc9 _ (fun x hx=>?_) hA.len hA.inst hA.ai4,by rw[hp]; omega⟩;have hm:ag2 x=true:=(et6 hn x hx).1;unfold ag2 ad2 at hm;simp only[Bool.and_eq_true,decide_eq_true_eq] at hm;obtain ⟨⟨⟨⟨⟨⟨⟨⟨_,ho⟩,_⟩,_⟩,hrq⟩,hcf⟩,_⟩,_⟩,_⟩:=hm.1;exact ⟨by omega,by omega,by omega⟩
theorem ec5 (repos:List al7)(inst:List aa3)(r:Req)(hI:hf8 repos inst)(hR:dv2 r):PC Tryz.prog EE 10 [as7 repos,az6 inst,.agg r.cs] (em4 repos inst r):=by
 refine ae9 hE fok10 (nZ rfl) (ba2 (bo4 repos) (aw3 inst) (.agg _ (bc6 r))) ?_;have hp:=cl2 repos inst hI.r1 hI.i1 hI.s1 hI.rf hI.pf;have h12:=fun σ=>if8 repos inst hI σ
 have nilb:∀ s:Store,bt7 s 0 fo2 fo2:=fun s=>.keep _ (.tuple _ fun c hc=>by
  simp only[List.mem_cons,List.not_mem_nil,or_false] at hc;rcases hc with rfl|rfl|rfl|rfl|rfl
  ·exact .ab6
  ·exact .ab6
  ·exact .ab6
  ·exact .bool _
  ·exact .bool _)
 unfold em4
 cases hn:bt2 repos inst with
 | inr e=>
  have he:¬ e=0:=by rcases gw5 hn with rfl|rfl<;>decide
  rw[hn] at hp;simp only[ic10,go_sem,ah3]
  first|refine aa4 fok37 (hp) ?_|refine aa2 (hp) ?_
  simp only[it7,go_sem];refine af1 fok38 (h12 _) ?_;rintro v s ⟨s1,s2⟩;rw[hn] at s2;simp only at s2;subst s2;refine ⟨s1,?_⟩;simp only[go_sem,he]
  exact nilb _
 | inl p=>
  obtain ⟨g1,g2,_,_⟩:=ck4 hn;have hin:p.inst=inst.length:=(cp8 hn).2;rw[hn] at hp;have hf:=hr9 hI hn;have hlen:(ae3 p).length<=256:=by simp only[ae3,List.length_map]; exact et5 hn
  have hAN:=gl9 p r hR hlen fun x hx=>⟨(hf x hx).1,(hf x hx).2.2⟩
  have hAll:=gz4 repos inst g2 g1;have h15:=gz5 (ev1 repos inst) p.inst r hR;have vcs:p.v.cs=[p.v]:=rfl;have vlf:p.v.leaf=true:=rfl;simp only[ic10,go_sem,ah3]
  first|refine aa4 fok37 (hp) ?_|refine aa2 (hp) ?_
  simp only[it7,go_sem];refine af1 fok38 (h12 _) ?_;rintro v s ⟨s1,s2⟩;rw[hn] at s2;simp only at s2;obtain ⟨id,X,Y,Z,rfl,hob⟩:=s2;refine ⟨s1,?_⟩;have rl:r.cs.length=5:=rfl;simp only[go_sem,rl,bj8]
  first|refine aa4 fok39 (hAN) ?_|refine aa2 (hAN) ?_
  by_cases he:ak8 r p.inst=0
  ·have hA:=aok hI hn hR he;obtain ⟨hIt,hI0⟩:=ev2 hI hn hR he;have hM:=em3 ⟨p,r⟩ hA hI0 hIt;have hav:(ac5.mk p r).v.leaf=true:=rfl;have hac:(ac5.mk p r).v.cs=[(ac5.mk p r).v]:=rfl;have hmv:(ac5.mk p r).mv.leaf=true:=rfl;have hmc:(ac5.mk p r).mv.cs=[(ac5.mk p r).mv]:=rfl;have hbm:=ao9 ⟨p,r⟩;have hba:=ah4 ⟨p,r⟩;unfold im9;unfold dl2 at h15;rw[if_pos he] at h15 ⊢;rw[if_pos he];generalize (ac5.mk p r).v=AV at *;generalize (ac5.mk p r).mv=MV at *;simp only[go_sem];refine aa2 hAll ?_;simp only[go_sem,hob,rl,bj8];refine aa2 h15 ?_;simp only[go_sem]
   first|refine aa4 fok42 (hM) ?_|refine aa2 (hM) ?_
   simp only[go_sem];refine .keep _ (.tuple _ fun c hc=>?_);simp only[List.mem_cons,List.not_mem_nil,or_false] at hc;rcases hc with rfl|rfl|rfl|rfl|rfl
   ·exact hbm
   ·exact hba
   ·refine .ab8 _ fun c hc=>?_
    rcases List.mem_cons.1 hc with rfl|hc
    ·exact aw3 _
    ·rcases List.mem_cons.1 hc with rfl|hc
     ·exact .int _ _
     ·exact bc6 r c hc
   ·exact .bool _
   ·exact .bool _
  ·unfold im9;unfold dl2 at h15;rw[if_neg he] at h15 ⊢;rw[if_neg he];simp only[go_sem];refine aa2 hAll ?_;simp only[go_sem,hob,rl,bj8];refine aa2 h15 ?_;simp only[go_sem,he];exact nilb _
def ds6 (x:Nat×Bool):IV:=.tuple [.int .i64 x.1,.bool x.2]
theorem bj3 {s:Store}(n:Nat)(b:Bool):bt7 s 0 (.tuple [.int .i64 n,.bool b]) (ds6 (n,b)):=.cm2 (.cons (ad9 _ _) (.cons (ab3 _) .nil))
theorem fo3 (r:aa8)(rs:List aa8)(deep n:Nat):co3 (r::rs) deep n=if big r.dep=true then (0,true) else
  if (bz3 r (deep+1)).2=true\/2000<n+1+(bz3 r (deep+1)).1 then (0,true) else co3 rs deep (n+1+(bz3 r (deep+1)).1):=by
 simp only[co3]
theorem gf1 (r:aa8):∀ deep:Nat,deep<=21->r.ok->PC Tryz.prog EE 77 [ai9 r.args,.int .i64 deep] (ds6 (bz3 r deep)):=by
 induction r using aa8.ind with
 | h k d xs ih=>
  intro deep hdeep hok;obtain ⟨o1,o2,o3,o4,o5⟩:=aa8.fn5.1 hok;refine ae9 hE fok77 (nZ rfl) (ao7 (aj7 _) (.int _ _)) ?_;by_cases b1:20<deep
  ·have c1:(20:Int)<deep:=by omega
   simp only[ic77,go_sem,aa8.args,bz3,c1,b1,true_or];exact bj3 0 true
  have c1:¬ (20:Int)<deep:=by omega
  by_cases b2:100<xs.length
  ·have c2:(100:Int)<xs.length:=by omega
   simp only[ic77,go_sem,aa8.args,bz3,c1,c2,b1,b2,or_true];exact bj3 0 true
  have c2:¬ (100:Int)<xs.length:=by omega
  simp only[ic77,go_sem,aa8.args,bz3,c1,c2,b1,b2,or_self];refine ab7 noT (fun i fr s=>∃ n:Nat,fr=[(0,ai9 xs),(1,.int .i64 deep),(6,.int .i64 n),(7,.int .i64 i)]/\n<=2000/\co3 xs deep 0=co3 (xs.drop i) deep n) xs.length ⟨0,rfl,by omega,rfl⟩ ?_;rintro i fr s hi ⟨n,rfl,hn,hm⟩;by_cases hlt:i<xs.length
  ·obtain ⟨x,hx,hxi,hdr,hget,htk⟩:=ae2 xs i hlt;have c3:(i:Int)<xs.length:=by omega
   have c4:(0:Int)<=i:=by omega
   have w1:=ad4 (i:=i) (by omega);have w2:=ad4 (i:=deep) (by omega);have w3:=ad4 (i:=n) (by omega);rw[hdr,fo3] at hm;obtain ⟨k',d',ys⟩:=x;rw[show (aa8.mk k' d' ys).dep=d' from rfl] at hm;obtain ⟨x1,x2,x3,x4,x5⟩:=aa8.fn5.1 (o5 _ hx);have hA:=ih _ hx (deep+1) (by omega) (o5 _ hx)
   have hsz:IntKind.i64.wrap ((d'.name.length:Int)+d'.evr.ver.length)=((d'.name.length+d'.evr.ver.length:Nat):Int):=by
    have:=x3.1; have:=x3.2.1;rw[wrap64 (by omega) (by omega)]; omega
   simp only[go_sem,c3,c4,hget,aa8.an7,aa8.kind,aa8.dep,aa8.args,hsz,bi7] at hA ⊢;have hbig:big d'=(decide (500<d'.name.length+d'.evr.ver.length)||decide (500<d'.evr.rel.length)):=rfl;by_cases q1:500<d'.name.length+d'.evr.ver.length
   ·have e1:(500:Int)<((d'.name.length+d'.evr.ver.length:Nat):Int):=by omega
    have hb:big d'=true:=by rw[hbig]; simp[q1]
    rw[if_pos hb] at hm;simp only[go_sem,e1,hm];exact bj3 0 true
   have e1:¬ (500:Int)<((d'.name.length+d'.evr.ver.length:Nat):Int):=by omega
   by_cases q2:500<d'.evr.rel.length
   ·have e2:(500:Int)<d'.evr.rel.length:=by omega
    have hb:big d'=true:=by rw[hbig]; simp[q2]
    rw[if_pos hb] at hm;simp only[go_sem,c3,c4,hget,aa8.an7,aa8.kind,aa8.dep,aa8.args,e1,e2,hm];exact bj3 0 true
   have e2:¬ (500:Int)<d'.evr.rel.length:=by omega
   have hb:¬ big d'=true:=by rw[hbig]; simp[q1,q2]
   rw[if_neg hb] at hm;simp only[go_sem,c3,c4,hget,aa8.an7,aa8.kind,aa8.dep,aa8.args,e1,e2,w2];refine aa4 fok77 hA ?_;have hkl:(bz3 (.mk k' d' ys) (deep+1)).1<=2000:=by rw[dk6]; exact et4 _ _
   generalize bz3 (.mk k' d' ys) (deep+1)=ka at *
   have w4:IntKind.i64.wrap (((n+1:Nat):Int)+ka.1)=((n+1+ka.1:Nat):Int):=by
    rw[wrap64 (by omega) (by omega)]; omega
   cases hk2:ka.2 with
   | true=>
    rw[if_pos (.inl hk2)] at hm;simp only[go_sem,ds6,hk2,w3,w4,hm]
    exact bj3 0 true
   | false=>
    by_cases q3:2000<n+1+ka.1
    ·have e3:(2000:Int)<((n+1+ka.1:Nat):Int):=by omega
     rw[if_pos (.inr q3)] at hm;simp only[go_sem,ds6,hk2,w3,w4,e3,hm];exact bj3 0 true
    ·have e3:¬ (2000:Int)<((n+1+ka.1:Nat):Int):=by omega
     rw[if_neg (by rw[hk2]; simp; omega)] at hm;simp only[go_sem,ds6,hk2,w1,w3,w4,e3];exact ⟨hlt,n+1+ka.1,rfl,by omega,hm⟩
  ·have hi':i=xs.length:=by omega
   subst hi';have c3:¬ (xs.length:Int)<xs.length:=by omega
   rw[List.drop_length] at hm;simp only[go_sem,c3,hm,co3];exact bj3 n false
theorem fo4 (l:List aa8)(h1:l.length<2^62)(h2:∀ r∈l,r.ok):PC Tryz.prog EE 77 [ai9 l,.int .i64 0] (ds6 (co4 l 0)):=by
 have h:=gf1 (.mk 1 by7 l) 0 (by omega) (aa8.fn5.2 ⟨by omega,by omega,⟨by decide,by decide,by decide⟩,h1,h2⟩);rw[dk6] at h;exact h
def lC (l:List aa8):List IV:=[ai9 l]
theorem em5 {p:aa3}{l:List aa8}(h:l∈bn7 p):∃ x∈p.rows,x.2=l:=by
 simp only[bn7,List.mem_cons,List.not_mem_nil,or_false] at h;rcases h with rfl|rfl|rfl|rfl|rfl|rfl<;>simp[aa3.rows]
theorem em6 (l:List aa8)(ls:List (List aa8))(n:Nat):bz4 (l::ls) n=if (co4 l 0).2=true\/2000<n+(co4 l 0).1 then true else bz4 ls (n+(co4 l 0).1):=by simp only[bz4]
theorem dl3 (p:aa3)(ho:p.Ok):PC Tryz.prog EE 34 [.agg p.cs] (.bool (au8 p)):=by
 refine ae9 hE fok34 (nZ rfl) (ae1 (an3 p)) ?_;by_cases b1:100<p.provides.length
 ·have c1:(100:Int)<p.provides.length:=by omega
  simp only[ic34,go_sem,aa3.cs,c1,au8,b1];exact ab3 _
 have c1:¬ (100:Int)<p.provides.length:=by omega
 by_cases b2:100<p.aa9.length
 ·have c2:(100:Int)<p.aa9.length:=by omega
  simp only[ic34,go_sem,aa3.cs,c1,c2,au8,b1,b2];exact ab3 _
 have c2:¬ (100:Int)<p.aa9.length:=by omega
 by_cases b3:100<p.files.length
 ·have c3:(100:Int)<p.files.length:=by omega
  simp only[ic34,go_sem,aa3.cs,c1,c2,c3,au8,b1,b2,b3];exact ab3 _
 have c3:¬ (100:Int)<p.files.length:=by omega
 by_cases b4:1000<p.name.length
 ·have c4:(1000:Int)<p.name.length:=by omega
  simp only[ic34,go_sem,aa3.cs,c1,c2,c3,c4,au8,b1,b2,b3,b4];exact ab3 _
 have c4:¬ (1000:Int)<p.name.length:=by omega
 by_cases b5:1000<p.vendor.length
 ·have c5:(1000:Int)<p.vendor.length:=by omega
  simp only[ic34,go_sem,aa3.cs,c1,c2,c3,c4,c5,au8,b1,b2,b3,b4,b5];exact ab3 _
 have c5:¬ (1000:Int)<p.vendor.length:=by omega
 by_cases b6:1000<p.evr.ver.length
 ·have c6:(1000:Int)<p.evr.ver.length:=by omega
  simp only[ic34,go_sem,aa3.cs,c1,c2,c3,c4,c5,c6,au8,b1,b2,b3,b4,b5,b6];exact ab3 _
 have c6:¬ (1000:Int)<p.evr.ver.length:=by omega
 by_cases b7:1000<p.evr.rel.length
 ·have c7:(1000:Int)<p.evr.rel.length:=by omega
  simp only[ic34,go_sem,aa3.cs,c1,c2,c3,c4,c5,c6,c7,au8,b1,b2,b3,b4,b5,b6,b7];exact ab3 _
 have c7:¬ (1000:Int)<p.evr.rel.length:=by omega
 have hM:au8 p=bz4 (bn7 p) 0:=by simp only[au8,b1,b2,b3,b4,b5,b6,b7,decide_false,Bool.false_or]
 rw[hM];simp only[ic34,go_sem,aa3.cs,c1,c2,c3,c4,c5,c6,c7];refine ab7 noT (fun i fr s=>∃ n:Nat,fr=[(3,.int .i64 n),(62,.aa5 ((bn7 p).map lC)),(63,.int .i64 6),(64,.int .i64 i)]/\n<=2000/\bz4 (bn7 p) 0=bz4 ((bn7 p).drop i) n) 6 ⟨0,rfl,by omega,rfl⟩ ?_;rintro i fr s hi ⟨n,rfl,hn,hm⟩;by_cases hlt:i<6
 ·obtain ⟨l,hl,hli,hdr,hget,htk⟩:=ae2 (bn7 p) i hlt;have d1:(i:Int)<6:=by omega
  have d2:(0:Int)<=i:=by omega
  have d3:(i:Int)<((bn7 p).length:Nat):=by simp only[bn7,List.length_cons,List.length_nil]; omega
  have w1:=ad4 (i:=i) (by omega);rw[hdr,em6] at hm;obtain ⟨x,hx,rfl⟩:=em5 hl;have hok:=ho.rich x hx;simp only[go_sem,d1,d2,d3,hget,lC];refine aa4 fok77 (fo4 x.2 hok.1 hok.2) ?_;have hle:=et4 x.2 0;generalize co4 x.2 0=ka at *
  have w4:IntKind.i64.wrap ((n:Int)+ka.1)=((n+ka.1:Nat):Int):=by
   rw[wrap64 (by omega) (by omega)]; omega
  cases hk2:ka.2 with
  | true=>
   rw[if_pos (.inl hk2)] at hm;simp only[go_sem,ds6,hk2,w4,hm]
   exact ab3 _
  | false=>
   by_cases q3:2000<n+ka.1
   ·have e3:(2000:Int)<((n+ka.1:Nat):Int):=by omega
    rw[if_pos (.inr q3)] at hm;simp only[go_sem,ds6,hk2,w4,e3,hm];exact ab3 _
   ·have e3:¬ (2000:Int)<((n+ka.1:Nat):Int):=by omega
    rw[if_neg (by rw[hk2]; simp; omega)] at hm;simp only[go_sem,ds6,hk2,w1,w4,e3];exact ⟨hlt,n+ka.1,rfl,by omega,hm⟩
 ·have hi':i=6:=by omega
  subst hi';have e6:(bn7 p).drop 6=[]:=rfl;rw[e6] at hm;simp only[go_sem,hm,bz4];exact ab3 _
theorem ev3 {α:Type}{q:α->Bool}{l:List α}{i:Nat}{a:α}(h:l.drop i=a::l.drop (i+1)):(l.drop i).any q=(q a||(l.drop (i+1)).any q):=by rw[h]; simp
set_option maxHeartbeats 1000000
def ca2 (most:Nat):List al7->Nat->Bool
 | [],_=>false
 | r::rs,n=>if most<n+r.packages.length then true else if r.packages.any au8=true then true else ca2 most rs (n+r.packages.length)
def bo1 (repos:List al7)(inst:List aa3)(r:Req)(most:Nat):Bool :=
 decide (30<repos.length)||(decide (most<inst.length)||(decide (20<r.ai4.length)||(decide (20<r.ai5.length)||(inst.any au8||ca2 most repos inst.length))))
theorem em7 (most:Nat)(r:al7)(rs:List al7)(n:Nat):ca2 most (r::rs) n=if most<n+r.packages.length then true else if r.packages.any au8=true then true else ca2 most rs (n+r.packages.length):=by simp only[ca2]
theorem if9 (r:Req):(r.cs.drop 2).head? = some (bi9 r.ai4):=rfl
theorem iw8 (r:Req):(r.cs.drop 3).head? = some (au9 r.ai5):=rfl
theorem gf2 (repos:List al7)(inst:List aa3)(r:Req)(most:Nat)(h1:repos.length<2^62)(h2:inst.length<2^62)(hmo:most<2^31)(hr:∀ r∈repos,al7.Ok r)(hi:∀ p∈inst,p.Ok) :
  PC Tryz.prog EE 8 [as7 repos,az6 inst,.agg r.cs,.int .i64 most] (.bool (bo1 repos inst r most)):=by
 refine ae9 hE fok8 (nZ rfl) (ic7 (bo4 _) (aw3 _) (.agg _ (bc6 r)) (.int _ _)) ?_;have rl:r.cs.length=5:=rfl;have jl:∀ l:List Job,∀ σ:Store,cl8 0 σ (bi9 l)=some (.int .i64 l.length):=fun l σ=>by unfold bi9; simp only[go_sem]
 have el:∀ l:List bc1,∀ σ:Store,cl8 0 σ (au9 l)=some (.int .i64 l.length):=fun l σ=>by unfold au9; simp only[go_sem]
 by_cases b1:30<repos.length
 ·have c1:(30:Int)<repos.length:=by omega
  simp only[ic8,go_sem,ah3,c1,bo1,b1];exact ab3 _
 have c1:¬ (30:Int)<repos.length:=by omega
 by_cases b2:most<inst.length
 ·have c2:(most:Int)<inst.length:=by omega
  simp only[ic8,go_sem,ah3,c1,c2,bo1,b1,b2];exact ab3 _
 have c2:¬ (most:Int)<inst.length:=by omega
 by_cases b3:20<r.ai4.length
 ·have c3:(20:Int)<r.ai4.length:=by omega
  simp only[ic8,go_sem,ah3,c1,c2,if9,jl,c3,bo1,b1,b2,b3];exact ab3 _
 have c3:¬ (20:Int)<r.ai4.length:=by omega
 by_cases b4:20<r.ai5.length
 ·have c4:(20:Int)<r.ai5.length:=by omega
  simp only[ic8,go_sem,ah3,c1,c2,if9,iw8,jl,el,c3,c4,bo1,b1,b2,b3,b4];exact ab3 _
 have c4:¬ (20:Int)<r.ai5.length:=by omega
 have hM:bo1 repos inst r most=(inst.any au8||ca2 most repos inst.length):=by simp only[bo1,b1,b2,b3,b4,decide_false,Bool.false_or]
 rw[hM];simp only[ic8,go_sem,ah3,c1,c2,if9,iw8,jl,el,c3,c4];refine ab7 noT (fun i fr s=>fr=[(0,as7 repos),(1,az6 inst),(3,.int .i64 most),(9,.int .i64 inst.length),(10,.int .i64 i)]/\inst.any au8=(inst.drop i).any au8) inst.length ⟨rfl,rfl⟩ ?_;rintro i fr s hle ⟨rfl,hm⟩;by_cases hlt:i<inst.length
 ·obtain ⟨x,hx,hxi,hdr,hget,htk⟩:=ae2 inst i hlt;have d1:(i:Int)<inst.length:=by omega
  have d2:(0:Int)<=i:=by omega
  have w1:=ad4 (i:=i) (by omega);rw[ev3 hdr] at hm;simp only[go_sem,d1,d2,hget,ag9,ah2];refine aa4 fok34 (dl3 x (hi x hx)) ?_
  cases hb:au8 x with
  | true=>
   rw[hb,Bool.true_or] at hm;simp only[go_sem,hm]
   exact ab3 _
  | false=>
   rw[hb,Bool.false_or] at hm;simp only[go_sem,w1];exact ⟨hlt,hm⟩
 have hi':i=inst.length:=by omega
 subst hi';have d1:¬ (inst.length:Int)<inst.length:=by omega
 rw[List.drop_length,List.any_nil] at hm;rw[hm,Bool.false_or];simp only[go_sem,d1];refine ab7 noT (fun i fr t=>∃ n:Nat,fr=[(0,as7 repos),(3,.int .i64 most),(9,.int .i64 n),(11,.int .i64 i)]/\n<=most/\ca2 most repos inst.length=ca2 most (repos.drop i) n) repos.length ⟨inst.length,rfl,by omega,rfl⟩ ?_;rintro i fr t hle2 ⟨n,rfl,hn,hm2⟩;by_cases hlt:i<repos.length
 ·obtain ⟨x,hx,hxi,hdr,hget,htk⟩:=ae2 repos i hlt;have d3:(i:Int)<repos.length:=by omega
  have d4:(0:Int)<=i:=by omega
  have w1:=ad4 (i:=i) (by omega);have hxo:=hr x hx
  have w2:IntKind.i64.wrap ((n:Int)+x.packages.length)=((n+x.packages.length:Nat):Int):=by
   have:=hxo.1;rw[wrap64 (by omega) (by omega)]; omega
  rw[hdr,em7] at hm2;by_cases q1:most<n+x.packages.length
  ·have e1:(most:Int)<((n+x.packages.length:Nat):Int):=by omega
   rw[if_pos q1] at hm2;simp only[go_sem,d3,d4,hget,al7.cs,w2,e1,hm2];exact ab3 _
  have e1:¬ (most:Int)<((n+x.packages.length:Nat):Int):=by omega
  rw[if_neg q1] at hm2;simp only[go_sem,d3,d4,hget,al7.cs,w2,e1];refine ab7 noT (fun j fr t=>fr=[(0,as7 repos),(3,.int .i64 most),(9,.int .i64 (n+x.packages.length:Nat)),(11,.int .i64 i),(12,.int .i64 j)]/\x.packages.any au8=(x.packages.drop j).any au8) x.packages.length ⟨rfl,rfl⟩ ?_;rintro j fr t hlej ⟨rfl,hj⟩;by_cases hjl:j<x.packages.length
  ·obtain ⟨y,hy,hyi,hdr3,hget3,htk3⟩:=ae2 x.packages j hjl;have d5:(j:Int)<x.packages.length:=by omega
   have d6:(0:Int)<=j:=by omega
   have w3:=ad4 (i:=j) (by have:=hxo.1; omega);rw[ev3 hdr3] at hj;simp only[go_sem,d3,d4,d5,d6,hget,hget3,al7.cs,ag9,ah2];refine aa4 fok34 (dl3 y (hxo.2 y hy)) ?_
   cases hb:au8 y with
   | true=>
    rw[hb,Bool.true_or] at hj;rw[if_pos hj] at hm2;simp only[go_sem,hm2]
    exact ab3 _
   | false=>
    rw[hb,Bool.false_or] at hj;simp only[go_sem,w3];exact ⟨hjl,hj⟩
  ·have hj':j=x.packages.length:=by omega
   subst hj';have d5:¬ (x.packages.length:Int)<x.packages.length:=by omega
   rw[List.drop_length,List.any_nil] at hj;rw[if_neg (by rw[hj]; exact Bool.false_ne_true)] at hm2;simp only[go_sem,d3,d4,d5,hget,al7.cs,w1];exact ⟨hlt,n+x.packages.length,rfl,by omega,hm2⟩
 ·have hi':i=repos.length:=by omega
  subst hi';have d3:¬ (repos.length:Int)<repos.length:=by omega
  rw[List.drop_length] at hm2;simp only[go_sem,d3,hm2,ca2];exact ab3 _
open Go.Id.Md.ac5 (inS less)
set_option maxHeartbeats 1000000
theorem em8 {s:Store}(x:Str):bt7 s 0 (.str x) (.str x):=.keep _ (.str _)
theorem gf3 {s:Store}(k:IntKind)(n:Int):bt7 s 0 (.int k n) (.int k n):=.keep _ (.int _ _)
def in1 (name ver:Str):aa3:={ name:=name,evr:=⟨0,ver,[49]⟩,au2:=1,vendor:=[],provides:=[],requires:=[],conflicts:=[],aa9:=[],ac3:=[],ac2:=[],suggests:=[],ad6:=[],files:=[] }
theorem dl4 (name ver:Str):PC Tryz.prog EE 35 [.str name,.str ver] (.agg (in1 name ver).cs):=by
 refine ae9 hE fok35 (nZ rfl) (aj9 (.str _) (.str _)) ?_;simp only[ic35,go_sem];exact .il8 (.cons (em8 _) (.cons (gf3 _ _) (.cons (em8 _) (.cons (em8 _) (.cons (gf3 _ _) (.cons (em8 _) (.cons .bu6 (.cons .bu6 (.cons .bu6 (.cons .bu6 (.cons .bu6 (.cons .bu6 (.cons .bu6 (.cons .bu6 (.cons .bu6 .nil)))))))))))))))
def at16 (s:Str):aa8:=.mk 1 ⟨s,0,⟨0,[],[]⟩⟩ []
theorem gf4 (s:Str):PC Tryz.prog EE 36 [.str s] (.agg (at16 s).cs):=by
 refine ae9 hE fok36 (nZ rfl) (ai8 (.str _)) ?_;simp only[ic36,go_sem];exact .il8 (.cons (gf3 _ _) (.cons (em8 _) (.cons (gf3 _ _) (.cons (gf3 _ _) (.cons (em8 _) (.cons (em8 _) (.cons .bu6 .nil)))))))
def iw9 (repos:List al7)(inst:List aa3):Pool:=match bt2 repos inst with
 | .inl p=>p
 | .inr _=>⟨[],0,[]⟩
def ev4 (d:Dep):Bool:=decide (d.name.length<100)&&decide (d.evr.ver.length<100)&&decide (d.evr.rel.length<100)
def hq5 (p:aa3):Bool:=decide (p.name.length<100)&&decide (p.vendor.length<100)&&decide (p.evr.ver.length<100)&&decide (p.evr.rel.length<100)&&decide (p.provides.length<100)&&p.provides.all ev4&&decide (p.aa9.length<100)&&p.aa9.all ev4 &&
 decide (p.files.length<100)&&p.files.all (fun s=>decide (s.length<100))&&p.rows.all fun x=>x.2.isEmpty
theorem gz6 {p:aa3}(h:hq5 p=true):p.Fit/\p.Ok:=by
 unfold hq5 at h;simp only[Bool.and_eq_true,decide_eq_true_eq,List.all_eq_true] at h;obtain ⟨⟨⟨⟨⟨⟨⟨⟨⟨⟨h1,h2⟩,h3⟩,h4⟩,h5⟩,h6⟩,h7⟩,h8⟩,h9⟩,h10⟩,h11⟩:=h
 have hd:∀ d:Dep,ev4 d=true->d.fit:=fun d hd=>by
  unfold ev4 at hd;simp only[Bool.and_eq_true,decide_eq_true_eq] at hd;exact ⟨by omega,by omega,by omega⟩
 have hr:∀ x∈p.rows,x.2=[]:=fun x hx=>List.isEmpty_iff.1 (h11 x hx)
 exact ⟨⟨by omega,⟨by omega,by omega⟩,⟨by omega,fun d hx=>hd d (h6 d hx)⟩,⟨by omega,fun d hx=>hd d (h8 d hx)⟩,⟨by omega,fun x hx=>by have:=h10 x hx; omega⟩,fun x hx=>by rw[hr x hx]; exact ⟨by simp,fun r h=>by cases h⟩⟩,
  ⟨by omega,by omega,⟨by omega,by omega⟩,⟨by omega,fun d hx=>hd d (h6 d hx)⟩,⟨by omega,fun d hx=>hd d (h8 d hx)⟩,⟨by omega,fun x hx=>by have:=h10 x hx; omega⟩,fun x hx=>by rw[hr x hx]; exact ⟨by simp,fun r h=>by cases h⟩⟩⟩
theorem ca3 (l:List Itm){i:Nat}(h:i<l.length):(l.map Itm.cs).getD i []=l[i].cs:=by
 simp[List.getD_eq_getElem?_getD,h]
theorem cx3 (l m:List Itm)(hl:l.length<2^62)(hm:m.length<2^62):PC Tryz.prog EE 14 [am7 l,am7 m] (.bool (decide (l=m))):=by
 refine ae9 hE fok14 (nZ rfl) (aj9 (aw2 l) (aw2 m)) ?_;have il:∀ l:List Itm,∀ σ:Store,cl8 0 σ (am7 l)=some (.int .i64 l.length):=fun l σ=>by unfold am7; simp only[go_sem]
 by_cases hn:l.length=m.length
 case neg=>
  have e:¬ (l.length:Int)=m.length:=by omega
  have e2:decide (l=m)=false:=by
   rw[decide_eq_false_iff_not]; intro h; exact hn (by rw[h])
  rw[e2];simp only[ic14,go_sem,il,e];exact ab2 rfl
 have e:(l.length:Int)=m.length:=by omega
 simp only[ic14,go_sem,il,e];refine ab7 noT (fun i fr s=>fr=[(0,am7 l),(1,am7 m),(5,.int .i64 (i:Int))]/\l.take i=m.take i) l.length ⟨rfl,rfl⟩ ?_;rintro i fr s hi ⟨rfl,ht⟩;by_cases hlt:i<l.length
 ·have c1:(i:Int)<l.length:=by omega
  have c2:(0:Int)<=(i:Int):=by omega
  have c3:(i:Int)<m.length:=by omega
  have w1:=ad4 (i:=i) (by omega);have g1:=ca3 l hlt;have g2:=ca3 m (i:=i) (by omega);simp only[go_sem,am7,c1,c2,c3,g1,g2,ag4,af4,gc1];by_cases hq:l[i]=m[i]'(by omega)
  ·simp only[hq,go_sem,w1];refine ⟨hlt,?_⟩;rw[List.take_add_one,List.take_add_one,ht,List.getElem?_eq_getElem hlt,List.getElem?_eq_getElem (by omega),hq]
  ·have e2:decide (l=m)=false:=by
    rw[decide_eq_false_iff_not]; intro h; subst h; exact hq rfl
   rw[e2];simp only[hq,go_sem];exact ab2 rfl
 ·have c1:¬ (i:Int)<l.length:=by omega
  rw[List.take_of_length_le (by omega),List.take_of_length_le (by omega)] at ht;subst ht;simp only[go_sem,il,c1];exact ab2 (by simp)
set_option maxHeartbeats 1000000
def wkA:aa3:={ in1 [97] [49] with requires:=[at16 [120]] }
def wkB:aa3:={ in1 [98] [49] with provides:=[⟨[120],0,⟨0,[],[]⟩⟩] }
def wkR:List al7:=[⟨0,[wkB]⟩]
def wkI:List aa3:=[wkA]
def wkQ:Req:=⟨2,false,[],[],0⟩
def wkP:Pool:=iw9 wkR wkI
def wkM:ac5:=⟨wkP,wkQ⟩
theorem hq6:bt2 wkR wkI=.inl wkP:=by kernel_rfl
theorem hq7:ak8 wkQ wkP.inst=0:=by kernel_rfl
theorem ix1:(at16 [120]).fit:=aa8.bk4.2 ⟨by decide,by decide,⟨by show 1<2^62; decide,by show 0<2^62; decide,by show 0<2^62; decide⟩,by show 0<_; decide,fun r h=>(by cases h)⟩
theorem ji4:(at16 [120]).ok:=aa8.fn5.2 ⟨by decide,by decide,⟨by show 1<2^62; decide,by show 0<2^62; decide,by show 0<2^62; decide⟩,by show 0<_; decide,fun r h=>(by cases h)⟩
theorem ix2:wkA.Fit/\wkA.Ok:=by
 have hr:∀ x∈wkA.rows,x.2.length<100/\∀ r∈x.2,r=at16 [120]:=fun x hx2=>by
  simp only[aa3.rows,wkA,in1,List.mem_cons,List.not_mem_nil,or_false] at hx2;rcases hx2 with rfl|rfl|rfl|rfl|rfl|rfl
  ·refine ⟨by decide,fun r hr=>List.mem_singleton.1 hr⟩
  all_goals exact ⟨by decide,fun r h=>by cases h⟩
 have n0:∀ {α:Type} {q:α->Prop},∀ d∈([]:List α),q d:=fun d h=>by cases h
 refine ⟨⟨by show 1<_; decide,⟨by show 1<2^62; decide,by show 1<2^62; decide⟩,⟨by show 0<_; decide,n0⟩,⟨by show 0<_; decide,n0⟩,⟨by show 0<_; decide,n0⟩,fun x hx2=>⟨by have:=(hr x hx2).1; omega,fun r h=>?_⟩⟩,⟨by show 1<_; decide,by show 0<2^62; decide,⟨by show 1<2^62; decide,by show 1<2^62; decide⟩,⟨by show 0<_; decide,n0⟩,⟨by show 0<_; decide,n0⟩,⟨by show 0<_; decide,n0⟩,fun x hx2=>⟨by have:=(hr x hx2).1; omega,fun r h=>?_⟩⟩⟩
 ·rw[(hr x hx2).2 r h];exact ⟨ix1,by show 1<2^31; decide⟩
 ·rw[(hr x hx2).2 r h];exact ji4
theorem ix3:hf8 wkR wkI:=by
 have hB:wkB.Fit/\wkB.Ok:=gz6 (by kernel_rfl);have hA:=ix2
 exact ⟨by decide,by decide,by decide,fun r hr=>by
   rw[List.mem_singleton.1 hr];exact ⟨by decide,fun p hp=>by rw[List.mem_singleton.1 hp]; exact hB.1⟩,fun p hp=>by rw[List.mem_singleton.1 hp]; exact hA.1,fun r hr=>by
   rw[List.mem_singleton.1 hr];exact ⟨by decide,fun p hp=>by rw[List.mem_singleton.1 hp]; exact hB.2⟩,fun p hp=>by rw[List.mem_singleton.1 hp]; exact hA.2⟩
theorem hq9:dv2 wkQ:=⟨by decide,by decide,fun j h=>by cases h⟩
theorem ca4:wkM.items=[⟨2,0,0⟩,⟨6,0,0⟩]:=by kernel_rfl
theorem ig1:wkM.holds [0] ⟨2,0,0⟩=false:=by kernel_rfl
theorem ig2:wkM.holds [0] ⟨6,0,0⟩=true:=by kernel_rfl
theorem ig3:wkM.good [0,1]=true:=by kernel_rfl
theorem ig4:wkM.good []=false:=by kernel_rfl
theorem ig5:em4 wkR wkI wkQ=.tuple [wkM.mv,wkM.v,.ab8 (az6 (ev1 wkR wkI)::.int .i64 wkP.inst::wkQ.cs),.bool true,.bool false]:=by
 unfold em4;rw[hq6];simp only[hq7,if_true];rfl
theorem bb2:PC Tryz.prog EE 9 [] (.bool true):=by
 have nA:=dl4 [97] [49];have nB:=dl4 [98] [49];have aT:=gf4 [120];have hm:=ec5 wkR wkI wkQ ix3 hq9;rw[ig5] at hm;have hA:=aok ix3 hq6 hq9 hq7;have hI:=ec2 wkM (by rw[ca4]; decide);have hS:=cx3 wkM.items [⟨2,0,0⟩,⟨6,0,0⟩] (by rw[ca4]; decide) (by decide);rw[decide_eq_true ca4] at hS;have h1:=bn9 wkM hA [0] (by decide) ⟨2,0,0⟩;have h2:=bn9 wkM hA [0] (by decide) ⟨6,0,0⟩;have g1:=ds4 wkM hA [0,1] (by decide) (by rw[ca4]; decide);have g2:=ds4 wkM hA [] (by decide) (by rw[ca4]; decide);rw[ig1] at h1;rw[ig2] at h2;rw[ig3] at g1;rw[ig4] at g2
 have g3:PC Tryz.prog EE 17 [wkM.mv,.aa1] (.bool false):=ct6 (args':=[wkM.mv,.aa5 (([]:List Int).map Md.ah6)]) rfl (fun σ i hi=>by
  match i,hi with
  | 0,_=>exact .keep _ ((ao9 wkM).weak fun _ _=>rfl)
  | 1,_=>exact .bu6) g2
 have cA:(in1 [97] [49]).cs=[.str [97],.int .i64 0,.str [49],.str [49],.int .u8 1,.str [],.aa5 [],.aa5 [],.aa5 [],.aa5 [],.aa5 [],.aa5 [],.aa5 [],.aa5 [],.aa5 []]:=rfl;have cB:(in1 [98] [49]).cs=[.str [98],.int .i64 0,.str [49],.str [49],.int .u8 1,.str [],.aa5 [],.aa5 [],.aa5 [],.aa5 [],.aa5 [],.aa5 [],.aa5 [],.aa5 [],.aa5 []]:=rfl;have cT:(at16 [120]).cs=[.int .u8 1,.str [120],.int .u8 0,.int .i64 0,.str [],.str [],.aa5 []]:=rfl;rw[cA] at nA;rw[cB] at nB;rw[cT] at aT
 have hm2:PC Tryz.prog EE 10 [.aa5 [[.int .i64 0,.aa5 [[.str [98],.int .i64 0,.str [49],.str [49],.int .u8 1,.str [],.aa5 [[.str [120],.int .u8 0,.int .i64 0,.str [],.str []]],.aa5 [],.aa5 [],.aa5 [],.aa5 [],.aa5 [],.aa5 [],.aa5 [],.aa5 []]]]],
   .aa5 [[.str [97],.int .i64 0,.str [49],.str [49],.int .u8 1,.str [],.aa5 [],.aa5 [[.int .u8 1,.str [120],.int .u8 0,.int .i64 0,.str [],.str [],.aa5 []]],.aa5 [],.aa5 [],.aa5 [],.aa5 [],.aa5 [],.aa5 [],.aa5 []]],
   .agg [.int .u8 2,.bool false,.aa1,.aa1,.int .i64 0]] (.tuple [wkM.mv,wkM.v,.ab8 (az6 (ev1 wkR wkI)::.int .i64 wkP.inst::wkQ.cs),.bool true,.bool false]):=ic1 (args':=[as7 wkR,az6 wkI,.agg wkQ.cs]) (by kernel_rfl) hm
 generalize wkM.mv=MV at *;generalize wkM.v=AV at *;generalize hTV:(IV.ab8 (az6 (ev1 wkR wkI)::.int .i64 wkP.inst::wkQ.cs))=TV at *;refine ae9 hE fok9 (nZ rfl) (fun a h=>by cases h) ?_;simp only[ic9,go_sem]
 first|refine aa4 fok35 (nA) ?_|refine aa2 (nA) ?_
 simp only[go_sem]
 first|refine aa4 fok35 (nB) ?_|refine aa2 (nB) ?_
 simp only[go_sem]
 first|refine aa4 fok36 (aT) ?_|refine aa2 (aT) ?_
 simp only[go_sem]
 first|refine aa4 fok10 (hm2) ?_|refine aa2 (hm2) ?_
 simp only[go_sem]
 first|refine aa4 fok11 (hI) ?_|refine aa2 (hI) ?_
 simp only[go_sem]
 first|refine aa4 fok14 (hS) ?_|refine aa2 (hS) ?_
 simp only[go_sem]
 first|refine aa4 fok12 (h1) ?_|refine aa2 (h1) ?_
 simp only[go_sem]
 first|refine aa4 fok12 (h2) ?_|refine aa2 (h2) ?_
 simp only[go_sem]
 first|refine aa4 fok17 (g1) ?_|refine aa2 (g1) ?_
 simp only[go_sem]
 first|refine aa4 fok17 (g3) ?_|refine aa2 (g3) ?_
 simp only[go_sem];exact ab2 rfl
end Go.Id.Tryz
