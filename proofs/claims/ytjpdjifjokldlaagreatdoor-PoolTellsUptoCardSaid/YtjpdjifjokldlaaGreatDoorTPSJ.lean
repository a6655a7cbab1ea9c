/- The document's answers on names,versions,dependencies: walked. Conditions: sizes that fit. -/
import Derived.Test.YtjpdjifjokldlaaGreatDoorTPNC
import Derived.Test.YtjpdjifjokldlaaGreatDoorMv
import Derived.Test.YtjpdjifjokldlaaGreatDoorFwZb
import Derived.Test.YtjpdjifjokldlaaGreatDoorTp
set_option linter.all false
namespace Go.Id.Tryz
open Go Go.Id Go.Proofs Go.Shelf Go.Id.Md
set_option maxRecDepth 100000
def alN (n:Nat):Bool:=decide (97<=n)&&decide (n<=122)||decide (65<=n)&&decide (n<=90)||decide (48<=n)&&decide (n<=57)
def gl6 (n:Nat):Bool:=alN n || [46,95,43,45,47,58,64,126,94].contains n
def iw8 (n:Nat):Bool:=alN n || [46,95,43,126,94].contains n
theorem fu2 (b:UInt8):ay2 b=gl6 b.toNat:=by
 have h:∀ n,n<256->ay2 (UInt8.ofNat n)=gl6 n:=by decide +kernel
 have:=h b.toNat b.toNat_lt
 rwa [UInt8.ofNat_toNat] at this
theorem gl7 (b:UInt8):bd3 b=iw8 b.toNat:=by
 have h:∀ n,n<256->bd3 (UInt8.ofNat n)=iw8 n:=by decide +kernel
 have:=h b.toNat b.toNat_lt
 rwa [UInt8.ofNat_toNat] at this
theorem gl8 (n:Nat):PC Tryz.prog EE 69 [.int .u8 n] (.bool (gl6 n)):=by
 refine aj6 hE fok69 (nZ rfl) (be9 (.int _ _)) ?_;by_cases g:n=46\/n=95\/n=43\/n=45\/n=47\/n=58\/n=64\/n=126\/n=94
 ·rcases g with rfl|rfl|rfl|rfl|rfl|rfl|rfl|rfl|rfl
  all_goals
   simp only[ic69,go_sem,Int.reduceNeg,Int.cast_ofNat_Int];exact ae8 (by decide)
 ·simp only[not_or] at g;obtain ⟨g1,g2,g3,g4,g5,g6,g7,g8,g9⟩:=g;have hc:[46,95,43,45,47,58,64,126,94].contains n=false:=by simp[g1,g2,g3,g4,g5,g6,g7,g8,g9]
  have f1:¬ (n:Int)=46:=by omega
  have f2:¬ (n:Int)=95:=by omega
  have f3:¬ (n:Int)=43:=by omega
  have f4:¬ (n:Int)=45:=by omega
  have f5:¬ (n:Int)=47:=by omega
  have f6:¬ (n:Int)=58:=by omega
  have f7:¬ (n:Int)=64:=by omega
  have f8:¬ (n:Int)=126:=by omega
  have f9:¬ (n:Int)=94:=by omega
  unfold gl6 alN;rw[hc,Bool.or_false];by_cases k1:(97:Int)<=n
  ·by_cases k2:(n:Int)<=122
   ·simp only[ic69,go_sem,k1,k2];have a1:97<=n:=by omega
    have a2:n<=122:=by omega
    exact ae8 (by simp[a1,a2])
   ·have k3:(65:Int)<=n:=by omega
    have k4:¬ (n:Int)<=90:=by omega
    have k5:(48:Int)<=n:=by omega
    have k6:¬ (n:Int)<=57:=by omega
    simp only[ic69,go_sem,k1,k2,k3,k4,k5,k6,f1,f2,f3,f4,f5,f6,f7,f8,f9];have a2:¬ n<=122:=by omega
    have a4:¬ n<=90:=by omega
    have a6:¬ n<=57:=by omega
    exact ae8 (by simp[a2,a4,a6])
  ·have a1:¬ 97<=n:=by omega
   by_cases k3:(65:Int)<=n
   ·by_cases k4:(n:Int)<=90
    ·simp only[ic69,go_sem,k1,k3,k4];have a3:65<=n:=by omega
     have a4:n<=90:=by omega
     exact ae8 (by simp[a3,a4])
    ·have k5:(48:Int)<=n:=by omega
     have k6:¬ (n:Int)<=57:=by omega
     simp only[ic69,go_sem,k1,k3,k4,k5,k6,f1,f2,f3,f4,f5,f6,f7,f8,f9];have a4:¬ n<=90:=by omega
     have a6:¬ n<=57:=by omega
     exact ae8 (by simp[a1,a4,a6])
   ·have a3:¬ 65<=n:=by omega
    by_cases k5:(48:Int)<=n
    ·by_cases k6:(n:Int)<=57
     ·simp only[ic69,go_sem,k1,k3,k5,k6];have a5:48<=n:=by omega
      have a6:n<=57:=by omega
      exact ae8 (by simp[a5,a6])
     ·simp only[ic69,go_sem,k1,k3,k5,k6,f1,f2,f3,f4,f5,f6,f7,f8,f9];have a6:¬ n<=57:=by omega
      exact ae8 (by simp[a1,a3,a6])
    ·simp only[ic69,go_sem,k1,k3,k5,f1,f2,f3,f4,f5,f6,f7,f8,f9];have a5:¬ 48<=n:=by omega
     exact ae8 (by simp[a1,a3,a5])
theorem dg1 (s:Str)(hs:s.length<2^62):PC Tryz.prog EE 39 [.str s] (.bool (am8 s)):=by
 refine aj6 hE fok39 (nZ rfl) (be9 (.str _)) ?_;unfold am8;by_cases h1:1<=s.length
 case neg=>
  have c1:(s.length:Int)<1:=by omega
  simp only[ic39,go_sem,c1];exact ae8 (by simp[h1])
 by_cases h2:s.length<=64
 case neg=>
  have c1:¬ (s.length:Int)<1:=by omega
  have c2:(64:Int)<s.length:=by omega
  simp only[ic39,go_sem,c1,c2];exact ae8 (by simp[h2])
 have c1:¬ (s.length:Int)<1:=by omega
 have c2:¬ (64:Int)<s.length:=by omega
 by_cases hw:s∈words
 ·have hc:words.contains s=true:=by simpa using hw
  have e:s=[97,110,100]\/s=[111,114]\/s=[105,102]\/s=[101,108,115,101]\/s=[117,110,108,101,115,115]\/s=[119,105,116,104]\/s=[119,105,116,104,111,117,116]:=by simpa [words] using hw
  rw[hc];rcases e with rfl|rfl|rfl|rfl|rfl|rfl|rfl
  all_goals
   simp only[ic39,go_sem,c1,c2,List.length_cons,List.length_nil];exact ae8 (by decide)
 have hc:words.contains s=false:=by simpa using hw
 have hn:¬ s=[97,110,100]/\¬ s=[111,114]/\¬ s=[105,102]/\¬ s=[101,108,115,101]/\¬ s=[117,110,108,101,115,115]/\¬ s=[119,105,116,104]/\¬ s=[119,105,116,104,111,117,116]:=by simpa [words,not_or] using hw
 obtain ⟨n1,n2,n3,n4,n5,n6,n7⟩:=hn;rw[hc,decide_eq_true h1,decide_eq_true h2,Bool.true_and,Bool.true_and,Bool.not_false,Bool.and_true];simp only[ic39,go_sem,c1,c2,n1,n2,n3,n4,n5,n6,n7];refine ac2 noT (fun i fr t=>fr=[(0,.str s),(3,.int .i64 (i:Int))]/\(s.take i).all ay2=true) s.length ⟨rfl,rfl⟩ ?_;rintro i fr t hi ⟨rfl,ha⟩;by_cases hlt:i<s.length
 ·have d1:(i:Int)<s.length:=by omega
  have d2:(0:Int)<=i:=by omega
  have w1:=af6 (i:=i) (by omega);have hsg:=gl8 s[i].toNat;rw[<- fu2] at hsg;simp only[go_sem,d1,d2,List.getElem?_eq_getElem hlt,Int.toNat_natCast]
  first|refine aa4 fok69 (hsg) ?_|refine aa6 (hsg) ?_
  cases hb:ay2 s[i] with
  | true=>
   simp only[go_sem,w1]
   exact ⟨hlt,by rw[cf2 hlt,ha,hb]; rfl⟩
  | false=>
   simp only[go_sem];exact ae8 (by rw[ba6 hlt hb])
 ·have d1:¬ (i:Int)<s.length:=by omega
  have e:i=s.length:=by omega
  subst e;rw[List.take_length] at ha;simp only[go_sem,d1];exact ae8 (by rw[ha])
theorem dg2 (s:Str)(hs:s.length<2^62):PC Tryz.prog EE 40 [.str s] (.bool (aq3 s)):=by
 refine aj6 hE fok40 (nZ rfl) (be9 (.str _)) ?_;have h:=dg1 s hs;unfold aq3;simp only[ic40,go_sem]
 first|refine aa4 fok39 (h) ?_|refine aa6 (h) ?_
 cases hn:am8 s with
 | false=>simp only[go_sem]; exact ae8 rfl
 | true=>
  cases s with
  | nil=>simp[am8] at hn
  | cons b l=>
   simp only[go_sem,List.head?_cons];refine ae8 ?_
   have:(b.toNat:Int)=47↔b=47:=by
    constructor
    ·intro h; exact UInt8.toNat_inj.1 (by show b.toNat=47; omega)
    ·rintro rfl; rfl
   by_cases e:b=47
   ·subst e; rfl
   ·have e2:¬ (b.toNat:Int)=47:=fun h=>e (this.1 h)
    simp[e,e2]
theorem eh7 (s:Str)(hs:s.length<2^62):PC Tryz.prog EE 70 [.str s] (.bool (as7 s)):=by
 refine aj6 hE fok70 (nZ rfl) (be9 (.str _)) ?_;simp only[ic70,go_sem];refine ac2 noT (fun i fr t=>fr=[(0,.str s),(3,.int .i64 (i:Int))]/\(s.take i).all bd3=true) s.length ⟨rfl,rfl⟩ ?_;rintro i fr t hi ⟨rfl,ha⟩;by_cases hlt:i<s.length
 ·have d1:(i:Int)<s.length:=by omega
  have d2:(0:Int)<=i:=by omega
  have w1:=af6 (i:=i) (by omega);have hv:=gl7 s[i];have step:bd3 s[i]=true->(s.take (i+1)).all bd3=true:=fun h=>by rw[cf2 hlt,ha,h]; rfl
  have fin:bd3 s[i]=false->as7 s=false:=fun h=>by simp only[as7,ba6 hlt h,Bool.and_false]
  simp only[go_sem,d1,d2,List.getElem?_eq_getElem hlt,Int.toNat_natCast];generalize s[i].toNat=n at *;by_cases g:n=46\/n=95\/n=43\/n=126\/n=94
  ·rcases g with rfl|rfl|rfl|rfl|rfl
   all_goals
    simp only[go_sem,Int.cast_ofNat_Int,Int.reduceEq,w1];exact ⟨hlt,step (hv.trans (by decide))⟩
  ·simp only[not_or] at g;obtain ⟨g1,g2,g3,g4,g5⟩:=g;have hc:[46,95,43,126,94].contains n=false:=by simp[g1,g2,g3,g4,g5]
   have f1:¬ (n:Int)=46:=by omega
   have f2:¬ (n:Int)=95:=by omega
   have f3:¬ (n:Int)=43:=by omega
   have f4:¬ (n:Int)=126:=by omega
   have f5:¬ (n:Int)=94:=by omega
   unfold iw8 alN at hv;rw[hc,Bool.or_false] at hv;by_cases k1:(97:Int)<=n
   ·have a5:(48:Int)<=n:=by omega
    have a6:¬ (n:Int)<=57:=by omega
    by_cases k2:(n:Int)<=122
    ·have a1:97<=n:=by omega
     have a2:n<=122:=by omega
     simp only[go_sem,k1,k2,a5,a6,w1];exact ⟨hlt,step (hv.trans (by simp[a1,a2]))⟩
    ·have k3:(65:Int)<=n:=by omega
     have k4:¬ (n:Int)<=90:=by omega
     simp only[go_sem,k1,k2,k3,k4,a5,a6,f1,f2,f3,f4,f5];have b2:¬ n<=122:=by omega
     have b4:¬ n<=90:=by omega
     have b6:¬ n<=57:=by omega
     exact ae8 (fin (hv.trans (by simp[b2,b4,b6]))).symm
   ·have b1:¬ 97<=n:=by omega
    by_cases k3:(65:Int)<=n
    ·have a5:(48:Int)<=n:=by omega
     have a6:¬ (n:Int)<=57:=by omega
     by_cases k4:(n:Int)<=90
     ·simp only[go_sem,k1,k3,k4,a5,a6,w1];have a3:65<=n:=by omega
      have a4:n<=90:=by omega
      exact ⟨hlt,step (hv.trans (by simp[a3,a4]))⟩
     ·simp only[go_sem,k1,k3,k4,a5,a6,f1,f2,f3,f4,f5];have b4:¬ n<=90:=by omega
      have b6:¬ n<=57:=by omega
      exact ae8 (fin (hv.trans (by simp[b1,b4,b6]))).symm
    ·have b3:¬ 65<=n:=by omega
     by_cases k5:(48:Int)<=n
     ·by_cases k6:(n:Int)<=57
      ·simp only[go_sem,k1,k3,k5,k6,w1];have a5:48<=n:=by omega
       have a6:n<=57:=by omega
       exact ⟨hlt,step (hv.trans (by simp[a5,a6]))⟩
      ·simp only[go_sem,k1,k3,k5,k6,f1,f2,f3,f4,f5];have b6:¬ n<=57:=by omega
       exact ae8 (fin (hv.trans (by simp[b1,b3,b6]))).symm
     ·simp only[go_sem,k1,k3,k5,f1,f2,f3,f4,f5];have b5:¬ 48<=n:=by omega
      exact ae8 (fin (hv.trans (by simp[b1,b3,b5]))).symm
 ·have d1:¬ (i:Int)<s.length:=by omega
  have e:i=s.length:=by omega
  subst e;rw[List.take_length] at ha;unfold as7;rw[ha,Bool.and_true];by_cases h1:1<=s.length
  ·have c1:(1:Int)<=s.length:=by omega
   simp only[go_sem,d1,c1];refine ae8 ?_;have:decide ((s.length:Int)<=64)=decide (s.length<=64):=decide_eq_decide.2 (by omega);simp[h1,this]
  ·have c1:¬ (1:Int)<=s.length:=by omega
   simp only[go_sem,d1,c1];exact ae8 (by simp[h1])
theorem fu3 (e:EVR)(dep:Bool)(h1:e.ver.length<2^62)(h2:e.rel.length<2^62):PC Tryz.prog EE 41 [.agg e.cs,.bool dep] (.bool (ay3 e dep)):=by
 obtain ⟨ep,ver,rel⟩:=e;refine aj6 hE fok41 (nZ rfl) (cc3 (.agg _ (ew3 (.int _ _) (.str _) (.str _))) (.bool _)) ?_;have hw:=eh7 ver h1;have hw':=eh7 rel h2;unfold ay3;by_cases a1:ep<0
 ·have b1:¬ (0:Int)<=ep:=by omega
  simp only[ic41,go_sem,EVR.cs,a1];exact ae8 (by simp[b1])
 have b1:(0:Int)<=ep:=by omega
 by_cases a2:2147483647<ep
 ·have b2:¬ ep<=2147483647:=by omega
  simp only[ic41,go_sem,EVR.cs,a1,a2];exact ae8 (by simp[b2])
 have b2:ep<=2147483647:=by omega
 simp only[b1,b2,decide_true,Bool.true_and];simp only[ic41,go_sem,EVR.cs,a1,a2]
 first|refine aa4 fok70 (hw) ?_|refine aa6 (hw) ?_
 cases hv:as7 ver with
 | false=>simp only[go_sem]; exact ae8 (by simp)
 | true=>
  by_cases hr:rel=[]
  ·subst hr;simp only[go_sem];refine ae8 ?_;have:as7 []=false:=by decide
   rw[this]; simp
  ·have he:rel.isEmpty=false:=by simpa using hr
   simp only[go_sem,hr]
   first|refine aa4 fok70 (hw') ?_|refine aa6 (hw') ?_
   simp only[go_sem];exact ae8 (by rw[he]; simp)
theorem hm9 (n:Int):PC Tryz.prog EE 98 [.int .u8 n] (.bool (de1 n)):=by
 refine aj6 hE fok98 (nZ rfl) (be9 (.int _ _)) ?_;unfold de1;by_cases g:n=0\/n=1\/n=2\/n=3\/n=4\/n=6
 ·rcases g with rfl|rfl|rfl|rfl|rfl|rfl
  all_goals
   simp only[ic98,go_sem];exact ae8 (by decide)
 ·simp only[not_or] at g;obtain ⟨g1,g2,g3,g4,g5,g6⟩:=g;simp only[ic98,go_sem,g1,g2,g3,g4,g5,g6];exact ae8 (by simp[g1,g2,g3,g4,g5,g6])
theorem hn4 (e:EVR):allEq [1,2,2] e.cs fq3.cs=some (decide (e=fq3)):=by
 obtain ⟨ep,ver,rel⟩:=e;simp[EVR.cs,fq3,allEq,ah8]
theorem fu4 (d:Dep)(h1:d.name.length<2^62)(h2:d.evr.ver.length<2^62)(h3:d.evr.rel.length<2^62):PC Tryz.prog EE 71 [.agg d.cs] (.bool (ah7 d)):=by
 refine aj6 hE fok71 (nZ rfl) (be9 (.agg _ (df7 d))) ?_;have hn:=dg1 d.name h1;have hf:=dg2 d.name h1;have ho:=hm9 d.op;have hm:=fu3 d.evr true h2 h3;have he:=hn4 d.evr;unfold ah7;obtain ⟨name,op,⟨ep,ver,rel⟩⟩:=d;unfold EVR.cs fq3 at he;simp only at *;simp only[ic71,go_sem,Dep.cs]
 first|refine aa4 fok39 (hn) ?_|refine aa6 (hn) ?_
 cases am8 name with
 | false=>simp only[go_sem]; exact ae8 (by simp)
 | true=>
  simp only[go_sem]
  first|refine aa4 fok98 (ho) ?_|refine aa6 (ho) ?_
  cases de1 op with
  | false=>simp only[go_sem]; exact ae8 (by simp)
  | true=>
   by_cases h0:op=0
   ·simp only[go_sem,h0,he,Option.map_some];exact ae8 (by simp[fq3])
   ·simp only[go_sem,h0]
    first|refine aa4 fok40 (hf) ?_|refine aa6 (hf) ?_
    cases aq3 name with
    | true=>simp only[go_sem]; exact ae8 (by simp[h0])
    | false=>
     simp only[go_sem]
     first|refine aa4 fok41 (hm) ?_|refine aa6 (hm) ?_
     simp only[go_sem];exact ae8 (by simp[h0])
theorem gl9 (a:Int):PC Tryz.prog EE 42 [.int .u8 a] (.str (ba5 a)):=by
 refine aj6 hE fok42 (nZ rfl) (be9 (.int _ _)) ?_;unfold ba5;by_cases g:a=1\/a=2\/a=3\/a=4
 ·rcases g with rfl|rfl|rfl|rfl
  all_goals
   simp only[ic42,go_sem];exact .keep _ (.str _)
 ·simp only[not_or] at g;obtain ⟨g1,g2,g3,g4⟩:=g;simp only[ic42,go_sem,g1,g2,g3,g4];exact .keep _ (.str _)
theorem dq5 (l:List Dep)(hl:l.length<2^31)(hf:∀ d∈l,d.fit):PC Tryz.prog EE 43 [deps l] (.bool (decide (l.length<=32)&&l.all ah7)):=by
 refine aj6 hE fok43 (nZ rfl) (be9 (.aa3 _ fun e he c hc=>by obtain ⟨d,_,rfl⟩:=List.mem_map.1 he; exact df7 d c hc)) ?_;by_cases h1:l.length<=32
 case neg=>
  have c1:(32:Int)<l.length:=by omega
  simp only[ic43,go_sem,c1];exact ae8 (by simp[h1])
 have c1:¬ (32:Int)<l.length:=by omega
 simp only[ic43,go_sem,c1];refine ac2 noT (fun i fr t=>fr=[(0,deps l),(3,.int .i64 (i:Int))]/\(l.drop i).all ah7=l.all ah7) l.length ⟨rfl,rfl⟩ ?_;rintro i fr t hi ⟨rfl,ha⟩;by_cases hlt:i<l.length
 ·obtain ⟨x,hx,_,hdr,hget,_⟩:=ad2 l i hlt;have d1:(i:Int)<l.length:=by omega
  have d2:(0:Int)<=i:=by omega
  have w1:=af6 (i:=i) (by omega);have hm:=fu4 x (hf x hx).1 (hf x hx).2.1 (hf x hx).2.2;have dl:x.cs.length=5:=rfl;have dt:x.cs.take 5=x.cs:=rfl;have df:x.cs.all IV.leaf=true:=rfl;rw[hdr,List.all_cons] at ha;simp only[go_sem,d1,d2,hget,dl,dt,df]
  first|refine aa4 fok71 (hm) ?_|refine aa6 (hm) ?_
  cases hb:ah7 x with
  | true=>
   rw[hb,Bool.true_and] at ha;simp only[go_sem,w1]
   exact ⟨hlt,ha⟩
  | false=>
   rw[hb,Bool.false_and] at ha;simp only[go_sem];exact ae8 (by rw[<- ha]; simp)
 ·have d1:¬ (i:Int)<l.length:=by omega
  have e:i=l.length:=by omega
  subst e;rw[List.drop_length] at ha;simp only[go_sem,d1];exact ae8 (by rw[<- ha]; simp[h1])
theorem fu5 (r:aa9):r.fit->r.count<2^62->PC Tryz.prog EE 99 [.agg r.cs] (.int .i64 r.count):=by
 induction r using aa9.ind with
 | h k d xs ih=>
  intro hf hc;obtain ⟨f1,f2,f3,f4,f5⟩:=aa9.bc7.1 hf;refine aj6 hE fok99 (nZ rfl) (af7 (am3 _)) ?_;rw[aa9.an4];simp only[aa9.count] at hc ⊢;simp only[ic99,go_sem,aa9.kind,aa9.args,aa9.dep];refine ac2 noT (fun i fr σ=>∃ n:Nat,fr=[(1,.ad4 [.int .u8 k,.str d.name,.int .u8 d.op,.int .i64 d.evr.ai4,.str d.evr.ver,.str d.evr.rel,.aa3 (xs.map aa9.cs)]),(3,.int .i64 n),(4,.int .i64 i)]/\n+aa9.counts (xs.drop i)=aa9.counts xs+1) xs.length ⟨1,rfl,by simp; omega⟩ ?_;rintro i fr σ hi ⟨n,rfl,hn⟩;by_cases hlt:i<xs.length
  ·obtain ⟨a,ha,_,hdr,hget,_⟩:=ad2 xs i hlt;have c1:(i:Int)<xs.length:=by omega
   have c2:(0:Int)<=i:=by omega
   have w1:=af6 (i:=i) (by omega);rw[hdr] at hn;simp only[aa9.counts] at hn;have hcm:=aa9.cx9 ha;have hl:a.cs.all IV.leaf=true:=by rw[aa9.an4]; rfl
   have ht:a.cs.take 7=a.cs:=List.take_of_length_le (by rw[ac6]; exact Nat.le_refl _);have hA:=ih a ha (f5 a ha) (by omega);have w2:IntKind.i64.wrap ((n:Int)+(a.count:Int))=((n+a.count:Nat):Int):=by rw[wrap64 (by omega) (by omega)]; omega
   simp only[go_sem,c1,c2,hget,ac6,ht,hl,List.drop_zero]
   first|refine aa4 fok99 (hA) ?_|refine aa6 (hA) ?_
   simp only[go_sem,w2,w1];exact ⟨hlt,n+a.count,rfl,by omega⟩
  ·have d1:¬ (i:Int)<xs.length:=by omega
   have e:i=xs.length:=by omega
   subst e;rw[List.drop_length] at hn;simp only[aa9.counts] at hn;simp only[go_sem,d1];exact dh5 (by omega)
theorem fu6 (r:aa9):r.fit->r.depth<2^62->PC Tryz.prog EE 100 [.agg r.cs] (.int .i64 r.depth):=by
 induction r using aa9.ind with
 | h k d xs ih=>
  intro hf hd;obtain ⟨f1,f2,f3,f4,f5⟩:=aa9.bc7.1 hf;refine aj6 hE fok100 (nZ rfl) (af7 (am3 _)) ?_;rw[aa9.an4];by_cases hk:k=1
  ·simp only[ic100,go_sem,aa9.kind,aa9.depth,hk];exact ac4 _ _
  ·simp only[aa9.depth,hk,if_false] at hd ⊢;simp only[ic100,go_sem,aa9.kind,aa9.args,aa9.dep,hk];refine ac2 noT (fun i fr σ=>∃ n:Nat,fr=[(1,.ad4 [.int .u8 k,.str d.name,.int .u8 d.op,.int .i64 d.evr.ai4,.str d.evr.ver,.str d.evr.rel,.aa3 (xs.map aa9.cs)]),(3,.int .i64 n),(4,.int .i64 i)]/\max n (aa9.ay4 (xs.drop i))=aa9.ay4 xs) xs.length ⟨0,rfl,by simp⟩ ?_;rintro i fr σ hi ⟨n,rfl,hn⟩;by_cases hlt:i<xs.length
   ·obtain ⟨a,ha,_,hdr,hget,_⟩:=ad2 xs i hlt;have c1:(i:Int)<xs.length:=by omega
    have c2:(0:Int)<=i:=by omega
    have w1:=af6 (i:=i) (by omega);rw[hdr,cl1] at hn;have hl:a.cs.all IV.leaf=true:=by rw[aa9.an4]; rfl
    have ht:a.cs.take 7=a.cs:=List.take_of_length_le (by rw[ac6]; exact Nat.le_refl _);have hA:=ih a ha (f5 a ha) (by omega);simp only[go_sem,c1,c2,hget,ac6,ht,hl,List.drop_zero]
    first|refine aa4 fok100 (hA) ?_|refine aa6 (hA) ?_
    by_cases hg:n<a.depth
    ·have g1:(n:Int)<(a.depth:Int):=by omega
     simp only[go_sem,g1,w1];exact ⟨hlt,a.depth,rfl,by rw[<- hn]; omega⟩
    ·have g1:¬ (n:Int)<(a.depth:Int):=by omega
     simp only[go_sem,g1,w1];exact ⟨hlt,n,rfl,by rw[<- hn]; omega⟩
   ·have d1:¬ (i:Int)<xs.length:=by omega
    have e:i=xs.length:=by omega
    subst e;rw[List.drop_length] at hn;simp only[aa9.ay4] at hn;have w2:IntKind.i64.wrap ((n:Int)+1)=((n+1:Nat):Int):=af6 (i:=n) (by omega);simp only[go_sem,d1,w2];exact dh5 (by omega)
theorem hn5 (d:Dep):allEq [2,1,1,2,2] d.cs cj5.cs=some (decide (d=cj5)):=by
 obtain ⟨name,op,⟨ep,ver,rel⟩⟩:=d;simp[Dep.cs,cj5,fq3,allEq,ah8]
theorem gm1 (wh:Int)(r:aa9):r.fit->∀ alone:Bool,PC Tryz.prog EE 101 [.agg r.cs,.int .u8 wh,.bool alone] (.bool (r.cc4 wh alone)):=by
 induction r using aa9.ind with
 | h k d xs ih=>
  intro hf alone;obtain ⟨f1,f2,f3,f4,f5⟩:=aa9.bc7.1 hf;have hbA:=am3 (.mk k d xs);have hm:=fu4 d f3.1 f3.2.1 f3.2.2;have he:allEq [2,1,1,2,2] [.str d.name,.int .u8 d.op,.int .i64 d.evr.ai4,.str d.evr.ver,.str d.evr.rel] [.str [],.int .u8 0,.int .i64 0,.str [],.str []]=some (decide (d=cj5)):=hn5 d;unfold Dep.cs at hm;rw[aa9.an4] at hbA ⊢;simp only[aa9.cc4,aa9.ex6];unfold gi9;by_cases k1:k=1
  ·subst k1;refine aj6 hE fok101 (nZ rfl) (ew3 hbA (.int _ _) (.bool _)) ?_;by_cases hz:xs.length=0
   ·have e:xs=[]:=List.length_eq_zero_iff.1 hz;subst e;simp only[ic101,go_sem,aa9.kind,aa9.args,aa9.dep,List.map_nil,List.length_nil]
    first|refine aa4 fok71 (hm) ?_|refine aa6 (hm) ?_
    simp only[go_sem];exact ae8 (by simp)
   ·have c0:¬ (xs.length:Int)=0:=by omega
    simp only[ic101,go_sem,aa9.kind,aa9.args,aa9.dep,c0];exact ae8 (by simp[hz])
  rw[if_neg k1];obtain ⟨okb,hok⟩:∃ okb,okb=(if k=2\/k=3\/k=6 then decide (2<=xs.length) else if k=7 then decide (xs.length=2) else if k=4 then (decide (xs.length=2)||decide (xs.length=3))&&!alone&&decide (wh=1) else if k=5 then (decide (xs.length=2)||decide (xs.length=3))&&!alone&&decide (wh<=2) else false):=⟨_,rfl⟩;obtain ⟨al,hal⟩:∃ al,al=(alone||decide (k=6)||decide (k=7)):=⟨_,rfl⟩;rw[<- hok,<- hal];have hA:=fun x hx=>ih x hx (f5 x hx) al
  clear ih;refine iv1 hE fok101 (nZ rfl) (ew3 hbA (.int _ _) (.bool _)) ?_;simp only[aa9.kind,aa9.args,aa9.dep] at *;obtain ⟨rc,hrc⟩:∃ rc,rc=[IV.int .u8 k,.str d.name,.int .u8 d.op,.int .i64 d.evr.ai4,.str d.evr.ver,.str d.evr.rel,.aa3 (xs.map aa9.cs)]:=⟨_,rfl⟩;have r0:rc.head? = some (.int .u8 k):=by rw[hrc]; rfl
  have r6:(rc.drop 6).head? = some (.aa3 (xs.map aa9.cs)):=by rw[hrc]; rfl
  have r1:(rc.drop 1).take 5=[.str d.name,.int .u8 d.op,.int .i64 d.evr.ai4,.str d.evr.ver,.str d.evr.rel]:=by rw[hrc]; rfl
  have rl:rc.length=7:=by rw[hrc]; rfl
  have rt:rc.take 7=rc:=by rw[hrc]; rfl
  have rf:rc.all IV.leaf=true:=by rw[hrc]; rfl
  have rl1:(rc.drop 1).length=6:=by rw[hrc]; rfl
  rw[<- hrc];clear hrc hbA;simp only[ic101];refine aw6 (ax9 ?_);simp only[go_sem,rl,rt,rf];refine aw6 (ax9 ?_);simp only[go_sem,r6];refine aw6 (ax9 ?_);simp only[go_sem];refine aw6 (ao1 (Q:=fun e f s=>e=.normal/\∃ rst:Frm,f=(1,.int .u8 wh)::(2,.bool al)::(3,.ad4 rc)::(7,.int .i64 xs.length)::(8,.bool okb)::rst) (ax9 ?_) ?_)
  ·have i2:decide ((2:Int)<=xs.length)=decide (2<=xs.length):=decide_eq_decide.2 (by omega);have e2:decide ((xs.length:Int)=2)=decide (xs.length=2):=decide_eq_decide.2 (by omega);have e3:decide ((xs.length:Int)=3)=decide (xs.length=3):=decide_eq_decide.2 (by omega);have n1:¬ k=1:=k1;by_cases k2:k=2
   ·subst k2;simp only[go_sem,Int.reduceEq,r0,i2,hok,hal];exact ⟨[],by simp⟩
   by_cases k3:k=3
   ·subst k3;simp only[go_sem,Int.reduceEq,r0,i2,hok,hal];exact ⟨[],by simp⟩
   by_cases k6:k=6
   ·subst k6;simp only[go_sem,Int.reduceEq,r0,i2,hok,hal];exact ⟨[],by simp⟩
   by_cases k7:k=7
   ·subst k7;simp only[go_sem,Int.reduceEq,r0,e2,hok,hal];exact ⟨[],by simp⟩
   by_cases k4:k=4
   ·subst k4;by_cases n2:xs.length=2
    ·have c2:(xs.length:Int)=2:=by omega
     cases alone<;>(simp only[go_sem,Int.reduceEq,r0,c2,hok,hal,n2]; exact ⟨[],by simp⟩)
    ·have c2:¬ (xs.length:Int)=2:=by omega
     by_cases n3:xs.length=3
     ·have c3:(xs.length:Int)=3:=by omega
      cases alone<;>(simp only[go_sem,Int.reduceEq,r0,c2,c3,hok,hal,n2,n3]; exact ⟨[],by simp⟩)
     ·have c3:¬ (xs.length:Int)=3:=by omega
      simp only[go_sem,Int.reduceEq,r0,c2,c3,hok,hal,n2,n3];exact ⟨[],by simp⟩
   by_cases k5:k=5
   ·subst k5;by_cases n2:xs.length=2
    ·have c2:(xs.length:Int)=2:=by omega
     cases alone<;>(simp only[go_sem,Int.reduceEq,r0,c2,hok,hal,n2]; exact ⟨[],by simp⟩)
    ·have c2:¬ (xs.length:Int)=2:=by omega
     by_cases n3:xs.length=3
     ·have c3:(xs.length:Int)=3:=by omega
      cases alone<;>(simp only[go_sem,Int.reduceEq,r0,c2,c3,hok,hal,n2,n3]; exact ⟨[],by simp⟩)
     ·have c3:¬ (xs.length:Int)=3:=by omega
      simp only[go_sem,Int.reduceEq,r0,c2,c3,hok,hal,n2,n3];exact ⟨[],by simp⟩
   simp only[go_sem,Int.reduceEq,r0,n1,k2,k3,k4,k5,k6,k7,hok,hal];exact ⟨[(53,.bool false)],by simp⟩
  rintro e f s ⟨rfl,rst,rfl⟩;simp only[go_sem];refine aw6 (ax9 ?_)
  cases hob:okb with
  | false=>
   simp only[go_sem]
   exact ae8 (by simp)
  | true=>
  by_cases hd:d=cj5
  case neg=>
   rw[decide_eq_false hd] at he;simp only[go_sem,rl1,r1,he,Option.map_some];exact ae8 (by simp[hd])
  rw[decide_eq_true hd] at he;simp only[go_sem,rl1,r1,he,Option.map_some];refine ax9 ?_;simp only[go_sem];refine ac2 noT (fun i fr t=>fr=[(1,.int .u8 wh),(2,.bool al),(3,.ad4 rc),(7,.int .i64 xs.length),(9,.int .i64 (i:Int))]/\((xs.drop i).all fun r=>r.cc4 wh al)=xs.all fun r=>r.cc4 wh al) xs.length ⟨rfl,rfl⟩ ?_;rintro i fr t hi ⟨rfl,ha⟩;by_cases hlt:i<xs.length
  ·obtain ⟨x,hx,_,hdr,hget,_⟩:=ad2 xs i hlt;have d1:(i:Int)<xs.length:=by omega
   have d2:(0:Int)<=i:=by omega
   have w1:=af6 (i:=i) (by omega);have hl:x.cs.all IV.leaf=true:=by rw[aa9.an4]; rfl
   have ht:x.cs.take 7=x.cs:=List.take_of_length_le (by rw[ac6]; exact Nat.le_refl _);have hAx:=hA x hx;rw[hdr,List.all_cons] at ha;simp only[go_sem,d1,d2,r6,hget,ac6,ht,hl]
   first|refine aa4 fok101 (hAx) ?_|refine aa6 (hAx) ?_
   cases hb:x.cc4 wh al with
   | true=>
    rw[hb,Bool.true_and] at ha;simp only[go_sem,w1]
    exact ⟨hlt,ha⟩
   | false=>
    rw[hb,Bool.false_and] at ha;simp only[go_sem];exact ae8 (by rw[<- ha]; simp)
  ·have d1:¬ (i:Int)<xs.length:=by omega
   have e:i=xs.length:=by omega
   subst e;rw[List.drop_length] at ha;simp only[go_sem,d1];exact ae8 (by rw[<- ha]; simp[hd])
open Go Go.Id Go.Proofs Go.Id.Md
set_option maxHeartbeats 1000000
theorem hn6 (n:Str)(e:EVR):PC Tryz.prog EE 116 [.str n,.agg e.cs] (.agg (Dep.cs ⟨n,2,e⟩)):=by
 refine aj6 hE fok116 (nZ rfl) (cc3 (.str _) (bk2 e)) ?_;simp only[ic116,go_sem,EVR.cs,Dep.cs];exact .keep _ (.agg _ (ii4 (.str _) (.int _ _) (.int _ _) (.str _) (.str _)))
theorem gm2 (p:aa2):PC Tryz.prog EE 81 [.agg p.cs] (.agg (own p).cs):=by
 refine aj6 hE fok81 (nZ rfl) (be9 (al2 p)) ?_;have ho:=hn6 p.name p.evr;have hb:=ap7 (own p);simp only[EVR.cs,Dep.cs,own] at ho hb;simp only[ic81,go_sem,aa2.cs,own,Dep.cs]
 first|refine aa4 fok116 (ho) ?_|refine aa6 (ho) ?_
 simp only[go_sem];exact .keep _ hb
theorem ik7 (p:aa2):p.cs.head? = some (.str p.name):=rfl
theorem ik8 (d:Dep):d.cs.head? = some (.str d.name):=rfl
theorem fb2 (p:aa2)(d:Dep)(hp:Pkg.small p)(hd:Dep.small d):PC Tryz.prog EE 52 [.agg p.cs,.agg d.cs] (.bool (named p d)):=by
 refine aj6 hE fok52 (nZ rfl) (ah5 (al2 p) (ap7 d)) ?_;have ho:=gm2 p;have hm:=gk9 (own p) d (dr1 hp) hd;have hnm:named p d=(decide (p.name=d.name)&&meet (own p) d):=rfl;rw[hnm];generalize hx:Dep.cs (own p)=x at ho hm;by_cases e:p.name=d.name
 ·have e':d.name=p.name:=e.symm;simp only[ic52,go_sem,ah2,af9,af1,ar3,an8,ar6,ik7,ik8,e']
  first|refine aa4 fok81 (ho) ?_|refine aa6 (ho) ?_
  simp only[go_sem,ar3,an8,ar6]
  first|refine aa4 fok80 (hm) ?_|refine aa6 (hm) ?_
  simp only[go_sem];exact ae8 (by simp)
 ·have e':¬ d.name=p.name:=fun h=>e h.symm
  simp only[ic52,go_sem,ah2,af9,af1,ar3,an8,ar6,ik7,ik8,e'];exact ae8 (by simp[e])
theorem fu7 {α:Type}{q:α->Bool}{l:List α}{i:Nat}{a:α}(h:l.drop i=a::l.drop (i+1)):(l.drop i).any q=(q a||(l.drop (i+1)).any q):=by rw[h]; simp
theorem ik9 (p:aa2):(p.cs.drop 9).head? = some (deps p.ab2):=rfl
theorem cn7 (p q:aa2)(hp:Pkg.small p)(hq:Pkg.small q):PC Tryz.prog EE 33 [.agg p.cs,.agg q.cs] (.bool (ab2 p q)):=by
 refine aj6 hE fok33 (nZ rfl) (ah5 (al2 p) (al2 q)) ?_;have l1:=hp.2.2.2.2.1;have hob:ab2 p q=p.ab2.any fun d=>named q d:=rfl
 rw[hob];simp only[ic33,go_sem,af1];refine ac2 noT (fun i fr s=>fr=[(2,.ad4 p.cs),(3,.ad4 q.cs),(5,.int .i64 (i:Int))]/\p.ab2.any (fun d=>named q d)=(p.ab2.drop i).any fun d=>named q d) p.ab2.length ⟨rfl,rfl⟩ ?_;rintro i fr s hi ⟨rfl,ha⟩;by_cases hlt:i<p.ab2.length
 ·obtain ⟨x,hx,hxi,hdr,hget,htk⟩:=ad2 p.ab2 i hlt;have d1:(i:Int)<p.ab2.length:=by omega
  have d2:(0:Int)<=(i:Int):=by omega
  have w1:=af6 (i:=i) (by omega);have hm:=fb2 q x hq (hp.2.2.1 x hx);rw[fu7 hdr] at ha;simp only[go_sem,ik9,d1,d2,hget,ah2,af9,af1,ar3,an8,ar6]
  first|refine aa4 fok52 (hm) ?_|refine aa6 (hm) ?_
  cases hb:named q x with
  | true=>
   rw[hb,Bool.true_or] at ha;simp only[go_sem]
   exact ae8 ha.symm
  | false=>
   rw[hb,Bool.false_or] at ha;simp only[go_sem,w1];exact ⟨hlt,ha⟩
 ·have hi':i=p.ab2.length:=by omega
  subst hi';have d1:¬ (p.ab2.length:Int)<p.ab2.length:=by omega
  rw[List.drop_length,List.any_nil] at ha;simp only[go_sem,ik9,d1];exact ae8 ha.symm
theorem dz2 (l:List Int):∀ x∈l.map Md.ai9,x.length=1/\x.all IV.leaf=true:=fun x hx=>by
 obtain ⟨n,_,rfl⟩:=List.mem_map.1 hx; exact ⟨rfl,rfl⟩
theorem fu8 (r:aq1):(r.cs.drop 15).head? = some (.int .i64 r.bo2):=rfl
theorem fu9 (r:aq1):(r.cs.drop 16).head? = some (.int .i64 r.prio):=rfl
theorem dz3 (p:Pool)(n:Nat)(h:n<p.rows.length):PC Tryz.prog EE 21 [p.v,.int .i64 n] (.int .i64 p.rows[n].bo2):=by
 refine aw2 fok21 (nZ rfl) fun σ=>?_
 have c1:(n:Int)<p.rows.length:=by omega
 have c2:(0:Int)<=n:=by omega
 have hg:(p.rows.map aq1.cs).getD n []=p.rows[n].cs:=by simp[List.getD_eq_getElem?_getD,h]
 simp only[ic21,go_sem,Pool.v];refine aa4 fok31 (ak7 p.rows n) ?_;simp only[go_sem,c1,c2,hg,au6,fu8,and_self]
theorem cl5 (p:Pool)(n:Nat)(h:n<p.rows.length):PC Tryz.prog EE 22 [p.v,.int .i64 n] (.int .i64 p.rows[n].prio):=by
 refine aw2 fok22 (nZ rfl) fun σ=>?_
 have c1:(n:Int)<p.rows.length:=by omega
 have c2:(0:Int)<=n:=by omega
 have hg:(p.rows.map aq1.cs).getD n []=p.rows[n].cs:=by simp[List.getD_eq_getElem?_getD,h]
 simp only[ic22,go_sem,Pool.v];refine aa4 fok31 (ak7 p.rows n) ?_;simp only[go_sem,c1,c2,hg,au6,fu9,and_self]
theorem bn8 (x y:Dep):(decide (x.name=y.name)&&(decide (x.op=y.op)&&(decide (x.evr.ai4=y.evr.ai4)&&(decide (x.evr.ver=y.evr.ver)&&decide (x.evr.rel=y.evr.rel)))))=decide (x=y):=by
 obtain ⟨n,o,e,v,r⟩:=x;obtain ⟨n',o',e',v',r'⟩:=y;simp only[Dep.mk.injEq,EVR.mk.injEq,Bool.decide_and]
theorem cz3 (xs ys:List Dep)(h1:xs.length<2^62)(h2:ys.length<2^62):PC Tryz.prog EE 35 [.aa3 (xs.map Dep.cs),.aa3 (ys.map Dep.cs)] (.bool (decide (xs=ys))):=by
 refine aj6 hE fok35 (nZ rfl) (ah5 (bc3 xs) (bc3 ys)) ?_;by_cases hl:xs.length=ys.length
 case neg=>
  have hl':¬ (xs.length:Int)=ys.length:=by omega
  have:decide (xs=ys)=false:=decide_eq_false fun e=>hl (by rw[e])
  simp only[ic35,go_sem,hl',this];exact ab1 _
 have hl':(xs.length:Int)=ys.length:=by omega
 have hl2:decide ((xs.length:Int)=ys.length)=true:=decide_eq_true hl';simp only[ic35,go_sem,hl2];refine ac2 noT (fun i fr s=>fr=[(0,.aa3 (xs.map Dep.cs)),(1,.aa3 (ys.map Dep.cs)),(5,.int .i64 i)]/\xs.take i=ys.take i) xs.length ⟨rfl,rfl⟩ ?_;rintro i fr s hi ⟨rfl,hf⟩;by_cases hlt:i<xs.length
 ·obtain ⟨x,hx,hxi,hdr,hget,htk⟩:=ad2 xs i hlt;obtain ⟨y,hy,hyi,hdr2,hget2,htk2⟩:=ad2 ys i (by omega);have c1:(i:Int)<xs.length:=by omega
  have c3:(i:Int)<ys.length:=by omega
  have c2:(0:Int)<=i:=by omega
  have w1:=af6 (i:=i) (by omega);simp only[go_sem,c1,c2,c3,hget,hget2,ar3,cl2,an8,Dep.cs,ap8,Md.ai9,w1,bn8];by_cases hxy:x=y
  ·have hd:decide (x=y)=true:=decide_eq_true hxy;simp only[go_sem,hd,w1];refine ⟨hlt,?_⟩;rw[htk,htk2,hf,hxy]
  ·have hd:decide (x=y)=false:=decide_eq_false hxy;have hne:decide (xs=ys)=false:=decide_eq_false fun e=>hxy (by rw[e] at hxi; rw[hxi] at hyi; cases hyi; rfl)
   simp only[go_sem,hd,hne];exact ab1 _
 ·have hi':i=xs.length:=by omega
  subst hi';have c1:¬ (xs.length:Int)<xs.length:=by omega
  rw[List.take_length,hl,List.take_length] at hf;have:decide (xs=ys)=true:=decide_eq_true hf;simp only[go_sem,c1,this];exact ab1 _
theorem cl6 (xs ys:List Str)(h1:xs.length<2^62)(h2:ys.length<2^62):PC Tryz.prog EE 13 [.aa3 (xs.map ap8),.aa3 (ys.map ap8)] (.bool (decide (xs=ys))):=by
 refine aj6 hE fok13 (nZ rfl) (ah5 (bk1 xs) (bk1 ys)) ?_;by_cases hl:xs.length=ys.length
 case neg=>
  have hl':¬ (xs.length:Int)=ys.length:=by omega
  have:decide (xs=ys)=false:=decide_eq_false fun e=>hl (by rw[e])
  simp only[ic13,go_sem,hl',this];exact ab1 _
 have hl':(xs.length:Int)=ys.length:=by omega
 have hl2:decide ((xs.length:Int)=ys.length)=true:=decide_eq_true hl';simp only[ic13,go_sem,hl2];refine ac2 noT (fun i fr s=>fr=[(0,.aa3 (xs.map ap8)),(1,.aa3 (ys.map ap8)),(5,.int .i64 i)]/\xs.take i=ys.take i) xs.length ⟨rfl,rfl⟩ ?_;rintro i fr s hi ⟨rfl,hf⟩;by_cases hlt:i<xs.length
 ·obtain ⟨x,hx,hxi,hdr,hget,htk⟩:=ad2 xs i hlt;obtain ⟨y,hy,hyi,hdr2,hget2,htk2⟩:=ad2 ys i (by omega);have c1:(i:Int)<xs.length:=by omega
  have c3:(i:Int)<ys.length:=by omega
  have c2:(0:Int)<=i:=by omega
  have w1:=af6 (i:=i) (by omega);simp only[go_sem,c1,c2,c3,hget,hget2,ar3,cl2,an8,Dep.cs,ap8,Md.ai9,w1,bn8];by_cases hxy:x=y
  ·have hd:decide (x=y)=true:=decide_eq_true hxy;simp only[go_sem,hd,w1];refine ⟨hlt,?_⟩;rw[htk,htk2,hf,hxy]
  ·have hd:decide (x=y)=false:=decide_eq_false hxy;have hne:decide (xs=ys)=false:=decide_eq_false fun e=>hxy (by rw[e] at hxi; rw[hxi] at hyi; cases hyi; rfl)
   simp only[go_sem,hd,hne];exact ab1 _
 ·have hi':i=xs.length:=by omega
  subst hi';have c1:¬ (xs.length:Int)<xs.length:=by omega
  rw[List.take_length,hl,List.take_length] at hf;have:decide (xs=ys)=true:=decide_eq_true hf;simp only[go_sem,c1,this];exact ab1 _
theorem dg3 (xs ys:List Int)(h1:xs.length<2^62)(h2:ys.length<2^62):PC Tryz.prog EE 10 [.aa3 (xs.map Md.ai9),.aa3 (ys.map Md.ai9)] (.bool (decide (xs=ys))):=by
 refine aj6 hE fok10 (nZ rfl) (ah5 (ar7 xs) (ar7 ys)) ?_;by_cases hl:xs.length=ys.length
 case neg=>
  have hl':¬ (xs.length:Int)=ys.length:=by omega
  have:decide (xs=ys)=false:=decide_eq_false fun e=>hl (by rw[e])
  simp only[ic10,go_sem,hl',this];exact ab1 _
 have hl':(xs.length:Int)=ys.length:=by omega
 have hl2:decide ((xs.length:Int)=ys.length)=true:=decide_eq_true hl';simp only[ic10,go_sem,hl2];refine ac2 noT (fun i fr s=>fr=[(0,.aa3 (xs.map Md.ai9)),(1,.aa3 (ys.map Md.ai9)),(5,.int .i64 i)]/\xs.take i=ys.take i) xs.length ⟨rfl,rfl⟩ ?_;rintro i fr s hi ⟨rfl,hf⟩;by_cases hlt:i<xs.length
 ·obtain ⟨x,hx,hxi,hdr,hget,htk⟩:=ad2 xs i hlt;obtain ⟨y,hy,hyi,hdr2,hget2,htk2⟩:=ad2 ys i (by omega);have c1:(i:Int)<xs.length:=by omega
  have c3:(i:Int)<ys.length:=by omega
  have c2:(0:Int)<=i:=by omega
  have w1:=af6 (i:=i) (by omega);simp only[go_sem,c1,c2,c3,hget,hget2,ar3,cl2,an8,Dep.cs,ap8,Md.ai9,w1,bn8];by_cases hxy:x=y
  ·have hd:decide (x=y)=true:=decide_eq_true hxy;simp only[go_sem,hd,w1];refine ⟨hlt,?_⟩;rw[htk,htk2,hf,hxy]
  ·have hd:decide (x=y)=false:=decide_eq_false hxy;have hne:decide (xs=ys)=false:=decide_eq_false fun e=>hxy (by rw[e] at hxi; rw[hxi] at hyi; cases hyi; rfl)
   simp only[go_sem,hd,hne];exact ab1 _
 ·have hi':i=xs.length:=by omega
  subst hi';have c1:¬ (xs.length:Int)<xs.length:=by omega
  rw[List.take_length,hl,List.take_length] at hf;have:decide (xs=ys)=true:=decide_eq_true hf;simp only[go_sem,c1,this];exact ab1 _
theorem dq6:∀ (xs ys:List aa9),xs.length≠ys.length->aa9.bk7 xs ys=false:=by
 intro xs
 induction xs with
 | nil=>intro ys h; cases ys with
  | nil=>exact absurd rfl h
  | cons y ys=>rfl
 | cons x xs ih=>intro ys h; cases ys with
  | nil=>rfl
  | cons y ys=>simp only[aa9.bk7]; rw[ih ys (fun e=>h (by simp[e]))]; simp
theorem cz4 (x y:aa9)(xs ys:List aa9):aa9.bk7 (x::xs) (y::ys)=(x.same y&&aa9.bk7 xs ys):=by simp only[aa9.bk7]
theorem dg4 (a b:Nat):decide ((a:Int)=b)=decide (a=b):=decide_eq_decide.2 (by omega)
theorem dz4 (a:aa9):∀ b:aa9,a.fit->b.fit->PC Tryz.prog EE 57 [.agg a.cs,.agg b.cs] (.bool (a.same b)):=by
 induction a using aa9.ind with
 | h k d xs ih=>
  intro b hfa hfb;obtain ⟨k',d',ys⟩:=b;obtain ⟨f1,f2,f3,f4,f5⟩:=aa9.bc7.1 hfa;obtain ⟨g1,g2,g3,g4,g5⟩:=aa9.bc7.1 hfb;refine aj6 hE fok57 (nZ rfl) (ah5 (am3 _) (am3 _)) ?_;rw[aa9.an4,aa9.an4];simp only[ic57,go_sem,aa9.kind,aa9.dep,aa9.args,bn8,aa9.same];by_cases hk:k=k'
  case neg=>
   have e:decide (k=k')=false:=decide_eq_false hk;simp only[go_sem,e];exact ab1 _
  have ek:decide (k=k')=true:=decide_eq_true hk;by_cases hd:d=d'
  case neg=>
   have e:decide (d=d')=false:=decide_eq_false hd;simp only[go_sem,ek,bn8,e];exact ab1 _
  have ed:decide (d=d')=true:=decide_eq_true hd;by_cases hl:xs.length=ys.length
  case neg=>
   have e:decide (xs.length=ys.length)=false:=decide_eq_false hl;simp only[go_sem,ek,bn8,ed,dg4,e,dq6 xs ys hl];exact ab1 _
  have el:decide (xs.length=ys.length)=true:=decide_eq_true hl;simp only[go_sem,ek,bn8,ed,dg4,el]
  refine ac2 noT (fun i fr s=>fr=[(2,.ad4 [.int .u8 k,.str d.name,.int .u8 d.op,.int .i64 d.evr.ai4,.str d.evr.ver,.str d.evr.rel,.aa3 (xs.map aa9.cs)]),(3,.ad4 [.int .u8 k',.str d'.name,.int .u8 d'.op,.int .i64 d'.evr.ai4,.str d'.evr.ver,.str d'.evr.rel,.aa3 (ys.map aa9.cs)]),(5,.int .i64 i)] /\
   aa9.bk7 xs ys=aa9.bk7 (xs.drop i) (ys.drop i)) xs.length ⟨rfl,rfl⟩ ?_
  rintro i fr s hi ⟨rfl,hf⟩;by_cases hlt:i<xs.length
  ·obtain ⟨x,hx,hxi,hdr,hget,htk⟩:=ad2 xs i hlt;obtain ⟨y,hy,hyi,hdr2,hget2,htk2⟩:=ad2 ys i (by omega);have c1:(i:Int)<xs.length:=by omega
   have c3:(i:Int)<ys.length:=by omega
   have c2:(0:Int)<=i:=by omega
   have w1:=af6 (i:=i) (by omega);rw[hdr,hdr2,cz4] at hf;simp only[go_sem,c1,c2,c3,hget,hget2,ac6,af4,w1];refine aa4 fok57 (ih x hx y (f5 x hx) (g5 y hy)) ?_
   cases hs:x.same y with
   | true=>
    rw[hs,Bool.true_and] at hf;simp only[go_sem,w1]
    exact ⟨hlt,hf⟩
   | false=>
    rw[hs,Bool.false_and] at hf;simp only[go_sem,hf];exact ab1 _
  ·have hi':i=xs.length:=by omega
   subst hi';have c1:¬ (xs.length:Int)<xs.length:=by omega
   have e2:ys.drop xs.length=[]:=List.drop_of_length_le (by omega);rw[List.drop_length,e2] at hf;simp only[go_sem,c1,hf,aa9.bk7];exact ab1 _
theorem ap3 (xs ys:List aa9)(h1:xs.length<2^31)(h2:ys.length<2^31)(f5:∀ r∈xs,r.fit)(g5:∀ r∈ys,r.fit):PC Tryz.prog EE 36 [ag6 xs,ag6 ys] (.bool (ar2 xs ys)):=by
 refine aj6 hE fok36 (nZ rfl) (ah5 (af8 xs) (af8 ys)) ?_;unfold ar2;by_cases hl:xs.length=ys.length
 case neg=>
  have e:decide (xs.length=ys.length)=false:=decide_eq_false hl;simp only[ic36,go_sem,dg4,e,dq6 xs ys hl];exact ab1 _
 have el:decide (xs.length=ys.length)=true:=decide_eq_true hl;simp only[ic36,go_sem,dg4,el];refine ac2 noT (fun i fr s=>fr=[(0,ag6 xs),(1,ag6 ys),(5,.int .i64 i)]/\aa9.bk7 xs ys=aa9.bk7 (xs.drop i) (ys.drop i)) xs.length ⟨rfl,rfl⟩ ?_;rintro i fr s hi ⟨rfl,hf⟩;by_cases hlt:i<xs.length
 ·obtain ⟨x,hx,hxi,hdr,hget,htk⟩:=ad2 xs i hlt;obtain ⟨y,hy,hyi,hdr2,hget2,htk2⟩:=ad2 ys i (by omega);have c1:(i:Int)<xs.length:=by omega
  have c3:(i:Int)<ys.length:=by omega
  have c2:(0:Int)<=i:=by omega
  have w1:=af6 (i:=i) (by omega);rw[hdr,hdr2,cz4] at hf;simp only[go_sem,c1,c2,c3,hget,hget2,ac6,af4,w1];refine aa4 fok57 (dz4 x y (f5 x hx) (g5 y hy)) ?_
  cases hs:x.same y with
  | true=>
   rw[hs,Bool.true_and] at hf;simp only[go_sem,w1]
   exact ⟨hlt,hf⟩
  | false=>
   rw[hs,Bool.false_and] at hf;simp only[go_sem,hf];exact ab1 _
 ·have hi':i=xs.length:=by omega
  subst hi';have c1:¬ (xs.length:Int)<xs.length:=by omega
  have e2:ys.drop xs.length=[]:=List.drop_of_length_le (by omega);rw[List.drop_length,e2] at hf;simp only[go_sem,c1,hf,aa9.bk7];exact ab1 _
theorem cl7 (x y:EVR):(decide (x.ai4=y.ai4)&&(decide (x.ver=y.ver)&&decide (x.rel=y.rel)))=decide (x=y):=by
 obtain ⟨e,v,r⟩:=x;obtain ⟨e',v',r'⟩:=y;simp only[EVR.mk.injEq,Bool.decide_and]
theorem cz5 (p q:aa2)(hp:p.Fit)(hq:q.Fit):PC Tryz.prog EE 20 [.agg p.cs,.agg q.cs] (.bool (am2 p q)):=by
 refine aw2 fok20 (nZ rfl) fun σ=>?_
 cases h1:decide (p.name=q.name) with
 | false=>simp only[ic20,go_sem,ad9,aa2.cs,cl7,h1,am2,and_self]
 | true=>
 cases h2:decide (p.evr=q.evr) with
 | false=>simp only[ic20,go_sem,ad9,aa2.cs,cl7,h1,h2,am2,and_self]
 | true=>
 cases h3:decide (p.de2=q.de2) with
 | false=>simp only[ic20,go_sem,ad9,aa2.cs,cl7,h1,h2,h3,am2,and_self]
 | true=>
 cases h4:decide (p.vendor=q.vendor) with
 | false=>simp only[ic20,go_sem,ad9,aa2.cs,cl7,h1,h2,h3,h4,am2,and_self]
 | true=>
 simp only[ic20,go_sem,ad9,aa2.cs,cl7,h1,h2,h3,h4];refine aa4 fok35 (cz3 p.provides q.provides (by have:=hp.bd4.1; omega) (by have:=hq.bd4.1; omega)) ?_
 cases h5:decide (p.provides=q.provides) with
 | false=>simp only[go_sem,h1,h2,h3,h4,h5,am2,and_self]
 | true=>
 simp only[go_sem];refine aa4 fok36 (ap3 p.requires q.requires (hp.ay5 (1,p.requires) (by simp[aa2.rows])).1 (hq.ay5 (1,q.requires) (by simp[aa2.rows])).1 (fun r hr=>((hp.ay5 (1,p.requires) (by simp[aa2.rows])).2 r hr).1) (fun r hr=>((hq.ay5 (1,q.requires) (by simp[aa2.rows])).2 r hr).1)) ?_
 cases h6:ar2 p.requires q.requires with
 | false=>simp only[go_sem,h1,h2,h3,h4,h5,h6,am2,and_self]
 | true=>
 simp only[go_sem];refine aa4 fok36 (ap3 p.conflicts q.conflicts (hp.ay5 (2,p.conflicts) (by simp[aa2.rows])).1 (hq.ay5 (2,q.conflicts) (by simp[aa2.rows])).1 (fun r hr=>((hp.ay5 (2,p.conflicts) (by simp[aa2.rows])).2 r hr).1) (fun r hr=>((hq.ay5 (2,q.conflicts) (by simp[aa2.rows])).2 r hr).1)) ?_
 cases h7:ar2 p.conflicts q.conflicts with
 | false=>simp only[go_sem,h1,h2,h3,h4,h5,h6,h7,am2,and_self]
 | true=>
 simp only[go_sem];refine aa4 fok35 (cz3 p.ab2 q.ab2 (by have:=hp.obs.1; omega) (by have:=hq.obs.1; omega)) ?_
 cases h8:decide (p.ab2=q.ab2) with
 | false=>simp only[go_sem,h1,h2,h3,h4,h5,h6,h7,h8,am2,and_self]
 | true=>
 simp only[go_sem];refine aa4 fok36 (ap3 p.ab7 q.ab7 (hp.ay5 (1,p.ab7) (by simp[aa2.rows])).1 (hq.ay5 (1,q.ab7) (by simp[aa2.rows])).1 (fun r hr=>((hp.ay5 (1,p.ab7) (by simp[aa2.rows])).2 r hr).1) (fun r hr=>((hq.ay5 (1,q.ab7) (by simp[aa2.rows])).2 r hr).1)) ?_
 cases h9:ar2 p.ab7 q.ab7 with
 | false=>simp only[go_sem,h1,h2,h3,h4,h5,h6,h7,h8,h9,am2,and_self]
 | true=>
 simp only[go_sem];refine aa4 fok36 (ap3 p.ab3 q.ab3 (hp.ay5 (3,p.ab3) (by simp[aa2.rows])).1 (hq.ay5 (3,q.ab3) (by simp[aa2.rows])).1 (fun r hr=>((hp.ay5 (3,p.ab3) (by simp[aa2.rows])).2 r hr).1) (fun r hr=>((hq.ay5 (3,q.ab3) (by simp[aa2.rows])).2 r hr).1)) ?_
 cases h10:ar2 p.ab3 q.ab3 with
 | false=>simp only[go_sem,h1,h2,h3,h4,h5,h6,h7,h8,h9,h10,am2,and_self]
 | true=>
 simp only[go_sem];refine aa4 fok36 (ap3 p.suggests q.suggests (hp.ay5 (1,p.suggests) (by simp[aa2.rows])).1 (hq.ay5 (1,q.suggests) (by simp[aa2.rows])).1 (fun r hr=>((hp.ay5 (1,p.suggests) (by simp[aa2.rows])).2 r hr).1) (fun r hr=>((hq.ay5 (1,q.suggests) (by simp[aa2.rows])).2 r hr).1)) ?_
 cases h11:ar2 p.suggests q.suggests with
 | false=>simp only[go_sem,h1,h2,h3,h4,h5,h6,h7,h8,h9,h10,h11,am2,and_self]
 | true=>
 simp only[go_sem];refine aa4 fok36 (ap3 p.ac3 q.ac3 (hp.ay5 (3,p.ac3) (by simp[aa2.rows])).1 (hq.ay5 (3,q.ac3) (by simp[aa2.rows])).1 (fun r hr=>((hp.ay5 (3,p.ac3) (by simp[aa2.rows])).2 r hr).1) (fun r hr=>((hq.ay5 (3,q.ac3) (by simp[aa2.rows])).2 r hr).1)) ?_
 cases h12:ar2 p.ac3 q.ac3 with
 | false=>simp only[go_sem,h1,h2,h3,h4,h5,h6,h7,h8,h9,h10,h11,h12,am2,and_self]
 | true=>
 simp only[go_sem];refine aa4 fok13 (cl6 p.files q.files (by have:=hp.files.1; omega) (by have:=hq.files.1; omega)) ?_
 cases h13:decide (p.files=q.files) with
 | false=>simp only[go_sem,h1,h2,h3,h4,h5,h6,h7,h8,h9,h10,h11,h12,h13,am2,and_self]
 | true=>
 simp only[go_sem,h1,h2,h3,h4,h5,h6,h7,h8,h9,h10,h11,h12,h13,am2,and_self]
end Go.Id.Tryz
set_option linter.all false
namespace Go.Id.Tryz
open Go Go.Id Go.Proofs Go.Shelf Go.Id.Md
set_option maxRecDepth 100000
set_option maxHeartbeats 1000000
def cn9:aa2:=⟨[],⟨0,[],[]⟩,0,[],[],[],[],[],[],[],[],[],[]⟩
def ar9 (p:Pool)(n:Int):IV:=if 0<=n/\n<p.rows.length then .tuple [.agg ((ac1 p).getD n.toNat default).cs,.int .i64 0] else .tuple [.agg cn9.cs,.int .i64 5]
def rowAt (p:Pool)(n:Int):aq1:=if 0<=n/\n<p.rows.length then p.rows.getD n.toNat ⟨default,-1,0⟩ else ⟨default,-1,0⟩
theorem bn9 {p:Pool}{n:Int}(h:¬ (0<=n/\n<p.rows.length)):(decide (0<=n)&&decide (n<(p.rows.length:Int)))=false:=by simpa using h
theorem ei9 {p:Pool}{k:Nat}(h:k<p.rows.length):(decide (0<=(k:Int))&&decide ((k:Int)<(p.rows.length:Int)))=true:=by simp; omega
theorem ea5 (p:Pool)(n:Int)(hf:∀ q∈ac1 p,q.Fit):PC Tryz.prog EE 18 [p.v,.int .i64 n] (ar9 p n):=by
 unfold ar9;by_cases h:0<=n/\n<p.rows.length
 ·rw[if_pos h];obtain ⟨k,rfl⟩:=Int.eq_ofNat_of_zero_le h.1;have hk:k<p.rows.length:=by omega
  have:=cn8 p k hk (hf _ (List.mem_map.2 ⟨_,List.getElem_mem hk,rfl⟩));have e:(ac1 p).getD (k:Int).toNat default=p.rows[k].pkg:=by simp[ac1,List.getD_eq_getElem?_getD,hk]
  rw[e]; exact this
 ·rw[if_neg h];refine aj6 hE fok18 (nZ rfl) (cc3 (au7 p) (.int _ _)) ?_;have hr:=ak7 p.rows n;rw[bn9 h] at hr;simp only[ic18,go_sem,Pool.v]
  first|refine aa4 fok31 (hr) ?_|refine aa6 (hr) ?_
  simp only[go_sem];have kI:=fun k n=>Frz.keep (σ:=emp) (S:=fun i=>i<0) _ (Nm.int k n)
  exact .ci1 (.cons (.in2 (.cons (ar1 _) (.cons (ac4 _ _) (.cons (ar1 _) (.cons (ar1 _) (.cons (ac4 _ _) (.cons (ar1 _) (.cons .dr9 (.cons .dr9 (.cons .dr9 (.cons .dr9 (.cons .dr9 (.cons .dr9 (.cons .dr9 (.cons .dr9 (.cons .dr9 .nil)))))))))))))))) (.cons (ac4 _ _) .nil))
theorem dr7 (p:Pool)(n:Int):PC Tryz.prog EE 21 [p.v,.int .i64 n] (.int .i64 (rowAt p n).bo2):=by
 unfold rowAt;by_cases h:0<=n/\n<p.rows.length
 ·rw[if_pos h];obtain ⟨k,rfl⟩:=Int.eq_ofNat_of_zero_le h.1;have hk:k<p.rows.length:=by omega
  have:=dz3 p k hk;have e:p.rows.getD (k:Int).toNat ⟨default,-1,0⟩=p.rows[k]:=by simp[List.getD_eq_getElem?_getD,hk]
  rw[e]; exact this
 ·rw[if_neg h];have hr:=ak7 p.rows n;rw[bn9 h] at hr;refine aw2 fok21 (nZ rfl) fun σ=>?_
  simp only[ic21,go_sem,Pool.v];refine aa4 fok31 hr ?_;simp only[go_sem,and_self]
theorem cd4 (p:Pool)(n:Int):PC Tryz.prog EE 22 [p.v,.int .i64 n] (.int .i64 (rowAt p n).prio):=by
 unfold rowAt;by_cases h:0<=n/\n<p.rows.length
 ·rw[if_pos h];obtain ⟨k,rfl⟩:=Int.eq_ofNat_of_zero_le h.1;have hk:k<p.rows.length:=by omega
  have:=cl5 p k hk;have e:p.rows.getD (k:Int).toNat ⟨default,-1,0⟩=p.rows[k]:=by simp[List.getD_eq_getElem?_getD,hk]
  rw[e]; exact this
 ·rw[if_neg h];have hr:=ak7 p.rows n;rw[bn9 h] at hr;refine aw2 fok22 (nZ rfl) fun σ=>?_
  simp only[ic22,go_sem,Pool.v];refine aa4 fok31 hr ?_;simp only[go_sem,and_self]
theorem dh6 (p:Pool)(k:Str)(hl:(ae6 p.nm k).length<2^30):PC Tryz.prog EE 11 [p.v,.str k] (.aa3 ((ae6 p.nm k).map Md.ai9)):=by
 by_cases h:ae6 p.nm k=[]
 case neg=>exact dr6 p k h hl
 refine aj6 hE fok11 (nZ rfl) (ah5 (au7 p) (.str _)) ?_;have hnil:∀ (d:TypeId) (cs:List IV) (c:IV),bs3 (.pointer d) (.ad4 (c::cs))=some false:=fun _ _ _=>rfl
 obtain ⟨v,hk,hv⟩:=gv5 p.nm emp k;have hk':∀ σ:Store,co5 σ 2 .aa1 false (.am4 (nmV p.nm)) (.str k)=some v:=fun σ=>Eq.trans (by rfl) hk
 have hc:PC Tryz.prog EE 28 [.aa3 []] (.aa3 []):=dy9 [] (by decide);rw[h] at hv ⊢;rcases hv with rfl|⟨rfl,_⟩
 ·simp only[ic11,go_sem,Pool.v,hnil,hk'];refine aa4 fok28 hc ?_;simp only[go_sem];exact .keep _ (ar7 [])
 ·have hc':PC Tryz.prog EE 28 [.aa1] (.aa3 []):=gg6 (args':=[.aa3 []]) (by kernel_rfl) hc;simp only[ic11,go_sem,Pool.v,hnil,hk'];refine aa4 fok28 hc' ?_;simp only[go_sem];exact .keep _ (ar7 [])
def ip1 (l:List aa2)(n m:Int):Bool:=(decide (0<=n)&&decide (n<l.length))&&((decide (0<=m)&&decide (m<l.length))&&(!decide (n=m)&&ab2 (l.getD n.toNat default) (l.getD m.toNat default)))
theorem ea6 (p:Pool)(n m:Int)(hs:∀ r∈p.rows,Pkg.small r.pkg):PC Tryz.prog EE 16 [p.v,.int .i64 n,.int .i64 m] (.bool (ip1 (ac1 p) n m)):=by
 have hrl:(ac1 p).length=p.rows.length:=by simp[ac1]
 have hr:=ak7 p.rows n;have hr2:=ak7 p.rows m;unfold ip1;rw[hrl];by_cases h:0<=n/\n<p.rows.length
 ·by_cases h2:0<=m/\m<p.rows.length
  ·obtain ⟨k,rfl⟩:=Int.eq_ofNat_of_zero_le h.1;obtain ⟨j,rfl⟩:=Int.eq_ofNat_of_zero_le h2.1;have hk:k<p.rows.length:=by omega
   have hj:j<p.rows.length:=by omega
   have h3:=dh4 p k j hk hj hs;have e1:(ac1 p).getD (k:Int).toNat default=p.rows[k].pkg:=by simp[ac1,List.getD_eq_getElem?_getD,hk]
   have e2:(ac1 p).getD (j:Int).toNat default=p.rows[j].pkg:=by simp[ac1,List.getD_eq_getElem?_getD,hj]
   have e3:(!decide ((k:Int)=(j:Int)))=decide (k≠j):=by by_cases e:k=j<;>simp[e]<;>omega
   rw[ei9 hk,ei9 hj,e1,e2,e3,Bool.true_and,Bool.true_and];exact h3
  ·obtain ⟨k,rfl⟩:=Int.eq_ofNat_of_zero_le h.1;have hk:k<p.rows.length:=by omega
   rw[ei9 hk] at hr;rw[bn9 h2] at hr2;rw[ei9 hk,bn9 h2,Bool.false_and,Bool.and_false];refine aj6 hE fok16 (nZ rfl) (ew3 (au7 p) (.int _ _) (.int _ _)) ?_;simp only[ic16,go_sem,Pool.v];refine aa4 fok31 hr ?_;simp only[go_sem];refine aa4 fok31 hr2 ?_;simp only[go_sem];exact ab1 _
 ·rw[bn9 h] at hr;rw[bn9 h,Bool.false_and];refine aj6 hE fok16 (nZ rfl) (ew3 (au7 p) (.int _ _) (.int _ _)) ?_;simp only[ic16,go_sem,Pool.v];refine aa4 fok31 hr ?_;simp only[go_sem];exact ab1 _
theorem hq6 (r:aa9)(wh:Int)(hf:r.fit)(hc:r.count<2^31):PC Tryz.prog EE 72 [.agg r.cs,.int .u8 wh] (.int .i64 (am9 r wh)):=by
 refine aj6 hE fok72 (nZ rfl) (cc3 (am3 _) (.int _ _)) ?_;have h1:=fu5 r hf (by omega);have hd:r.depth<2^62:=by have:=eh4 r; omega
 have h2:=fu6 r hf hd;have h3:=gm1 wh r hf false;rw[dx5];by_cases w1:wh<1
 ·rw[if_pos (.inl w1)];simp only[ic72,go_sem,ad1,w1];exact ac4 _ _
 by_cases w2:3<wh
 ·rw[if_pos (.inr w2)];simp only[ic72,go_sem,ad1,w1,w2];exact ac4 _ _
 rw[if_neg (by omega)];simp only[ic72,go_sem,ad1,w1,w2,ac6,af4]
 first|refine aa4 fok99 (h1) ?_|refine aa6 (h1) ?_
 by_cases c1:24<r.count
 ·have d1:(24:Int)<r.count:=by omega
  rw[if_pos c1];simp only[go_sem,d1];exact ac4 _ _
 have d1:¬ (24:Int)<r.count:=by omega
 rw[if_neg c1];simp only[go_sem,d1,ac6,af4,ad1]
 first|refine aa4 fok100 (h2) ?_|refine aa6 (h2) ?_
 by_cases c2:8<r.depth
 ·have d2:(8:Int)<r.depth:=by omega
  rw[if_pos c2];simp only[go_sem,d2];exact ac4 _ _
 have d2:¬ (8:Int)<r.depth:=by omega
 rw[if_neg c2];simp only[go_sem,d2,ac6,af4,ad1]
 first|refine aa4 fok101 (h3) ?_|refine aa6 (h3) ?_
 cases r.cc4 wh false with
 | true=>simp only[go_sem]; exact dh5 (by simp)
 | false=>simp only[go_sem]; exact dh5 (by simp)
theorem ea7 (l:List aa9)(wh:Int)(hl:l.length<2^31)(hf:∀ r∈l,r.fit/\r.count<2^31):PC Tryz.prog EE 44 [ag6 l,.int .u8 wh] (.bool (ac9 l wh)):=by
 refine aj6 hE fok44 (nZ rfl) (cc3 (af8 l) (.int _ _)) ?_;unfold ac9;by_cases h1:l.length<=32
 case neg=>
  have c1:(32:Int)<l.length:=by omega
  simp only[ic44,go_sem,c1];exact ae8 (by simp[h1])
 have c1:¬ (32:Int)<l.length:=by omega
 simp only[ic44,go_sem,c1];refine ac2 noT (fun i fr t=>fr=[(0,ag6 l),(1,.int .u8 wh),(5,.int .i64 (i:Int))]/\((l.drop i).all fun r=>decide (am9 r wh=0))=l.all fun r=>decide (am9 r wh=0)) l.length ⟨rfl,rfl⟩ ?_;rintro i fr t hi ⟨rfl,ha⟩;by_cases hlt:i<l.length
 ·obtain ⟨x,hx,_,hdr,hget,_⟩:=ad2 l i hlt;have d1:(i:Int)<l.length:=by omega
  have d2:(0:Int)<=i:=by omega
  have w1:=af6 (i:=i) (by omega);have hm:=hq6 x wh (hf x hx).1 (hf x hx).2;rw[hdr,List.all_cons] at ha;simp only[go_sem,d1,d2,hget,ac6,af4,ad1]
  first|refine aa4 fok72 (hm) ?_|refine aa6 (hm) ?_
  by_cases hb:am9 x wh=0
  ·rw[decide_eq_true hb,Bool.true_and] at ha;simp only[go_sem,hb,w1];exact ⟨hlt,ha⟩
  ·rw[decide_eq_false hb,Bool.false_and] at ha;simp only[go_sem,hb];exact ae8 (by rw[<- ha]; simp)
 ·have d1:¬ (i:Int)<l.length:=by omega
  have e:i=l.length:=by omega
  subst e;rw[List.drop_length] at ha;simp only[go_sem,d1];exact ae8 (by rw[<- ha]; simp[h1])
theorem ej1 (p:aa2)(hf:p.Fit):PC Tryz.prog EE 26 [.agg p.cs] (.bool (af3 p)):=by
 refine aj6 hE fok26 (nZ rfl) (af7 (al2 _)) ?_;have g1:=dg1 p.name hf.name;have g2:=dg2 p.name hf.name;have g3:=fu3 p.evr false hf.evr.1 hf.evr.2;have g4:=gl9 p.de2;have g4':=bc2 p.de2;unfold EVR.cs at g3;simp only[ic26,go_sem,ad9,aa2.cs]
 first|refine aa4 fok39 (g1) ?_|refine aa6 (g1) ?_
 cases h1:am8 p.name with
 | false=>simp only[go_sem]; exact ae8 (by simp[af3,h1])
 | true=>
 simp only[go_sem]
 first|refine aa4 fok40 (g2) ?_|refine aa6 (g2) ?_
 cases h2:aq3 p.name with
 | true=>simp only[go_sem]; exact ae8 (by simp[af3,h2])
 | false=>
 simp only[go_sem]
 first|refine aa4 fok41 (g3) ?_|refine aa6 (g3) ?_
 cases h3:ay3 p.evr false with
 | false=>simp only[go_sem]; exact ae8 (by simp[af3,h3])
 | true=>
 simp only[go_sem]
 first|refine aa4 fok42 (g4) ?_|refine aa6 (g4) ?_
 cases h4:bl5 p.de2 with
 | false=>
  rw[h4] at g4'
  simp only[go_sem,g4']; exact ae8 (by simp[af3,h4])
 | true=>
 rw[h4] at g4';simp only[go_sem,g4'];by_cases h5:p.vendor.length<=64
 case neg=>
  have h5':(64:Int)<p.vendor.length:=by omega
  simp only[go_sem,h5']; exact ae8 (by simp[af3,h5])
 have h5':¬ (64:Int)<p.vendor.length:=by omega
 simp only[go_sem,h5'];by_cases h6:p.files.length<=32
 case neg=>
  have h6':(32:Int)<p.files.length:=by omega
  simp only[go_sem,h6']; exact ae8 (by simp[af3,h6])
 have h6':¬ (32:Int)<p.files.length:=by omega
 simp only[go_sem,h6'];have g6:=dq5 p.provides hf.bd4.1 hf.bd4.2;have g9:=dq5 p.ab2 hf.obs.1 hf.obs.2;have gr:=fun (l:List aa9) (wh:Int) (h:(wh,l)∈p.rows)=>ea7 l wh (hf.ay5 _ h).1 fun r hr=>(hf.ay5 _ h).2 r hr
 have r1:=gr p.requires 1 (by simp[aa2.rows]);have r2:=gr p.conflicts 2 (by simp[aa2.rows]);have r3:=gr p.ab7 1 (by simp[aa2.rows]);have r4:=gr p.ab3 3 (by simp[aa2.rows]);have r5:=gr p.suggests 1 (by simp[aa2.rows]);have r6:=gr p.ac3 3 (by simp[aa2.rows]);clear gr;refine ac2 noT (fun i fr s=>fr=[(1,.ad4 p.cs),(3,.int .i64 (i:Int))]/\rising p.files=rising (p.files.drop (i-1))/\(p.files.drop i).all aq3=p.files.all aq3) p.files.length ⟨rfl,rfl,rfl⟩ ?_;rintro i fr s hi ⟨rfl,hr,ha⟩;by_cases hlt:i<p.files.length
 ·obtain ⟨f,hfm,hfi,hdr,hget,_⟩:=ad2 p.files i hlt;have c1:(i:Int)<p.files.length:=by omega
  have c2:(0:Int)<=i:=by omega
  have w1:=af6 (i:=i) (by omega);have gf:=dg2 f (hf.files.2 f hfm);have hget':(p.files.map ap8).getD i []=ap8 f:=hget ap8;rw[hdr,List.all_cons] at ha;simp only[go_sem,c1,c2,hget',ap8,aa2.cs]
  first|refine aa4 fok40 (gf) ?_|refine aa6 (gf) ?_
  cases hb:aq3 f with
  | false=>
   rw[hb,Bool.false_and] at ha;simp only[go_sem]
   exact ae8 (by simp[af3,<- ha])
  | true=>
   rw[hb,Bool.true_and] at ha;by_cases h0:0<i
   ·have c0:(0:Int)<i:=by omega
    obtain ⟨a,ha1,ha2⟩:=cl3 h0 hdr;have hget2:(p.files.map ap8).getD (i-1) []=ap8 a:=by simp[List.getD_eq_getElem?_getD,ha1]
    have w0:IntKind.i64.wrap ((i:Int)-1)=((i-1:Nat):Int):=by
     rw[wrap64 (by omega) (by omega)]; omega
    have c3:(0:Int)<=((i-1:Nat):Int):=by omega
    have c4:((i-1:Nat):Int)<p.files.length:=by omega
    rw[ha2] at hr;simp only[go_sem,c0,c1,c2,c3,c4,w0,hget',hget2,ap8,aa2.cs]
    cases hb2:Op.bytesLess a f with
    | true=>
     rw[hb2,Bool.true_and] at hr;simp only[go_sem,w1]
     exact ⟨hlt,hr,ha⟩
    | false=>
     rw[hb2,Bool.false_and] at hr;simp only[go_sem];exact ae8 (by simp[af3,hr])
   ·have c0:¬ (0:Int)<i:=by omega
    have e0:i=0:=by omega
    simp only[go_sem,c0,w1];refine ⟨hlt,?_,ha⟩;subst e0; exact hr
 ·have d1:¬ (i:Int)<p.files.length:=by omega
  have e:i=p.files.length:=by omega
  rw[e,List.drop_length] at ha
  have hris:rising p.files=true:=by
   rw[hr,e]
   cases hz:p.files with
   | nil=>rfl
   | cons a l=>
    have:(a::l).drop ((a::l).length-1)=[(a::l)[(a::l).length-1]]:=by
     rw[List.drop_eq_getElem_cons (by simp)];simp
    rw[this]; rfl
  have hall:p.files.all aq3=true:=ha.symm
  have hm:af3 p=((decide (p.provides.length<=32)&&p.provides.all ah7)&&(decide (p.ab2.length<=32)&&p.ab2.all ah7)&&ac9 p.requires 1&&ac9 p.ab7 1&&ac9 p.suggests 1&&ac9 p.conflicts 2&&ac9 p.ab3 3&&ac9 p.ac3 3):=by
   unfold af3;rw[h1,h2,h3,h4,hris,hall,decide_eq_true h5,decide_eq_true h6];generalize (decide (p.provides.length<=32)&&p.provides.all ah7)=A;generalize (decide (p.ab2.length<=32)&&p.ab2.all ah7)=B;generalize ac9 p.requires 1=C;generalize ac9 p.conflicts 2=D;generalize ac9 p.ab7 1=E;generalize ac9 p.ab3 3=F;generalize ac9 p.suggests 1=G;generalize ac9 p.ac3 3=H
   revert A B C D E F G H
   decide
  rw[hm];generalize (decide (p.provides.length<=32)&&p.provides.all ah7)=A at *;generalize (decide (p.ab2.length<=32)&&p.ab2.all ah7)=B at *;generalize ac9 p.requires 1=C at *;generalize ac9 p.conflicts 2=D at *;generalize ac9 p.ab7 1=E at *;generalize ac9 p.ab3 3=F at *;generalize ac9 p.suggests 1=G at *;generalize ac9 p.ac3 3=H at *;simp only[go_sem,d1,aa2.cs]
  first|refine aa4 fok43 (g6) ?_|refine aa6 (g6) ?_
  cases A with
  | false=>simp only[go_sem]; exact ae8 (by simp)
  | true=>
  simp only[go_sem]
  first|refine aa4 fok43 (g9) ?_|refine aa6 (g9) ?_
  cases B with
  | false=>simp only[go_sem]; exact ae8 (by simp)
  | true=>
  simp only[go_sem]
  first|refine aa4 fok44 (r1) ?_|refine aa6 (r1) ?_
  cases C with
  | false=>simp only[go_sem]; exact ae8 (by simp)
  | true=>
  simp only[go_sem]
  first|refine aa4 fok44 (r3) ?_|refine aa6 (r3) ?_
  cases E with
  | false=>simp only[go_sem]; exact ae8 (by simp)
  | true=>
  simp only[go_sem]
  first|refine aa4 fok44 (r5) ?_|refine aa6 (r5) ?_
  cases G with
  | false=>simp only[go_sem]; exact ae8 (by simp)
  | true=>
  simp only[go_sem]
  first|refine aa4 fok44 (r2) ?_|refine aa6 (r2) ?_
  cases D with
  | false=>simp only[go_sem]; exact ae8 (by simp)
  | true=>
  simp only[go_sem]
  first|refine aa4 fok44 (r4) ?_|refine aa6 (r4) ?_
  cases F with
  | false=>simp only[go_sem]; exact ae8 (by simp)
  | true=>
  simp only[go_sem]
  first|refine aa4 fok44 (r6) ?_|refine aa6 (r6) ?_
  simp only[go_sem];exact ae8 (by simp)
end Go.Id.Tryz
