/- The document's answers on names,versions,dependencies: walked. Conditions: sizes that fit. -/
import Derived.Test.YthmabjmjjonlmaaGreatDoorTLNC
import Derived.Test.YthmabjmjjonlmaaGreatDoorMv
import Derived.Test.YthmabjmjjonlmaaGreatDoorGLR
import Derived.Test.YthmabjmjjonlmaaGreatDoorTLPE
open List renaming getD_eq_getElem?_getD→za,drop_length→zc,take_of_length_le→ze,getElem?_eq_getElem→zf,getElem_mem→zi,take_length→zk,length_take→zl,length_map→zm,append_nil→zo,length_append→zq,mem_map→zu,length_singleton→zw,drop_zero→zx,range→zz,map_append→z3,mem_cons→z5,all_cons→z6,filter_append→qa,take_add_one→qb
open Int renaming reduceEq→zb,toNat_natCast→zg,cast_ofNat_Int→qc
open Nat renaming le_refl→zd,not_lt_zero→zp,zero_add→zv,le_add_right→z1,mul_one→z2,add_zero→z7
open Option renaming some→zh,map_some→zt
open Bool renaming true_and→zj,and_eq_true→zn,false_and→zr,false_or→zy,not_eq_true'→z0,or_eq_true→z4,and_eq_false_iff→z8
open UInt8 renaming ofNat_toNat→z9
set_option linter.all false
set_option maxRecDepth 100000
set_option maxHeartbeats 1000000
private theorem om{P:Prop}(h:P:=by omega):P:=h
namespace Go.Id.Tryz
open Go Go.Id Go.Proofs Go.Shelf Go.Id.Md
def alN (n:Nat):Bool:=decide (97<=n)&&decide (n<=122)||decide (65<=n)&&decide (n<=90)||decide (48<=n)&&decide (n<=57)
def ia1 (n:Nat):Bool:=alN n || [46,95,43,45,47,58,64,126,94].contains n
def jy1 (n:Nat):Bool:=alN n || [46,95,43,126,94].contains n
theorem gr8 (b:UInt8):bh5 b=ia1 b.toNat:=by
 have h:∀ n,n<256->bh5 (UInt8.ofNat n)=ia1 n:=by decide +kernel
 have:=h b.toNat b.toNat_lt
 rwa [z9] at this
theorem ia2 (b:UInt8):bp4 b=jy1 b.toNat:=by
 have h:∀ n,n<256->bp4 (UInt8.ofNat n)=jy1 n:=by decide +kernel
 have:=h b.toNat b.toNat_lt
 rwa [z9] at this
theorem cy5 (a:Int):PC Tryz.prog EE 70 [.int .u8 a] (.bool (bi9 a)):=by
 refine ad9 hE fok70 (nZ rfl) (ah9 (.int _ _)) ?_;unfold bi9 al7;by_cases h1:(2:Int)<=a
 ·have e1:(1:Int)<=a:=om
  have e2:¬ a=1:=om
  simp only[ic70,go_sem,h1];exact aa9 (by simp[e1,e2])
 ·simp only[ic70,go_sem,h1];refine aa9 ?_;by_cases e:a=1
  ·simp[e]
  ·have:¬ (1:Int)<=a:=om
   simp[this]
theorem ia3 (n:Nat):PC Tryz.prog EE 174 [.int .u8 n] (.bool (ia1 n)):=by
 refine ad9 hE fok174 (nZ rfl) (ah9 (.int _ _)) ?_;by_cases g:n=46\/n=95\/n=43\/n=45\/n=47\/n=58\/n=64\/n=126\/n=94
 ·rcases g with rfl|rfl|rfl|rfl|rfl|rfl|rfl|rfl|rfl
  all_goals
   simp only[ic174,go_sem,Int.reduceNeg,qc];exact aa9 (by decide)
 ·simp only[not_or] at g;obtain ⟨g1,g2,g3,g4,g5,g6,g7,g8,g9⟩:=g;have hc:[46,95,43,45,47,58,64,126,94].contains n=false:=by simp[g1,g2,g3,g4,g5,g6,g7,g8,g9]
  have f1:¬ (n:Int)=46:=om
  have f2:¬ (n:Int)=95:=om
  have f3:¬ (n:Int)=43:=om
  have f4:¬ (n:Int)=45:=om
  have f5:¬ (n:Int)=47:=om
  have f6:¬ (n:Int)=58:=om
  have f7:¬ (n:Int)=64:=om
  have f8:¬ (n:Int)=126:=om
  have f9:¬ (n:Int)=94:=om
  unfold ia1 alN;rw[hc,Bool.or_false];by_cases k1:(97:Int)<=n
  ·by_cases k2:(n:Int)<=122
   ·simp only[ic174,go_sem,k1,k2];have a1:97<=n:=om
    have a2:n<=122:=om
    exact aa9 (by simp[a1,a2])
   ·have k3:(65:Int)<=n:=om
    have k4:¬ (n:Int)<=90:=om
    have k5:(48:Int)<=n:=om
    have k6:¬ (n:Int)<=57:=om
    simp only[ic174,go_sem,k1,k2,k3,k4,k5,k6,f1,f2,f3,f4,f5,f6,f7,f8,f9];have a2:¬ n<=122:=om
    have a4:¬ n<=90:=om
    have a6:¬ n<=57:=om
    exact aa9 (by simp[a2,a4,a6])
  ·have a1:¬ 97<=n:=om
   by_cases k3:(65:Int)<=n
   ·by_cases k4:(n:Int)<=90
    ·simp only[ic174,go_sem,k1,k3,k4];have a3:65<=n:=om
     have a4:n<=90:=om
     exact aa9 (by simp[a3,a4])
    ·have k5:(48:Int)<=n:=om
     have k6:¬ (n:Int)<=57:=om
     simp only[ic174,go_sem,k1,k3,k4,k5,k6,f1,f2,f3,f4,f5,f6,f7,f8,f9];have a4:¬ n<=90:=om
     have a6:¬ n<=57:=om
     exact aa9 (by simp[a1,a4,a6])
   ·have a3:¬ 65<=n:=om
    by_cases k5:(48:Int)<=n
    ·by_cases k6:(n:Int)<=57
     ·simp only[ic174,go_sem,k1,k3,k5,k6];have a5:48<=n:=om
      have a6:n<=57:=om
      exact aa9 (by simp[a5,a6])
     ·simp only[ic174,go_sem,k1,k3,k5,k6,f1,f2,f3,f4,f5,f6,f7,f8,f9];have a6:¬ n<=57:=om
      exact aa9 (by simp[a1,a3,a6])
    ·simp only[ic174,go_sem,k1,k3,k5,f1,f2,f3,f4,f5,f6,f7,f8,f9];have a5:¬ 48<=n:=om
     exact aa9 (by simp[a1,a3,a5])
theorem ea5 (s:Str)(hs:s.length<2^62):PC Tryz.prog EE 100 [.str s] (.bool (au6 s)):=by
 refine ad9 hE fok100 (nZ rfl) (ah9 (.str _)) ?_;unfold au6;by_cases h1:1<=s.length
 case neg=>
  have c1:(s.length:Int)<1:=om
  simp only[ic100,go_sem,c1];exact aa9 (by simp[h1])
 by_cases h2:s.length<=64
 case neg=>
  have c1:¬ (s.length:Int)<1:=om
  have c2:(64:Int)<s.length:=om
  simp only[ic100,go_sem,c1,c2];exact aa9 (by simp[h2])
 have c1:¬ (s.length:Int)<1:=om
 have c2:¬ (64:Int)<s.length:=om
 by_cases hw:s∈words
 ·have hc:words.contains s=true:=by simpa using hw
  have e:s=[97,110,100]\/s=[111,114]\/s=[105,102]\/s=[101,108,115,101]\/s=[117,110,108,101,115,115]\/s=[119,105,116,104]\/s=[119,105,116,104,111,117,116]:=by simpa [words] using hw
  rw[hc];rcases e with rfl|rfl|rfl|rfl|rfl|rfl|rfl
  all_goals
   simp only[ic100,go_sem,c1,c2,List.length_cons,List.length_nil];exact aa9 (by decide)
 have hc:words.contains s=false:=by simpa using hw
 have hn:¬ s=[97,110,100]/\¬ s=[111,114]/\¬ s=[105,102]/\¬ s=[101,108,115,101]/\¬ s=[117,110,108,101,115,115]/\¬ s=[119,105,116,104]/\¬ s=[119,105,116,104,111,117,116]:=by simpa [words,not_or] using hw
 obtain ⟨n1,n2,n3,n4,n5,n6,n7⟩:=hn;rw[hc,decide_eq_true h1,decide_eq_true h2,zj,zj,Bool.not_false,Bool.and_true];simp only[ic100,go_sem,c1,c2,n1,n2,n3,n4,n5,n6,n7];refine ab2 noT (fun i fr t=>fr=[(0,.str s),(3,.int .i64 (i:Int))]/\(s.take i).all bh5=true) s.length ⟨rfl,rfl⟩ ?_;rintro i fr t hi ⟨rfl,ha⟩;by_cases hlt:i<s.length
 ·have d1:(i:Int)<s.length:=om
  have d2:(0:Int)<=i:=om
  have w1:=ac2 (i:=i) om;have hsg:=ia3 s[i].toNat;rw[<- gr8] at hsg;simp only[go_sem,d1,d2,zf hlt,zg];refine aa2 fok174 (hsg) ?_
  cases hb:bh5 s[i] with
  | true=>
   simp only[go_sem,w1]
   exact ⟨hlt,by rw[cy6 hlt,ha,hb]; rfl⟩
  | false=>
   simp only[go_sem];exact aa9 (by rw[bl8 hlt hb])
 ·have d1:¬ (i:Int)<s.length:=om
  have e:i=s.length:=om
  subst e;rw[zk] at ha;simp only[go_sem,d1];exact aa9 (by rw[ha])
theorem ea6 (s:Str)(hs:s.length<2^62):PC Tryz.prog EE 101 [.str s] (.bool (ay5 s)):=by
 refine ad9 hE fok101 (nZ rfl) (ah9 (.str _)) ?_;have h:=ea5 s hs;unfold ay5;simp only[ic101,go_sem];refine aa2 fok100 (h) ?_
 cases hn:au6 s with
 | false=>simp only[go_sem]; exact aa9 rfl
 | true=>
  cases s with
  | nil=>simp[au6] at hn
  | cons b l=>
   simp only[go_sem,List.head?_cons];refine aa9 ?_
   have:(b.toNat:Int)=47↔b=47:=by
    constructor
    ·intro h; exact UInt8.toNat_inj.1 (by show b.toNat=47; omega)
    ·rintro rfl; rfl
   by_cases e:b=47
   ·subst e; rfl
   ·have e2:¬ (b.toNat:Int)=47:=fun h=>e (this.1 h)
    simp[e,e2]
end Go.Id.Tryz
namespace Go.Id.Tryz
open Go Go.Id Go.Proofs Go.Shelf Go.Id.Md
theorem fg8 (s:Str)(hs:s.length<2^62):PC Tryz.prog EE 175 [.str s] (.bool (bb3 s)):=by
 refine ad9 hE fok175 (nZ rfl) (ah9 (.str _)) ?_;simp only[ic175,go_sem];refine ab2 noT (fun i fr t=>fr=[(0,.str s),(3,.int .i64 (i:Int))]/\(s.take i).all bp4=true) s.length ⟨rfl,rfl⟩ ?_;rintro i fr t hi ⟨rfl,ha⟩;by_cases hlt:i<s.length
 ·have d1:(i:Int)<s.length:=om
  have d2:(0:Int)<=i:=om
  have w1:=ac2 (i:=i) om;have hv:=ia2 s[i];have step:bp4 s[i]=true->(s.take (i+1)).all bp4=true:=fun h=>by rw[cy6 hlt,ha,h]; rfl
  have fin:bp4 s[i]=false->bb3 s=false:=fun h=>by simp only[bb3,bl8 hlt h,Bool.and_false]
  simp only[go_sem,d1,d2,zf hlt,zg];generalize s[i].toNat=n at *;by_cases g:n=46\/n=95\/n=43\/n=126\/n=94
  ·rcases g with rfl|rfl|rfl|rfl|rfl
   all_goals
    simp only[go_sem,qc,zb,w1];exact ⟨hlt,step (hv.trans (by decide))⟩
  ·simp only[not_or] at g;obtain ⟨g1,g2,g3,g4,g5⟩:=g;have hc:[46,95,43,126,94].contains n=false:=by simp[g1,g2,g3,g4,g5]
   have f1:¬ (n:Int)=46:=om
   have f2:¬ (n:Int)=95:=om
   have f3:¬ (n:Int)=43:=om
   have f4:¬ (n:Int)=126:=om
   have f5:¬ (n:Int)=94:=om
   unfold jy1 alN at hv;rw[hc,Bool.or_false] at hv;by_cases k1:(97:Int)<=n
   ·have a5:(48:Int)<=n:=om
    have a6:¬ (n:Int)<=57:=om
    by_cases k2:(n:Int)<=122
    ·have a1:97<=n:=om
     have a2:n<=122:=om
     simp only[go_sem,k1,k2,a5,a6,w1];exact ⟨hlt,step (hv.trans (by simp[a1,a2]))⟩
    ·have k3:(65:Int)<=n:=om
     have k4:¬ (n:Int)<=90:=om
     simp only[go_sem,k1,k2,k3,k4,a5,a6,f1,f2,f3,f4,f5];have b2:¬ n<=122:=om
     have b4:¬ n<=90:=om
     have b6:¬ n<=57:=om
     exact aa9 (fin (hv.trans (by simp[b2,b4,b6]))).symm
   ·have b1:¬ 97<=n:=om
    by_cases k3:(65:Int)<=n
    ·have a5:(48:Int)<=n:=om
     have a6:¬ (n:Int)<=57:=om
     by_cases k4:(n:Int)<=90
     ·simp only[go_sem,k1,k3,k4,a5,a6,w1];have a3:65<=n:=om
      have a4:n<=90:=om
      exact ⟨hlt,step (hv.trans (by simp[a3,a4]))⟩
     ·simp only[go_sem,k1,k3,k4,a5,a6,f1,f2,f3,f4,f5];have b4:¬ n<=90:=om
      have b6:¬ n<=57:=om
      exact aa9 (fin (hv.trans (by simp[b1,b4,b6]))).symm
    ·have b3:¬ 65<=n:=om
     by_cases k5:(48:Int)<=n
     ·by_cases k6:(n:Int)<=57
      ·simp only[go_sem,k1,k3,k5,k6,w1];have a5:48<=n:=om
       have a6:n<=57:=om
       exact ⟨hlt,step (hv.trans (by simp[a5,a6]))⟩
      ·simp only[go_sem,k1,k3,k5,k6,f1,f2,f3,f4,f5];have b6:¬ n<=57:=om
       exact aa9 (fin (hv.trans (by simp[b1,b3,b6]))).symm
     ·simp only[go_sem,k1,k3,k5,f1,f2,f3,f4,f5];have b5:¬ 48<=n:=om
      exact aa9 (fin (hv.trans (by simp[b1,b3,b5]))).symm
 ·have d1:¬ (i:Int)<s.length:=om
  have e:i=s.length:=om
  subst e;rw[zk] at ha;unfold bb3;rw[ha,Bool.and_true];by_cases h1:1<=s.length
  ·have c1:(1:Int)<=s.length:=om
   simp only[go_sem,d1,c1];refine aa9 ?_;have:decide ((s.length:Int)<=64)=decide (s.length<=64):=decide_eq_decide.2 om;simp[h1,this]
  ·have c1:¬ (1:Int)<=s.length:=om
   simp only[go_sem,d1,c1];exact aa9 (by simp[h1])
theorem gr9 (e:EVR)(dep:Bool)(h1:e.ver.length<2^62)(h2:e.rel.length<2^62):PC Tryz.prog EE 102 [.agg e.cs,.bool dep] (.bool (bh6 e dep)):=by
 obtain ⟨ep,ver,rel⟩:=e;refine ad9 hE fok102 (nZ rfl) (ag4 (.agg _ (as5 (.int _ _) (.str _) (.str _))) (.bool _)) ?_;have hw:=fg8 ver h1;have hw':=fg8 rel h2;unfold bh6;by_cases a1:ep<0
 ·have b1:¬ (0:Int)<=ep:=om
  simp only[ic102,go_sem,EVR.cs,a1];exact aa9 (by simp[b1])
 have b1:(0:Int)<=ep:=om
 by_cases a2:2147483647<ep
 ·have b2:¬ ep<=2147483647:=om
  simp only[ic102,go_sem,EVR.cs,a1,a2];exact aa9 (by simp[b2])
 have b2:ep<=2147483647:=om
 simp only[b1,b2,decide_true,zj];simp only[ic102,go_sem,EVR.cs,a1,a2];refine aa2 fok175 (hw) ?_
 cases hv:bb3 ver with
 | false=>simp only[go_sem]; exact aa9 (by simp)
 | true=>
  by_cases hr:rel=[]
  ·subst hr;simp only[go_sem];refine aa9 ?_;have:bb3 []=false:=by decide
   rw[this]; simp
  ·have he:rel.isEmpty=false:=by simpa using hr
   simp only[go_sem,hr];refine aa2 fok175 (hw') ?_;simp only[go_sem];exact aa9 (by rw[he]; simp)
theorem iw6 (n:Int):PC Tryz.prog EE 119 [.int .u8 n] (.bool (dx4 n)):=by
 refine ad9 hE fok119 (nZ rfl) (ah9 (.int _ _)) ?_;unfold dx4;by_cases g:n=0\/n=1\/n=2\/n=3\/n=4\/n=6
 ·rcases g with rfl|rfl|rfl|rfl|rfl|rfl
  all_goals
   simp only[ic119,go_sem];exact aa9 (by decide)
 ·simp only[not_or] at g;obtain ⟨g1,g2,g3,g4,g5,g6⟩:=g;simp only[ic119,go_sem,g1,g2,g3,g4,g5,g6];exact aa9 (by simp[g1,g2,g3,g4,g5,g6])
theorem iw7 (e:EVR):allEq [1,2,2] e.cs gc7.cs=zh (decide (e=gc7)):=by
 obtain ⟨ep,ver,rel⟩:=e;simp[EVR.cs,gc7,allEq,al5]
theorem ea7 (d:Dep)(h1:d.name.length<2^62)(h2:d.evr.ver.length<2^62)(h3:d.evr.rel.length<2^62):PC Tryz.prog EE 71 [.agg d.cs] (.bool (ai4 d)):=by
 refine ad9 hE fok71 (nZ rfl) (ah9 (.agg _ (ec2 d))) ?_;have hn:=ea5 d.name h1;have hf:=ea6 d.name h1;have ho:=iw6 d.op;have hm:=gr9 d.evr true h2 h3;have he:=iw7 d.evr;unfold ai4;obtain ⟨name,op,⟨ep,ver,rel⟩⟩:=d;unfold EVR.cs gc7 at he;simp only at *;simp only[ic71,go_sem,Dep.cs];refine aa2 fok100 (hn) ?_
 cases au6 name with
 | false=>simp only[go_sem]; exact aa9 (by simp)
 | true=>
  simp only[go_sem];refine aa2 fok119 (ho) ?_
  cases dx4 op with
  | false=>simp only[go_sem]; exact aa9 (by simp)
  | true=>
   by_cases h0:op=0
   ·simp only[go_sem,h0,he,zt];exact aa9 (by simp[gc7])
   ·simp only[go_sem,h0];refine aa2 fok101 (hf) ?_
    cases ay5 name with
    | true=>simp only[go_sem]; exact aa9 (by simp[h0])
    | false=>
     simp only[go_sem];refine aa2 fok102 (hm) ?_;simp only[go_sem];exact aa9 (by simp[h0])
end Go.Id.Tryz
namespace Go.Id.Tryz
open Go Go.Id Go.Proofs Go.Shelf Go.Id.Md
theorem ea8 (a:Int):PC Tryz.prog EE 103 [.int .u8 a] (.str (av7 a)):=by
 refine ad9 hE fok103 (nZ rfl) (ah9 (.int _ _)) ?_;unfold av7;by_cases g:a=1\/a=2\/a=3\/a=4
 ·rcases g with rfl|rfl|rfl|rfl
  all_goals
   simp only[ic103,go_sem];exact .keep _ (.str _)
 ·simp only[not_or] at g;obtain ⟨g1,g2,g3,g4⟩:=g;simp only[ic103,go_sem,g1,g2,g3,g4];exact .keep _ (.str _)
theorem el4 (l:List Dep)(hl:l.length<2^31)(hf:∀ d∈l,d.fit):PC Tryz.prog EE 104 [deps l] (.bool (decide (l.length<=32)&&l.all ai4)):=by
 refine ad9 hE fok104 (nZ rfl) (ah9 (.aa4 _ fun e he c hc=>by obtain ⟨d,_,rfl⟩:=zu.1 he; exact ec2 d c hc)) ?_;by_cases h1:l.length<=32
 case neg=>
  have c1:(32:Int)<l.length:=om
  simp only[ic104,go_sem,c1];exact aa9 (by simp[h1])
 have c1:¬ (32:Int)<l.length:=om
 simp only[ic104,go_sem,c1];refine ab2 noT (fun i fr t=>fr=[(0,deps l),(3,.int .i64 (i:Int))]/\(l.drop i).all ai4=l.all ai4) l.length ⟨rfl,rfl⟩ ?_;rintro i fr t hi ⟨rfl,ha⟩;by_cases hlt:i<l.length
 ·obtain ⟨x,hx,_,hdr,hget,_⟩:=ac7 l i hlt;have d1:(i:Int)<l.length:=om
  have d2:(0:Int)<=i:=om
  have w1:=ac2 (i:=i) om;have hm:=ea7 x (hf x hx).1 (hf x hx).2.1 (hf x hx).2.2;have dl:x.cs.length=5:=rfl;have dt:x.cs.take 5=x.cs:=rfl;have df:x.cs.all IV.leaf=true:=rfl;rw[hdr,z6] at ha;simp only[go_sem,d1,d2,hget,dl,dt,df];refine aa2 fok71 (hm) ?_
  cases hb:ai4 x with
  | true=>
   rw[hb,zj] at ha;simp only[go_sem,w1]
   exact ⟨hlt,ha⟩
  | false=>
   rw[hb,zr] at ha;simp only[go_sem];exact aa9 (by rw[<- ha]; simp)
 ·have d1:¬ (i:Int)<l.length:=om
  have e:i=l.length:=om
  subst e;rw[zc] at ha;simp only[go_sem,d1];exact aa9 (by rw[<- ha]; simp[h1])
theorem gs2 (r:aa6):r.fit->r.count<2^62->PC Tryz.prog EE 228 [.agg r.cs] (.int .i64 r.count):=by
 induction r using aa6.ind with
 | h k d xs ih=>
  intro hf hc;obtain ⟨f1,f2,f3,f4,f5⟩:=aa6.bc6.1 hf;refine ad9 hE fok228 (nZ rfl) (af1 (ae9 _)) ?_;rw[aa6.ak5];simp only[aa6.count] at hc ⊢;simp only[ic228,go_sem,aa6.kind,aa6.args,aa6.dep];refine ab2 noT (fun i fr σ=>∃ n:Nat,fr=[(1,.ab8 [.int .u8 k,.str d.name,.int .u8 d.op,.int .i64 d.evr.ai5,.str d.evr.ver,.str d.evr.rel,.aa4 (xs.map aa6.cs)]),(3,.int .i64 n),(4,.int .i64 i)]/\n+aa6.counts (xs.drop i)=aa6.counts xs+1) xs.length ⟨1,rfl,by simp; omega⟩ ?_;rintro i fr σ hi ⟨n,rfl,hn⟩;by_cases hlt:i<xs.length
  ·obtain ⟨a,ha,_,hdr,hget,_⟩:=ac7 xs i hlt;have c1:(i:Int)<xs.length:=om
   have c2:(0:Int)<=i:=om
   have w1:=ac2 (i:=i) om;rw[hdr] at hn;simp only[aa6.counts] at hn;have hcm:=aa6.bx2 ha;have hl:a.cs.all IV.leaf=true:=by rw[aa6.ak5]; rfl
   have ht:a.cs.take 7=a.cs:=ze (by rw[ab5]; exact zd _);have hA:=ih a ha (f5 a ha) om;have w2:IntKind.i64.wrap ((n:Int)+(a.count:Int))=((n+a.count:Nat):Int):=by rw[wrap64 om om]; omega
   simp only[go_sem,c1,c2,hget,ab5,ht,hl,zx];refine aa2 fok228 (hA) ?_;simp only[go_sem,w2,w1];exact ⟨hlt,n+a.count,rfl,om⟩
  ·have d1:¬ (i:Int)<xs.length:=om
   have e:i=xs.length:=om
   subst e;rw[zc] at hn;simp only[aa6.counts] at hn;simp only[go_sem,d1];exact bg4 om
theorem gs3 (r:aa6):r.fit->r.depth<2^62->PC Tryz.prog EE 229 [.agg r.cs] (.int .i64 r.depth):=by
 induction r using aa6.ind with
 | h k d xs ih=>
  intro hf hd;obtain ⟨f1,f2,f3,f4,f5⟩:=aa6.bc6.1 hf;refine ad9 hE fok229 (nZ rfl) (af1 (ae9 _)) ?_;rw[aa6.ak5];by_cases hk:k=1
  ·simp only[ic229,go_sem,aa6.kind,aa6.depth,hk];exact ad5 _ _
  ·simp only[aa6.depth,hk,if_false] at hd ⊢;simp only[ic229,go_sem,aa6.kind,aa6.args,aa6.dep,hk];refine ab2 noT (fun i fr σ=>∃ n:Nat,fr=[(1,.ab8 [.int .u8 k,.str d.name,.int .u8 d.op,.int .i64 d.evr.ai5,.str d.evr.ver,.str d.evr.rel,.aa4 (xs.map aa6.cs)]),(3,.int .i64 n),(4,.int .i64 i)]/\max n (aa6.ax2 (xs.drop i))=aa6.ax2 xs) xs.length ⟨0,rfl,by simp⟩ ?_;rintro i fr σ hi ⟨n,rfl,hn⟩;by_cases hlt:i<xs.length
   ·obtain ⟨a,ha,_,hdr,hget,_⟩:=ac7 xs i hlt;have c1:(i:Int)<xs.length:=om
    have c2:(0:Int)<=i:=om
    have w1:=ac2 (i:=i) om;rw[hdr,ca7] at hn;have hl:a.cs.all IV.leaf=true:=by rw[aa6.ak5]; rfl
    have ht:a.cs.take 7=a.cs:=ze (by rw[ab5]; exact zd _);have hA:=ih a ha (f5 a ha) om;simp only[go_sem,c1,c2,hget,ab5,ht,hl,zx];refine aa2 fok229 (hA) ?_;by_cases hg:n<a.depth
    ·have g1:(n:Int)<(a.depth:Int):=om
     simp only[go_sem,g1,w1];exact ⟨hlt,a.depth,rfl,by rw[<- hn]; omega⟩
    ·have g1:¬ (n:Int)<(a.depth:Int):=om
     simp only[go_sem,g1,w1];exact ⟨hlt,n,rfl,by rw[<- hn]; omega⟩
   ·have d1:¬ (i:Int)<xs.length:=om
    have e:i=xs.length:=om
    subst e;rw[zc] at hn;simp only[aa6.ax2] at hn;have w2:IntKind.i64.wrap ((n:Int)+1)=((n+1:Nat):Int):=ac2 (i:=n) om;simp only[go_sem,d1,w2];exact bg4 om
theorem gs4 (d:Dep):allEq [2,1,1,2,2] d.cs by2.cs=zh (decide (d=by2)):=by
 obtain ⟨name,op,⟨ep,ver,rel⟩⟩:=d;simp[Dep.cs,by2,gc7,allEq,al5]
theorem ia4 (wh:Int)(r:aa6):r.fit->∀ alone:Bool,PC Tryz.prog EE 230 [.agg r.cs,.int .u8 wh,.bool alone] (.bool (r.cv6 wh alone)):=by
 induction r using aa6.ind with
 | h k d xs ih=>
  intro hf alone;obtain ⟨f1,f2,f3,f4,f5⟩:=aa6.bc6.1 hf;have hbA:=ae9 (.mk k d xs);have hm:=ea7 d f3.1 f3.2.1 f3.2.2;have he:allEq [2,1,1,2,2] [.str d.name,.int .u8 d.op,.int .i64 d.evr.ai5,.str d.evr.ver,.str d.evr.rel] [.str [],.int .u8 0,.int .i64 0,.str [],.str []]=zh (decide (d=by2)):=gs4 d;unfold Dep.cs at hm;rw[aa6.ak5] at hbA ⊢;simp only[aa6.cv6,aa6.fx1];unfold ht5;by_cases k1:k=1
  ·subst k1;refine ad9 hE fok230 (nZ rfl) (as5 hbA (.int _ _) (.bool _)) ?_;by_cases hz:xs.length=0
   ·have e:xs=[]:=List.length_eq_zero_iff.1 hz;subst e;simp only[ic230,go_sem,aa6.kind,aa6.args,aa6.dep,List.map_nil,List.length_nil];refine aa2 fok71 (hm) ?_;simp only[go_sem];exact aa9 (by simp)
   ·have c0:¬ (xs.length:Int)=0:=om
    simp only[ic230,go_sem,aa6.kind,aa6.args,aa6.dep,c0];exact aa9 (by simp[hz])
  rw[if_neg k1];obtain ⟨okb,hok⟩:∃ okb,okb=(if k=2\/k=3\/k=6 then decide (2<=xs.length) else if k=7 then decide (xs.length=2) else if k=4 then (decide (xs.length=2)||decide (xs.length=3))&&!alone&&decide (wh=1) else if k=5 then (decide (xs.length=2)||decide (xs.length=3))&&!alone&&decide (wh<=2) else false):=⟨_,rfl⟩;obtain ⟨al,hal⟩:∃ al,al=(alone||decide (k=6)||decide (k=7)):=⟨_,rfl⟩;rw[<- hok,<- hal];have hA:=fun x hx=>ih x hx (f5 x hx) al
  clear ih;refine gl8 hE fok230 (nZ rfl) (as5 hbA (.int _ _) (.bool _)) ?_;simp only[aa6.kind,aa6.args,aa6.dep] at *;obtain ⟨rc,hrc⟩:∃ rc,rc=[IV.int .u8 k,.str d.name,.int .u8 d.op,.int .i64 d.evr.ai5,.str d.evr.ver,.str d.evr.rel,.aa4 (xs.map aa6.cs)]:=⟨_,rfl⟩;have r0:rc.head? = zh (.int .u8 k):=by rw[hrc]; rfl
  have r6:(rc.drop 6).head? = zh (.aa4 (xs.map aa6.cs)):=by rw[hrc]; rfl
  have r1:(rc.drop 1).take 5=[.str d.name,.int .u8 d.op,.int .i64 d.evr.ai5,.str d.evr.ver,.str d.evr.rel]:=by rw[hrc]; rfl
  have rl:rc.length=7:=by rw[hrc]; rfl
  have rt:rc.take 7=rc:=by rw[hrc]; rfl
  have rf:rc.all IV.leaf=true:=by rw[hrc]; rfl
  have rl1:(rc.drop 1).length=6:=by rw[hrc]; rfl
  rw[<- hrc];clear hrc hbA;simp only[ic230];refine ac3 (ae2 ?_);simp only[go_sem,rl,rt,rf];refine ac3 (ae2 ?_);simp only[go_sem,r6];refine ac3 (ae2 ?_);simp only[go_sem];refine ac3 (ao1 (Q:=fun e f s=>e=.normal/\∃ rst:Frm,f=(1,.int .u8 wh)::(2,.bool al)::(3,.ab8 rc)::(7,.int .i64 xs.length)::(8,.bool okb)::rst) (ae2 ?_) ?_)
  ·have i2:decide ((2:Int)<=xs.length)=decide (2<=xs.length):=decide_eq_decide.2 om;have e2:decide ((xs.length:Int)=2)=decide (xs.length=2):=decide_eq_decide.2 om;have e3:decide ((xs.length:Int)=3)=decide (xs.length=3):=decide_eq_decide.2 om;have n1:¬ k=1:=k1;by_cases k2:k=2
   ·subst k2;simp only[go_sem,zb,r0,i2,hok,hal];exact ⟨[],by simp⟩
   by_cases k3:k=3
   ·subst k3;simp only[go_sem,zb,r0,i2,hok,hal];exact ⟨[],by simp⟩
   by_cases k6:k=6
   ·subst k6;simp only[go_sem,zb,r0,i2,hok,hal];exact ⟨[],by simp⟩
   by_cases k7:k=7
   ·subst k7;simp only[go_sem,zb,r0,e2,hok,hal];exact ⟨[],by simp⟩
   by_cases k4:k=4
   ·subst k4;by_cases n2:xs.length=2
    ·have c2:(xs.length:Int)=2:=om
     cases alone<;>(simp only[go_sem,zb,r0,c2,hok,hal,n2]; exact ⟨[],by simp⟩)
    ·have c2:¬ (xs.length:Int)=2:=om
     by_cases n3:xs.length=3
     ·have c3:(xs.length:Int)=3:=om
      cases alone<;>(simp only[go_sem,zb,r0,c2,c3,hok,hal,n2,n3]; exact ⟨[],by simp⟩)
     ·have c3:¬ (xs.length:Int)=3:=om
      simp only[go_sem,zb,r0,c2,c3,hok,hal,n2,n3];exact ⟨[],by simp⟩
   by_cases k5:k=5
   ·subst k5;by_cases n2:xs.length=2
    ·have c2:(xs.length:Int)=2:=om
     cases alone<;>(simp only[go_sem,zb,r0,c2,hok,hal,n2]; exact ⟨[],by simp⟩)
    ·have c2:¬ (xs.length:Int)=2:=om
     by_cases n3:xs.length=3
     ·have c3:(xs.length:Int)=3:=om
      cases alone<;>(simp only[go_sem,zb,r0,c2,c3,hok,hal,n2,n3]; exact ⟨[],by simp⟩)
     ·have c3:¬ (xs.length:Int)=3:=om
      simp only[go_sem,zb,r0,c2,c3,hok,hal,n2,n3];exact ⟨[],by simp⟩
   simp only[go_sem,zb,r0,n1,k2,k3,k4,k5,k6,k7,hok,hal];exact ⟨[(53,.bool false)],by simp⟩
  rintro e f s ⟨rfl,rst,rfl⟩;simp only[go_sem];refine ac3 (ae2 ?_)
  cases hob:okb with
  | false=>
   simp only[go_sem]
   exact aa9 (by simp)
  | true=>
  by_cases hd:d=by2
  case neg=>
   rw[decide_eq_false hd] at he;simp only[go_sem,rl1,r1,he,zt];exact aa9 (by simp[hd])
  rw[decide_eq_true hd] at he;simp only[go_sem,rl1,r1,he,zt];refine ae2 ?_;simp only[go_sem];refine ab2 noT (fun i fr t=>fr=[(1,.int .u8 wh),(2,.bool al),(3,.ab8 rc),(7,.int .i64 xs.length),(9,.int .i64 (i:Int))]/\((xs.drop i).all fun r=>r.cv6 wh al)=xs.all fun r=>r.cv6 wh al) xs.length ⟨rfl,rfl⟩ ?_;rintro i fr t hi ⟨rfl,ha⟩;by_cases hlt:i<xs.length
  ·obtain ⟨x,hx,_,hdr,hget,_⟩:=ac7 xs i hlt;have d1:(i:Int)<xs.length:=om
   have d2:(0:Int)<=i:=om
   have w1:=ac2 (i:=i) om;have hl:x.cs.all IV.leaf=true:=by rw[aa6.ak5]; rfl
   have ht:x.cs.take 7=x.cs:=ze (by rw[ab5]; exact zd _);have hAx:=hA x hx;rw[hdr,z6] at ha;simp only[go_sem,d1,d2,r6,hget,ab5,ht,hl];refine aa2 fok230 (hAx) ?_
   cases hb:x.cv6 wh al with
   | true=>
    rw[hb,zj] at ha;simp only[go_sem,w1]
    exact ⟨hlt,ha⟩
   | false=>
    rw[hb,zr] at ha;simp only[go_sem];exact aa9 (by rw[<- ha]; simp)
  ·have d1:¬ (i:Int)<xs.length:=om
   have e:i=xs.length:=om
   subst e;rw[zc] at ha;simp only[go_sem,d1];exact aa9 (by rw[<- ha]; simp[hd])
end Go.Id.Tryz
namespace Go.Id.Tryz
open Go Go.Id Go.Proofs Go.Id.Md
theorem fg9 (a:Int):bi9 a=(decide (a=2)||decide (a=3)||decide (a=4)):=by
 unfold bi9 al7;rw[Bool.eq_iff_iff];simp only[zn,z4,decide_eq_true_eq,z0,decide_eq_false_iff_not];omega
theorem gs5 (m a:Int):PC Tryz.prog EE 126 [.int .u8 m,.int .u8 a] (.int .i64 (bb5 m a)):=by
 refine ad9 hE fok126 (nZ rfl) (ag4 (.int _ _) (.int _ _)) ?_;have hm:=cy5 m;by_cases g:m=2\/m=3\/m=4
 ·have hmm:bi9 m=true:=by rw[fg9]; rcases g with rfl|rfl|rfl<;>rfl
  rw[hmm] at hm;by_cases e1:a=m
  ·subst e1;simp only[ic126,go_sem];refine aa2 fok70 (hm) ?_;simp only[go_sem];exact bg4 (by unfold bb5; rcases g with rfl|rfl|rfl<;>rfl)
  by_cases e2:a=1
  ·subst e2;simp only[ic126,go_sem];refine aa2 fok70 (hm) ?_;simp only[go_sem,e1];exact bg4 (by unfold bb5; rcases g with rfl|rfl|rfl<;>rfl)
  simp only[ic126,go_sem];refine aa2 fok70 (hm) ?_;by_cases e3:m=2
  ·subst e3;by_cases e4:a=3
   ·subst e4;simp only[go_sem,zb];exact bg4 rfl
   ·simp only[go_sem,e1,e2,e4];exact bg4 (by unfold bb5; simp[e1,e2,e4])
  ·simp only[go_sem,e1,e2,e3];refine bg4 ?_;unfold bb5;rw[if_neg e3];rcases g with rfl|rfl|rfl
   ·exact absurd rfl e3
   ·simp[e1,e2]
   ·simp[e1,e2]
 ·have hmm:bi9 m=false:=by
   rw[fg9];simp only[not_or] at g;simp[g.1,g.2.1,g.2.2]
  rw[hmm] at hm;simp only[ic126,go_sem];refine aa2 fok70 (hm) ?_;simp only[go_sem];simp only[not_or] at g;exact bg4 (by unfold bb5; simp[g.1,g.2.1,g.2.2])
theorem ia5 (m a:Int):0<=bb5 m a:=by
 unfold bb5
 repeat' split
 all_goals decide
theorem ia6 (m a:Int):PC Tryz.prog EE 76 [.int .u8 m,.int .u8 a] (.bool (hu7 m a)):=by
 refine ad9 hE fok76 (nZ rfl) (ag4 (.int _ _) (.int _ _)) ?_;have h:=gs5 m a;have hn:=ia5 m a;simp only[ic76,go_sem];refine aa2 fok126 (h) ?_;simp only[go_sem];refine aa9 ?_;unfold hu7;by_cases h0:bb5 m a=0
 ·simp[h0]
 ·have:0<bb5 m a:=om
  simp[h0,this]
theorem gs6 (a b:Int):PC Tryz.prog EE 77 [.int .u8 a,.int .u8 b] (.bool (ce5 a b)):=by
 refine ad9 hE fok77 (nZ rfl) (ag4 (.int _ _) (.int _ _)) ?_;have ha:=cy5 a;have hb:=cy5 b;unfold ce5;by_cases e:a=b
 ·simp only[ic77,go_sem,e];exact aa9 (by simp)
 ·simp only[ic77,go_sem,e];refine aa2 fok70 (ha) ?_
  cases bi9 a with
  | false=>simp only[go_sem]; exact aa9 (by simp)
  | true=>
   simp only[go_sem];refine aa2 fok70 (hb) ?_;simp only[go_sem];exact aa9 (by simp[e])
theorem ct6 (a:Int):(av7 a=[])↔al7 a=false:=by
 unfold av7 al7;by_cases g:a=1\/a=2\/a=3\/a=4
 ·rcases g with rfl|rfl|rfl|rfl<;>simp
 ·simp only[not_or] at g;have:¬ (1<=a/\a<=4):=om
  simp only[g.1,g.2.1,g.2.2.1,g.2.2.2,if_false,true_iff,z8,decide_eq_false_iff_not];omega
theorem ew3 (a b:Int):PC Tryz.prog EE 160 [.int .u8 a,.int .u8 b] (.bool (ay2 a b)):=by
 refine ad9 hE fok160 (nZ rfl) (ag4 (.int _ _) (.int _ _)) ?_;have ha:=ea8 a;have hb:=ea8 b;have na:=ct6 a;have nb:=ct6 b;simp only[ic160,go_sem];refine aa2 fok103 (ha) ?_;by_cases h1:av7 a=[]
 ·have:=na.1 h1;simp only[go_sem,h1];exact aa9 (by unfold ay2; simp[this])
 have oa:al7 a=true:=by
  cases h:al7 a with
  | true=>rfl
  | false=>exact absurd (na.2 h) h1
 simp only[go_sem,h1];refine aa2 fok103 (hb) ?_;by_cases h2:av7 b=[]
 ·have:=nb.1 h2;simp only[go_sem,h2];exact aa9 (by unfold ay2; simp[this])
 have ob:al7 b=true:=by
  cases h:al7 b with
  | true=>rfl
  | false=>exact absurd (nb.2 h) h2
 have hf:ay2 a b=(decide (a=b)||decide (a=1)||decide (b=1)):=by
  unfold ay2 ce5 bi9;rw[oa,ob];rw[Bool.eq_iff_iff];simp only[zn,z4,decide_eq_true_eq,z0,zj,z8,decide_eq_false_iff_not,Bool.not_eq_false'];omega
 rw[hf];by_cases e1:a=b
 ·simp only[go_sem,h2,e1]; exact aa9 (by simp)
 by_cases e2:a=1
 ·subst e2;simp only[go_sem,h2,e1];exact aa9 (by simp)
 ·simp only[go_sem,h2,e1,e2];exact aa9 (by simp[e1,e2])
theorem iw8 (n:Str)(e:EVR):PC Tryz.prog EE 158 [.str n,.agg e.cs] (.agg (Dep.cs ⟨n,2,e⟩)):=by
 refine ad9 hE fok158 (nZ rfl) (ag4 (.str _) (bx8 e)) ?_;simp only[ic158,go_sem,EVR.cs,Dep.cs];exact .keep _ (.agg _ (is8 (.str _) (.int _ _) (.int _ _) (.str _) (.str _)))
theorem ia7 (p:aa3):PC Tryz.prog EE 94 [.agg p.cs] (.agg (own p).cs):=by
 refine ad9 hE fok94 (nZ rfl) (ah9 (al2 p)) ?_;have ho:=iw8 p.name p.evr;have hb:=an6 (own p);simp only[EVR.cs,Dep.cs,own] at ho hb;simp only[ic94,go_sem,aa3.cs,own,Dep.cs];refine aa2 fok158 (ho) ?_;simp only[go_sem];exact .keep _ hb
theorem fz2 (p:aa3):p.cs.head? = zh (.str p.name):=rfl
theorem ew4 (d:Dep):d.cs.head? = zh (.str d.name):=rfl
theorem bl7 (p:aa3)(d:Dep)(hp:Pkg.small p)(hd:Dep.small d):PC Tryz.prog EE 50 [.agg p.cs,.agg d.cs] (.bool (named p d)):=by
 refine ad9 hE fok50 (nZ rfl) (al4 (al2 p) (an6 d)) ?_;have ho:=ia7 p;have hm:=fg7 (own p) d (em8 hp) hd;have hnm:named p d=(decide (p.name=d.name)&&meet (own p) d):=rfl;rw[hnm];generalize hx:Dep.cs (own p)=x at ho hm;by_cases e:p.name=d.name
 ·have e':d.name=p.name:=e.symm;simp only[ic50,go_sem,ai8,ai1,ah1,ak2,ah7,ag7,fz2,ew4,e'];refine aa8 (ho) ?_;simp only[go_sem,ak2,ah7,ag7]
  first|refine aa2 fok93 (hm) ?_|refine aa8 (hm) ?_
  simp only[go_sem];exact aa9 (by simp)
 ·have e':¬ d.name=p.name:=fun h=>e h.symm
  simp only[ic50,go_sem,ai8,ai1,ah1,ak2,ah7,ag7,fz2,ew4,e'];exact aa9 (by simp[e])
theorem cf2 {α:Type}{q:α->Bool}{l:List α}{i:Nat}{a:α}(h:l.drop i=a::l.drop (i+1)):(l.drop i).any q=(q a||(l.drop (i+1)).any q):=by rw[h]; simp
theorem iw9 (p:aa3):(p.cs.drop 6).head? = zh (deps p.provides):=rfl
theorem jm9 (p:aa3):(p.cs.drop 9).head? = zh (deps p.aa7):=rfl
theorem fh1 (p:aa3):(p.cs.drop 14).head? = zh (strs p.files):=rfl
theorem ix1 (d:Dep):(d.cs.drop 1).head? = zh (.int .u8 d.op):=rfl
theorem cf3 (p:aa3)(d:Dep)(hp:Pkg.small p)(hd:Dep.small d):PC Tryz.prog EE 156 [.agg p.cs,.agg d.cs] (.bool (provides p d)):=by
 refine ad9 hE fok156 (nZ rfl) (al4 (al2 p) (an6 d)) ?_;have hn:=bl7 p d hp hd;have l1:=hp.2.2.2.1;have l2:=hp.2.2.2.2.2;have hpv:provides p d=(named p d||p.provides.any (fun a=>meets a d)||decide (d.op=0)&&p.files.contains d.name):=rfl;rw[hpv];simp only[ic156,go_sem,ai8,ai1,ah1,ak2,ah7,ag7];refine aa2 fok50 (hn) ?_
 cases hnb:named p d with
 | true=>simp only[go_sem]; exact aa9 (by simp)
 | false=>
 simp only[go_sem];refine ab2 noT (fun i fr s=>fr=[(2,.ab8 p.cs),(3,.ab8 d.cs),(5,.int .i64 (i:Int))]/\p.provides.any (fun a=>meets a d)=(p.provides.drop i).any (fun a=>meets a d)) p.provides.length ⟨rfl,rfl⟩ ?_;rintro i fr s hi ⟨rfl,ha⟩;by_cases hlt:i<p.provides.length
 ·obtain ⟨x,hx,hxi,hdr,hget,htk⟩:=ac7 p.provides i hlt;have d1:(i:Int)<p.provides.length:=om
  have d2:(0:Int)<=(i:Int):=om
  have w1:=ac2 (i:=i) om;have hm:=fg7 x d (hp.2.1 x hx) hd;have hms:meets x d=(decide (x.name=d.name)&&meet x d):=rfl;rw[cf2 hdr,hms] at ha;by_cases e:x.name=d.name
  ·simp only[go_sem,iw9,d1,d2,hget,ew4,ak2,ah7,ag7,e]
   first|refine aa2 fok93 (hm) ?_|refine aa8 (hm) ?_
   cases hb:meet x d with
   | true=>
    rw[hb] at ha;simp only[go_sem]
    exact aa9 (by rw[ha]; simp[e])
   | false=>
    rw[hb,Bool.and_false,zy] at ha;simp only[go_sem,w1];exact ⟨hlt,ha⟩
  ·rw[decide_eq_false e,zr,zy] at ha;simp only[go_sem,iw9,d1,d2,hget,ew4,ak2,ah7,ag7,e,w1];exact ⟨hlt,ha⟩
 have hi':i=p.provides.length:=om
 subst hi';have d1:¬ (p.provides.length:Int)<p.provides.length:=om
 rw[zc,List.any_nil] at ha;rw[ha];simp only[go_sem,iw9,d1];refine ab2 noT (fun i fr s=>fr=[(2,.ab8 p.cs),(3,.ab8 d.cs),(6,.int .i64 (i:Int))]/\(d.op=0->p.files.contains d.name=(p.files.drop i).contains d.name)) p.files.length ⟨rfl,fun _=>rfl⟩ ?_;rintro i fr s hi ⟨rfl,hf⟩;by_cases hlt:i<p.files.length
 ·obtain ⟨x,hx,hxi,hdr,hget,htk⟩:=ac7 p.files i hlt;have d1:(i:Int)<p.files.length:=om
  have d2:(0:Int)<=(i:Int):=om
  have w1:=ac2 (i:=i) om;have hgs:=hget bh4;by_cases e0:d.op=0
  ·have hf:=hf e0;rw[hdr,List.contains_cons] at hf;by_cases e:x=d.name
   ·have hin:p.files.contains d.name=true:=by rw[hf,e]; simp
    simp only[go_sem,fh1,d1,d2,hgs,bh4,ew4,ix1,e0,e];exact aa9 (by first|(rw[hin]; rfl)|rw[hin])
   ·have e2:(d.name==x)=false:=by simpa using fun h=>e h.symm
    rw[e2,zy] at hf;simp only[go_sem,fh1,d1,d2,hgs,bh4,ew4,ix1,e0,e,w1];exact ⟨hlt,fun _=>hf⟩
  ·simp only[go_sem,fh1,d1,d2,hgs,bh4,ew4,ix1,e0,w1];exact ⟨hlt,fun h=>by first|exact absurd h e0|exact h.elim⟩
 ·have hi':i=p.files.length:=om
  subst hi';have d1:¬ (p.files.length:Int)<p.files.length:=om
  rw[zc] at hf;simp only[go_sem,fh1,d1];refine aa9 ?_;by_cases e0:d.op=0
  ·rw[hf e0]; simp
  ·simp[e0]
theorem dh7 (p q:aa3)(hp:Pkg.small p)(hq:Pkg.small q):PC Tryz.prog EE 159 [.agg p.cs,.agg q.cs] (.bool (aa7 p q)):=by
 refine ad9 hE fok159 (nZ rfl) (al4 (al2 p) (al2 q)) ?_;have l1:=hp.2.2.2.2.1;have hob:aa7 p q=p.aa7.any fun d=>named q d:=rfl
 rw[hob];simp only[ic159,go_sem,ah1];refine ab2 noT (fun i fr s=>fr=[(2,.ab8 p.cs),(3,.ab8 q.cs),(5,.int .i64 (i:Int))]/\p.aa7.any (fun d=>named q d)=(p.aa7.drop i).any fun d=>named q d) p.aa7.length ⟨rfl,rfl⟩ ?_;rintro i fr s hi ⟨rfl,ha⟩;by_cases hlt:i<p.aa7.length
 ·obtain ⟨x,hx,hxi,hdr,hget,htk⟩:=ac7 p.aa7 i hlt;have d1:(i:Int)<p.aa7.length:=om
  have d2:(0:Int)<=(i:Int):=om
  have w1:=ac2 (i:=i) om;have hm:=bl7 q x hq (hp.2.2.1 x hx);rw[cf2 hdr] at ha;simp only[go_sem,jm9,d1,d2,hget,ai8,ai1,ah1,ak2,ah7,ag7];refine aa2 fok50 (hm) ?_
  cases hb:named q x with
  | true=>
   rw[hb,Bool.true_or] at ha;simp only[go_sem]
   exact aa9 ha.symm
  | false=>
   rw[hb,zy] at ha;simp only[go_sem,w1];exact ⟨hlt,ha⟩
 ·have hi':i=p.aa7.length:=om
  subst hi';have d1:¬ (p.aa7.length:Int)<p.aa7.length:=om
  rw[zc,List.any_nil] at ha;simp only[go_sem,jm9,d1];exact aa9 ha.symm
theorem bs4 (l:List Int):∀ x∈l.map Md.ae1,x.length=1/\x.all IV.leaf=true:=fun x hx=>by
 obtain ⟨n,_,rfl⟩:=zu.1 hx; exact ⟨rfl,rfl⟩
theorem ds6 (l:List aa3)(d:Dep)(hl:l.length<2^30)(hs:∀ p∈l,Pkg.small p)(hd:Dep.small d):PC Tryz.prog EE 162 [au3 l,.agg d.cs] (.aa4 ((am3 l d).map Md.ae1)):=by
 refine ad9 hE fok162 (nZ rfl) (al4 (aq4 l) (an6 d)) ?_;have hM:am3 l d=numsOf (fun p=>named p d) l:=rfl;rw[hM];simp only[ic162,go_sem,ag7];refine ab2 noT (fun i fr t=>∃ gv,fr=[(0,au3 l),(3,.ab8 d.cs),(5,gv),(6,.int .i64 (i:Int))]/\Grow t gv 1 ((numsOf (fun p=>named p d) (l.take i)).map Md.ae1)) l.length ⟨.aa1,rfl,.inl ⟨rfl,rfl⟩⟩ ?_;rintro i fr t hi ⟨gv,rfl,hg⟩;by_cases hlt:i<l.length
 ·obtain ⟨x,hx,hxi,hdr,hget,htk⟩:=ac7 l i hlt;have d1:(i:Int)<l.length:=om
  have d2:(0:Int)<=(i:Int):=om
  have w1:=ac2 (i:=i) om;have hm:=bl7 x d (hs x hx) hd;have hsn:=az7 (fun p=>named p d) (l.take i) x;rw[<- htk,zl,Nat.min_eq_left om] at hsn;simp only[go_sem,d1,d2,hget,ai8,ai1,ah1,ak2,ah7,ag7];refine aa2 fok50 (hm) ?_
  cases hb:named x d with
  | true=>
   rw[if_pos hb] at hsn;have hnl:=aj3 (fun p=>named p d) (l.take i);rw[zl] at hnl;obtain ⟨v',σ',h1,h2,h3⟩:=bg3 (n:=7) (nid:=t.next+6) (e:=[.int .i64 (i:Int)]) hg (bs4 _) ⟨rfl,rfl⟩ (by rw[zm]; omega) om om;have h1':ba5 ({ next:=t.next+6+1,obj:=t.obj }:Store) (t.next+6) 1 gv (.aa4 [[.int .i64 (i:Int)]])=zh (v',σ'):=h1;simp only[go_sem,h1',w1];refine ⟨hlt,v',rfl,?_⟩;rw[hsn,z3]
   exact h3
  | false=>
   rw[if_neg (by rw[hb]; simp),zo] at hsn;simp only[go_sem,w1];exact ⟨hlt,gv,rfl,by rw[hsn]; exact hg.mono (z1 _ _) fun _ _ _=>rfl⟩
 ·have hi':i=l.length:=om
  subst hi';have d1:¬ (l.length:Int)<l.length:=om
  rw[zk] at hg;simp only[go_sem,d1]
  exact hg.frz (fun x hx=>(bs4 _ x hx).1) (fun _ _=>zp _) fun e he c hc=>by
   obtain ⟨n,_,rfl⟩:=zu.1 he;exact ah9 (.int _ _) c hc
theorem ea9 (l:List aa3)(d:Dep)(hl:l.length<2^30)(hs:∀ p∈l,Pkg.small p)(hd:Dep.small d):PC Tryz.prog EE 161 [au3 l,.agg d.cs] (.aa4 ((aj7 l d).map Md.ae1)):=by
 refine ad9 hE fok161 (nZ rfl) (al4 (aq4 l) (an6 d)) ?_;have hM:aj7 l d=numsOf (fun p=>provides p d) l:=rfl;rw[hM];simp only[ic161,go_sem,ag7];refine ab2 noT (fun i fr t=>∃ gv,fr=[(0,au3 l),(3,.ab8 d.cs),(5,gv),(6,.int .i64 (i:Int))]/\Grow t gv 1 ((numsOf (fun p=>provides p d) (l.take i)).map Md.ae1)) l.length ⟨.aa1,rfl,.inl ⟨rfl,rfl⟩⟩ ?_;rintro i fr t hi ⟨gv,rfl,hg⟩;by_cases hlt:i<l.length
 ·obtain ⟨x,hx,hxi,hdr,hget,htk⟩:=ac7 l i hlt;have d1:(i:Int)<l.length:=om
  have d2:(0:Int)<=(i:Int):=om
  have w1:=ac2 (i:=i) om;have hm:=cf3 x d (hs x hx) hd;have hsn:=az7 (fun p=>provides p d) (l.take i) x;rw[<- htk,zl,Nat.min_eq_left om] at hsn;simp only[go_sem,d1,d2,hget,ai8,ai1,ah1,ak2,ah7,ag7];refine aa2 fok156 (hm) ?_
  cases hb:provides x d with
  | true=>
   rw[if_pos hb] at hsn;have hnl:=aj3 (fun p=>provides p d) (l.take i);rw[zl] at hnl;obtain ⟨v',σ',h1,h2,h3⟩:=bg3 (n:=7) (nid:=t.next+6) (e:=[.int .i64 (i:Int)]) hg (bs4 _) ⟨rfl,rfl⟩ (by rw[zm]; omega) om om;have h1':ba5 ({ next:=t.next+6+1,obj:=t.obj }:Store) (t.next+6) 1 gv (.aa4 [[.int .i64 (i:Int)]])=zh (v',σ'):=h1;simp only[go_sem,h1',w1];refine ⟨hlt,v',rfl,?_⟩;rw[hsn,z3]
   exact h3
  | false=>
   rw[if_neg (by rw[hb]; simp),zo] at hsn;simp only[go_sem,w1];exact ⟨hlt,gv,rfl,by rw[hsn]; exact hg.mono (z1 _ _) fun _ _ _=>rfl⟩
 ·have hi':i=l.length:=om
  subst hi';have d1:¬ (l.length:Int)<l.length:=om
  rw[zk] at hg;simp only[go_sem,d1]
  exact hg.frz (fun x hx=>(bs4 _ x hx).1) (fun _ _=>zp _) fun e he c hc=>by
   obtain ⟨n,_,rfl⟩:=zu.1 he;exact ah9 (.int _ _) c hc
end Go.Id.Tryz
namespace Go.Id.Tryz
open Go Go.Id Go.Proofs Go.Id.Md
def msV (m:Nat×Nat×Bool):IV:=.tuple [.int .i64 m.1,.int .i64 m.2.1,.bool m.2.2]
theorem fj6 {s:Store}(m:Nat×Nat×Bool):bw7 s 0 (.tuple [.int .i64 m.1,.int .i64 m.2.1,.bool m.2.2]) (msV m):=.keep _ (.tuple _ (as5 (.int _ _) (.int _ _) (.bool _)))
theorem gc1 (r:aa6):r.fit->r.count<2^31->PC Tryz.prog EE 189 [.agg r.cs] (msV r.ms):=by
 induction r using aa6.ind with
 | h k d xs ih=>
  intro hf hc;obtain ⟨f1,f2,f3,f4,f5⟩:=aa6.bc6.1 hf;have hms:∀ a∈xs,a.ms.1<=a.count/\a.ms.2.1<=a.count:=fun a _=>aa6.jl1 a
  refine ad9 hE fok189 (nZ rfl) (af1 (ae9 _)) ?_;by_cases k1:k=1
  ·subst k1;have hm:=bs5 d f3.1 f3.2.1 f3.2.2;by_cases h0:xs.length=0
   ·have h0':(xs.length:Int)=0:=om
    simp only[ic189,go_sem,aa6.ak5,aa6.kind,aa6.dep,aa6.args,h0'];refine aa2 fok61 (hm) ?_;simp only[go_sem];have e:aa6.ms (.mk 1 d xs)=(1,0,ai4 d):=by simp[aa6.ms,h0]
    rw[e]; exact fj6 (1,0,ai4 d)
   ·have h0':¬ (xs.length:Int)=0:=om
    simp only[ic189,go_sem,aa6.ak5,aa6.kind,aa6.dep,aa6.args,h0'];have e:aa6.ms (.mk 1 d xs)=(1,0,false):=by simp[aa6.ms,h0]
    rw[e]; exact fj6 (1,0,false)
  have e:aa6.ms (.mk k d xs)=((aa6.msL xs 1 0 (aq7 k d xs.length)).1,(aa6.msL xs 1 0 (aq7 k d xs.length)).2.1+1,(aa6.msL xs 1 0 (aq7 k d xs.length)).2.2):=by rw[aa6.ms,if_neg k1]
  have hdd:decide (d=by2)=(decide (d.name=[])&&(decide (d.op=0)&&(decide (d.evr.ai5=0)&&(decide (d.evr.ver=[])&&decide (d.evr.rel=[]))))):=by
   obtain ⟨n,o,e,v,r⟩:=d;simp only[by2,gc7,Dep.mk.injEq,EVR.mk.injEq,Bool.decide_and]
  have hg:∀ a∈xs,a.fit/\a.count<2^31/\a.count<=aa6.counts xs:=fun a ha=>by
   have h1:a.count<=aa6.counts xs:=by
    clear hc f4 f5 hms ih hdd e hf
    induction xs with
    | nil=>cases ha
    | cons y ys ihy=>
     simp only[aa6.counts];rcases z5.1 ha with rfl|ha
     ·omega
     ·have:=ihy ha; omega
   have h2:aa6.counts xs<2^31:=by simp only[aa6.count] at hc; omega
   exact ⟨f5 a ha,om,h1⟩
  have hcs:aa6.counts xs<2^31:=by simp only[aa6.count] at hc; omega
  -- what holds of Kinds and counts
  by_cases q1:1<k
  case' neg=>
   have hH:aq7 k d xs.length=false:=by simp[aq7,q1]
   simp only[ic189,go_sem,aa6.ak5,aa6.kind,aa6.dep,aa6.args,k1,q1]
  case' pos=>
   by_cases q2:k<=7
   case' neg=>
    have hH:aq7 k d xs.length=false:=by simp[aq7,q2]
    simp only[ic189,go_sem,aa6.ak5,aa6.kind,aa6.dep,aa6.args,k1,q1,q2]
   case' pos=>
    by_cases q3:d=by2
    case' neg=>
     have hd1:decide (d=by2)=false:=decide_eq_false q3;rw[hdd] at hd1;have hH:aq7 k d xs.length=false:=by simp[aq7,q3]
     simp only[ic189,go_sem,aa6.ak5,aa6.kind,aa6.dep,aa6.args,k1,q1,q2,hd1]
    case' pos=>
     have hd1:decide (d=by2)=true:=decide_eq_true q3;rw[hdd] at hd1;by_cases q4:2<=xs.length
     case' neg=>
      have q4':¬ (2:Int)<=xs.length:=om
      have hH:aq7 k d xs.length=false:=by simp[aq7,q4]
      simp only[ic189,go_sem,aa6.ak5,aa6.kind,aa6.dep,aa6.args,k1,q1,q2,hd1,q4']
     case' pos=>
      have q4':(2:Int)<=xs.length:=om
      obtain ⟨ks,hk1,hk2,hk3⟩:∃ ks,(if 0<=k/\k<8 then cu5 (k.toNat*2) (EE 2) else none)=zh (.ab8 ks)/\(ks.drop 1).head? = zh (.int .i64 (cv9 k))/\1<ks.length:=by
       have hk:k=2\/k=3\/k=4\/k=5\/k=6\/k=7:=om
       rcases hk with rfl|rfl|rfl|rfl|rfl|rfl<;>exact ⟨_,rfl,rfl,by decide⟩
      simp only[ic189,go_sem,aa6.ak5,aa6.kind,aa6.dep,aa6.args,k1,q1,q2,hd1,q4',hk1,hk2,hk3];by_cases q5:xs.length<=cv9 k
      case' neg=>
       have q5':¬ (xs.length:Int)<=cv9 k:=om
       have hH:aq7 k d xs.length=false:=by simp[aq7,q5]
       simp only[go_sem,q5']
      case' pos=>
       have q5':(xs.length:Int)<=cv9 k:=om
       have hH:aq7 k d xs.length=true:=by simp[aq7, *]
       simp only[go_sem,q5']
  all_goals
   rw[e]
   refine ab2 noT (fun i fr t=>∃ (p dd:Nat) (ok:Bool),fr=[(2,.int .i64 p),(3,.int .i64 dd),(4,.bool ok),(54,.aa4 (xs.map aa6.cs)),(55,.int .i64 xs.length),(56,.int .i64 (i:Int))]/\p+aa6.counts (xs.drop i)<=1+aa6.counts xs/\dd<=aa6.counts xs /\
    aa6.msL xs 1 0 (aq7 k d xs.length)=aa6.msL (xs.drop i) p dd ok) xs.length ⟨1,0,_,rfl,zd _,Nat.zero_le _,by rw[hH]; rfl⟩ ?_
   rintro i fr t hle ⟨p,dd,ok,rfl,hp,hdl,hI⟩;rw[hI];by_cases hlt:i<xs.length
   ·obtain ⟨x,hx,_,hdr,hget,htk⟩:=ac7 xs i hlt;have c1:(i:Int)<xs.length:=om
    have c2:(0:Int)<=i:=om
    have w1:=ac2 (i:=i) om;rw[hdr] at hp hI ⊢;obtain ⟨x1,x2,x3⟩:=hg x hx
    cases ok with
    | false=>
     have w3:=ac2 (i:=dd) om;simp only[go_sem,c1,c2,hget,ab5,ac8,ab6,w3,aa6.msL]
     exact fj6 (p,dd+1,false)
    | true=>
     have hA:=ih x hx x1 x2;have hml:=aa6.jl1 x;simp only[aa6.counts] at hp;have w2:IntKind.i64.wrap ((p:Int)+x.ms.1)=((p+x.ms.1:Nat):Int):=by rw[wrap64 om om]; omega
     simp only[go_sem,c1,c2,hget,ab5,ac8,ab6];refine aa2 fok189 (hA) ?_;simp only[go_sem,msV,w1,w2];have wm:(if (x.ms.2.1:Int)>dd then (x.ms.2.1:Int) else dd)=((max dd x.ms.2.1:Nat):Int):=by split<;>omega
     exact ⟨hlt,p+x.ms.1,max dd x.ms.2.1,x.ms.2.2,by rw[wm],om,om,by simp[aa6.msL]⟩
   ·have hi':i=xs.length:=om
    subst hi';have c1:¬ (xs.length:Int)<xs.length:=om
    have w3:=ac2 (i:=dd) om;rw[zc];simp only[go_sem,c1,w3,aa6.msL];exact fj6 (p,dd+1,ok)
theorem ig2 (r:aa6)(h1:r.fit)(h2:r.count<2^31):PC Tryz.prog EE 128 [.agg r.cs] (.bool (by7 r)):=by
 refine ad9 hE fok128 (nZ rfl) (af1 (ae9 _)) ?_;have h:=gc1 r h1 h2;unfold by7;generalize r.ms=m at *;obtain ⟨p,d,ok⟩:=m;simp only[ic128,go_sem,ab5,ac8,ab6];refine aa2 fok189 (h) ?_;have e1:((p:Int)<=24)=(p<=24):=by simp only[eq_iff_iff]; omega
 have e2:((d:Int)<=8)=(d<=8):=by simp only[eq_iff_iff]; omega
 cases ok with
 | false=>simp only[go_sem,msV]; exact ab3 _
 | true=>
  by_cases q1:p<=24
  ·have q1':(p:Int)<=24:=om
   by_cases q2:d<=8
   ·have q2':(d:Int)<=8:=om
    simp only[go_sem,msV,q1,q1',q2,q2']; exact ab3 _
   ·have q2':¬ (d:Int)<=8:=om
    simp only[go_sem,msV,q1,q1',q2,q2']; exact ab3 _
  ·have q1':¬ (p:Int)<=24:=om
   simp only[go_sem,msV,q1,q1']; exact ab3 _
end Go.Id.Tryz
namespace Go.Id.Tryz
open Go Go.Id Go.Proofs Go.Shelf Go.Id.Md
def eo4 (c:Nat->Bool)(n:Nat):List IV:=(zz n).map fun j=>.bool (c j)
theorem bo5 (c:Nat->Bool)(n:Nat):(eo4 c n).length=n:=by simp[eo4]
theorem gz9:∀ n:Nat,rep [IV.bool false] n=eo4 (fun _=>false) n:=by
 intro n
 have h:∀ m,rep [IV.bool false] m=List.replicate m (.bool false):=by
  intro m
  induction m with
  | zero=>rfl
  | succ m ih=>show [IV.bool false]++rep _ m=_; rw[ih]; rfl
 rw[h];exact List.ext_getElem (by simp[eo4]) fun i h1 h2=>by simp[eo4]
theorem fj7 (c:Nat->Bool){n i:Nat}(h:i<(eo4 c n).length):(eo4 c n)[i]=.bool (c i):=by simp[eo4]
theorem ig3 (c:Nat->Bool){n j:Nat}(h:j<n)(x:Bool):ay4 (eo4 c n) j [.bool x]=eo4 (fun i=>if i=j then x else c i) n:=by
 refine List.ext_getElem (by rw[ai2 (by rw[bo5]; simp only[zw]; omega),bo5,bo5]) fun i h1 h2=>?_
 rw[fj7];rw[bo5] at h2;unfold ay4;simp only[List.getElem_append,zl,bo5,List.getElem_take,List.getElem_drop,zq,zw,fj7];by_cases e:i=j
 ·subst e;have g1:¬ i<min i n:=om
  have g2:i<min i n+1:=om
  simp only[g1,g2,dite_false,dite_true,if_true,List.getElem_singleton]
 ·by_cases e2:i<j
  ·have g1:i<min j n:=om
   have g2:i<min j n+1:=om
   simp only[g1,g2,dite_true,e,if_false]
  ·have g1:¬ i<min j n:=om
   have g2:¬ i<min j n+1:=om
   have g3:j+1+(i-(min j n+1))=i:=om
   simp only[g2,g3,dite_false,e,if_false]
theorem jp1 {pt:PT}{ct:CT}{P:Program}{E:Nat->IV}{e id:Nat}{z:List IV}{x:IX}{fr:Frm}{σ:Store}{K:IV->Store->Prop}:opT pt ct P E (.dj4 e z x) id fr σ K=ca1 (dv3 (x.ev E fr)) fun n=>K (.slice id 0 n e) (σ.put id (.row (rep z n))):=rfl
theorem iz7 {K:Nat->Prop}(n:Nat)(h:n<=2147483648):ca1 (dv3 (.int .i64 (n:Int))) K=K n:=by
 have h1:(0:Int)<=n/\(n:Int)<=2147483648:=om
 show ca1 (if 0<=(n:Int)/\(n:Int)<=2147483648 then zh ((n:Int).toNat) else none) K=K n;rw[if_pos h1]; rfl
theorem ig4 {s:Store}{S:Nat->Prop}{id n:Nat}{c:Nat->Bool}(hid:¬ S id)(ho:s.obj id=zh (.row (eo4 c n))):Frz s S (.slice id 0 n 1) (.aa4 (((zz n).map c).map dy7)):=by
 have hl:(((zz n).map c).map dy7).length=n:=by simp
 refine .slice id 0 n 1 (eo4 c n) _ hid (.inr ho) hl (by rw[bo5]; omega) (fun i hi=>?_) fun i hi j hj=>?_
 ·simp[za,hi,dy7]
 ·have hj0:j=0:=om
  subst hj0;have e2:((((zz n).map c).map dy7).getD i []).getD 0 .undef=.bool (c i):=by simp[za,hi,dy7]
  have e3:(eo4 c n).getD (0+(i*1+0)) .undef=.bool (c i):=by simp[za,hi,eo4]
  rw[e2,e3];exact .keep _ (.bool _)
abbrev fj8 (st:List Bool):IV:=.aa4 (st.map dy7)
def an8 (l:List aa3):IV:=.ab8 [(aj2 l).v,.int .i64 l.length]
def ao8 (l:List aa3)(st:List Bool):List IV:=[an8 l,fj8 st]
theorem ha5 (st:List Bool):Bnd 0 (fj8 st):=.aa4 _ fun e he c hc=>by
 obtain ⟨b,_,rfl⟩:=zu.1 he
 cases hc with
 | head=>exact .bool _
 | tail _ h=>cases h
theorem aw1 (l:List aa3):Bnd 0 (an8 l):=.ab8 _ (ag4 (bg2 _) (.int _ _))
theorem en8 (l:List aa3)(st:List Bool):∀ c∈ao8 l st,Bnd 0 c:=ag4 (aw1 l) (ha5 st)
theorem fj9 (l:List aa3)(zs:List Int)(hl:l.length<=256)(hz:zs.length<2^40):PC Tryz.prog EE 129 [an8 l,.aa4 (zs.map Md.ae1)] (.agg (ao8 l (stB l.length zs))):=by
 refine ad9 hE fok129 (nZ rfl) (ag4 (aw1 l) (ad3 zs)) ?_;have hnc:(an8 l)=.ab8 [(aj2 l).v,.int .i64 l.length]:=rfl;simp only[ic129,go_sem,an8];simp only[jp1,iz7 _ (show l.length<=2147483648 by omega),go_sem];rw[gz9]
 refine ab2 noT (fun i fr t=>∃ c:Nat->Bool,fr=[(0,an8 l),(4,.ptr 0 0),(5,.ptr 2 0),(15,.aa4 (zs.map Md.ae1)),(16,.int .i64 zs.length),(17,.int .i64 (i:Int))]/\2<t.next/\t.obj 0=zh (.cells [.af3,.aa1])/\t.obj 1=zh (.row (eo4 c l.length)) /\
  t.obj 2=zh (.cells [an8 l,.slice 1 0 l.length 1])/\∀ j,j<l.length->c j=decide ((j:Int)∈zs.take i)) zs.length ⟨fun _=>false,rfl,by show 2<3; omega,rfl,rfl,rfl,fun j hj=>by simp⟩ ?_
 rintro i fr t hle ⟨c,rfl,hnx,o0,o1,o2,hc⟩;by_cases hlt:i<zs.length
 ·obtain ⟨x,hx,_,hdr,hget,htk⟩:=ac7 zs i hlt;have c1:(i:Int)<zs.length:=om
  have c2:(0:Int)<=i:=om
  have w1:=ac2 (i:=i) om;by_cases q1:0<=x
  ·by_cases q2:x<(l.length:Nat)
   ·have hxn:x.toNat<l.length:=om
    have r2:=ig3 c hxn true;have r3:x.toNat+1<=(eo4 c l.length).length:=by rw[bo5]; omega
    simp only[go_sem,c1,c2,hget,Md.ae1,q1,q2,an8,o2,o1,zv,z2,r2,r3,w1];refine ⟨hlt,fun i=>if i=x.toNat then true else c i,hnx,o0,rfl,fun j hj=>?_⟩
    ·show (if j=x.toNat then true else c j)=_;rw[htk];by_cases e:j=x.toNat
     ·rw[if_pos e];have:(j:Int)=x:=om
      simp[this]
     ·rw[if_neg e,hc j hj];have:¬ (j:Int)=x:=om
      simp[this]
   ·simp only[go_sem,c1,c2,hget,Md.ae1,q1,q2,an8,w1];refine ⟨hlt,c,hnx,o0,o1,o2,fun j hj=>?_⟩;have:¬ (j:Int)=x:=om
    rw[hc j hj,htk]; simp[this]
  ·simp only[go_sem,c1,c2,hget,Md.ae1,q1,w1];refine ⟨hlt,c,hnx,o0,o1,o2,fun j hj=>?_⟩;have:¬ (j:Int)=x:=om
   rw[hc j hj,htk]; simp[this]
 ·have hi':i=zs.length:=om
  subst hi';have c1:¬ (zs.length:Int)<zs.length:=om
  have hst:stB l.length zs=(zz l.length).map c:=by
   unfold stB;refine List.map_congr_left fun m hm=>?_
   rw[hc m (List.mem_range.1 hm),zk]
  simp only[go_sem,c1,o0,o1,o2];rw[hst];exact ⟨rfl,.jb8 (.cons (.keep _ (aw1 l)) (.cons (ig4 (zp _) (by rw[aa5,if_neg (by decide)]; exact o1)) .nil))⟩
end Go.Id.Tryz
namespace Go.Id.Tryz
open Go Go.Id Go.Proofs Go.Shelf Go.Id.Md
theorem if8 (r:aa6):r.fit->PC Tryz.prog EE 152 [.agg r.cs] (.bool r.part):=by
 induction r using aa6.ind with
 | h k d xs ih=>
  intro hf;obtain ⟨f1,f2,f3,f4,f5⟩:=aa6.bc6.1 hf;have hbA:=ae9 (.mk k d xs);have hm:=ea7 d f3.1 f3.2.1 f3.2.2;have he:allEq [2,1,1,2,2] [.str d.name,.int .u8 d.op,.int .i64 d.evr.ai5,.str d.evr.ver,.str d.evr.rel] [.str [],.int .u8 0,.int .i64 0,.str [],.str []]=zh (decide (d=by2)):=gs4 d;unfold Dep.cs at hm;rw[aa6.ak5] at hbA ⊢;simp only[aa6.part,aa6.ej9];have hA:=fun x hx=>ih x hx (f5 x hx)
  clear ih;by_cases k1:k=1
  ·subst k1;refine ad9 hE fok152 (nZ rfl) (ah9 hbA) ?_;have e0:decide ((xs.length:Int)=0)=decide (xs.length=0):=decide_eq_decide.2 om;simp only[ic152,go_sem,aa6.kind,aa6.args,aa6.dep];refine aa2 fok71 (hm) ?_
   cases ai4 d with
   | true=>simp only[go_sem,e0]; exact aa9 (by simp)
   | false=>simp only[go_sem]; exact aa9 (by simp)
  rw[if_neg k1];by_cases hh:headD k xs.length=true
  case neg=>
   have hz:headD k xs.length=false:=by simpa using hh
   rw[hz,zr];refine ad9 hE fok152 (nZ rfl) (ah9 hbA) ?_;unfold headD at hz;by_cases k236:k=2\/k=3\/k=6
   ·rw[if_pos k236] at hz;have c1:(xs.length:Int)<2:=by simp at hz; omega
    rcases k236 with rfl|rfl|rfl<;>(simp only[ic152,go_sem,zb,aa6.kind,aa6.args,aa6.dep,c1]; exact aa9 rfl)
   rw[if_neg k236] at hz;by_cases k45:k=4\/k=5
   ·rw[if_pos k45] at hz;have c1:¬ (xs.length:Int)=2:=by simp at hz; omega
    have c2:¬ (xs.length:Int)=3:=by simp at hz; omega
    rcases k45 with rfl|rfl<;>(simp only[ic152,go_sem,zb,aa6.kind,aa6.args,aa6.dep,c1,c2]; exact aa9 rfl)
   rw[if_neg k45] at hz;by_cases k7:k=7
   ·rw[if_pos k7] at hz;have c1:¬ (xs.length:Int)=2:=by simp at hz; omega
    subst k7;simp only[ic152,go_sem,zb,aa6.kind,aa6.args,aa6.dep,c1]; exact aa9 rfl
   ·simp only[not_or] at k236 k45;simp only[ic152,go_sem,aa6.kind,aa6.args,aa6.dep,k1,k236.1,k236.2.1,k236.2.2,k45.1,k45.2,k7]; exact aa9 rfl
  rw[hh,zj];refine gl8 hE fok152 (nZ rfl) (ah9 hbA) ?_;simp only[aa6.kind,aa6.args,aa6.dep] at *;obtain ⟨rc,hrc⟩:∃ rc,rc=[IV.int .u8 k,.str d.name,.int .u8 d.op,.int .i64 d.evr.ai5,.str d.evr.ver,.str d.evr.rel,.aa4 (xs.map aa6.cs)]:=⟨_,rfl⟩;have r0:rc.head? = zh (.int .u8 k):=by rw[hrc]; rfl
  have r6:(rc.drop 6).head? = zh (.aa4 (xs.map aa6.cs)):=by rw[hrc]; rfl
  have r1:(rc.drop 1).take 5=[.str d.name,.int .u8 d.op,.int .i64 d.evr.ai5,.str d.evr.ver,.str d.evr.rel]:=by rw[hrc]; rfl
  have rl:rc.length=7:=by rw[hrc]; rfl
  have rk:rc.take 7=rc:=by rw[hrc]; rfl
  have rf:rc.all IV.leaf=true:=by rw[hrc]; rfl
  have rl1:(rc.drop 1).length=6:=by rw[hrc]; rfl
  rw[<- hrc];clear hrc hbA;simp only[ic152,go_sem];refine ac3 (ae2 ?_);simp only[go_sem,rl,rk,rf];refine ac3 (ae2 ?_);simp only[go_sem,r0,k1];refine ac3 (ae2 ?_);simp only[go_sem,r6];refine ac3 (ao1 (Q:=fun e f s=>e=.normal/\∃ rst:Frm,f=(1,.ab8 rc)::(3,.int .i64 xs.length)::rst) (ae2 ?_) ?_)
  ·unfold headD at hh;by_cases k236:k=2\/k=3\/k=6
   ·rw[if_pos k236] at hh;have c1:¬ (xs.length:Int)<2:=by simp at hh; omega
    rcases k236 with rfl|rfl|rfl<;>(simp only[go_sem,zb,r0,c1]; exact ⟨_,rfl⟩)
   rw[if_neg k236] at hh;by_cases k45:k=4\/k=5
   ·rw[if_pos k45] at hh;have c1:(xs.length:Int)=2\/(xs.length:Int)=3:=by simp at hh; omega
    rcases k45 with rfl|rfl<;>rcases c1 with c1|c1<;>(simp only[go_sem,zb,r0,c1]; exact ⟨_,rfl⟩)
   rw[if_neg k45] at hh;by_cases k7:k=7
   ·rw[if_pos k7] at hh;have c1:(xs.length:Int)=2:=by simp at hh; omega
    subst k7;simp only[go_sem,zb,r0,c1];exact ⟨_,rfl⟩
   ·rw[if_neg k7] at hh; cases hh
  rintro e f s ⟨rfl,rst,rfl⟩;simp only[go_sem];refine ae2 ?_;simp only[go_sem];refine ab2 noT (fun i fr t=>fr=[(1,.ab8 rc),(3,.int .i64 xs.length),(4,.int .i64 (i:Int))]/\(xs.drop i).all aa6.part=xs.all aa6.part) xs.length ⟨rfl,rfl⟩ ?_;rintro i fr t hi ⟨rfl,ha⟩;by_cases hlt:i<xs.length
  ·obtain ⟨x,hx,_,hdr,hget,_⟩:=ac7 xs i hlt;have d1:(i:Int)<xs.length:=om
   have d2:(0:Int)<=i:=om
   have w1:=ac2 (i:=i) om;have hl:x.cs.all IV.leaf=true:=by rw[aa6.ak5]; rfl
   have ht:x.cs.take 7=x.cs:=ze (by rw[ab5]; exact zd _);have hAx:=hA x hx;rw[hdr,z6] at ha;simp only[go_sem,d1,d2,r6,hget,ab5,ht,hl];refine aa2 fok152 (hAx) ?_
   cases hb:x.part with
   | true=>
    rw[hb,zj] at ha;simp only[go_sem,w1]
    exact ⟨hlt,ha⟩
   | false=>
    rw[hb,zr] at ha;simp only[go_sem];exact aa9 (by rw[<- ha]; rfl)
  ·have d1:¬ (i:Int)<xs.length:=om
   have e:i=xs.length:=om
   subst e;rw[zc] at ha;simp only[go_sem,d1,rl1,r1,he,zt];exact aa9 (by rw[<- ha]; rfl)
theorem gz1 (r:aa6):r.fit->r.count<2^62->PC Tryz.prog EE 153 [.agg r.cs] (.int .i64 r.count):=by
 induction r using aa6.ind with
 | h k d xs ih=>
  intro hf hc;obtain ⟨f1,f2,f3,f4,f5⟩:=aa6.bc6.1 hf;refine ad9 hE fok153 (nZ rfl) (af1 (ae9 _)) ?_;rw[aa6.ak5];simp only[aa6.count] at hc ⊢;simp only[ic153,go_sem,aa6.kind,aa6.args,aa6.dep];refine ab2 noT (fun i fr σ=>∃ n:Nat,fr=[(1,.ab8 [.int .u8 k,.str d.name,.int .u8 d.op,.int .i64 d.evr.ai5,.str d.evr.ver,.str d.evr.rel,.aa4 (xs.map aa6.cs)]),(3,.int .i64 n),(4,.int .i64 i)]/\n+aa6.counts (xs.drop i)=aa6.counts xs+1) xs.length ⟨1,rfl,by simp; omega⟩ ?_;rintro i fr σ hi ⟨n,rfl,hn⟩;by_cases hlt:i<xs.length
  ·obtain ⟨a,ha,_,hdr,hget,_⟩:=ac7 xs i hlt;have c1:(i:Int)<xs.length:=om
   have c2:(0:Int)<=i:=om
   have w1:=ac2 (i:=i) om;rw[hdr] at hn;simp only[aa6.counts] at hn;have hcm:=aa6.bx2 ha;have hl:a.cs.all IV.leaf=true:=by rw[aa6.ak5]; rfl
   have ht:a.cs.take 7=a.cs:=ze (by rw[ab5]; exact zd _);have hA:=ih a ha (f5 a ha) om;have w2:IntKind.i64.wrap ((n:Int)+(a.count:Int))=((n+a.count:Nat):Int):=by rw[wrap64 om om]; omega
   simp only[go_sem,c1,c2,hget,ab5,ht,hl,zx];refine aa2 fok153 (hA) ?_;simp only[go_sem,w2,w1];exact ⟨hlt,n+a.count,rfl,om⟩
  ·have d1:¬ (i:Int)<xs.length:=om
   have e:i=xs.length:=om
   subst e;rw[zc] at hn;simp only[aa6.counts] at hn;simp only[go_sem,d1];exact bg4 om
theorem if9 (r:aa6):r.fit->r.depth<2^62->PC Tryz.prog EE 154 [.agg r.cs] (.int .i64 r.depth):=by
 induction r using aa6.ind with
 | h k d xs ih=>
  intro hf hd;obtain ⟨f1,f2,f3,f4,f5⟩:=aa6.bc6.1 hf;refine ad9 hE fok154 (nZ rfl) (af1 (ae9 _)) ?_;rw[aa6.ak5];by_cases hk:k=1
  ·simp only[ic154,go_sem,aa6.kind,aa6.depth,hk];exact ad5 _ _
  ·simp only[aa6.depth,hk,if_false] at hd ⊢;simp only[ic154,go_sem,aa6.kind,aa6.args,aa6.dep,hk];refine ab2 noT (fun i fr σ=>∃ n:Nat,fr=[(1,.ab8 [.int .u8 k,.str d.name,.int .u8 d.op,.int .i64 d.evr.ai5,.str d.evr.ver,.str d.evr.rel,.aa4 (xs.map aa6.cs)]),(3,.int .i64 n),(4,.int .i64 i)]/\max n (aa6.ax2 (xs.drop i))=aa6.ax2 xs) xs.length ⟨0,rfl,by simp⟩ ?_;rintro i fr σ hi ⟨n,rfl,hn⟩;by_cases hlt:i<xs.length
   ·obtain ⟨a,ha,_,hdr,hget,_⟩:=ac7 xs i hlt;have c1:(i:Int)<xs.length:=om
    have c2:(0:Int)<=i:=om
    have w1:=ac2 (i:=i) om;rw[hdr,ca7] at hn;have hl:a.cs.all IV.leaf=true:=by rw[aa6.ak5]; rfl
    have ht:a.cs.take 7=a.cs:=ze (by rw[ab5]; exact zd _);have hA:=ih a ha (f5 a ha) om
    have hmx:mmI true (.int .i64 n) (.int .i64 a.depth)=zh (.int .i64 ((max n a.depth:Nat):Int)):=by
     show zh (IV.int .i64 (if (a.depth:Int)>n then (a.depth:Int) else n))=_;congr 2; split<;>omega
    simp only[go_sem,c1,c2,hget,ab5,ht,hl,zx];refine aa2 fok154 (hA) ?_;simp only[go_sem,hmx,w1];exact ⟨hlt,max n a.depth,rfl,by rw[<- hn]; omega⟩
   ·have d1:¬ (i:Int)<xs.length:=om
    have e:i=xs.length:=om
    subst e;rw[zc] at hn;simp only[aa6.ax2] at hn;have w2:IntKind.i64.wrap ((n:Int)+1)=((n+1:Nat):Int):=ac2 (i:=n) om;simp only[go_sem,d1,w2];exact bg4 om
theorem gz2 (r:aa6)(h1:r.fit)(h2:r.count<2^62)(h3:r.depth<2^62):PC Tryz.prog EE 90 [.agg r.cs] (.bool (by7 r)):=by
 refine ad9 hE fok90 (nZ rfl) (af1 (ae9 _)) ?_;have p1:=if8 r h1;have p2:=gz1 r h1 h2;have p3:=if9 r h1 h3;have hl:r.cs.all IV.leaf=true:=by rw[aa6.ak5]; rfl
 have ht:r.cs.take 7=r.cs:=ze (by rw[ab5]; exact zd _);rw[go6];simp only[ic90,go_sem,hl,ht,ab5];refine aa2 fok152 (p1) ?_
 cases r.part with
 | false=>simp only[go_sem]; exact aa9 rfl
 | true=>
  simp only[go_sem,hl,ht,ab5];refine aa2 fok153 (p2) ?_;by_cases q:r.count<=24
  ·have q':(r.count:Int)<=24:=om
   have e2:decide ((r.depth:Int)<=8)=decide (r.depth<=8):=decide_eq_decide.2 om;simp only[go_sem,q',hl,ht,ab5];refine aa2 fok154 (p3) ?_;simp only[go_sem,e2];exact aa9 (by simp[q])
  ·have q':¬ (r.count:Int)<=24:=om
   simp only[go_sem,q'];exact aa9 (by simp[q])
end Go.Id.Tryz
namespace Go.Id.Tryz
open Go Go.Id Go.Proofs Go.Shelf Go.Id.Md
theorem en4 {d:Dep}(h:ai4 d=true):Dep.small d:=by
 obtain ⟨h1,h2,h3,h4⟩:=dy4 h;exact ⟨h1,h2,by have:=h3.1; omega,by have:=h3.2; omega⟩
theorem af2 (l:List aa3)(st:List Bool):(ao8 l st).all IV.leaf=true:=rfl
theorem ag2 (l:List aa3)(st:List Bool):(ao8 l st).take 2=ao8 l st:=rfl
theorem af7 (l:List aa3)(st:List Bool):(ao8 l st).length=2:=rfl
theorem gz3 (l:List aa3)(st:List Bool):((ao8 l st).drop 1).head? = zh (fj8 st):=rfl
theorem gz4 (l:List aa3)(st:List Bool):(ao8 l st).head? = zh (an8 l):=rfl
theorem en5 {st:List Bool}{n:Nat}(h:n<st.length):(st.map dy7).getD n []=[.bool (st.getD n false)]:=by simp[za,h,dy7]
abbrev gz5 (l:List aa3)(r:aa6):Prop:=∀ st:List Bool,st.length=l.length->PC Tryz.prog EE 130 [.agg (ao8 l st),.agg r.cs] (.bool (r.tr l st))
theorem ap8 (l:List aa3)(st:List Bool):Bnd 0 (.agg (ao8 l st)):=.agg _ (en8 l st)
theorem du1 (l:List aa3)(st:List Bool):Bnd 0 (.ab8 (ao8 l st)):=.ab8 _ (en8 l st)
theorem cg9 (r:aa6):Bnd 0 (.ab8 r.cs):=.ab8 _ (ec3 r)
theorem jy7 (d:Dep)(xs:List aa6)(k:Int):((aa6.mk k d xs).cs.drop 1).take 5=d.cs:=by rw[aa6.ak5]; rfl
theorem jo6 (d:Dep)(xs:List aa6)(k:Int):((aa6.mk k d xs).cs.drop 1).length=6:=by rw[aa6.ak5]; rfl
theorem bp1 (d:Dep)(xs:List aa6)(k:Int):((aa6.mk k d xs).cs.drop 6).head? = zh (ai9 xs):=by rw[aa6.ak5]; rfl
theorem df6 (d:Dep)(xs:List aa6)(k:Int):(aa6.mk k d xs).cs.head? = zh (.int .u8 k):=by rw[aa6.ak5]; rfl
theorem en6 {xs:List aa6}{n:Nat}(h:n<xs.length):(xs.map aa6.cs).getD n []=(xs[n]).cs:=by simp[za,h]
theorem ig1 (l:List aa3)(st:List Bool)(n:Nat)(h:n<st.length):PC Tryz.prog EE 236 [.int .i64 n,.ab8 (ao8 l st)] (.bool (st.getD n false)):=by
 refine ad9 hE fok236 (nZ rfl) (ag4 (.int _ _) (du1 l st)) ?_;have c1:(n:Int)<st.length:=om
 have c2:(0:Int)<=n:=om
 have g:=en5 h;simp only[ic236,go_sem,af7,gz3,c1,c2,g];exact aa9 rfl
theorem iz5 (l:List aa3)(hl:l.length<=256)(hs:∀ p∈l,Pkg.small p)(st:List Bool)(hst:st.length=l.length)(d:Dep)(hd:ai4 d=true) :
  PC Tryz.prog EE 190 [.agg (ao8 l st),.agg (aa6.mk 1 d []).cs] (.bool ((aj7 l d).any fun n=>st.getD n.toNat false)):=by
 refine ad9 hE fok190 (nZ rfl) (ag4 (ap8 l st) (ae9 _)) ?_;have h1:=bs7 l d om hs (en4 hd)
 have h2:=bm2 (aj7 l d) 236 [] [.ab8 (ao8 l st)] (fun n=>st.getD n.toNat false) (by have:=aj3 (fun p=>provides p d) l; unfold aj7; omega) fok236.1 fun x hx=>by
  obtain ⟨m,rfl,hm⟩:=numsOf_at hx;rw[zg];exact ig1 l st m om
 have ht:an8 l=.ab8 [(aj2 l).v,.int .i64 l.length]:=rfl;have h7:=ab6 (.mk 1 d []);simp only[ic190,go_sem,af7,af2,gz4,ab5,h7,jy7,jo6,ht]
 first|refine aa2 fok235 (h1) ?_|refine aa8 (h1) ?_
 simp only[go_sem,af7,af2]
 first|refine aa2 fok84 (h2) ?_|refine aa8 (h2) ?_
 simp only[go_sem];exact aa9 rfl
theorem iz6 (l:List aa3)(st:List Bool)(hst:st.length=l.length)(x:aa6)(hx:gz5 l x):PC Tryz.prog EE 237 [.agg x.cs,.ab8 (ao8 l st)] (.bool !(x.tr l st)):=by
 refine ad9 hE fok237 (nZ rfl) (ag4 (ae9 _) (du1 l st)) ?_;have h:=hx st hst;simp only[ic237,go_sem,af7,ag2,af2,ab5,ac8,ab6]
 first|refine aa2 fok130 (h) ?_|refine aa8 (h) ?_
 simp only[go_sem];exact aa9 rfl
theorem in6 (l:List aa3)(st:List Bool)(hst:st.length=l.length)(k:Int)(d:Dep)(xs:List aa6)(hn:xs.length<2^62)(hx:∀ x∈xs,gz5 l x):PC Tryz.prog EE 191 [.agg (ao8 l st),.agg (aa6.mk k d xs).cs] (.bool ((aa6.trs l xs).all fun f=>f st)):=by
 refine ad9 hE fok191 (nZ rfl) (ag4 (ap8 l st) (ae9 _)) ?_;have h:=cr5 xs 237 [] [.ab8 (ao8 l st)] (fun x=>!(x.tr l st)) hn fok237.1 fun x hm=>iz6 l st hst x (hx x hm)
 have e:(aa6.trs l xs).all (fun f=>f st)=!xs.any fun x=>!(x.tr l st):=by
  rw[aa6.bj1,List.all_map,List.not_any_eq_all_not];congr 1; funext x; simp
 have h7:=ab6 (.mk k d xs);rw[e];simp only[ic191,go_sem,af7,af2,ab5,h7,bp1];refine aa2 fok222 (h) ?_;simp only[go_sem];exact aa9 rfl
theorem jo7 (l:List aa3)(st:List Bool)(hst:st.length=l.length)(k:Int)(d:Dep)(xs:List aa6)(hn:xs.length<2^62)(hx:∀ x∈xs,gz5 l x):PC Tryz.prog EE 192 [.agg (ao8 l st),.agg (aa6.mk k d xs).cs] (.bool ((aa6.trs l xs).any fun f=>f st)):=by
 refine ad9 hE fok192 (nZ rfl) (ag4 (ap8 l st) (ae9 _)) ?_;have h:=cr5 xs 130 [.agg (ao8 l st)] [] (fun x=>x.tr l st) hn fok130.1 fun x hm=>hx x hm st hst
 have e:(aa6.trs l xs).any (fun f=>f st)=xs.any fun x=>x.tr l st:=by
  rw[aa6.bj1,List.any_map]; rfl
 have h7:=ab6 (.mk k d xs);rw[e];simp only[ic192,go_sem,af7,af2,ag2,ab5,h7,bp1];refine aa2 fok222 (h) ?_;simp only[go_sem];exact aa9 rfl
theorem en7 {l:List aa3}{xs:List aa6}{n:Nat}(h:n<xs.length)(st:List Bool):((aa6.trs l xs).getD n ff) st=(xs[n]).tr l st:=by rw[aa6.bj1]; simp[za,h]
theorem gz6 (l:List aa3)(xs:List aa6):(aa6.trs l xs).length=xs.length:=by rw[aa6.bj1,zm]
theorem jo8 (l:List aa3)(st:List Bool)(hst:st.length=l.length)(k:Int)(d:Dep)(xs:List aa6)(hn:2<=xs.length)(hx:∀ x∈xs,gz5 l x):PC Tryz.prog EE 193 [.agg (ao8 l st),.agg (aa6.mk k d xs).cs]
  (.bool (if ((aa6.trs l xs).getD 1 ff) st then ((aa6.trs l xs).getD 0 ff) st else decide ((aa6.trs l xs).length<3)||((aa6.trs l xs).getD 2 ff) st)):=by
 refine ad9 hE fok193 (nZ rfl) (ag4 (ap8 l st) (ae9 _)) ?_;have n0:0<xs.length:=om
 have n1:1<xs.length:=om
 have h0:=hx _ (zi n0) st hst;have h1:=hx _ (zi n1) st hst;have g0:=en6 n0;have g1:=en6 n1;have c0:(0:Int)<xs.length:=om
 have c1:(1:Int)<xs.length:=om
 have h7:=ab6 (.mk k d xs);rw[en7 n1,en7 n0,gz6];simp only[ic193,go_sem,af7,af2,ag2,ab5,h7,bp1,c0,c1,g0,g1,ac8,ab6]
 first|refine aa2 fok130 (h1) ?_|refine aa8 (h1) ?_
 cases xs[1].tr l st with
 | true=>
  simp only[go_sem,af7,af2,ag2,ab5,h7,bp1,c0,c1,g0,g1,ac8,ab6]
  first|refine aa2 fok130 (h0) ?_|refine aa8 (h0) ?_
  simp only[go_sem]
  exact aa9 rfl
 | false=>
  by_cases q:xs.length<3
  ·have q':(xs.length:Int)<3:=om
   simp only[go_sem,af7,af2,ag2,ab5,h7,bp1,q'];exact aa9 (by simp[q])
  ·have q':¬ (xs.length:Int)<3:=om
   have n2:2<xs.length:=om
   have h2:=hx _ (zi n2) st hst;have g2:=en6 n2;have c2:(2:Int)<xs.length:=om
   rw[en7 n2];simp only[go_sem,af7,af2,ag2,ab5,h7,bp1,q',c2,g2,ac8,ab6]
   first|refine aa2 fok130 (h2) ?_|refine aa8 (h2) ?_
   simp only[go_sem];exact aa9 (by simp[q])
theorem gz7 (l:List aa3)(st:List Bool)(hst:st.length=l.length)(k:Int)(d:Dep)(xs:List aa6)(hn:2<=xs.length)(hn2:xs.length<2^31)(hx:∀ x∈xs,gz5 l x):PC Tryz.prog EE 194 [.agg (ao8 l st),.agg (aa6.mk k d xs).cs]
  (.bool (if ((aa6.trs l xs).getD 1 ff) st then decide ((aa6.trs l xs).length=3)&&((aa6.trs l xs).getD 2 ff) st else ((aa6.trs l xs).getD 0 ff) st)):=by
 refine ad9 hE fok194 (nZ rfl) (ag4 (ap8 l st) (ae9 _)) ?_;have n0:0<xs.length:=om
 have n1:1<xs.length:=om
 have h0:=hx _ (zi n0) st hst;have h1:=hx _ (zi n1) st hst;have g0:=en6 n0;have g1:=en6 n1;have c0:(0:Int)<xs.length:=om
 have c1:(1:Int)<xs.length:=om
 have h7:=ab6 (.mk k d xs);rw[en7 n1,en7 n0,gz6];simp only[ic194,go_sem,af7,af2,ag2,ab5,h7,bp1,c0,c1,g0,g1,ac8,ab6]
 first|refine aa2 fok130 (h1) ?_|refine aa8 (h1) ?_
 cases xs[1].tr l st with
 | false=>
  simp only[go_sem,af7,af2,ag2,ab5,h7,bp1,c0,c1,g0,g1,ac8,ab6]
  first|refine aa2 fok130 (h0) ?_|refine aa8 (h0) ?_
  simp only[go_sem]
  exact aa9 rfl
 | true=>
  by_cases q:xs.length=3
  ·have q':(xs.length:Int)=3:=om
   have n2:2<xs.length:=om
   have h2:=hx _ (zi n2) st hst;have g2:=en6 n2;have c2:(2:Int)<3:=om
   rw[en7 n2];simp only[go_sem,af7,af2,ag2,ab5,h7,bp1,q',c2,g2,ac8,ab6]
   first|refine aa2 fok130 (h2) ?_|refine aa8 (h2) ?_
   simp only[go_sem];exact aa9 (by simp[q])
  ·have q':¬ (xs.length:Int)=3:=om
   simp only[go_sem,af7,af2,ag2,ab5,h7,bp1,q'];exact aa9 (by simp[q])
end Go.Id.Tryz
namespace Go.Id.Tryz
open Go Go.Id Go.Proofs Go.Shelf Go.Id.Md
theorem df7 {α:Type}(q:α->Bool):∀ (l:List α) (i:Int),ai7 q l i=-1/\(∀ x∈l,q x=false)\/∃ k,∃ h:k<l.length,ai7 q l i=i+k/\q l[k]=true/\∀ x∈l.take k,q x=false:=by
 intro l
 induction l with
 | nil=>intro i; exact .inl ⟨rfl,fun x h=>by cases h⟩
 | cons a l ih=>
  intro i;simp only[ai7]
  cases hq:q a with
  | true=>exact .inr ⟨0,by simp,by simp,by simpa using hq,fun x h=>by cases h⟩
  | false=>
   simp only[Bool.false_eq_true,if_false];rcases ih (i+1) with ⟨h1,h2⟩|⟨k,h,h1,h2,h3⟩
   ·exact .inl ⟨h1,fun x hx=>by
     rcases z5.1 hx with rfl|hx
     ·exact hq
     ·exact h2 x hx⟩
   ·refine .inr ⟨k+1,by simp only[List.length_cons]; omega,by rw[h1]; omega,by simpa using h2,fun x hx=>?_⟩;rw[List.take_succ_cons] at hx;rcases z5.1 hx with rfl|hx
    ·exact hq
    ·exact h3 x hx
theorem df8 {q:Int->Bool}{l:List Int}(h:∀ x∈l,q x=false):(l.filter fun x=>!q x)=l:=List.filter_eq_self.2 fun x hx=>by rw[h x hx]; rfl
theorem fj5 {σ:Store}{id:Nat}{cs:List IV}{zs:List Int}(ho:σ.obj id=zh (.row cs))(hct:cs.take zs.length=zs.map dh2)(hcl:zs.length<=cs.length):bw7 σ 0 (.slice id 0 zs.length 1) (.aa4 (zs.map Md.ae1)):=by
 refine .slice id 0 zs.length 1 cs (zs.map Md.ae1) (zp _) (.inr ho) (by rw[zm]) om (fun i hi=>?_) fun i hi j hj=>?_
 ·simp[za,hi,Md.ae1]
 ·have hj0:j=0:=om
  subst hj0;have e2:((zs.map Md.ae1).getD i []).getD 0 .undef=dh2 zs[i]:=by simp[za,hi,Md.ae1]
  rw[e2,zv,z2,z7,er7 hct hi];exact .keep _ (.int _ _)
theorem gz8 {σ:Store}{id g:Nat}{cap cs0:List IV}{zs:List Int}(q:Int->Bool)(hz:zs.length<2^40)(ho:σ.obj id=zh (.row cs0))(hct:cs0.take zs.length=zs.map dh2)(hcl:zs.length<=cs0.length)
  (hok:okF Tryz.prog g=true) (hcap:∀ c∈cap,Bnd 0 c) (hq:∀ z∈zs,PC Tryz.prog EE g (.int .i64 z::cap) (.bool (q z))) :
  C Tryz.prog EE 131 [.slice id 0 zs.length 1,.func (.func g) [] cap] σ (fun v s=>σ.next<=s.next/\(∀ i,i≠id->s.obj i=σ.obj i) /\
   ∃ cs,v=.slice id 0 (zs.filter fun x=>!q x).length 1/\s.obj id=zh (.row cs)/\cs.take (zs.filter fun x=>!q x).length=(zs.filter fun x=>!q x).map dh2/\(zs.filter fun x=>!q x).length<=cs.length):=by
 refine C_f fok131 (nZ rfl) ?_;simp only[ic131,go_sem]
 have hI:=be6 (σ:=σ) (args:=[.slice id 0 zs.length 1,.func (.func g) [] cap]) (args':=[.aa4 (zs.map Md.ae1),.func (.func g) [] cap]) hE rfl (fun i hi=>by
  match i,hi with
  | 0,_=>exact fj5 ho hct hcl
  | 1,_=>exact .keep _ (.func _ _ _ (fun c hc=>by cases hc) hcap)) (by simp[IV.plain]) (df3 zs g [] cap q om hok hq)
 refine ag1 fok134 hI ?_;rintro v s ⟨rfl,rfl⟩;refine ⟨zd _,?_⟩;rcases df7 q zs 0 with ⟨h1,h2⟩|⟨i0,hi0,h1,h2,h3⟩
 ·simp only[go_sem,h1,df8 h2];exact ⟨zd _,fun _ _=>trivial,cs0,ho,hct,hcl⟩
 have h1':ai7 q zs 0=(i0:Int):=by rw[h1]; omega
 have d1:¬ (i0:Int)=-1:=om
 have w0:=ac2 (i:=i0) om;simp only[go_sem,h1',d1,w0]
 refine ab2 noT (fun j fr t=>∃ (k:Nat) (cs:List IV),fr=[(0,.slice id 0 zs.length 1),(1,.func (.func g) [] cap),(5,.int .i64 (k:Int)),(6,.int .i64 ((i0+1+j:Nat):Int))] /\
  (s.next<=t.next/\∀ q,q≠id->t.obj q=s.obj q)/\t.obj id=zh (.row cs)/\cs.length=cs0.length/\k<=i0+j/\i0+1+j<=zs.length/\k=((zs.take (i0+1+j)).filter fun x=>!q x).length/\cs.take k=((zs.take (i0+1+j)).filter fun x=>!q x).map dh2 /\
  ∀ (x:Nat) (h:x<zs.length),i0+j<x->(cs.drop x).head? = zh (.int .i64 zs[x])) (zs.length-(i0+1)) ?_ ?_
 ·have e:((zs.take (i0+1)).filter fun x=>!q x)=zs.take i0:=by
   rw[qb,zf hi0,qa,df8 h3];simp[h2]
  refine ⟨i0,cs0,rfl,⟨zd _,fun _ _=>rfl⟩,ho,rfl,om,om,?_,?_,fun x h _=>?_⟩
  ·rw[z7,e,zl]; omega
  ·rw[z7,e,List.map_take,<- hct,List.take_take];congr 1; omega
  ·have:=er7 hct h;rw[List.head?_drop];rw[za,zf om] at this;rw[zf om];exact congrArg zh this
 rintro j fr t hj ⟨k,cs,rfl,⟨un,uo⟩,hoc,hcl2,hk1,hk2,hk3,hk4,hcs⟩;by_cases hlt:j<zs.length-(i0+1)
 ·have e1:((i0+1+j:Nat):Int)<zs.length:=om
  have e2:(0:Int)<=((i0+1+j:Nat):Int):=om
  have hx:i0+1+j<zs.length:=om
  have g1:=hcs (i0+1+j) hx om;have w1:=ac2 (i:=i0+1+j) om;have w2:=ac2 (i:=k) om;have hqz:=hq _ (zi hx);have e3:(0:Int)<=(k:Int):=om
  have e4:(k:Int)<zs.length:=om
  have e5:k+1<=cs.length:=om
  have htk:(zs.take (i0+1+j+1)).filter (fun x=>!q x)=(zs.take (i0+1+j)).filter (fun x=>!q x)++if q zs[i0+1+j] then [] else [zs[i0+1+j]]:=by
   rw[qb,zf hx,qa];congr 1;simp only[Option.toList,List.filter_cons,List.filter_nil];cases q zs[i0+1+j]<;>rfl
  simp only[go_sem,e1,e2,hoc,g1,zg,zv,z2];refine ao9 hok (es8 hqz) ?_;rintro v u ⟨rfl,rfl⟩;refine ⟨zd _,?_⟩
  cases hb:q zs[i0+1+j] with
  | true=>
   rw[hb,if_pos rfl,zo] at htk;simp only[go_sem,w1]
   exact ⟨hlt,k,cs,rfl,⟨un,uo⟩,hoc,hcl2,om,om,by rw[show i0+1+(j+1)=i0+1+j+1 by omega,htk]; exact hk3,by rw[show i0+1+(j+1)=i0+1+j+1 by omega,htk]; exact hk4,fun x h hx=>hcs x h om⟩
  | false=>
   rw[hb,if_neg (by simp)] at htk;simp only[go_sem,w1,w2,e3,e4,e5,hoc,zg,zv,z2];refine ⟨hlt,k+1,ay4 cs k [.int .i64 zs[i0+1+j]],rfl,⟨un,fun q hq=>?_⟩,?_,?_,om,om,?_,?_,fun x h hx=>?_⟩
   ·simp only[if_neg hq]; exact uo q hq
   ·rfl
   ·rw[ai2 (by rw[zw]; omega)]; exact hcl2
   ·rw[show i0+1+(j+1)=i0+1+j+1 by omega,htk,zq,<- hk3]; rfl
   ·rw[show i0+1+(j+1)=i0+1+j+1 by omega,htk,dt7 om,hk4,z3]; rfl
   ·rw[dt8 om om];exact hcs x h om
 ·have hj':i0+1+j=zs.length:=om
  have e1:¬ ((i0+1+j:Nat):Int)<zs.length:=om
  rw[hj',zk] at hk3 hk4;have hkn:k<zs.length:=om
  simp only[go_sem,e1,gy1 (show k<=zs.length by omega),in2 (show k<=zs.length by omega),hoc,iy9,gy2 hoc hkn om];have hrl:(rep [IV.int .i64 0] (zs.length-k)).length=zs.length-k:=by rw[ar1]; simp
  refine ⟨un,fun q hq=>?_,ay4 cs k (rep [IV.int .i64 0] (zs.length-k)),by rw[hk3],by simp only[aa5,if_true],?_,?_⟩
  ·simp only[aa5,if_neg hq]; exact uo q hq
  ·rw[<- hk3,df1 om]; exact hk4
  ·rw[ai2 (by rw[hrl]; omega),<- hk3]; omega
theorem ez1 (a:ab4)(down other:Bool)(old q:aa3)(h1:Pkg.small old)(h2:Pkg.small q):PC Tryz.prog EE 141 [.agg q.cs,.ab8 old.cs,.ab8 [.bool down],.ab8 [.bool other],.ab8 [a.v]] (.bool (ab4.dy5 a.r.vendor down other old q)):=by
 refine ad9 hE fok141 (nZ rfl) (is8 (al2 _) (.ab8 _ (bc3 _)) (.ab8 _ (ah9 (.bool _))) (.ab8 _ (ah9 (.bool _))) (.ab8 _ (ah9 (ai6 a)))) ?_;have hf:=gb5 q.ap9 old.ap9;have hev:=bo4 q.evr old.evr h2.1 h1.1;have p0:q.cs.head? = zh (.str q.name):=rfl;have q0:old.cs.head? = zh (.str old.name):=rfl;have p4:(q.cs.drop 4).head? = zh (.int .u8 q.ap9):=rfl;have q4:(old.cs.drop 4).head? = zh (.int .u8 old.ap9):=rfl;have p5:(q.cs.drop 5).head? = zh (.str q.vendor):=rfl;have q5:(old.cs.drop 5).head? = zh (.str old.vendor):=rfl;have p1:(q.cs.drop 1).take 3=q.evr.cs:=rfl;have q1:(old.cs.drop 1).take 3=old.evr.cs:=rfl;unfold ab4.dy5;unfold ab4.v ab4.cs;by_cases e1:q.name=old.name
 case neg=>
  simp only[ic141,go_sem,ag5,ag9,ad6,p0,q0,e1];exact aa9 (by simp)
 simp only[ic141,go_sem,ag5,ag9,ad6,p0,q0,e1];cases down
 case' true=>simp only[go_sem]
 case' false=>
  simp only[go_sem,cz1,p1,q1];refine aa2 fok142 (hev) ?_;by_cases e2:0<=ar5 q.evr old.evr
  case neg=>
   simp only[go_sem,e2];exact aa9 (by simp)
  simp only[go_sem,e2]
 all_goals
  cases other
  case' true=>simp only[go_sem]
  case' false=>
   simp only[go_sem,p4,q4];refine aa2 fok143 (hf) ?_;cases ay2 q.ap9 old.ap9
   case false=>
    simp only[go_sem];exact aa9 (by simp)
   simp only[go_sem]
  all_goals
   cases a.r.vendor
   case true=>
    simp only[go_sem];exact aa9 (by simp)
   by_cases e3:q.vendor=old.vendor
   ·simp only[go_sem,p5,q5,e3];exact aa9 (by simp)
   ·simp only[go_sem,p5,q5,e3];exact aa9 (by simp)
theorem df9 (l:List aa3)(n:Nat)(hl:l.length<2^20)(hn:n<l.length)(hs:∀ p∈l,Pkg.small p)(σ:Store):C Tryz.prog EE 144 [(aj2 l).v,.int .i64 n] σ (dh3 σ (an3 l n)):=by
 have hi:=bn5 l;have hlook:=hi.over (l.getD n default).name
 have hsift:∀ (σ:Store) v,(v=.aa4 ((ae8 (aj2 l).over (l.getD n default).name).map Md.ae1)\/v=.aa1/\ae8 (aj2 l).over (l.getD n default).name=[])->C Tryz.prog EE 135 [(aj2 l).v,v,.func (.func 207) [] [.ab8 [.int .i64 n],.ab8 [(aj2 l).v]]] σ (dh3 σ (an3 l n)):=by
  intro σ v hv
  have h:=in4 (aj2 l) (ae8 (aj2 l).over (l.getD n default).name) (by rw[hlook]; have:=aj3 (fun p=>decide (∃ d∈p.aa7,d.name=(l.getD n default).name)) l; omega) 207 [.ab8 [.int .i64 n],.ab8 [(aj2 l).v]] (fun k=>decide (k.toNat≠n)&&aa7 (l.getD k.toNat default) (l.getD n default)) fok207.1 (fun k hk=>by
   rw[hlook] at hk;obtain ⟨m,rfl,hm⟩:=numsOf_at hk;refine ⟨m,rfl,by rw[hi.all]; exact hm,?_⟩;have e:(aj2 l).all[m]'(by rw[hi.all]; exact hm)=l[m]:=by simp only[hi.all]
   rw[e,zg,getD_at l m hm,getD_at l n hn];exact gx9 l m n hm hn hs) σ
  have e:an3 l n=(ae8 (aj2 l).over (l.getD n default).name).filter fun k=>decide (k.toNat≠n)&&aa7 (l.getD k.toNat default) (l.getD n default):=rfl
  rw[<- e] at h;rcases hv with rfl|⟨rfl,h0⟩
  ·exact h
  ·rw[h0] at h;refine gy6 (args':=[(aj2 l).v,.aa4 [],.func (.func 207) [] [.ab8 [.int .i64 n],.ab8 [(aj2 l).v]]]) rfl (fun i hi=>?_) h;have hw:∀ {v:IV} {σ:Store},Bnd 0 v->Frz σ (fun _=>true=true) v v:=fun h=>.keep _ (h.weak fun _ _=>rfl)
   have hb:=bg2 (aj2 l)
   match i,hi with
   | 0,_=>exact hw hb
   | 1,_=>exact .by5
   | 2,_=>exact hw (.func _ _ _ (fun c hc=>by cases hc) (ag4 (.ab8 _ (ah9 (.int _ _))) (.ab8 _ (ah9 hb))))
 have hx:(aj2 l).v=.ab8 [.aa4 (l.map aa3.cs),.an9 (nmV (aj2 l).ax9),.an9 (nmV (aj2 l).names),.an9 (nmV (aj2 l).over)]:=by
  show IV.ab8 [.aa4 ((aj2 l).all.map aa3.cs),_,_,_]=_;rw[hi.all]
 have his:=iy8 (aj2 l) n
 have i1:(decide ((0:Int)<=(n:Int))&&decide ((n:Int)<(aj2 l).all.length))=true:=by
  rw[hi.all]; simp only[zn,decide_eq_true_eq]; omega
 rw[i1] at his
 have hk0:∀ σ:Store,∃ v,cz6 σ 2 .aa1 false (.an9 (nmV (aj2 l).over)) (.str (l.getD n default).name)=zh v/\∀ τ,C Tryz.prog EE 135 [(aj2 l).v,v,.func (.func 207) [] [.ab8 [.int .i64 n],.ab8 [(aj2 l).v]]] τ (dh3 τ (an3 l n)):=fun σ=>
  let ⟨v,h1,h2⟩:=fi8 (aj2 l).over σ (l.getD n default).name
  ⟨v,h1,fun τ=>hsift τ v h2⟩
 have hg:(l.map aa3.cs).getD n []=l[n].cs:=by simp[za,hn]
 have hnm:(l.getD n default).name=l[n].name:=by rw[getD_at l n hn]
 have p0:l[n].cs.head? = zh (.str l[n].name):=rfl;have hle:(l.map aa3.cs).length=l.length:=zm ..;clear hsift hlook i1;rw[hnm] at hk0;rw[hx] at hk0 his ⊢;generalize an3 l n=res at *;generalize l.map aa3.cs=a0 at *;generalize l[n]=q at *;have c1:(0:Int)<=n:=om
 have c2:(n:Int)<a0.length:=om
 refine C_f fok144 (nZ rfl) ?_;simp only[ic144,go_sem];refine aa2 fok206 (his) ?_;simp only[go_sem,c1,c2,hg,p0,ai8,ai1,ah1];obtain ⟨v,hk,hsv⟩:=hk0 ⟨σ.next+17,σ.obj⟩;simp only[go_sem,hk];refine ag1 fok135 (hsv _) ?_;rintro v' s ⟨hkp,hr⟩;refine ⟨hkp.next,?_⟩;simp only[go_sem];exact ⟨hkp.low,hr.low (z1 _ _)⟩
end Go.Id.Tryz
namespace Go.Id.Tryz
open Go Go.Id Go.Proofs Go.Shelf Go.Id.Md
theorem ed9 {σ:Store}{id:Nat}{cs:List IV}(ho:σ.obj id=zh (.cells cs))(hb:∀ c∈cs,Bnd 0 c):bw7 σ 0 (.ptr id 0) (.ab8 cs):=by
 refine .ptr id 0 cs cs (zp _) (.inl ho) om (fun j hj=>?_);rw[zv];exact .keep _ (hb _ (ae5 _ hj))
theorem jo9 (zs:List Int):(iz1 zs).Pairwise (·<=·):=by
 refine List.Pairwise.imp (fun h=>of_decide_eq_true h) (List.pairwise_mergeSort (le:=fun x y:Int=>decide (x<=y)) (fun a b c h1 h2=>?_) (fun a b=>?_) _)
 ·exact decide_eq_true (Int.le_trans (of_decide_eq_true h1) (of_decide_eq_true h2))
 ·rcases Int.le_total a b with h|h
  ·simp[h]
  ·simp[h]
theorem du2 (a:ab4)(i:Int)(hA:AOK a)(σ:Store):C Tryz.prog EE 88 [a.v,.int .i64 i] σ (jq6 σ (a.au9 i)):=by
 have hin:=bm3 a i;refine C_f fok88 (nZ rfl) ?_;unfold ab4.au9
 cases hi:a.inst i with
 | false=>
  rw[hi] at hin;unfold ab4.v ab4.cs at *;simp only[ic88,go_sem];refine aa2 fok138 (hin) ?_;simp only[go_sem]
  exact ⟨Kept.refl σ,.inl ⟨rfl,rfl⟩⟩
 | true=>
 rw[hi] at hin;have his:a.is i=true:=by unfold ab4.inst at hi; exact (zn _ _▸hi).1
 obtain ⟨i1,i2,i3,i4⟩:=if7 a his;obtain ⟨m,rfl⟩:∃ m:Nat,i=m:=⟨i.toNat,om⟩;have hml:m<a.l.length:=by rw[zm] at i2; omega
 have e3:=bi5 a 3 m hA;have e4:=bi5 a 4 m hA;have n4:=df5 a 4 m hA;have hob:=df9 a.l m (by have:=hA.len; omega) hml hA.small;have hlen:=hA.len
 have hall:∀ n (h:n<a.l.length),(a.l.map aa3.cs).getD n []=(a.pk n).cs/\a.pk (n:Int)∈a.l:=fun n h=>by
  have hn:a.is (n:Int)=true:=by rw[ab4.jk4]; exact decide_eq_true h
  obtain ⟨_,_,h3,h4⟩:=if7 a hn;exact ⟨by simpa using h3,h4⟩
 have hfl:∀ down other n (h:n<a.l.length),PC Tryz.prog EE 141 [.agg (a.pk n).cs,.ab8 (a.pk m).cs,.ab8 [.bool down],.ab8 [.bool other],.ab8 [a.v]] (.bool (ab4.dy5 a.r.vendor down other (a.pk m) (a.pk n))):=
  fun down other n h=>ez1 a down other _ _ (hA.small _ i4) (hA.small _ (hall n h).2)
 have hba:=ai6 a;unfold ab4.jq8;unfold ab4.v ab4.cs at *;generalize (aj2 a.l).v=X at *;generalize a.p.v=Pv at *;have c0:(0:Int)<=m:=om
 have c2:(m:Int)<a.l.length:=om
 have hgm:=(hall m hml).1;generalize hdn:(a.bc7 3 m||a.az9 4 m)=down;generalize hot:a.bc7 4 m=other at *;simp only[ic88,go_sem];refine aa2 fok138 (hin) ?_;simp only[go_sem,c0,c2,hgm,ag5,ag9,ad6];cases h3:a.bc7 3 m
 case' true=>
  rw[h3] at hdn e3;have hd:true=down:=by simpa using hdn
  refine aa2 fok139 (e3) ?_;simp only[go_sem]
 case' false=>
  rw[h3] at hdn e3;have hd:a.az9 4 m=down:=by simpa using hdn
  refine aa2 fok139 (e3) ?_;simp only[go_sem];refine aa2 fok140 (n4) ?_;simp only[go_sem]
 all_goals
  refine aa2 fok139 (e4) ?_;simp only[go_sem];refine ag1 fok144 (hob _) ?_;rintro v s ⟨hk0,hr0⟩;refine ⟨hk0.next,?_⟩;simp only[go_sem];have g1:¬ σ.next=σ.next+1+1:=om
  have g2:¬ σ.next=σ.next+1:=om
  have g3:¬ σ.next+1=σ.next+1+1:=om
  have b5:s.obj σ.next=zh (.cells (a.pk m).cs):=(hk0.obj σ.next (by show σ.next<σ.next+_; omega)).trans (by simp only[aa5,g1,g2,if_true,if_false]);have b6:s.obj (σ.next+1)=zh (.cells [.bool down]):=(hk0.obj (σ.next+1) (by show σ.next+1<σ.next+_; omega)).trans (by simp only[aa5,g3,if_true,if_false,hd]);have b7:s.obj (σ.next+1+1)=zh (.cells [.bool other]):=(hk0.obj (σ.next+1+1) (by show σ.next+1+1<σ.next+_; omega)).trans (by simp only[aa5,if_true])
  have blo:∀ i,i<σ.next->s.obj i=σ.obj i:=fun i hi=>(hk0.obj i (by show i<σ.next+_; omega)).trans (by
   have u1:¬ i=σ.next:=om
   have u2:¬ i=σ.next+1:=om
   have u3:¬ i=σ.next+1+1:=om
   simp only[aa5,u1,u2,u3,if_false])
  have bnx:σ.next+1+1+1<=s.next:=Nat.le_trans (by show σ.next+1+1+1<=σ.next+_; omega) hk0.next;have hr1:au7 s (σ.next+1+1+1) v (an3 a.l m):=hr0.low (by show σ.next+1+1+1<=σ.next+_; omega);clear hk0 hr0 hob e3 e4 n4 hin;generalize hq:(fun n:Nat=>decide ((n:Int)=m)||ab4.dy5 a.r.vendor down other (a.pk m) (a.pk n))=qq;have hqn:∀ n,qq n=(decide ((n:Int)=m)||ab4.dy5 a.r.vendor down other (a.pk m) (a.pk n)):=fun n=>by rw[<- hq]
  have hobl:=de9 a.l m;have obm:=fun k=>de8 (l:=a.l) (n:=m) (k:=k)
  generalize an3 a.l m=ob at *
  refine ab2 noT (fun n fr t=>∃ gv,fr=[(1,.int .i64 (m:Int)),(8,.func (.func 141) [] [.ptr σ.next 0,.ptr (σ.next+1) 0,.ptr (σ.next+1+1) 0,.ab8 [.ab8 [Pv,X,.int .u8 a.r.ap9,.bool a.r.vendor,az8 a.r.ag6,aq1 a.r.ah6,.int .i64 a.r.budget,.aa4 (a.l.map aa3.cs)]]]),(9,gv),(44,.aa4 (a.l.map aa3.cs)),(45,.int .i64 a.l.length),(46,.int .i64 (n:Int))] /\
   Kept ⟨σ.next+1+1+1,s.obj⟩ t/\au7 t (σ.next+1+1+1) gv (ob++bd4 qq n)) a.l.length ⟨v,rfl,⟨bnx,fun _ _=>rfl⟩,by rw[show bd4 qq 0=[] from rfl,zo]; exact hr1⟩ ?_
  rintro n fr t hn ⟨gv,rfl,hk,hg⟩;by_cases hlt:n<a.l.length
  ·have d1:(n:Int)<a.l.length:=om
   have d2:(0:Int)<=n:=om
   have w1:=ac2 (i:=n) om;have hgn:=(hall n hlt).1;have hpn:=hfl down other n hlt;have hsn:=dr5 qq n;have hln:=br5 qq n;have hzl:(ob++bd4 qq n).length<2147483648:=by rw[zq]; omega
   have n5:¬ σ.next=t.next:=by have:=hk.next; show ¬ _; intro e; have:σ.next+1+1+1<=t.next:=this; omega
   have n6:¬ σ.next+1=t.next:=by have:=hk.next; intro e; have:σ.next+1+1+1<=t.next:=this; omega
   have n7:¬ σ.next+1+1=t.next:=by have:=hk.next; intro e; have:σ.next+1+1+1<=t.next:=this; omega
   have t5:=(hk.obj σ.next (by show σ.next<σ.next+1+1+1; omega)).trans b5;have t6:=(hk.obj (σ.next+1) (by show σ.next+1<σ.next+1+1+1; omega)).trans b6;have t7:=(hk.obj (σ.next+1+1) (by show σ.next+1+1<σ.next+1+1+1; omega)).trans b7;by_cases e:(n:Int)=m
   case' pos=>
    have hqt:qq n=true:=by rw[hqn,e]; simp
    have e':n=m:=om
    subst e';simp only[go_sem,d1,d2,hgn,ag5,ag9,ad6,eq_self]
   case' neg=>
    simp only[go_sem,d1,d2,hgn,ag5,ag9,ad6,e]
    refine ao9 fok141.1 (be6 (args':=[.agg (a.pk n).cs,.ab8 (a.pk m).cs,.ab8 [.bool down],.ab8 [.bool other],.ab8 [.ab8 [Pv,X,.int .u8 a.r.ap9,.bool a.r.vendor,az8 a.r.ag6,aq1 a.r.ah6,.int .i64 a.r.budget,.aa4 (a.l.map aa3.cs)]]]) hE rfl (fun i hi=>by
     match i,hi with
     | 0,_=>exact .keep _ (al2 _)
     | 1,_=>exact ed9 (by simp only[aa5,n5,if_false]; exact t5) (bc3 _)
     | 2,_=>exact ed9 (by simp only[aa5,n6,if_false]; exact t6) (ah9 (.bool _))
     | 3,_=>exact ed9 (by simp only[aa5,n7,if_false]; exact t7) (ah9 (.bool _))
     | 4,_=>exact .keep _ (.ab8 _ (ah9 hba))) (by simp[IV.plain]) hpn) ?_
    rintro v' u ⟨rfl,rfl⟩;refine ⟨zd _,?_⟩;cases hfb:ab4.dy5 a.r.vendor down other (a.pk m) (a.pk n)
    case' false=>
     have hqt:qq n=false:=by rw[hqn,hfb]; simp[e]
     rw[hqt] at hsn;simp only[go_sem,w1];rw[if_neg (by simp),zo] at hsn;exact ⟨hlt,gv,rfl,hk.trans (Kept.box t _ _),by rw[hsn]; exact hg.kept (Kept.box t _ _)⟩
    have hqt:qq n=true:=by rw[hqn,hfb]; simp
    simp only[go_sem]
   all_goals
    rw[hqt,if_pos rfl] at hsn;rw[gl3 (s:=⟨t.next+1+1,_⟩) (lo:=σ.next+1+1+1) (zs:=ob++bd4 qq n) ((hg.kept (Kept.box t _ _)).up 1) (n:Int) hzl];simp only[go_sem,w1];have hz:=fc7 (hk.trans (Kept.box t (.cells [.str [],.int .i64 0,.str [],.str [],.int .u8 0,.str [],.aa1,.aa1,.aa1,.aa1,.aa1,.aa1,.aa1,.aa1,.aa1]) (.cells (a.pk n).cs))) (hg.kept (Kept.box t _ _)) (n:Int) (a:=1) (nid:=t.next+1) (zd _) (Nat.lt_succ_self _) rfl;rw[hsn,<- List.append_assoc];exact ⟨hlt,_,rfl,hz.1,hz.2⟩
  ·have hn':n=a.l.length:=om
   subst hn';have d1:¬ (a.l.length:Int)<(a.l.length:Int):=om
   simp only[go_sem,d1];have hln:=br5 qq a.l.length;have hzl:(ob++bd4 qq a.l.length).length<2^20:=by rw[zq]; omega
   have hmm:(m:Int)∈ob++bd4 qq a.l.length:=List.mem_append_right _ (ce4.2 ⟨m,rfl,hml,by rw[hqn]; simp⟩)
   have hfin:∀ D:List Int,D.Pairwise (· < ·)->(∀ x,x∈D↔x∈ob++bd4 qq a.l.length)->D=bd4 (fun n=>decide ((n:Int)=m)||ab4.dy5 a.r.vendor down other (a.pk m) (a.pk n)||(!decide ((n:Int)=m)&&aa7 (a.pk n) (a.pk m))) a.l.length:=fun D h1 h2=>gy4 h1 (hu6 _ _) fun x=>by
    rw[h2,List.mem_append,obm,ce4,ce4];constructor
    ·rintro (⟨u,rfl,h3,h4,h5⟩|⟨u,rfl,h3,h4⟩)
     ·refine ⟨u,rfl,h3,?_⟩;have h6:¬ (u:Int)=m:=om
      simp only[ab4.pk,zg,h5,h6,decide_false,Bool.not_false,Bool.and_self,Bool.or_true]
     ·rw[hqn] at h4;exact ⟨u,rfl,h3,by rw[h4,Bool.true_or]⟩
    ·rintro ⟨u,rfl,h3,h4⟩;rw[z4] at h4;rcases h4 with h4|h4
     ·exact .inr ⟨u,rfl,h3,by rw[hqn]; exact h4⟩
     ·simp only[zn,z0,decide_eq_false_iff_not,ab4.pk,zg] at h4;exact .inl ⟨u,rfl,h3,om,h4.2⟩
   generalize ob++bd4 qq a.l.length=zs at *;rcases hg with ⟨_,h0⟩|⟨id,hid1,hid2,rfl,ho⟩
   ·rw[h0] at hmm; cases hmm
   refine ag1 fok145 (gb4 (zs:=zs) om ho) ?_;rintro v s' ⟨rfl,rfl⟩;refine ⟨by show t.next<=_; exact zd _,?_⟩;simp only[go_sem];have hsl:(iz1 zs).length=zs.length:=List.length_mergeSort _;have hc:=gy3 (σ:=t.put id (.row ((iz1 zs).map (IV.int .i64)))) (id:=id) (zs:=iz1 zs) om (by simp only[aa5,if_true]) (jo9 zs);rw[hsl] at hc;refine ag1 fok146 hc ?_;rintro v s' ⟨⟨D,cs,q1,q2,rfl,q4,q5,q6⟩,hsn,hso⟩;refine ⟨hsn,?_⟩;have hD:=hfin D q1 fun x=>(q2 x).trans List.mem_mergeSort
   simp only[go_sem];have hsn':t.next<=s'.next:=hsn;have hkn:σ.next+1+1+1<=t.next:=hk.next;rw[<- hD];refine ⟨⟨om,fun i hi=>?_⟩,.inr ⟨id,cs,om,om,rfl,q4,q5,q6⟩⟩;have hne:i≠id:=om
   rw[hso i hne];show (if i=id then _ else t.obj i)=_;rw[if_neg hne,hk.obj i (by show i<σ.next+1+1+1; omega)];exact blo i hi
theorem dg1 (a:ab4)(i:Int)(hA:AOK a):PC Tryz.prog EE 88 [a.v,.int .i64 i] (.aa4 ((a.au9 i).map Md.ae1)):=ji1 fun σ=>du2 a i hA σ
end Go.Id.Tryz
