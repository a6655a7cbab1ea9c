/- Whether a rich dependency is whole. Conditions: sizes that fit. -/
import Derived.Test.YtlnkchkhffkofaaGreatDoorTNPD
import Derived.Test.YtlnkchkhffkofaaGreatDoorMf
import Derived.Test.YtlnkchkhffkofaaGreatDoorFwZb
import Derived.Test.YtlnkchkhffkofaaGreatDoorFwQ
set_option linter.all false
namespace Go.Id.Tryz
open Go Go.Id Go.Proofs Go.Id.Md
set_option maxRecDepth 100000
def msV (m:Nat×Nat×Bool):IV:=.tuple [.int .i64 m.1,.int .i64 m.2.1,.bool m.2.2]
theorem eo8 {s:Store}(m:Nat×Nat×Bool):cn4 s 0 (.tuple [.int .i64 m.1,.int .i64 m.2.1,.bool m.2.2]) (msV m):=.keep _ (.tuple _ (aw5 (.int _ _) (.int _ _) (.bool _)))
theorem fh7 (r:aa8):r.fit->r.count<2^31->PC Tryz.prog EE 222 [.agg r.cs] (msV r.ms):=by
 induction r using aa8.ind with
 | h k d xs ih=>
  intro hf hc;obtain ⟨f1,f2,f3,f4,f5⟩:=aa8.cr4.1 hf;have hms:∀ a∈xs,a.ms.1<=a.count/\a.ms.2.1<=a.count:=fun a _=>aa8.il2 a
  refine ag3 hE fok222 (nZ rfl) (ae4 (ah8 _)) ?_;by_cases k1:k=1
  ·subst k1;have hm:=bj3 d f3.1 f3.2.1 f3.2.2;by_cases h0:xs.length=0
   ·have h0':(xs.length:Int)=0:=by omega
    simp only[ic222,go_sem,aa8.aq5,aa8.kind,aa8.dep,aa8.args,h0']
    first|refine aa5 fok95 (hm) ?_|refine aa6 (hm) ?_
    simp only[go_sem];have e:aa8.ms (.mk 1 d xs)=(1,0,al2 d):=by simp[aa8.ms,h0]
    rw[e]; exact eo8 (1,0,al2 d)
   ·have h0':¬ (xs.length:Int)=0:=by omega
    simp only[ic222,go_sem,aa8.aq5,aa8.kind,aa8.dep,aa8.args,h0'];have e:aa8.ms (.mk 1 d xs)=(1,0,false):=by simp[aa8.ms,h0]
    rw[e]; exact eo8 (1,0,false)
  have e:aa8.ms (.mk k d xs)=((aa8.msL xs 1 0 (aq6 k d xs.length)).1,(aa8.msL xs 1 0 (aq6 k d xs.length)).2.1+1,(aa8.msL xs 1 0 (aq6 k d xs.length)).2.2):=by rw[aa8.ms,if_neg k1]
  have hdd:decide (d=dz8)=(decide (d.name=[])&&(decide (d.op=0)&&(decide (d.evr.ao5=0)&&(decide (d.evr.ver=[])&&decide (d.evr.rel=[]))))):=by
   obtain ⟨n,o,e,v,r⟩:=d;simp only[dz8,ic5,Dep.mk.injEq,EVR.mk.injEq,Bool.decide_and]
  have hg:∀ a∈xs,a.fit/\a.count<2^31/\a.count<=aa8.counts xs:=fun a ha=>by
   have h1:a.count<=aa8.counts xs:=by
    clear hc f4 f5 hms ih hdd e hf
    induction xs with
    | nil=>cases ha
    | cons y ys ihy=>
     simp only[aa8.counts];rcases List.mem_cons.1 ha with rfl|ha
     ·omega
     ·have:=ihy ha; omega
   have h2:aa8.counts xs<2^31:=by simp only[aa8.count] at hc; omega
   exact ⟨f5 a ha,by omega,h1⟩
  have hcs:aa8.counts xs<2^31:=by simp only[aa8.count] at hc; omega
  -- what holds of Kinds and counts
  by_cases q1:1<k
  case' neg=>
   have hH:aq6 k d xs.length=false:=by simp[aq6,q1]
   simp only[ic222,go_sem,aa8.aq5,aa8.kind,aa8.dep,aa8.args,k1,q1]
  case' pos=>
   by_cases q2:k<=7
   case' neg=>
    have hH:aq6 k d xs.length=false:=by simp[aq6,q2]
    simp only[ic222,go_sem,aa8.aq5,aa8.kind,aa8.dep,aa8.args,k1,q1,q2]
   case' pos=>
    by_cases q3:d=dz8
    case' neg=>
     have hd1:decide (d=dz8)=false:=decide_eq_false q3;rw[hdd] at hd1;have hH:aq6 k d xs.length=false:=by simp[aq6,q3]
     simp only[ic222,go_sem,aa8.aq5,aa8.kind,aa8.dep,aa8.args,k1,q1,q2,hd1]
    case' pos=>
     have hd1:decide (d=dz8)=true:=decide_eq_true q3;rw[hdd] at hd1;by_cases q4:2<=xs.length
     case' neg=>
      have q4':¬ (2:Int)<=xs.length:=by omega
      have hH:aq6 k d xs.length=false:=by simp[aq6,q4]
      simp only[ic222,go_sem,aa8.aq5,aa8.kind,aa8.dep,aa8.args,k1,q1,q2,hd1,q4']
     case' pos=>
      have q4':(2:Int)<=xs.length:=by omega
      obtain ⟨ks,hk1,hk2,hk3⟩:∃ ks,(if 0<=k/\k<8 then bz4 (k.toNat*2) (EE 2) else none)=some (.ab6 ks)/\(ks.drop 1).head? = some (.int .i64 (ef7 k))/\1<ks.length:=by
       have hk:k=2\/k=3\/k=4\/k=5\/k=6\/k=7:=by omega
       rcases hk with rfl|rfl|rfl|rfl|rfl|rfl<;>exact ⟨_,rfl,rfl,by decide⟩
      simp only[ic222,go_sem,aa8.aq5,aa8.kind,aa8.dep,aa8.args,k1,q1,q2,hd1,q4',hk1,hk2,hk3];by_cases q5:xs.length<=ef7 k
      case' neg=>
       have q5':¬ (xs.length:Int)<=ef7 k:=by omega
       have hH:aq6 k d xs.length=false:=by simp[aq6,q5]
       simp only[go_sem,q5']
      case' pos=>
       have q5':(xs.length:Int)<=ef7 k:=by omega
       have hH:aq6 k d xs.length=true:=by simp[aq6, *]
       simp only[go_sem,q5']
  all_goals
   rw[e]
   refine ab4 noT (fun i fr t=>∃ (p dd:Nat) (ok:Bool),fr=[(2,.int .i64 p),(3,.int .i64 dd),(4,.bool ok),(54,.aa3 (xs.map aa8.cs)),(55,.int .i64 xs.length),(56,.int .i64 (i:Int))]/\p+aa8.counts (xs.drop i)<=1+aa8.counts xs/\dd<=aa8.counts xs /\
    aa8.msL xs 1 0 (aq6 k d xs.length)=aa8.msL (xs.drop i) p dd ok) xs.length ⟨1,0,_,rfl,Nat.le_refl _,Nat.zero_le _,by rw[hH]; rfl⟩ ?_
   rintro i fr t hle ⟨p,dd,ok,rfl,hp,hdl,hI⟩;rw[hI];by_cases hlt:i<xs.length
   ·obtain ⟨x,hx,_,hdr,hget,htk⟩:=af5 xs i hlt;have c1:(i:Int)<xs.length:=by omega
    have c2:(0:Int)<=i:=by omega
    have w1:=ad4 (i:=i) (by omega);rw[hdr] at hp hI ⊢;obtain ⟨x1,x2,x3⟩:=hg x hx
    cases ok with
    | false=>
     have w3:=ad4 (i:=dd) (by omega);simp only[go_sem,c1,c2,hget,ac2,ad2,ab8,w3,aa8.msL]
     exact eo8 (p,dd+1,false)
    | true=>
     have hA:=ih x hx x1 x2;have hml:=aa8.il2 x;simp only[aa8.counts] at hp;have w2:IntKind.i64.wrap ((p:Int)+x.ms.1)=((p+x.ms.1:Nat):Int):=by rw[wrap64 (by omega) (by omega)]; omega
     simp only[go_sem,c1,c2,hget,ac2,ad2,ab8]
     first|refine aa5 fok222 (hA) ?_|refine aa6 (hA) ?_
     simp only[go_sem,msV,w1,w2];have wm:(if (x.ms.2.1:Int)>dd then (x.ms.2.1:Int) else dd)=((max dd x.ms.2.1:Nat):Int):=by split<;>omega
     exact ⟨hlt,p+x.ms.1,max dd x.ms.2.1,x.ms.2.2,by rw[wm],by omega,by omega,by simp[aa8.msL]⟩
   ·have hi':i=xs.length:=by omega
    subst hi';have c1:¬ (xs.length:Int)<xs.length:=by omega
    have w3:=ad4 (i:=dd) (by omega);rw[List.drop_length];simp only[go_sem,c1,w3,aa8.msL];exact eo8 (p,dd+1,ok)
theorem gp2 (r:aa8)(h1:r.fit)(h2:r.count<2^31):PC Tryz.prog EE 175 [.agg r.cs] (.bool (dv5 r)):=by
 refine ag3 hE fok175 (nZ rfl) (ae4 (ah8 _)) ?_;have h:=fh7 r h1 h2;unfold dv5;generalize r.ms=m at *;obtain ⟨p,d,ok⟩:=m;simp only[ic175,go_sem,ac2,ad2,ab8]
 first|refine aa5 fok222 (h) ?_|refine aa6 (h) ?_
 have e1:((p:Int)<=24)=(p<=24):=by simp only[eq_iff_iff]; omega
 have e2:((d:Int)<=8)=(d<=8):=by simp only[eq_iff_iff]; omega
 cases ok with
 | false=>simp only[go_sem,msV]; exact ab9 _
 | true=>
  by_cases q1:p<=24
  ·have q1':(p:Int)<=24:=by omega
   by_cases q2:d<=8
   ·have q2':(d:Int)<=8:=by omega
    simp only[go_sem,msV,q1,q1',q2,q2']; exact ab9 _
   ·have q2':¬ (d:Int)<=8:=by omega
    simp only[go_sem,msV,q1,q1',q2,q2']; exact ab9 _
  ·have q1':¬ (p:Int)<=24:=by omega
   simp only[go_sem,msV,q1,q1']; exact ab9 _
theorem ad9 {S:Nat->Prop}{s:Store}{a b:Bool}(h:a=b):Frz s S (.bool a) (.bool b):=h▸ab9 a
theorem bc1 {S:Nat->Prop}{s:Store}{k:IntKind}{a b:Int}(h:a=b):Frz s S (.int k a) (.int k b):=h▸.keep _ (.int _ _)
theorem ci2 (a:Int):PC Tryz.prog EE 92 [.int .u8 a] (.bool (cw2 a)):=by
 refine ag3 hE fok92 (nZ rfl) (av3 (.int _ _)) ?_;simp only[ic92,go_sem]
 first|refine aa5 fok113 (ao6 a) ?_|refine aa6 (ao6 a) ?_
 unfold cw2
 cases am8 a with
 | false=>simp only[go_sem]; exact ad9 rfl
 | true=>
  by_cases h:a=1
  ·simp only[go_sem,h]; exact ad9 rfl
  ·simp only[go_sem,h]; exact ad9 (by simp[h])
theorem gp3 (a b:Int):PC Tryz.prog EE 114 [.int .u8 a,.int .u8 b] (.bool (fu6 a b)):=by
 refine ag3 hE fok114 (nZ rfl) (ah6 (.int _ _) (.int _ _)) ?_;have ha:=ci2 a;have hb:=ci2 b;simp only[ic114,go_sem]
 first|refine aa5 fok92 (ha) ?_|refine aa6 (ha) ?_
 unfold fu6
 cases cw2 a with
 | false=>simp only[go_sem]; exact ad9 rfl
 | true=>
  simp only[go_sem]
  first|refine aa5 fok92 (hb) ?_|refine aa6 (hb) ?_
  cases cw2 b with
  | false=>simp only[go_sem]; exact ad9 rfl
  | true=>
   by_cases h:a=b
   ·simp only[go_sem,h]; exact ad9 (by simp)
   ·simp only[go_sem,h]; exact ad9 (by simp[h])
theorem fh8 (a b:Int):PC Tryz.prog EE 48 [.int .u8 a,.int .u8 b] (.bool (cn9 a b)):=by
 refine ag3 hE fok48 (nZ rfl) (ah6 (.int _ _) (.int _ _)) ?_;have ha:=ao6 a;have hb:=ao6 b;have hc:=gp3 a b;simp only[ic48,go_sem]
 first|refine aa5 fok113 (ha) ?_|refine aa6 (ha) ?_
 unfold cn9
 cases am8 a with
 | false=>simp only[go_sem]; exact ad9 rfl
 | true=>
  simp only[go_sem]
  first|refine aa5 fok113 (hb) ?_|refine aa6 (hb) ?_
  cases am8 b with
  | false=>simp only[go_sem]; exact ad9 rfl
  | true=>
   simp only[go_sem]
   first|refine aa5 fok114 (hc) ?_|refine aa6 (hc) ?_
   simp only[go_sem];exact ad9 (by simp)
def gy1:List IV:=[.int .i64 0,.int .i64 0,.int .i64 0,.int .i64 0,.int .i64 0,.int .i64 0,.int .i64 0,.int .i64 0,.int .i64 0,.int .i64 0,.int .i64 0,.int .i64 2,.int .i64 1,.int .i64 3,.int .i64 0,.int .i64 0,.int .i64 2,.int .i64 0,.int .i64 1,.int .i64 0,.int .i64 0,.int .i64 2,.int .i64 0,.int .i64 0,.int .i64 1]
theorem dw7:PC Tryz.prog EE 197 [] (.agg gy1):=by
 refine ag3 hE fok197 (nZ rfl) (fun a h=>by cases h) ?_;simp only[ic197,go_sem];exact .keep _ (av2 10 _ (by kernel_rfl))
theorem ho6 (m a:Int)(h1:am8 m=true)(h2:am8 a=true):PC Tryz.prog EE 134 [.int .u8 m,.int .u8 a] (.int .i64 (az4 m a)):=by
 unfold am8 at h1 h2;simp only[Bool.and_eq_true,decide_eq_true_eq] at h1 h2;have hm:m=1\/m=2\/m=3\/m=4:=by omega
 have ha:a=1\/a=2\/a=3\/a=4:=by omega
 rcases hm with rfl|rfl|rfl|rfl<;>rcases ha with rfl|rfl|rfl|rfl
 all_goals
  refine ag3 hE fok134 (nZ rfl) (ah6 (.int _ _) (.int _ _)) ?_;simp only[ic134,go_sem]
  first|refine aa5 fok113 (ao6 _) ?_|refine aa6 (ao6 _) ?_
  simp only[go_sem,am8]
  first|refine aa5 fok113 (ao6 _) ?_|refine aa6 (ao6 _) ?_
  simp only[go_sem,am8]
  first|refine aa5 fok197 (dw7) ?_|refine aa6 (dw7) ?_
  simp only[go_sem,gy1,List.drop_succ_cons,List.drop_zero,List.getElem?_cons_succ,List.getElem?_cons_zero];exact .keep _ (.int _ _)
theorem eo9 (m a:Int)(h:am8 m=false\/am8 a=false):az4 m a=0:=by
 unfold am8 at h;simp only[Bool.and_eq_false_iff,decide_eq_false_iff_not] at h;unfold az4
 repeat' split
 all_goals first|rfl|omega
theorem dm9 (m a:Int):PC Tryz.prog EE 134 [.int .u8 m,.int .u8 a] (.int .i64 (az4 m a)):=by
 have hm:=ao6 m;have ha:=ao6 a
 cases h1:am8 m with
 | false=>
  rw[eo9 m a (.inl h1)];refine ag3 hE fok134 (nZ rfl) (ah6 (.int _ _) (.int _ _)) ?_;rw[h1] at hm;simp only[ic134,go_sem]
  first|refine aa5 fok113 (hm) ?_|refine aa6 (hm) ?_
  simp only[go_sem]
  exact bc1 rfl
 | true=>
  cases h2:am8 a with
  | false=>
   rw[eo9 m a (.inr h2)];refine ag3 hE fok134 (nZ rfl) (ah6 (.int _ _) (.int _ _)) ?_;rw[h1] at hm;rw[h2] at ha;simp only[ic134,go_sem]
   first|refine aa5 fok113 (hm) ?_|refine aa6 (hm) ?_
   simp only[go_sem]
   first|refine aa5 fok113 (ha) ?_|refine aa6 (ha) ?_
   simp only[go_sem]
   exact bc1 rfl
  | true=>exact ho6 m a h1 h2
theorem ho7 (m a:Int):PC Tryz.prog EE 196 [.int .u8 m,.int .u8 a] (.bool (ik5 m a)):=by
 refine ag3 hE fok196 (nZ rfl) (ah6 (.int _ _) (.int _ _)) ?_;have h:=dm9 m a;simp only[ic196,go_sem]
 first|refine aa5 fok134 (h) ?_|refine aa6 (h) ?_
 simp only[go_sem];exact ad9 rfl
def af3 (n:Int):List IV:=[.int .i64 n]
theorem an9 (l:List Int):Bnd 0 (.aa3 (l.map af3)):=.aa3 _ fun e he c hc=>by
 obtain ⟨d,_,rfl⟩:=List.mem_map.1 he; cases hc with|head=>exact .int _ _|tail _ h=>cases h
theorem ap6 {es:List (List IV)}(h:Bnd 0 (.aa3 es)):∀ e∈es,∀ c∈e,Bnd 0 c:=by
 cases h with|aa3 _ h=>exact h
theorem ct3 (xs:List Dep)(hn:xs.length<=2147483648):PC Tryz.prog EE 125 [.aa3 (xs.map Dep.cs)] (.aa3 (xs.map Dep.cs)):=by
 cases hx:xs with
 | nil=>
  rw[List.map_nil];refine bu6 ?_ ?_
  ·refine ag3 hE fok125 (nZ rfl) (ae4 .aa1) ?_;simp only[ic125,go_sem,ak4];exact .bg7
  ·refine ag3 hE fok125 (nZ rfl) (ae4 .ae5) ?_;simp only[ic125,go_sem,ak4];rw[bu7 (by simp only[aa4,if_true]) rfl];simp only[go_sem]
   exact .dr5 _ _ _ (by simp only[aa4,if_true]; exact fun h=>(by cases h))
 | cons a as'=>
  have hne:xs.map Dep.cs≠[]:=by rw[hx]; exact fun h=>(by cases h)
  have hall:∀ e∈xs.map Dep.cs,e.length=5/\e.all IV.leaf=true:=fun e he=>by
   obtain ⟨x,_,rfl⟩:=List.mem_map.1 he;exact ⟨ar5 x,am7 x⟩
  have hnil:cl1 (.slice 0) (.aa3 (xs.map Dep.cs))=some false:=by rw[hx]; rfl
  rw[<- hx];refine ag3 hE fok125 (nZ rfl) (ae4 (bw9 xs)) ?_;have hnil:∀ d,cl1 (.slice d) (.aa3 (xs.map Dep.cs))=some false:=fun d=>by rw[hx]; rfl
  simp only[ic125,go_sem,ak4,hnil];rw[ca2 (by simp only[aa4,if_true]) hne hall (by rw[List.length_map]; exact hn)];simp only[go_sem];refine Grow.frz (esz:=5) (es:=xs.map Dep.cs) (.inr ⟨1,by rw[List.length_map],by simp only[aa4,if_true],Nat.lt_succ_self _⟩) (fun x hx=>(hall x hx).1) (fun _ _=>Nat.not_lt_zero _) (ap6 (bw9 xs))
theorem eg6 (xs:List Str)(hn:xs.length<=2147483648):PC Tryz.prog EE 126 [.aa3 (xs.map bt3)] (.aa3 (xs.map bt3)):=by
 cases hx:xs with
 | nil=>
  rw[List.map_nil];refine bu6 ?_ ?_
  ·refine ag3 hE fok126 (nZ rfl) (ae4 .aa1) ?_;simp only[ic126,go_sem,ak4];exact .bg7
  ·refine ag3 hE fok126 (nZ rfl) (ae4 .ae5) ?_;simp only[ic126,go_sem,ak4];rw[bu7 (by simp only[aa4,if_true]) rfl];simp only[go_sem]
   exact .dr5 _ _ _ (by simp only[aa4,if_true]; exact fun h=>(by cases h))
 | cons a as'=>
  have hne:xs.map bt3≠[]:=by rw[hx]; exact fun h=>(by cases h)
  have hall:∀ e∈xs.map bt3,e.length=1/\e.all IV.leaf=true:=fun e he=>by
   obtain ⟨x,_,rfl⟩:=List.mem_map.1 he;exact ⟨rfl,rfl⟩
  have hnil:cl1 (.slice 0) (.aa3 (xs.map bt3))=some false:=by rw[hx]; rfl
  rw[<- hx];refine ag3 hE fok126 (nZ rfl) (ae4 (co5 xs)) ?_;have hnil:∀ d,cl1 (.slice d) (.aa3 (xs.map bt3))=some false:=fun d=>by rw[hx]; rfl
  simp only[ic126,go_sem,ak4,hnil];rw[ca2 (by simp only[aa4,if_true]) hne hall (by rw[List.length_map]; exact hn)];simp only[go_sem];refine Grow.frz (esz:=1) (es:=xs.map bt3) (.inr ⟨1,by rw[List.length_map],by simp only[aa4,if_true],Nat.lt_succ_self _⟩) (fun x hx=>(hall x hx).1) (fun _ _=>Nat.not_lt_zero _) (ap6 (co5 xs))
theorem av7 (xs:List aa8):∀ e∈xs.map aa8.cs,e.length=7/\e.all IV.leaf=true:=fun e he=>by
 obtain ⟨x,_,rfl⟩:=List.mem_map.1 he;exact ⟨ac2 x,ab8 x⟩
def eg7:List IV:=[.int .u8 0,.str [],.int .u8 0,.int .i64 0,.str [],.str [],.aa1]
theorem as3 (r:aa8):r.fit->PC Tryz.prog EE 128 [.agg r.cs] (.agg r.cs):=by
 induction r using aa8.ind with
 | h k d xs ih=>
  intro hf;obtain ⟨f1,f2,f3,f4,f5⟩:=aa8.cr4.1 hf;refine ag3 hE fok128 (nZ rfl) (ae4 (ah8 _)) ?_;rw[aa8.aq5];simp only[ic128,go_sem,aa8.kind,aa8.dep,aa8.args,bv7];refine ab4 noT (fun i fr s=>fr=[(2,.ptr 0 0),(3,.ptr 1 0),(12,.aa3 (xs.map aa8.cs)),(13,.int .i64 xs.length),(14,.int .i64 i)]/\∃ v,s.obj 0=some (.cells eg7)/\s.obj 1=some (.cells [.int .u8 k,.str d.name,.int .u8 d.op,.int .i64 d.evr.ao5,.str d.evr.ver,.str d.evr.rel,v])/\Grow s v 7 ((xs.take i).map aa8.cs)/\1<s.next) xs.length ⟨rfl,.aa1,?_,?_,.inl ⟨rfl,rfl⟩,?_⟩ ?_
  ·simp only[aa4,reduceCtorEq,Int.reduceLT,Int.reduceLE,Int.reduceToNat,Int.reduceAdd,Nat.reduceEqDiff,Nat.reduceAdd,Nat.reduceMul,Nat.reduceLT,Nat.reduceLeDiff,decide_true,decide_false,↓reduceIte,if_true,if_false]; rfl
  ·simp only[aa4,reduceCtorEq,Int.reduceLT,Int.reduceLE,Int.reduceToNat,Int.reduceAdd,Nat.reduceEqDiff,Nat.reduceAdd,Nat.reduceMul,Nat.reduceLT,Nat.reduceLeDiff,decide_true,decide_false,↓reduceIte,if_true,if_false]
  ·show 1<2; omega
  rintro i fr s hle ⟨rfl,v,q0,q1,hg,hn⟩;by_cases hlt:i<xs.length
  ·obtain ⟨a,ha,_,hdr,hget,htk⟩:=af5 xs i hlt;have c1:(i:Int)<xs.length:=by omega
   have c2:(0:Int)<=i:=by omega
   have w1:=ad4 (i:=i) (by omega);have u0:¬ 1=s.next:=by omega
   have u1:¬ 0=s.next:=by omega
   simp only[go_sem,c1,c2,hget,ac2,ad2,ab8,q1,u0,bv7];refine aa6 (ih a ha (f5 a ha)) ?_;simp only[go_sem,ac2,ad2,ab8]
   have hg1:Grow ⟨s.next+1+8,((Store.put ⟨s.next+1,s.obj⟩ s.next (ak3.cells eg7)).put s.next (ak3.cells a.cs)).obj⟩ v 7 ((xs.take i).map aa8.cs):=hg.mono (by show s.next<=s.next+1+8; omega) fun id _ hid=>by
    have:¬ id=s.next:=by omega
    simp only[aa4,this,if_false]
   have hl0:((xs.take i).map aa8.cs).length=i:=by rw[List.length_map,List.length_take]; omega
   have ha2:=ao9 (nid:=s.next+1+1+1+1+1+1) (e:=a.cs) hg1 (av7 _) ⟨ac2 a,ab8 a⟩ (by rw[hl0]; omega);have k1:=ai4 hg1 1 (.cells [.int .u8 k,.str d.name,.int .u8 d.op,.int .i64 d.evr.ao5,.str d.evr.ver,.str d.evr.rel,v]) (by simp only[aa4,u0,if_false]; exact q1) (fun _ h=>by cases h);have k0:=ai4 hg1 0 (.cells eg7) (by simp only[aa4,u1,if_false]; exact q0) (fun _ h=>by cases h);have kn:=ah1 (σ:=⟨s.next+1+8,((Store.put ⟨s.next+1,s.obj⟩ s.next (ak3.cells eg7)).put s.next (ak3.cells a.cs)).obj⟩) v;simp only[eg7] at ha2 k1 k0 kn;rw[ha2,hl0];have u2:¬ 1=s.next+1+1+1+1+1+1:=by omega
   have u3:¬ 0=s.next+1+1+1+1+1+1:=by omega
   have u4:¬ s.next+1+1+1+1+1+1=1:=by omega
   simp only[go_sem,u2,k1,w1];refine ⟨hlt,_,?_,rfl,?_,?_⟩
   ·simp only[u3,if_false,eg7]; exact k0
   ·rw[htk,List.map_append,List.map_cons,List.map_nil];refine .inr ⟨_,by rw[List.length_append,hl0]; rfl,?_,?_⟩
    ·simp only[aa4,u4,if_false,if_true]
    ·simp only[aa9,kn]; omega
   ·rw[kn]; show 1<s.next+1+8; omega
  ·have hi':i=xs.length:=by omega
   subst hi';have c1:¬ (xs.length:Int)<xs.length:=by omega
   rw[List.take_length] at hg
   have hvl:v.leaf=true:=by
    rcases hg with ⟨rfl,_⟩|⟨id,rfl,_⟩<;>rfl
   simp only[go_sem,c1,q0,q1,bv7,eg7,hvl];refine .agg _ _ rfl fun j hj=>?_
   have:j=0\/j=1\/j=2\/j=3\/j=4\/j=5\/j=6:=by
    simp only[List.length_cons,List.length_nil] at hj; omega
   rcases this with rfl|rfl|rfl|rfl|rfl|rfl|rfl
   ·exact ad8 _ _
   ·exact be6 _
   ·exact ad8 _ _
   ·exact ad8 _ _
   ·exact be6 _
   ·exact be6 _
   ·have hne:∀ id,v=.slice id 0 (xs.map aa8.cs).length 7->id≠0:=fun id hv=>hg.ne hv q0 (fun _ h=>by cases h)
    refine Grow.frz (hg.mono (Nat.le_refl _) fun id hv _=>?_) (fun x hx=>(av7 xs x hx).1) (fun _ _=>Nat.not_lt_zero _) (ap6 (be1 xs));have:¬ id=0:=hne id hv;simp only[aa4,this,if_false]
theorem av6 (xs:List aa8)(σ:Store)(hn:xs.length<=2147483648):C Tryz.prog EE 127 [.aa3 (xs.map aa8.cs)] σ fun v s=>(∀ i,i<σ.next->s.obj i=σ.obj i)/\σ.next<=s.next/\Grow s v 7 (xs.map aa8.cs)/\∀ id,v=.slice id 0 xs.length 7->σ.next<=id:=by
 cases hx:xs with
 | nil=>
  rw[List.map_nil];refine gj5 ?_ ?_
  ·refine C_f fok127 (nZ rfl) ?_;simp only[ic127,go_sem,ak4];exact ⟨fun _ _=>trivial,Nat.le_refl _,.inl ⟨rfl,rfl⟩,fun id h=>by cases h⟩
  ·refine C_f fok127 (nZ rfl) ?_;simp only[ic127,go_sem,ak4];rw[bu7 (by simp only[aa4,if_true]) rfl];simp only[go_sem];refine ⟨fun i hi=>?_,by omega,.inr ⟨σ.next,rfl,by simp only[aa4,if_true]; rfl,by show σ.next<σ.next+2; omega⟩,fun id h=>by cases h; exact Nat.le_refl _⟩;have:¬ i=σ.next:=by omega
   simp only[this,if_false]
 | cons a as'=>
  have hne:xs.map aa8.cs≠[]:=by rw[hx]; exact fun h=>(by cases h)
  rw[<- hx];refine C_f fok127 (nZ rfl) ?_;have hnil:∀ d,cl1 (.slice d) (.aa3 (xs.map aa8.cs))=some false:=fun d=>by rw[hx]; rfl
  simp only[ic127,go_sem,ak4,hnil];rw[ca2 (by simp only[aa4,if_true]) hne (av7 xs) (by rw[List.length_map]; exact hn)];simp only[go_sem];refine ⟨fun i hi=>?_,by omega,.inr ⟨σ.next+1,by rw[List.length_map],by simp only[aa4,if_true],by show σ.next+1<σ.next+2; omega⟩,fun id h=>by cases h; omega⟩;have h1:¬ i=σ.next:=by omega
  have h2:¬ i=σ.next+1:=by omega
  simp only[h1,h2,if_false]
def ao1 (s:Store)(done:Prop)(v:IV)(l:List aa8):Prop:=(done/\Grow s v 7 (l.map aa8.cs))\/(¬ done/\v=ae8 l)
theorem ao1.mono {s s':Store}{done done':Prop}{v:IV}{l:List aa8}(h:ao1 s done v l)(hd:done↔done')(hn:s.next<=s'.next)(ho:∀ id cs,id<s.next->s.obj id=some (.row cs)->s'.obj id=some (.row cs)):ao1 s' done' v l:=by
 rcases h with ⟨h1,h2⟩|⟨h1,h2⟩
 ·refine .inl ⟨hd.1 h1,?_⟩;rcases h2 with h2|⟨id,hv,hr,hlt⟩
  ·exact .inl h2
  ·exact .inr ⟨id,hv,ho _ _ hlt hr,Nat.lt_of_lt_of_le hlt hn⟩
 ·exact .inr ⟨fun h=>h1 (hd.2 h),h2⟩
theorem ao1.leaf {s:Store}{done:Prop}{v:IV}{l:List aa8}(h:ao1 s done v l):v.leaf=true:=by
 rcases h with ⟨_,⟨rfl,_⟩|⟨id,rfl,_⟩⟩|⟨_,rfl⟩<;>rfl
def pcs (p:aa2)(v7 v8 v10 v11 v12 v13:IV):List IV :=
 [.str p.name,.int .i64 p.evr.ao5,.str p.evr.ver,.str p.evr.rel,.int .u8 p.an1,.str p.vendor,deps p.provides,v7,v8,deps p.ab2,v10,v11,v12,v13,strs p.files]
def bb2:List IV:=[.str [],.int .i64 0,.str [],.str [],.int .u8 0,.str [],.aa1,.aa1,.aa1,.aa1,.aa1,.aa1,.aa1,.aa1,.aa1]
def ci3:List (List IV):=[[.ptr 0 7],[.ptr 0 8],[.ptr 0 10],[.ptr 0 11],[.ptr 0 12],[.ptr 0 13]]
theorem df7 (p:aa2)(hf:p.Fit):PC Tryz.prog EE 58 [.agg p.cs] (.agg p.cs):=by
 refine ag3 hE fok58 (nZ rfl) (ae4 (ap5 _)) ?_;simp only[ic58,go_sem,af1,aa2.cs,be9];refine aa6 (ct3 p.provides (by have:=hf.av4.1; omega)) ?_;simp only[go_sem,be9];refine aa6 (ct3 p.ab2 (by have:=hf.obs.1; omega)) ?_;simp only[go_sem,be9];refine aa6 (eg6 p.files (by have:=hf.files.1; omega)) ?_;simp only[go_sem,be9]
 refine ab4 noT (fun i fr s=>fr=[(1,.ptr 0 0),(2,.ptr 1 0),(25,.aa3 ci3),(26,.int .i64 6),(27,.int .i64 i)]/\(s.obj 1=some (.cells bb2)/\1<s.next)/\∃ v7 v8 v10 v11 v12 v13,s.obj 0=some (.cells (pcs p v7 v8 v10 v11 v12 v13)) /\
  ao1 s (0<i) v7 p.requires/\ao1 s (1<i) v8 p.conflicts/\ao1 s (2<i) v10 p.ac3/\ao1 s (3<i) v11 p.ac1/\ao1 s (4<i) v12 p.suggests/\ao1 s (5<i) v13 p.ac5) 6 ?_ ?_
 ·refine ⟨rfl,⟨?_,?_⟩,_,_,_,_,_,_,?_,.inr ⟨by omega,rfl⟩,.inr ⟨by omega,rfl⟩,.inr ⟨by omega,rfl⟩,.inr ⟨by omega,rfl⟩,.inr ⟨by omega,rfl⟩,.inr ⟨by omega,rfl⟩⟩
  ·simp only[aa4,reduceCtorEq,Int.reduceLT,Int.reduceLE,Int.reduceToNat,Int.reduceAdd,Nat.reduceEqDiff,Nat.reduceAdd,Nat.reduceMul,Nat.reduceLT,Nat.reduceLeDiff,decide_true,decide_false,↓reduceIte,if_true,if_false]; rfl
  ·simp only[aa9]; omega
  ·simp only[aa4,reduceCtorEq,Int.reduceLT,Int.reduceLE,Int.reduceToNat,Int.reduceAdd,Nat.reduceEqDiff,Nat.reduceAdd,Nat.reduceMul,Nat.reduceLT,Nat.reduceLeDiff,decide_true,decide_false,↓reduceIte,if_true,if_false]; rfl
 rintro i fr s hle ⟨rfl,⟨q1,hn⟩,v7,v8,v10,v11,v12,v13,q0,o7,o8,o10,o11,o12,o13⟩;by_cases hlt:i<6
 ·have hcase:i=0\/i=1\/i=2\/i=3\/i=4\/i=5:=by omega
  rcases hcase with rfl|rfl|rfl|rfl|rfl|rfl
  ·have hv:v7=ae8 p.requires:=by
    rcases o7 with ⟨h,_⟩|⟨_,h⟩
    ·exact absurd h (by omega)
    ·exact h
   subst hv;have hfl:p.requires.length<2^31/\∀ r∈p.requires,r.fit/\r.count<2^31:=hf.rich (1,p.requires) (by simp[aa2.rows]);simp only[go_sem,ci3,q0,pcs,be9];refine ac9 fok127 (av6 p.requires _ (by have:=hfl.1; omega)) ?_;rintro v s2 ⟨hs2,hn2,hg,hid⟩;refine ⟨hn2,?_⟩;have q02:s2.obj 0=some (.cells (pcs p (ae8 p.requires) v8 v10 v11 v12 v13)):=by rw[hs2 0 (by omega)]; exact q0
   have q12:s2.obj 1=some (.cells bb2):=by rw[hs2 1 (by omega)]; exact q1
   have hvl:v.leaf=true:=by rcases hg with ⟨rfl,_⟩|⟨id,rfl,_⟩<;>rfl
   have hvc:v.cs=[v]:=by rcases hg with ⟨rfl,_⟩|⟨id,rfl,_⟩<;>rfl
   have hlen:∀ s,dh9 0 s v=some (.int .i64 (p.requires.length:Nat)):=fun s=>by
    rcases hg with ⟨rfl,he⟩|⟨id,rfl,_⟩
    ·have:p.requires=[]:=by simpa using he
     rw[this]; rfl
    ·rw[bf9,List.length_map]
   simp only[go_sem,q02,pcs,hvl,hvc,hlen]
   refine ab4 noT (fun j fr t=>fr=[(1,.ptr 0 0),(2,.ptr 1 0),(4,.ptr 0 7),(25,.aa3 ci3),(26,.int .i64 6),(27,.int .i64 0),(39,v),(40,.int .i64 p.requires.length),(41,.int .i64 j)] /\
    s2.next<=t.next/\t.obj 0=some (.cells (pcs p v v8 v10 v11 v12 v13))/\t.obj 1=some (.cells bb2)/\∀ id cs,id<s2.next->s2.obj id=some (.row cs)->t.obj id=some (.row cs)) p.requires.length ⟨rfl,Nat.le_refl _,?_,?_,?_⟩ ?_
   ·simp only[aa4,if_true]; rfl
   ·simp only[aa4,reduceCtorEq,Int.reduceLT,Int.reduceLE,Int.reduceToNat,Int.reduceAdd,Nat.reduceEqDiff,Nat.reduceAdd,Nat.reduceMul,Nat.reduceLT,Nat.reduceLeDiff,decide_true,decide_false,↓reduceIte,if_false]; exact q12
   ·intro id cs hlt' h;have:¬ id=0:=fun e=>by subst e; rw[q02] at h; cases h
    simp only[aa4,this,if_false]; exact h
   rintro j fr t hle' ⟨rfl,t0,t1,t2,t3⟩;by_cases hjl:j<p.requires.length
   ·obtain ⟨a,ha,_,hdr,hget,_⟩:=af5 p.requires j hjl;rcases hg with ⟨_,he⟩|⟨id,rfl,ho,hil⟩
    ·have:p.requires=[]:=by simpa using he
     rw[this] at hjl; cases hjl
    have hrow:=t3 _ _ hil ho;have c1:(j:Int)<p.requires.length:=by omega
    have c2:(0:Int)<=j:=by omega
    have w1:=ad4 (i:=j) (by have:=hfl.1; omega);have hid0:¬ id=0:=fun e=>by subst e; rw[t1] at hrow; cases hrow
    have hid1:¬ id=1:=fun e=>by subst e; rw[t2] at hrow; cases hrow
    have u0:¬ 0=t.next:=by omega
    have u1:¬ 1=t.next:=by omega
    have u2:¬ id=t.next:=by omega
    have u3:¬ t.next=id:=by omega
    have u4:¬ 0=id:=by omega
    have u5:¬ 1=id:=by omega
    have hall:=fun x hx=>(av7 p.requires x hx).1
    have hfl2:=as7 hall;have hpart:=aw4 hall j (by rw[List.length_map]; exact hjl);rw[hget] at hpart;rw[List.length_map] at hfl2;have hin:7<=((p.requires.map aa8.cs).flatten.drop (j*7)).length:=by rw[List.length_drop,hfl2]; omega
    have hin2:j*7+7<=(p.requires.map aa8.cs).flatten.length:=by rw[hfl2]; omega
    have hsame:as6 (p.requires.map aa8.cs).flatten (j*7) a.cs=(p.requires.map aa8.cs).flatten:=bc8 (by rw[ac2]; exact hpart) (by rw[ac2]; exact hin2);simp only[go_sem,c1,c2,hrow,hin,hpart,cl8,ac2,ab8,ad2,t1,pcs,u0,u2,u3,hid0];refine aa6 (as3 a (hfl.2 a ha).1) ?_;simp only[go_sem,c1,c2,hrow,hin2,cl9,ac2,ab8,hsame,t1,pcs,u0,u2,w1];refine ⟨hjl,by omega,?_,?_,?_⟩
    ·simp only[u4,if_false]
    ·simp only[u5,u1,if_false]; exact t2
    ·intro id' cs hlt' h;have h':=t3 id' cs hlt' h;have u6:¬ id'=t.next:=by omega
     by_cases e:id'=id
     ·subst e;rw[hrow] at h';simp only[if_true]; exact h'
     ·simp only[e,u6,if_false]; exact h'
   ·have hj':j=p.requires.length:=by omega
    subst hj';have c1:¬ (p.requires.length:Int)<p.requires.length:=by omega
    have hgt:Grow t v 7 (p.requires.map aa8.cs):=by
     rcases hg with h|⟨id,rfl,ho,hil⟩
     ·exact .inl h
     ·exact .inr ⟨id,rfl,t3 _ _ hil ho,by omega⟩
    have hrows:∀ id cs,id<s.next->s.obj id=some (.row cs)->t.obj id=some (.row cs):=fun id cs hlt' h=>t3 id cs (by omega) (by rw[hs2 id hlt']; exact h)
    have mm:∀ {d d':Prop} (u:IV) (l:List aa8),ao1 s d u l->(d↔d')->ao1 t d' u l:=fun u l h hd=>h.mono hd (by omega) hrows
    simp only[go_sem,c1];exact ⟨rfl,⟨t2,by omega⟩,v,v8,v10,v11,v12,v13,t1,.inl ⟨by simp,hgt⟩,mm _ _ o8 (by simp),mm _ _ o10 (by simp),mm _ _ o11 (by simp),mm _ _ o12 (by simp),mm _ _ o13 (by simp)⟩
  ·have hv:v8=ae8 p.conflicts:=by
    rcases o8 with ⟨h,_⟩|⟨_,h⟩
    ·exact absurd h (by omega)
    ·exact h
   subst hv;have hfl:p.conflicts.length<2^31/\∀ r∈p.conflicts,r.fit/\r.count<2^31:=hf.rich (2,p.conflicts) (by simp[aa2.rows]);simp only[go_sem,ci3,q0,pcs,be9];refine ac9 fok127 (av6 p.conflicts _ (by have:=hfl.1; omega)) ?_;rintro v s2 ⟨hs2,hn2,hg,hid⟩;refine ⟨hn2,?_⟩;have q02:s2.obj 0=some (.cells (pcs p v7 (ae8 p.conflicts) v10 v11 v12 v13)):=by rw[hs2 0 (by omega)]; exact q0
   have q12:s2.obj 1=some (.cells bb2):=by rw[hs2 1 (by omega)]; exact q1
   have hvl:v.leaf=true:=by rcases hg with ⟨rfl,_⟩|⟨id,rfl,_⟩<;>rfl
   have hvc:v.cs=[v]:=by rcases hg with ⟨rfl,_⟩|⟨id,rfl,_⟩<;>rfl
   have hlen:∀ s,dh9 0 s v=some (.int .i64 (p.conflicts.length:Nat)):=fun s=>by
    rcases hg with ⟨rfl,he⟩|⟨id,rfl,_⟩
    ·have:p.conflicts=[]:=by simpa using he
     rw[this]; rfl
    ·rw[bf9,List.length_map]
   simp only[go_sem,q02,pcs,hvl,hvc,hlen]
   refine ab4 noT (fun j fr t=>fr=[(1,.ptr 0 0),(2,.ptr 1 0),(4,.ptr 0 8),(25,.aa3 ci3),(26,.int .i64 6),(27,.int .i64 1),(39,v),(40,.int .i64 p.conflicts.length),(41,.int .i64 j)] /\
    s2.next<=t.next/\t.obj 0=some (.cells (pcs p v7 v v10 v11 v12 v13))/\t.obj 1=some (.cells bb2)/\∀ id cs,id<s2.next->s2.obj id=some (.row cs)->t.obj id=some (.row cs)) p.conflicts.length ⟨rfl,Nat.le_refl _,?_,?_,?_⟩ ?_
   ·simp only[aa4,if_true]; rfl
   ·simp only[aa4,reduceCtorEq,Int.reduceLT,Int.reduceLE,Int.reduceToNat,Int.reduceAdd,Nat.reduceEqDiff,Nat.reduceAdd,Nat.reduceMul,Nat.reduceLT,Nat.reduceLeDiff,decide_true,decide_false,↓reduceIte,if_false]; exact q12
   ·intro id cs hlt' h;have:¬ id=0:=fun e=>by subst e; rw[q02] at h; cases h
    simp only[aa4,this,if_false]; exact h
   rintro j fr t hle' ⟨rfl,t0,t1,t2,t3⟩;by_cases hjl:j<p.conflicts.length
   ·obtain ⟨a,ha,_,hdr,hget,_⟩:=af5 p.conflicts j hjl;rcases hg with ⟨_,he⟩|⟨id,rfl,ho,hil⟩
    ·have:p.conflicts=[]:=by simpa using he
     rw[this] at hjl; cases hjl
    have hrow:=t3 _ _ hil ho;have c1:(j:Int)<p.conflicts.length:=by omega
    have c2:(0:Int)<=j:=by omega
    have w1:=ad4 (i:=j) (by have:=hfl.1; omega);have hid0:¬ id=0:=fun e=>by subst e; rw[t1] at hrow; cases hrow
    have hid1:¬ id=1:=fun e=>by subst e; rw[t2] at hrow; cases hrow
    have u0:¬ 0=t.next:=by omega
    have u1:¬ 1=t.next:=by omega
    have u2:¬ id=t.next:=by omega
    have u3:¬ t.next=id:=by omega
    have u4:¬ 0=id:=by omega
    have u5:¬ 1=id:=by omega
    have hall:=fun x hx=>(av7 p.conflicts x hx).1
    have hfl2:=as7 hall;have hpart:=aw4 hall j (by rw[List.length_map]; exact hjl);rw[hget] at hpart;rw[List.length_map] at hfl2;have hin:7<=((p.conflicts.map aa8.cs).flatten.drop (j*7)).length:=by rw[List.length_drop,hfl2]; omega
    have hin2:j*7+7<=(p.conflicts.map aa8.cs).flatten.length:=by rw[hfl2]; omega
    have hsame:as6 (p.conflicts.map aa8.cs).flatten (j*7) a.cs=(p.conflicts.map aa8.cs).flatten:=bc8 (by rw[ac2]; exact hpart) (by rw[ac2]; exact hin2);simp only[go_sem,c1,c2,hrow,hin,hpart,cl8,ac2,ab8,ad2,t1,pcs,u0,u2,u3,hid0];refine aa6 (as3 a (hfl.2 a ha).1) ?_;simp only[go_sem,c1,c2,hrow,hin2,cl9,ac2,ab8,hsame,t1,pcs,u0,u2,w1];refine ⟨hjl,by omega,?_,?_,?_⟩
    ·simp only[u4,if_false]
    ·simp only[u5,u1,if_false]; exact t2
    ·intro id' cs hlt' h;have h':=t3 id' cs hlt' h;have u6:¬ id'=t.next:=by omega
     by_cases e:id'=id
     ·subst e;rw[hrow] at h';simp only[if_true]; exact h'
     ·simp only[e,u6,if_false]; exact h'
   ·have hj':j=p.conflicts.length:=by omega
    subst hj';have c1:¬ (p.conflicts.length:Int)<p.conflicts.length:=by omega
    have hgt:Grow t v 7 (p.conflicts.map aa8.cs):=by
     rcases hg with h|⟨id,rfl,ho,hil⟩
     ·exact .inl h
     ·exact .inr ⟨id,rfl,t3 _ _ hil ho,by omega⟩
    have hrows:∀ id cs,id<s.next->s.obj id=some (.row cs)->t.obj id=some (.row cs):=fun id cs hlt' h=>t3 id cs (by omega) (by rw[hs2 id hlt']; exact h)
    have mm:∀ {d d':Prop} (u:IV) (l:List aa8),ao1 s d u l->(d↔d')->ao1 t d' u l:=fun u l h hd=>h.mono hd (by omega) hrows
    simp only[go_sem,c1];exact ⟨rfl,⟨t2,by omega⟩,v7,v,v10,v11,v12,v13,t1,mm _ _ o7 (by simp),.inl ⟨by simp,hgt⟩,mm _ _ o10 (by simp),mm _ _ o11 (by simp),mm _ _ o12 (by simp),mm _ _ o13 (by simp)⟩
  ·have hv:v10=ae8 p.ac3:=by
    rcases o10 with ⟨h,_⟩|⟨_,h⟩
    ·exact absurd h (by omega)
    ·exact h
   subst hv;have hfl:p.ac3.length<2^31/\∀ r∈p.ac3,r.fit/\r.count<2^31:=hf.rich (1,p.ac3) (by simp[aa2.rows]);simp only[go_sem,ci3,q0,pcs,be9];refine ac9 fok127 (av6 p.ac3 _ (by have:=hfl.1; omega)) ?_;rintro v s2 ⟨hs2,hn2,hg,hid⟩;refine ⟨hn2,?_⟩;have q02:s2.obj 0=some (.cells (pcs p v7 v8 (ae8 p.ac3) v11 v12 v13)):=by rw[hs2 0 (by omega)]; exact q0
   have q12:s2.obj 1=some (.cells bb2):=by rw[hs2 1 (by omega)]; exact q1
   have hvl:v.leaf=true:=by rcases hg with ⟨rfl,_⟩|⟨id,rfl,_⟩<;>rfl
   have hvc:v.cs=[v]:=by rcases hg with ⟨rfl,_⟩|⟨id,rfl,_⟩<;>rfl
   have hlen:∀ s,dh9 0 s v=some (.int .i64 (p.ac3.length:Nat)):=fun s=>by
    rcases hg with ⟨rfl,he⟩|⟨id,rfl,_⟩
    ·have:p.ac3=[]:=by simpa using he
     rw[this]; rfl
    ·rw[bf9,List.length_map]
   simp only[go_sem,q02,pcs,hvl,hvc,hlen]
   refine ab4 noT (fun j fr t=>fr=[(1,.ptr 0 0),(2,.ptr 1 0),(4,.ptr 0 10),(25,.aa3 ci3),(26,.int .i64 6),(27,.int .i64 2),(39,v),(40,.int .i64 p.ac3.length),(41,.int .i64 j)] /\
    s2.next<=t.next/\t.obj 0=some (.cells (pcs p v7 v8 v v11 v12 v13))/\t.obj 1=some (.cells bb2)/\∀ id cs,id<s2.next->s2.obj id=some (.row cs)->t.obj id=some (.row cs)) p.ac3.length ⟨rfl,Nat.le_refl _,?_,?_,?_⟩ ?_
   ·simp only[aa4,if_true]; rfl
   ·simp only[aa4,reduceCtorEq,Int.reduceLT,Int.reduceLE,Int.reduceToNat,Int.reduceAdd,Nat.reduceEqDiff,Nat.reduceAdd,Nat.reduceMul,Nat.reduceLT,Nat.reduceLeDiff,decide_true,decide_false,↓reduceIte,if_false]; exact q12
   ·intro id cs hlt' h;have:¬ id=0:=fun e=>by subst e; rw[q02] at h; cases h
    simp only[aa4,this,if_false]; exact h
   rintro j fr t hle' ⟨rfl,t0,t1,t2,t3⟩;by_cases hjl:j<p.ac3.length
   ·obtain ⟨a,ha,_,hdr,hget,_⟩:=af5 p.ac3 j hjl;rcases hg with ⟨_,he⟩|⟨id,rfl,ho,hil⟩
    ·have:p.ac3=[]:=by simpa using he
     rw[this] at hjl; cases hjl
    have hrow:=t3 _ _ hil ho;have c1:(j:Int)<p.ac3.length:=by omega
    have c2:(0:Int)<=j:=by omega
    have w1:=ad4 (i:=j) (by have:=hfl.1; omega);have hid0:¬ id=0:=fun e=>by subst e; rw[t1] at hrow; cases hrow
    have hid1:¬ id=1:=fun e=>by subst e; rw[t2] at hrow; cases hrow
    have u0:¬ 0=t.next:=by omega
    have u1:¬ 1=t.next:=by omega
    have u2:¬ id=t.next:=by omega
    have u3:¬ t.next=id:=by omega
    have u4:¬ 0=id:=by omega
    have u5:¬ 1=id:=by omega
    have hall:=fun x hx=>(av7 p.ac3 x hx).1
    have hfl2:=as7 hall;have hpart:=aw4 hall j (by rw[List.length_map]; exact hjl);rw[hget] at hpart;rw[List.length_map] at hfl2;have hin:7<=((p.ac3.map aa8.cs).flatten.drop (j*7)).length:=by rw[List.length_drop,hfl2]; omega
    have hin2:j*7+7<=(p.ac3.map aa8.cs).flatten.length:=by rw[hfl2]; omega
    have hsame:as6 (p.ac3.map aa8.cs).flatten (j*7) a.cs=(p.ac3.map aa8.cs).flatten:=bc8 (by rw[ac2]; exact hpart) (by rw[ac2]; exact hin2);simp only[go_sem,c1,c2,hrow,hin,hpart,cl8,ac2,ab8,ad2,t1,pcs,u0,u2,u3,hid0];refine aa6 (as3 a (hfl.2 a ha).1) ?_;simp only[go_sem,c1,c2,hrow,hin2,cl9,ac2,ab8,hsame,t1,pcs,u0,u2,w1];refine ⟨hjl,by omega,?_,?_,?_⟩
    ·simp only[u4,if_false]
    ·simp only[u5,u1,if_false]; exact t2
    ·intro id' cs hlt' h;have h':=t3 id' cs hlt' h;have u6:¬ id'=t.next:=by omega
     by_cases e:id'=id
     ·subst e;rw[hrow] at h';simp only[if_true]; exact h'
     ·simp only[e,u6,if_false]; exact h'
   ·have hj':j=p.ac3.length:=by omega
    subst hj';have c1:¬ (p.ac3.length:Int)<p.ac3.length:=by omega
    have hgt:Grow t v 7 (p.ac3.map aa8.cs):=by
     rcases hg with h|⟨id,rfl,ho,hil⟩
     ·exact .inl h
     ·exact .inr ⟨id,rfl,t3 _ _ hil ho,by omega⟩
    have hrows:∀ id cs,id<s.next->s.obj id=some (.row cs)->t.obj id=some (.row cs):=fun id cs hlt' h=>t3 id cs (by omega) (by rw[hs2 id hlt']; exact h)
    have mm:∀ {d d':Prop} (u:IV) (l:List aa8),ao1 s d u l->(d↔d')->ao1 t d' u l:=fun u l h hd=>h.mono hd (by omega) hrows
    simp only[go_sem,c1];exact ⟨rfl,⟨t2,by omega⟩,v7,v8,v,v11,v12,v13,t1,mm _ _ o7 (by simp),mm _ _ o8 (by simp),.inl ⟨by simp,hgt⟩,mm _ _ o11 (by simp),mm _ _ o12 (by simp),mm _ _ o13 (by simp)⟩
  ·have hv:v11=ae8 p.ac1:=by
    rcases o11 with ⟨h,_⟩|⟨_,h⟩
    ·exact absurd h (by omega)
    ·exact h
   subst hv;have hfl:p.ac1.length<2^31/\∀ r∈p.ac1,r.fit/\r.count<2^31:=hf.rich (3,p.ac1) (by simp[aa2.rows]);simp only[go_sem,ci3,q0,pcs,be9];refine ac9 fok127 (av6 p.ac1 _ (by have:=hfl.1; omega)) ?_;rintro v s2 ⟨hs2,hn2,hg,hid⟩;refine ⟨hn2,?_⟩;have q02:s2.obj 0=some (.cells (pcs p v7 v8 v10 (ae8 p.ac1) v12 v13)):=by rw[hs2 0 (by omega)]; exact q0
   have q12:s2.obj 1=some (.cells bb2):=by rw[hs2 1 (by omega)]; exact q1
   have hvl:v.leaf=true:=by rcases hg with ⟨rfl,_⟩|⟨id,rfl,_⟩<;>rfl
   have hvc:v.cs=[v]:=by rcases hg with ⟨rfl,_⟩|⟨id,rfl,_⟩<;>rfl
   have hlen:∀ s,dh9 0 s v=some (.int .i64 (p.ac1.length:Nat)):=fun s=>by
    rcases hg with ⟨rfl,he⟩|⟨id,rfl,_⟩
    ·have:p.ac1=[]:=by simpa using he
     rw[this]; rfl
    ·rw[bf9,List.length_map]
   simp only[go_sem,q02,pcs,hvl,hvc,hlen]
   refine ab4 noT (fun j fr t=>fr=[(1,.ptr 0 0),(2,.ptr 1 0),(4,.ptr 0 11),(25,.aa3 ci3),(26,.int .i64 6),(27,.int .i64 3),(39,v),(40,.int .i64 p.ac1.length),(41,.int .i64 j)] /\
    s2.next<=t.next/\t.obj 0=some (.cells (pcs p v7 v8 v10 v v12 v13))/\t.obj 1=some (.cells bb2)/\∀ id cs,id<s2.next->s2.obj id=some (.row cs)->t.obj id=some (.row cs)) p.ac1.length ⟨rfl,Nat.le_refl _,?_,?_,?_⟩ ?_
   ·simp only[aa4,if_true]; rfl
   ·simp only[aa4,reduceCtorEq,Int.reduceLT,Int.reduceLE,Int.reduceToNat,Int.reduceAdd,Nat.reduceEqDiff,Nat.reduceAdd,Nat.reduceMul,Nat.reduceLT,Nat.reduceLeDiff,decide_true,decide_false,↓reduceIte,if_false]; exact q12
   ·intro id cs hlt' h;have:¬ id=0:=fun e=>by subst e; rw[q02] at h; cases h
    simp only[aa4,this,if_false]; exact h
   rintro j fr t hle' ⟨rfl,t0,t1,t2,t3⟩;by_cases hjl:j<p.ac1.length
   ·obtain ⟨a,ha,_,hdr,hget,_⟩:=af5 p.ac1 j hjl;rcases hg with ⟨_,he⟩|⟨id,rfl,ho,hil⟩
    ·have:p.ac1=[]:=by simpa using he
     rw[this] at hjl; cases hjl
    have hrow:=t3 _ _ hil ho;have c1:(j:Int)<p.ac1.length:=by omega
    have c2:(0:Int)<=j:=by omega
    have w1:=ad4 (i:=j) (by have:=hfl.1; omega);have hid0:¬ id=0:=fun e=>by subst e; rw[t1] at hrow; cases hrow
    have hid1:¬ id=1:=fun e=>by subst e; rw[t2] at hrow; cases hrow
    have u0:¬ 0=t.next:=by omega
    have u1:¬ 1=t.next:=by omega
    have u2:¬ id=t.next:=by omega
    have u3:¬ t.next=id:=by omega
    have u4:¬ 0=id:=by omega
    have u5:¬ 1=id:=by omega
    have hall:=fun x hx=>(av7 p.ac1 x hx).1
    have hfl2:=as7 hall;have hpart:=aw4 hall j (by rw[List.length_map]; exact hjl);rw[hget] at hpart;rw[List.length_map] at hfl2;have hin:7<=((p.ac1.map aa8.cs).flatten.drop (j*7)).length:=by rw[List.length_drop,hfl2]; omega
    have hin2:j*7+7<=(p.ac1.map aa8.cs).flatten.length:=by rw[hfl2]; omega
    have hsame:as6 (p.ac1.map aa8.cs).flatten (j*7) a.cs=(p.ac1.map aa8.cs).flatten:=bc8 (by rw[ac2]; exact hpart) (by rw[ac2]; exact hin2);simp only[go_sem,c1,c2,hrow,hin,hpart,cl8,ac2,ab8,ad2,t1,pcs,u0,u2,u3,hid0];refine aa6 (as3 a (hfl.2 a ha).1) ?_;simp only[go_sem,c1,c2,hrow,hin2,cl9,ac2,ab8,hsame,t1,pcs,u0,u2,w1];refine ⟨hjl,by omega,?_,?_,?_⟩
    ·simp only[u4,if_false]
    ·simp only[u5,u1,if_false]; exact t2
    ·intro id' cs hlt' h;have h':=t3 id' cs hlt' h;have u6:¬ id'=t.next:=by omega
     by_cases e:id'=id
     ·subst e;rw[hrow] at h';simp only[if_true]; exact h'
     ·simp only[e,u6,if_false]; exact h'
   ·have hj':j=p.ac1.length:=by omega
    subst hj';have c1:¬ (p.ac1.length:Int)<p.ac1.length:=by omega
    have hgt:Grow t v 7 (p.ac1.map aa8.cs):=by
     rcases hg with h|⟨id,rfl,ho,hil⟩
     ·exact .inl h
     ·exact .inr ⟨id,rfl,t3 _ _ hil ho,by omega⟩
    have hrows:∀ id cs,id<s.next->s.obj id=some (.row cs)->t.obj id=some (.row cs):=fun id cs hlt' h=>t3 id cs (by omega) (by rw[hs2 id hlt']; exact h)
    have mm:∀ {d d':Prop} (u:IV) (l:List aa8),ao1 s d u l->(d↔d')->ao1 t d' u l:=fun u l h hd=>h.mono hd (by omega) hrows
    simp only[go_sem,c1];exact ⟨rfl,⟨t2,by omega⟩,v7,v8,v10,v,v12,v13,t1,mm _ _ o7 (by simp),mm _ _ o8 (by simp),mm _ _ o10 (by simp),.inl ⟨by simp,hgt⟩,mm _ _ o12 (by simp),mm _ _ o13 (by simp)⟩
  ·have hv:v12=ae8 p.suggests:=by
    rcases o12 with ⟨h,_⟩|⟨_,h⟩
    ·exact absurd h (by omega)
    ·exact h
   subst hv;have hfl:p.suggests.length<2^31/\∀ r∈p.suggests,r.fit/\r.count<2^31:=hf.rich (1,p.suggests) (by simp[aa2.rows]);simp only[go_sem,ci3,q0,pcs,be9];refine ac9 fok127 (av6 p.suggests _ (by have:=hfl.1; omega)) ?_;rintro v s2 ⟨hs2,hn2,hg,hid⟩;refine ⟨hn2,?_⟩;have q02:s2.obj 0=some (.cells (pcs p v7 v8 v10 v11 (ae8 p.suggests) v13)):=by rw[hs2 0 (by omega)]; exact q0
   have q12:s2.obj 1=some (.cells bb2):=by rw[hs2 1 (by omega)]; exact q1
   have hvl:v.leaf=true:=by rcases hg with ⟨rfl,_⟩|⟨id,rfl,_⟩<;>rfl
   have hvc:v.cs=[v]:=by rcases hg with ⟨rfl,_⟩|⟨id,rfl,_⟩<;>rfl
   have hlen:∀ s,dh9 0 s v=some (.int .i64 (p.suggests.length:Nat)):=fun s=>by
    rcases hg with ⟨rfl,he⟩|⟨id,rfl,_⟩
    ·have:p.suggests=[]:=by simpa using he
     rw[this]; rfl
    ·rw[bf9,List.length_map]
   simp only[go_sem,q02,pcs,hvl,hvc,hlen]
   refine ab4 noT (fun j fr t=>fr=[(1,.ptr 0 0),(2,.ptr 1 0),(4,.ptr 0 12),(25,.aa3 ci3),(26,.int .i64 6),(27,.int .i64 4),(39,v),(40,.int .i64 p.suggests.length),(41,.int .i64 j)] /\
    s2.next<=t.next/\t.obj 0=some (.cells (pcs p v7 v8 v10 v11 v v13))/\t.obj 1=some (.cells bb2)/\∀ id cs,id<s2.next->s2.obj id=some (.row cs)->t.obj id=some (.row cs)) p.suggests.length ⟨rfl,Nat.le_refl _,?_,?_,?_⟩ ?_
   ·simp only[aa4,if_true]; rfl
   ·simp only[aa4,reduceCtorEq,Int.reduceLT,Int.reduceLE,Int.reduceToNat,Int.reduceAdd,Nat.reduceEqDiff,Nat.reduceAdd,Nat.reduceMul,Nat.reduceLT,Nat.reduceLeDiff,decide_true,decide_false,↓reduceIte,if_false]; exact q12
   ·intro id cs hlt' h;have:¬ id=0:=fun e=>by subst e; rw[q02] at h; cases h
    simp only[aa4,this,if_false]; exact h
   rintro j fr t hle' ⟨rfl,t0,t1,t2,t3⟩;by_cases hjl:j<p.suggests.length
   ·obtain ⟨a,ha,_,hdr,hget,_⟩:=af5 p.suggests j hjl;rcases hg with ⟨_,he⟩|⟨id,rfl,ho,hil⟩
    ·have:p.suggests=[]:=by simpa using he
     rw[this] at hjl; cases hjl
    have hrow:=t3 _ _ hil ho;have c1:(j:Int)<p.suggests.length:=by omega
    have c2:(0:Int)<=j:=by omega
    have w1:=ad4 (i:=j) (by have:=hfl.1; omega);have hid0:¬ id=0:=fun e=>by subst e; rw[t1] at hrow; cases hrow
    have hid1:¬ id=1:=fun e=>by subst e; rw[t2] at hrow; cases hrow
    have u0:¬ 0=t.next:=by omega
    have u1:¬ 1=t.next:=by omega
    have u2:¬ id=t.next:=by omega
    have u3:¬ t.next=id:=by omega
    have u4:¬ 0=id:=by omega
    have u5:¬ 1=id:=by omega
    have hall:=fun x hx=>(av7 p.suggests x hx).1
    have hfl2:=as7 hall;have hpart:=aw4 hall j (by rw[List.length_map]; exact hjl);rw[hget] at hpart;rw[List.length_map] at hfl2;have hin:7<=((p.suggests.map aa8.cs).flatten.drop (j*7)).length:=by rw[List.length_drop,hfl2]; omega
    have hin2:j*7+7<=(p.suggests.map aa8.cs).flatten.length:=by rw[hfl2]; omega
    have hsame:as6 (p.suggests.map aa8.cs).flatten (j*7) a.cs=(p.suggests.map aa8.cs).flatten:=bc8 (by rw[ac2]; exact hpart) (by rw[ac2]; exact hin2);simp only[go_sem,c1,c2,hrow,hin,hpart,cl8,ac2,ab8,ad2,t1,pcs,u0,u2,u3,hid0];refine aa6 (as3 a (hfl.2 a ha).1) ?_;simp only[go_sem,c1,c2,hrow,hin2,cl9,ac2,ab8,hsame,t1,pcs,u0,u2,w1];refine ⟨hjl,by omega,?_,?_,?_⟩
    ·simp only[u4,if_false]
    ·simp only[u5,u1,if_false]; exact t2
    ·intro id' cs hlt' h;have h':=t3 id' cs hlt' h;have u6:¬ id'=t.next:=by omega
     by_cases e:id'=id
     ·subst e;rw[hrow] at h';simp only[if_true]; exact h'
     ·simp only[e,u6,if_false]; exact h'
   ·have hj':j=p.suggests.length:=by omega
    subst hj';have c1:¬ (p.suggests.length:Int)<p.suggests.length:=by omega
    have hgt:Grow t v 7 (p.suggests.map aa8.cs):=by
     rcases hg with h|⟨id,rfl,ho,hil⟩
     ·exact .inl h
     ·exact .inr ⟨id,rfl,t3 _ _ hil ho,by omega⟩
    have hrows:∀ id cs,id<s.next->s.obj id=some (.row cs)->t.obj id=some (.row cs):=fun id cs hlt' h=>t3 id cs (by omega) (by rw[hs2 id hlt']; exact h)
    have mm:∀ {d d':Prop} (u:IV) (l:List aa8),ao1 s d u l->(d↔d')->ao1 t d' u l:=fun u l h hd=>h.mono hd (by omega) hrows
    simp only[go_sem,c1];exact ⟨rfl,⟨t2,by omega⟩,v7,v8,v10,v11,v,v13,t1,mm _ _ o7 (by simp),mm _ _ o8 (by simp),mm _ _ o10 (by simp),mm _ _ o11 (by simp),.inl ⟨by simp,hgt⟩,mm _ _ o13 (by simp)⟩
  ·have hv:v13=ae8 p.ac5:=by
    rcases o13 with ⟨h,_⟩|⟨_,h⟩
    ·exact absurd h (by omega)
    ·exact h
   subst hv;have hfl:p.ac5.length<2^31/\∀ r∈p.ac5,r.fit/\r.count<2^31:=hf.rich (3,p.ac5) (by simp[aa2.rows]);simp only[go_sem,ci3,q0,pcs,be9];refine ac9 fok127 (av6 p.ac5 _ (by have:=hfl.1; omega)) ?_;rintro v s2 ⟨hs2,hn2,hg,hid⟩;refine ⟨hn2,?_⟩;have q02:s2.obj 0=some (.cells (pcs p v7 v8 v10 v11 v12 (ae8 p.ac5))):=by rw[hs2 0 (by omega)]; exact q0
   have q12:s2.obj 1=some (.cells bb2):=by rw[hs2 1 (by omega)]; exact q1
   have hvl:v.leaf=true:=by rcases hg with ⟨rfl,_⟩|⟨id,rfl,_⟩<;>rfl
   have hvc:v.cs=[v]:=by rcases hg with ⟨rfl,_⟩|⟨id,rfl,_⟩<;>rfl
   have hlen:∀ s,dh9 0 s v=some (.int .i64 (p.ac5.length:Nat)):=fun s=>by
    rcases hg with ⟨rfl,he⟩|⟨id,rfl,_⟩
    ·have:p.ac5=[]:=by simpa using he
     rw[this]; rfl
    ·rw[bf9,List.length_map]
   simp only[go_sem,q02,pcs,hvl,hvc,hlen]
   refine ab4 noT (fun j fr t=>fr=[(1,.ptr 0 0),(2,.ptr 1 0),(4,.ptr 0 13),(25,.aa3 ci3),(26,.int .i64 6),(27,.int .i64 5),(39,v),(40,.int .i64 p.ac5.length),(41,.int .i64 j)] /\
    s2.next<=t.next/\t.obj 0=some (.cells (pcs p v7 v8 v10 v11 v12 v))/\t.obj 1=some (.cells bb2)/\∀ id cs,id<s2.next->s2.obj id=some (.row cs)->t.obj id=some (.row cs)) p.ac5.length ⟨rfl,Nat.le_refl _,?_,?_,?_⟩ ?_
   ·simp only[aa4,if_true]; rfl
   ·simp only[aa4,reduceCtorEq,Int.reduceLT,Int.reduceLE,Int.reduceToNat,Int.reduceAdd,Nat.reduceEqDiff,Nat.reduceAdd,Nat.reduceMul,Nat.reduceLT,Nat.reduceLeDiff,decide_true,decide_false,↓reduceIte,if_false]; exact q12
   ·intro id cs hlt' h;have:¬ id=0:=fun e=>by subst e; rw[q02] at h; cases h
    simp only[aa4,this,if_false]; exact h
   rintro j fr t hle' ⟨rfl,t0,t1,t2,t3⟩;by_cases hjl:j<p.ac5.length
   ·obtain ⟨a,ha,_,hdr,hget,_⟩:=af5 p.ac5 j hjl;rcases hg with ⟨_,he⟩|⟨id,rfl,ho,hil⟩
    ·have:p.ac5=[]:=by simpa using he
     rw[this] at hjl; cases hjl
    have hrow:=t3 _ _ hil ho;have c1:(j:Int)<p.ac5.length:=by omega
    have c2:(0:Int)<=j:=by omega
    have w1:=ad4 (i:=j) (by have:=hfl.1; omega);have hid0:¬ id=0:=fun e=>by subst e; rw[t1] at hrow; cases hrow
    have hid1:¬ id=1:=fun e=>by subst e; rw[t2] at hrow; cases hrow
    have u0:¬ 0=t.next:=by omega
    have u1:¬ 1=t.next:=by omega
    have u2:¬ id=t.next:=by omega
    have u3:¬ t.next=id:=by omega
    have u4:¬ 0=id:=by omega
    have u5:¬ 1=id:=by omega
    have hall:=fun x hx=>(av7 p.ac5 x hx).1
    have hfl2:=as7 hall;have hpart:=aw4 hall j (by rw[List.length_map]; exact hjl);rw[hget] at hpart;rw[List.length_map] at hfl2;have hin:7<=((p.ac5.map aa8.cs).flatten.drop (j*7)).length:=by rw[List.length_drop,hfl2]; omega
    have hin2:j*7+7<=(p.ac5.map aa8.cs).flatten.length:=by rw[hfl2]; omega
    have hsame:as6 (p.ac5.map aa8.cs).flatten (j*7) a.cs=(p.ac5.map aa8.cs).flatten:=bc8 (by rw[ac2]; exact hpart) (by rw[ac2]; exact hin2);simp only[go_sem,c1,c2,hrow,hin,hpart,cl8,ac2,ab8,ad2,t1,pcs,u0,u2,u3,hid0];refine aa6 (as3 a (hfl.2 a ha).1) ?_;simp only[go_sem,c1,c2,hrow,hin2,cl9,ac2,ab8,hsame,t1,pcs,u0,u2,w1];refine ⟨hjl,by omega,?_,?_,?_⟩
    ·simp only[u4,if_false]
    ·simp only[u5,u1,if_false]; exact t2
    ·intro id' cs hlt' h;have h':=t3 id' cs hlt' h;have u6:¬ id'=t.next:=by omega
     by_cases e:id'=id
     ·subst e;rw[hrow] at h';simp only[if_true]; exact h'
     ·simp only[e,u6,if_false]; exact h'
   ·have hj':j=p.ac5.length:=by omega
    subst hj';have c1:¬ (p.ac5.length:Int)<p.ac5.length:=by omega
    have hgt:Grow t v 7 (p.ac5.map aa8.cs):=by
     rcases hg with h|⟨id,rfl,ho,hil⟩
     ·exact .inl h
     ·exact .inr ⟨id,rfl,t3 _ _ hil ho,by omega⟩
    have hrows:∀ id cs,id<s.next->s.obj id=some (.row cs)->t.obj id=some (.row cs):=fun id cs hlt' h=>t3 id cs (by omega) (by rw[hs2 id hlt']; exact h)
    have mm:∀ {d d':Prop} (u:IV) (l:List aa8),ao1 s d u l->(d↔d')->ao1 t d' u l:=fun u l h hd=>h.mono hd (by omega) hrows
    simp only[go_sem,c1];exact ⟨rfl,⟨t2,by omega⟩,v7,v8,v10,v11,v12,v,t1,mm _ _ o7 (by simp),mm _ _ o8 (by simp),mm _ _ o10 (by simp),mm _ _ o11 (by simp),mm _ _ o12 (by simp),.inl ⟨by simp,hgt⟩⟩
 ·have hi':i=6:=by omega
  subst hi';have c1:¬ ((6:Nat):Int)<6:=by omega
  simp only[go_sem,c1,q0,q1,pcs,bb2,bv7,o7.leaf,o8.leaf,o10.leaf,o11.leaf,o12.leaf,o13.leaf]
  have fz:∀ (v:IV) (l:List aa8) (k:Nat) (s':Store),k<6->ao1 s (k<6) v l->(∀ id cs,s.obj id=some (.row cs)->s'.obj id=some (.row cs))->s.next<=s'.next->cn4 s' 0 v (ae8 l):=by
   intro v l k s' hk ho h1 h2;rcases ho.mono Iff.rfl h2 (fun id cs _ h=>h1 id cs h) with ⟨_,h⟩|⟨h,_⟩
   ·exact h.frz (fun x hx=>(av7 l x hx).1) (fun _ _=>Nat.not_lt_zero _) (ap6 (be1 l))
   ·exact absurd hk h
  have hr:∀ id cs,s.obj id=some (.row cs)->(s.put 1 (ak3.cells (pcs p v7 v8 v10 v11 v12 v13))).obj id=some (.row cs):=fun id cs h=>by
   have:¬ id=1:=fun e=>by subst e; rw[q1] at h; cases h
   simp only[aa4,this,if_false]; exact h
  have b1:=fun v hv=>Frz.keep (σ:=s.put 1 (ak3.cells (pcs p v7 v8 v10 v11 v12 v13))) (S:=fun i=>i<0) v hv
  exact .ih6 (.cons (be6 _) (.cons (ad8 _ _) (.cons (be6 _) (.cons (be6 _) (.cons (ad8 _ _) (.cons (be6 _) (.cons (b1 _ (bw9 _))
   (.cons (fz v7 _ 0 _ (by omega) o7 hr (Nat.le_refl _)) (.cons (fz v8 _ 1 _ (by omega) o8 hr (Nat.le_refl _)) (.cons (b1 _ (bw9 _)) (.cons (fz v10 _ 2 _ (by omega) o10 hr (Nat.le_refl _)) (.cons (fz v11 _ 3 _ (by omega) o11 hr (Nat.le_refl _))
   (.cons (fz v12 _ 4 _ (by omega) o12 hr (Nat.le_refl _)) (.cons (fz v13 _ 5 _ (by omega) o13 hr (Nat.le_refl _)) (.cons (b1 _ (co5 _)) .nil)))))))))))))))
end Go.Id.Tryz
