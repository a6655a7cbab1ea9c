/- Whether a rich dependency is whole. Conditions: sizes that fit. -/
import Derived.Test.YtiallonafbejaaaGreatDoorTVPD
import Derived.Test.YtiallonafbejaaaGreatDoorMw
import Derived.Test.YtiallonafbejaaaGreatDoorFwWk
import Derived.Test.YtiallonafbejaaaGreatDoorTVPB
import Derived.Test.YtiallonafbejaaaGreatDoorFwQ
set_option linter.all false
namespace Go.Id.Tryz
open Go Go.Id Go.Proofs Go.Id.Md
set_option maxRecDepth 100000
def msV (m:Nat×Nat×Bool):IV:=.tuple [.int .i64 m.1,.int .i64 m.2.1,.bool m.2.2]
theorem eb8 {s:Store}(m:Nat×Nat×Bool):ch1 s 0 (.tuple [.int .i64 m.1,.int .i64 m.2.1,.bool m.2.2]) (msV m):=.keep _ (.tuple _ (aw3 (.int _ _) (.int _ _) (.bool _)))
theorem eu1 (r:Rich):r.fit→r.count<2^31→PC Tryz.prog EE 287 [.agg r.cs] (msV r.ms):=by
 induction r using Rich.ind with
 | h k d xs ih=>
  intro hf hc
  obtain ⟨f1,f2,f3,f4,f5⟩:=Rich.fit_mk.1 hf
  have hms:∀ a∈xs,a.ms.1≤a.count∧a.ms.2.1≤a.count:=fun a _=>Rich.ms_le a
  refine ae9 hE fok287 (Nat.le_of_ble_eq_true rfl) (ad3 (ae4 _)) ?_
  by_cases k1:k=1
  ·subst k1
   have hm:=bc2 d f3.1 f3.2.1 f3.2.2
   by_cases h0:xs.length=0
   ·have h0':(xs.length:Int)=0:=by omega
    simp only[ic287,go_sem,Rich.cs_eq,Rich.kind,Rich.dep,Rich.args,h0']
    first|refine aa1 fok157 (hm) ?_|refine aa3 (hm) ?_
    simp only[go_sem]
    have e:Rich.ms (.mk 1 d xs)=(1,0,ah2 d):=by simp[Rich.ms,h0]
    rw[e]; exact eb8 (1,0,ah2 d)
   ·have h0':¬ (xs.length:Int)=0:=by omega
    simp only[ic287,go_sem,Rich.cs_eq,Rich.kind,Rich.dep,Rich.args,h0']
    have e:Rich.ms (.mk 1 d xs)=(1,0,false):=by simp[Rich.ms,h0]
    rw[e]; exact eb8 (1,0,false)
  have e:Rich.ms (.mk k d xs)=((Rich.msL xs 1 0 (ak6 k d xs.length)).1,(Rich.msL xs 1 0 (ak6 k d xs.length)).2.1+1,(Rich.msL xs 1 0 (ak6 k d xs.length)).2.2):=by rw[Rich.ms,if_neg k1]
  have hdd:decide (d=dn6)=(decide (d.name=[])&&(decide (d.op=0)&&(decide (d.evr.epoch=0)&&(decide (d.evr.ver=[])&&decide (d.evr.rel=[]))))):=by
   obtain ⟨n,o,e,v,r⟩:=d
   simp only[dn6,gx4,Dep.mk.injEq,EVR.mk.injEq,Bool.decide_and]
  have hg:∀ a∈xs,a.fit∧a.count<2^31∧a.count≤Rich.counts xs:=fun a ha=>by
   have h1:a.count≤Rich.counts xs:=by
    clear hc f4 f5 hms ih hdd e hf
    induction xs with
    | nil=>cases ha
    | cons y ys ihy=>
     simp only[Rich.counts]
     rcases List.mem_cons.1 ha with rfl|ha
     ·omega
     ·have:=ihy ha; omega
   have h2:Rich.counts xs<2^31:=by simp only[Rich.count] at hc; omega
   exact ⟨f5 a ha,by omega,h1⟩
  have hcs:Rich.counts xs<2^31:=by simp only[Rich.count] at hc; omega
  -- what holds of Kinds and counts
  by_cases q1:1<k
  case' neg=>
   have hH:ak6 k d xs.length=false:=by simp[ak6,q1]
   simp only[ic287,go_sem,Rich.cs_eq,Rich.kind,Rich.dep,Rich.args,k1,q1]
  case' pos=>
   by_cases q2:k≤7
   case' neg=>
    have hH:ak6 k d xs.length=false:=by simp[ak6,q2]
    simp only[ic287,go_sem,Rich.cs_eq,Rich.kind,Rich.dep,Rich.args,k1,q1,q2]
   case' pos=>
    by_cases q3:d=dn6
    case' neg=>
     have hd1:decide (d=dn6)=false:=decide_eq_false q3
     rw[hdd] at hd1
     have hH:ak6 k d xs.length=false:=by simp[ak6,q3]
     simp only[ic287,go_sem,Rich.cs_eq,Rich.kind,Rich.dep,Rich.args,k1,q1,q2,hd1]
    case' pos=>
     have hd1:decide (d=dn6)=true:=decide_eq_true q3
     rw[hdd] at hd1
     by_cases q4:2≤xs.length
     case' neg=>
      have q4':¬ (2:Int)≤xs.length:=by omega
      have hH:ak6 k d xs.length=false:=by simp[ak6,q4]
      simp only[ic287,go_sem,Rich.cs_eq,Rich.kind,Rich.dep,Rich.args,k1,q1,q2,hd1,q4']
     case' pos=>
      have q4':(2:Int)≤xs.length:=by omega
      obtain ⟨ks,hk1,hk2,hk3⟩:∃ ks,(if 0≤k∧k<8 then cb3 (k.toNat*2) (EE 2) else none)=some (.tptr ks)∧(ks.drop 1).head? = some (.int .i64 (dt4 k))∧1<ks.length:=by
       have hk:k=2∨k=3∨k=4∨k=5∨k=6∨k=7:=by omega
       rcases hk with rfl|rfl|rfl|rfl|rfl|rfl<;>exact ⟨_,rfl,rfl,by decide⟩
      simp only[ic287,go_sem,Rich.cs_eq,Rich.kind,Rich.dep,Rich.args,k1,q1,q2,hd1,q4',hk1,hk2,hk3]
      by_cases q5:xs.length≤dt4 k
      case' neg=>
       have q5':¬ (xs.length:Int)≤dt4 k:=by omega
       have hH:ak6 k d xs.length=false:=by simp[ak6,q5]
       simp only[go_sem,q5']
      case' pos=>
       have q5':(xs.length:Int)≤dt4 k:=by omega
       have hH:ak6 k d xs.length=true:=by simp[ak6, *]
       simp only[go_sem,q5']
  all_goals
   rw[e]
   refine aa9 noT (fun i fr t=>∃ (p dd:Nat) (ok:Bool),fr=[(2,.int .i64 p),(3,.int .i64 dd),(4,.bool ok),(54,.tslice (xs.map Rich.cs)),(55,.int .i64 xs.length),(56,.int .i64 (i:Int))]∧p+Rich.counts (xs.drop i)≤1+Rich.counts xs∧dd≤Rich.counts xs ∧
    Rich.msL xs 1 0 (ak6 k d xs.length)=Rich.msL (xs.drop i) p dd ok) xs.length ⟨1,0,_,rfl,Nat.le_refl _,Nat.zero_le _,by rw[hH]; rfl⟩ ?_
   rintro i fr t hle ⟨p,dd,ok,rfl,hp,hdl,hI⟩
   rw[hI]
   by_cases hlt:i<xs.length
   ·obtain ⟨x,hx,_,hdr,hget,htk⟩:=ad1 xs i hlt
    have c1:(i:Int)<xs.length:=by omega
    have c2:(0:Int)≤i:=by omega
    have w1:=ad5 (i:=i) (by omega)
    rw[hdr] at hp hI ⊢
    obtain ⟨x1,x2,x3⟩:=hg x hx
    cases ok with
    | false=>
     have w3:=ad5 (i:=dd) (by omega)
     simp only[go_sem,c1,c2,hget,aa8,ab4,aa6,w3,Rich.msL]
     exact eb8 (p,dd+1,false)
    | true=>
     have hA:=ih x hx x1 x2
     have hml:=Rich.ms_le x
     simp only[Rich.counts] at hp
     have w2:IntKind.i64.wrap ((p:Int)+x.ms.1)=((p+x.ms.1:Nat):Int):=by rw[wrap64 (by omega) (by omega)]; omega
     simp only[go_sem,c1,c2,hget,aa8,ab4,aa6]
     first|refine aa1 fok287 (hA) ?_|refine aa3 (hA) ?_
     simp only[go_sem,msV,w1,w2]
     have wm:(if (x.ms.2.1:Int)>dd then (x.ms.2.1:Int) else dd)=((max dd x.ms.2.1:Nat):Int):=by split<;>omega
     exact ⟨hlt,p+x.ms.1,max dd x.ms.2.1,x.ms.2.2,by rw[wm],by omega,by omega,by simp[Rich.msL]⟩
   ·have hi':i=xs.length:=by omega
    subst hi'
    have c1:¬ (xs.length:Int)<xs.length:=by omega
    have w3:=ad5 (i:=dd) (by omega)
    rw[List.drop_length]
    simp only[go_sem,c1,w3,Rich.msL]
    exact eb8 (p,dd+1,ok)
theorem ga3 (r:Rich)(h1:r.fit)(h2:r.count<2^31):PC Tryz.prog EE 241 [.agg r.cs] (.bool (dj3 r)):=by
 refine ae9 hE fok241 (Nat.le_of_ble_eq_true rfl) (ad3 (ae4 _)) ?_
 have h:=eu1 r h1 h2
 unfold dj3
 generalize r.ms=m at *
 obtain ⟨p,d,ok⟩:=m
 simp only[ic241,go_sem,aa8,ab4,aa6]
 first|refine aa1 fok287 (h) ?_|refine aa3 (h) ?_
 have e1:((p:Int)≤24)=(p≤24):=by simp only[eq_iff_iff]; omega
 have e2:((d:Int)≤8)=(d≤8):=by simp only[eq_iff_iff]; omega
 cases ok with
 | false=>simp only[go_sem,msV]; exact ab1 _
 | true=>
  by_cases q1:p≤24
  ·have q1':(p:Int)≤24:=by omega
   by_cases q2:d≤8
   ·have q2':(d:Int)≤8:=by omega
    simp only[go_sem,msV,q1,q1',q2,q2']; exact ab1 _
   ·have q2':¬ (d:Int)≤8:=by omega
    simp only[go_sem,msV,q1,q1',q2,q2']; exact ab1 _
  ·have q1':¬ (p:Int)≤24:=by omega
   simp only[go_sem,msV,q1,q1']; exact ab1 _
end Go.Id.Tryz
/- Architectures: scores,who follows whom. Conditions: none. -/
namespace Go.Id.Tryz
open Go Go.Id Go.Proofs Go.Id.Md
set_option maxRecDepth 100000
theorem ac8 {S:Nat→Prop}{s:Store}{a b:Bool}(h:a=b):Frz s S (.bool a) (.bool b):=h▸ab1 a
theorem bp5 {S:Nat→Prop}{s:Store}{k:IntKind}{a b:Int}(h:a=b):Frz s S (.int k a) (.int k b):=h▸.keep _ (.int _ _)
theorem eu2 (a:Int):PC Tryz.prog EE 154 [.int .u8 a] (.bool (dt1 a)):=by
 refine ae9 hE fok154 (Nat.le_of_ble_eq_true rfl) (bb8 (.int _ _)) ?_
 simp only[ic154,go_sem]
 first|refine aa1 fok169 (an1 a) ?_|refine aa3 (an1 a) ?_
 unfold dt1
 cases ak5 a with
 | false=>simp only[go_sem]; exact ac8 rfl
 | true=>
  by_cases h:a=1
  ·simp only[go_sem,h]; exact ac8 rfl
  ·simp only[go_sem,h]; exact ac8 (by simp[h])
def gi7:List IV:=[.int .i64 0,.int .i64 0,.int .i64 0,.int .i64 0,.int .i64 0,.int .i64 0,.int .i64 0,.int .i64 0,.int .i64 0,.int .i64 0,.int .i64 0,.int .i64 2,.int .i64 1,.int .i64 3,.int .i64 0,.int .i64 0,.int .i64 2,.int .i64 0,.int .i64 1,.int .i64 0,.int .i64 0,.int .i64 2,.int .i64 0,.int .i64 0,.int .i64 1]
theorem dk7:PC Tryz.prog EE 237 [] (.agg gi7):=by
 refine ae9 hE fok237 (Nat.le_of_ble_eq_true rfl) (fun a h=>by cases h) ?_
 simp only[ic237,go_sem]
 exact .keep _ (ao3 10 _ (by kernel_rfl))
theorem gq7 (m a:Int)(h1:ak5 m=true)(h2:ak5 a=true):PC Tryz.prog EE 170 [.int .u8 m,.int .u8 a] (.int .i64 (as4 m a)):=by
 unfold ak5 at h1 h2
 simp only[Bool.and_eq_true,decide_eq_true_eq] at h1 h2
 have hm:m=1∨m=2∨m=3∨m=4:=by omega
 have ha:a=1∨a=2∨a=3∨a=4:=by omega
 rcases hm with rfl|rfl|rfl|rfl<;>rcases ha with rfl|rfl|rfl|rfl
 all_goals
  refine ae9 hE fok170 (Nat.le_of_ble_eq_true rfl) (ai3 (.int _ _) (.int _ _)) ?_
  simp only[ic170,go_sem]
  first|refine aa1 fok169 (an1 _) ?_|refine aa3 (an1 _) ?_
  simp only[go_sem,ak5]
  first|refine aa1 fok169 (an1 _) ?_|refine aa3 (an1 _) ?_
  simp only[go_sem,ak5]
  first|refine aa1 fok237 (dk7) ?_|refine aa3 (dk7) ?_
  simp only[go_sem,gi7,List.drop_succ_cons,List.drop_zero,List.getElem?_cons_succ,List.getElem?_cons_zero]
  exact .keep _ (.int _ _)
theorem eb9 (m a:Int)(h:ak5 m=false∨ak5 a=false):as4 m a=0:=by
 unfold ak5 at h
 simp only[Bool.and_eq_false_iff,decide_eq_false_iff_not] at h
 unfold as4
 repeat' split
 all_goals first|rfl|omega
theorem db7 (m a:Int):PC Tryz.prog EE 170 [.int .u8 m,.int .u8 a] (.int .i64 (as4 m a)):=by
 have hm:=an1 m
 have ha:=an1 a
 cases h1:ak5 m with
 | false=>
  rw[eb9 m a (.inl h1)]
  refine ae9 hE fok170 (Nat.le_of_ble_eq_true rfl) (ai3 (.int _ _) (.int _ _)) ?_
  rw[h1] at hm
  simp only[ic170,go_sem]
  first|refine aa1 fok169 (hm) ?_|refine aa3 (hm) ?_
  simp only[go_sem]
  exact bp5 rfl
 | true=>
  cases h2:ak5 a with
  | false=>
   rw[eb9 m a (.inr h2)]
   refine ae9 hE fok170 (Nat.le_of_ble_eq_true rfl) (ai3 (.int _ _) (.int _ _)) ?_
   rw[h1] at hm
   rw[h2] at ha
   simp only[ic170,go_sem]
   first|refine aa1 fok169 (hm) ?_|refine aa3 (hm) ?_
   simp only[go_sem]
   first|refine aa1 fok169 (ha) ?_|refine aa3 (ha) ?_
   simp only[go_sem]
   exact bp5 rfl
  | true=>exact gq7 m a h1 h2
theorem gq8 (m a:Int):PC Tryz.prog EE 110 [.int .u8 m,.int .u8 a] (.bool (hj7 m a)):=by
 refine ae9 hE fok110 (Nat.le_of_ble_eq_true rfl) (ai3 (.int _ _) (.int _ _)) ?_
 have h:=db7 m a
 simp only[ic110,go_sem]
 first|refine aa1 fok170 (h) ?_|refine aa3 (h) ?_
 simp only[go_sem]
 exact ac8 rfl
end Go.Id.Tryz
/- Copies. Conditions: none. -/
namespace Go.Id.Tryz
open Go Go.Id Go.Proofs Go.Id.Md
def intC (n:Int):List IV:=[.int .i64 n]
theorem ao7 (l:List Int):Bnd 0 (.tslice (l.map intC)):=.tslice _ fun e he c hc=>by
 obtain ⟨d,_,rfl⟩:=List.mem_map.1 he; cases hc with|head=>exact .int _ _|tail _ h=>cases h
theorem aj4 {es:List (List IV)}(h:Bnd 0 (.tslice es)):∀ e∈es,∀ c∈e,Bnd 0 c:=by
 cases h with|tslice _ h=>exact h
theorem ci8 (xs:List Dep)(hn:xs.length≤2147483648):PC Tryz.prog EE 139 [.tslice (xs.map Dep.cs)] (.tslice (xs.map Dep.cs)):=by
 cases hx:xs with
 | nil=>
  rw[List.map_nil]
  refine bn6 ?_ ?_
  ·refine ae9 hE fok139 (Nat.le_of_ble_eq_true rfl) (ad3 .nilslice) ?_
   simp only[ic139,go_sem,ag1]
   exact .nils
  ·refine ae9 hE fok139 (Nat.le_of_ble_eq_true rfl) (ad3 .eslice) ?_
   simp only[ic139,go_sem,ag1]
   rw[bn7 (by simp only[aa2,if_true]) rfl]
   simp only[go_sem]
   exact .slice0 _ _ _ (by simp only[aa2,if_true]; exact fun h=>(by cases h))
 | cons a as'=>
  have hne:xs.map Dep.cs≠[]:=by rw[hx]; exact fun h=>(by cases h)
  have hall:∀ e∈xs.map Dep.cs,e.length=5∧e.all IV.leaf=true:=fun e he=>by
   obtain ⟨x,_,rfl⟩:=List.mem_map.1 he
   exact ⟨aq4 x,ak8 x⟩
  have hnil:cc5 (.slice 0) (.tslice (xs.map Dep.cs))=some false:=by rw[hx]; rfl
  rw[← hx]
  refine ae9 hE fok139 (Nat.le_of_ble_eq_true rfl) (ad3 (bp4 xs)) ?_
  have hnil:∀ d,cc5 (.slice d) (.tslice (xs.map Dep.cs))=some false:=fun d=>by rw[hx]; rfl
  simp only[ic139,go_sem,ag1,hnil]
  rw[bb4 (by simp only[aa2,if_true]) hne hall (by rw[List.length_map]; exact hn)]
  simp only[go_sem]
  refine Grow.frz (esz:=5) (es:=xs.map Dep.cs) (.inr ⟨1,by rw[List.length_map],by simp only[aa2,if_true],Nat.lt_succ_self _⟩) (fun x hx=>(hall x hx).1) (fun _ _=>Nat.not_lt_zero _) (aj4 (bp4 xs))
theorem du5 (xs:List Str)(hn:xs.length≤2147483648):PC Tryz.prog EE 140 [.tslice (xs.map bl6)] (.tslice (xs.map bl6)):=by
 cases hx:xs with
 | nil=>
  rw[List.map_nil]
  refine bn6 ?_ ?_
  ·refine ae9 hE fok140 (Nat.le_of_ble_eq_true rfl) (ad3 .nilslice) ?_
   simp only[ic140,go_sem,ag1]
   exact .nils
  ·refine ae9 hE fok140 (Nat.le_of_ble_eq_true rfl) (ad3 .eslice) ?_
   simp only[ic140,go_sem,ag1]
   rw[bn7 (by simp only[aa2,if_true]) rfl]
   simp only[go_sem]
   exact .slice0 _ _ _ (by simp only[aa2,if_true]; exact fun h=>(by cases h))
 | cons a as'=>
  have hne:xs.map bl6≠[]:=by rw[hx]; exact fun h=>(by cases h)
  have hall:∀ e∈xs.map bl6,e.length=1∧e.all IV.leaf=true:=fun e he=>by
   obtain ⟨x,_,rfl⟩:=List.mem_map.1 he
   exact ⟨rfl,rfl⟩
  have hnil:cc5 (.slice 0) (.tslice (xs.map bl6))=some false:=by rw[hx]; rfl
  rw[← hx]
  refine ae9 hE fok140 (Nat.le_of_ble_eq_true rfl) (ad3 (cd7 xs)) ?_
  have hnil:∀ d,cc5 (.slice d) (.tslice (xs.map bl6))=some false:=fun d=>by rw[hx]; rfl
  simp only[ic140,go_sem,ag1,hnil]
  rw[bb4 (by simp only[aa2,if_true]) hne hall (by rw[List.length_map]; exact hn)]
  simp only[go_sem]
  refine Grow.frz (esz:=1) (es:=xs.map bl6) (.inr ⟨1,by rw[List.length_map],by simp only[aa2,if_true],Nat.lt_succ_self _⟩) (fun x hx=>(hall x hx).1) (fun _ _=>Nat.not_lt_zero _) (aj4 (cd7 xs))
theorem ao8 (xs:List Rich):∀ e∈xs.map Rich.cs,e.length=7∧e.all IV.leaf=true:=fun e he=>by
 obtain ⟨x,_,rfl⟩:=List.mem_map.1 he
 exact ⟨aa8 x,aa6 x⟩
def du6:List IV:=[.int .u8 0,.str [],.int .u8 0,.int .i64 0,.str [],.str [],.nilslice]
theorem am4 (r:Rich):r.fit→PC Tryz.prog EE 142 [.agg r.cs] (.agg r.cs):=by
 induction r using Rich.ind with
 | h k d xs ih=>
  intro hf
  obtain ⟨f1,f2,f3,f4,f5⟩:=Rich.fit_mk.1 hf
  refine ae9 hE fok142 (Nat.le_of_ble_eq_true rfl) (ad3 (ae4 _)) ?_
  rw[Rich.cs_eq]
  simp only[ic142,go_sem,Rich.kind,Rich.dep,Rich.args,bo1]
  refine aa9 noT (fun i fr s=>fr=[(2,.ptr 0 0),(3,.ptr 1 0),(12,.tslice (xs.map Rich.cs)),(13,.int .i64 xs.length),(14,.int .i64 i)]∧∃ v,s.obj 0=some (.cells du6)∧s.obj 1=some (.cells [.int .u8 k,.str d.name,.int .u8 d.op,.int .i64 d.evr.epoch,.str d.evr.ver,.str d.evr.rel,v])∧Grow s v 7 ((xs.take i).map Rich.cs)∧1<s.next) xs.length ⟨rfl,.nilslice,?_,?_,.inl ⟨rfl,rfl⟩,?_⟩ ?_
  ·simp only[aa2,reduceCtorEq,Int.reduceLT,Int.reduceLE,Int.reduceToNat,Int.reduceAdd,Nat.reduceEqDiff,Nat.reduceAdd,Nat.reduceMul,Nat.reduceLT,Nat.reduceLeDiff,decide_true,decide_false,↓reduceIte,if_true,if_false]; rfl
  ·simp only[aa2,reduceCtorEq,Int.reduceLT,Int.reduceLE,Int.reduceToNat,Int.reduceAdd,Nat.reduceEqDiff,Nat.reduceAdd,Nat.reduceMul,Nat.reduceLT,Nat.reduceLeDiff,decide_true,decide_false,↓reduceIte,if_true,if_false]
  ·show 1<2; omega
  rintro i fr s hle ⟨rfl,v,q0,q1,hg,hn⟩
  by_cases hlt:i<xs.length
  ·obtain ⟨a,ha,_,hdr,hget,htk⟩:=ad1 xs i hlt
   have c1:(i:Int)<xs.length:=by omega
   have c2:(0:Int)≤i:=by omega
   have w1:=ad5 (i:=i) (by omega)
   have u0:¬ 1=s.next:=by omega
   have u1:¬ 0=s.next:=by omega
   simp only[go_sem,c1,c2,hget,aa8,ab4,aa6,q1,u0,bo1]
   refine aa3 (ih a ha (f5 a ha)) ?_
   simp only[go_sem,aa8,ab4,aa6]
   have hg1:Grow ⟨s.next+1+8,((Store.put ⟨s.next+1,s.obj⟩ s.next (IObj.cells du6)).put s.next (IObj.cells a.cs)).obj⟩ v 7 ((xs.take i).map Rich.cs):=hg.mono (by show s.next≤s.next+1+8; omega) fun id _ hid=>by
    have:¬ id=s.next:=by omega
    simp only[aa2,this,if_false]
   have hl0:((xs.take i).map Rich.cs).length=i:=by rw[List.length_map,List.length_take]; omega
   have ha2:=ai2 (nid:=s.next+1+1+1+1+1+1) (e:=a.cs) hg1 (ao8 _) ⟨aa8 a,aa6 a⟩ (by rw[hl0]; omega)
   have k1:=ae7 hg1 1 (.cells [.int .u8 k,.str d.name,.int .u8 d.op,.int .i64 d.evr.epoch,.str d.evr.ver,.str d.evr.rel,v]) (by simp only[aa2,u0,if_false]; exact q1) (fun _ h=>by cases h)
   have k0:=ae7 hg1 0 (.cells du6) (by simp only[aa2,u1,if_false]; exact q0) (fun _ h=>by cases h)
   have kn:=ad7 (σ:=⟨s.next+1+8,((Store.put ⟨s.next+1,s.obj⟩ s.next (IObj.cells du6)).put s.next (IObj.cells a.cs)).obj⟩) v
   simp only[du6] at ha2 k1 k0 kn
   rw[ha2,hl0]
   have u2:¬ 1=s.next+1+1+1+1+1+1:=by omega
   have u3:¬ 0=s.next+1+1+1+1+1+1:=by omega
   have u4:¬ s.next+1+1+1+1+1+1=1:=by omega
   simp only[go_sem,u2,k1,w1]
   refine ⟨hlt,_,?_,rfl,?_,?_⟩
   ·simp only[u3,if_false,du6]; exact k0
   ·rw[htk,List.map_append,List.map_cons,List.map_nil]
    refine .inr ⟨_,by rw[List.length_append,hl0]; rfl,?_,?_⟩
    ·simp only[aa2,u4,if_false,if_true]
    ·simp only[aa5,kn]; omega
   ·rw[kn]; show 1<s.next+1+8; omega
  ·have hi':i=xs.length:=by omega
   subst hi'
   have c1:¬ (xs.length:Int)<xs.length:=by omega
   rw[List.take_length] at hg
   have hvl:v.leaf=true:=by
    rcases hg with ⟨rfl,_⟩|⟨id,rfl,_⟩<;>rfl
   simp only[go_sem,c1,q0,q1,bo1,du6,hvl]
   refine .agg _ _ rfl fun j hj=>?_
   have:j=0∨j=1∨j=2∨j=3∨j=4∨j=5∨j=6:=by
    simp only[List.length_cons,List.length_nil] at hj; omega
   rcases this with rfl|rfl|rfl|rfl|rfl|rfl|rfl
   ·exact ab8 _ _
   ·exact ax9 _
   ·exact ab8 _ _
   ·exact ab8 _ _
   ·exact ax9 _
   ·exact ax9 _
   ·have hne:∀ id,v=.slice id 0 (xs.map Rich.cs).length 7→id≠0:=fun id hv=>hg.ne hv q0 (fun _ h=>by cases h)
    refine Grow.frz (hg.mono (Nat.le_refl _) fun id hv _=>?_) (fun x hx=>(ao8 xs x hx).1) (fun _ _=>Nat.not_lt_zero _) (aj4 (aw9 xs))
    have:¬ id=0:=hne id hv
    simp only[aa2,this,if_false]
theorem ao6 (xs:List Rich)(σ:Store)(hn:xs.length≤2147483648):C Tryz.prog EE 141 [.tslice (xs.map Rich.cs)] σ fun v s=>(∀ i,i<σ.next→s.obj i=σ.obj i)∧σ.next≤s.next∧Grow s v 7 (xs.map Rich.cs)∧∀ id,v=.slice id 0 xs.length 7→σ.next≤id:=by
 cases hx:xs with
 | nil=>
  rw[List.map_nil]
  refine fv8 ?_ ?_
  ·refine C_f fok141 (Nat.le_of_ble_eq_true rfl) ?_
   simp only[ic141,go_sem,ag1]
   exact ⟨fun _ _=>trivial,Nat.le_refl _,.inl ⟨rfl,rfl⟩,fun id h=>by cases h⟩
  ·refine C_f fok141 (Nat.le_of_ble_eq_true rfl) ?_
   simp only[ic141,go_sem,ag1]
   rw[bn7 (by simp only[aa2,if_true]) rfl]
   simp only[go_sem]
   refine ⟨fun i hi=>?_,by omega,.inr ⟨σ.next,rfl,by simp only[aa2,if_true]; rfl,by show σ.next<σ.next+2; omega⟩,fun id h=>by cases h; exact Nat.le_refl _⟩
   have:¬ i=σ.next:=by omega
   simp only[this,if_false]
 | cons a as'=>
  have hne:xs.map Rich.cs≠[]:=by rw[hx]; exact fun h=>(by cases h)
  rw[← hx]
  refine C_f fok141 (Nat.le_of_ble_eq_true rfl) ?_
  have hnil:∀ d,cc5 (.slice d) (.tslice (xs.map Rich.cs))=some false:=fun d=>by rw[hx]; rfl
  simp only[ic141,go_sem,ag1,hnil]
  rw[bb4 (by simp only[aa2,if_true]) hne (ao8 xs) (by rw[List.length_map]; exact hn)]
  simp only[go_sem]
  refine ⟨fun i hi=>?_,by omega,.inr ⟨σ.next+1,by rw[List.length_map],by simp only[aa2,if_true],by show σ.next+1<σ.next+2; omega⟩,fun id h=>by cases h; omega⟩
  have h1:¬ i=σ.next:=by omega
  have h2:¬ i=σ.next+1:=by omega
  simp only[h1,h2,if_false]
def ai6 (s:Store)(done:Prop)(v:IV)(l:List Rich):Prop:=(done∧Grow s v 7 (l.map Rich.cs))∨(¬ done∧v=ac5 l)
theorem ai6.mono {s s':Store}{done done':Prop}{v:IV}{l:List Rich}(h:ai6 s done v l)(hd:done↔done')(hn:s.next≤s'.next)(ho:∀ id cs,id<s.next→s.obj id=some (.row cs)→s'.obj id=some (.row cs)):ai6 s' done' v l:=by
 rcases h with ⟨h1,h2⟩|⟨h1,h2⟩
 ·refine .inl ⟨hd.1 h1,?_⟩
  rcases h2 with h2|⟨id,hv,hr,hlt⟩
  ·exact .inl h2
  ·exact .inr ⟨id,hv,ho _ _ hlt hr,Nat.lt_of_lt_of_le hlt hn⟩
 ·exact .inr ⟨fun h=>h1 (hd.2 h),h2⟩
theorem ai6.leaf {s:Store}{done:Prop}{v:IV}{l:List Rich}(h:ai6 s done v l):v.leaf=true:=by
 rcases h with ⟨_,⟨rfl,_⟩|⟨id,rfl,_⟩⟩|⟨_,rfl⟩<;>rfl
def pcs (p:Package)(v7 v8 v10 v11 v12 v13:IV):List IV :=
 [.str p.name,.int .i64 p.evr.epoch,.str p.evr.ver,.str p.evr.rel,.int .u8 p.arch,.str p.vendor,deps p.provides,v7,v8,deps p.obsoletes,v10,v11,v12,v13,strs p.files]
def au2:List IV:=[.str [],.int .i64 0,.str [],.str [],.int .u8 0,.str [],.nilslice,.nilslice,.nilslice,.nilslice,.nilslice,.nilslice,.nilslice,.nilslice,.nilslice]
def bz6:List (List IV):=[[.ptr 0 7],[.ptr 0 8],[.ptr 0 10],[.ptr 0 11],[.ptr 0 12],[.ptr 0 13]]
theorem cv9 (p:Package)(hf:p.Fit):PC Tryz.prog EE 74 [.agg p.cs] (.agg p.cs):=by
 refine ae9 hE fok74 (Nat.le_of_ble_eq_true rfl) (ad3 (ay3 _)) ?_
 simp only[ic74,go_sem,ae6,Package.cs,ay2]
 refine aa3 (ci8 p.provides (by have:=hf.prov.1; omega)) ?_
 simp only[go_sem,ay2]
 refine aa3 (ci8 p.obsoletes (by have:=hf.obs.1; omega)) ?_
 simp only[go_sem,ay2]
 refine aa3 (du5 p.files (by have:=hf.files.1; omega)) ?_
 simp only[go_sem,ay2]
 refine aa9 noT (fun i fr s=>fr=[(1,.ptr 0 0),(2,.ptr 1 0),(25,.tslice bz6),(26,.int .i64 6),(27,.int .i64 i)]∧(s.obj 1=some (.cells au2)∧1<s.next)∧∃ v7 v8 v10 v11 v12 v13,s.obj 0=some (.cells (pcs p v7 v8 v10 v11 v12 v13)) ∧
  ai6 s (0<i) v7 p.requires∧ai6 s (1<i) v8 p.conflicts∧ai6 s (2<i) v10 p.recommends∧ai6 s (3<i) v11 p.supplements∧ai6 s (4<i) v12 p.suggests∧ai6 s (5<i) v13 p.enhances) 6 ?_ ?_
 ·refine ⟨rfl,⟨?_,?_⟩,_,_,_,_,_,_,?_,.inr ⟨by omega,rfl⟩,.inr ⟨by omega,rfl⟩,.inr ⟨by omega,rfl⟩,.inr ⟨by omega,rfl⟩,.inr ⟨by omega,rfl⟩,.inr ⟨by omega,rfl⟩⟩
  ·simp only[aa2,reduceCtorEq,Int.reduceLT,Int.reduceLE,Int.reduceToNat,Int.reduceAdd,Nat.reduceEqDiff,Nat.reduceAdd,Nat.reduceMul,Nat.reduceLT,Nat.reduceLeDiff,decide_true,decide_false,↓reduceIte,if_true,if_false]; rfl
  ·simp only[aa5]; omega
  ·simp only[aa2,reduceCtorEq,Int.reduceLT,Int.reduceLE,Int.reduceToNat,Int.reduceAdd,Nat.reduceEqDiff,Nat.reduceAdd,Nat.reduceMul,Nat.reduceLT,Nat.reduceLeDiff,decide_true,decide_false,↓reduceIte,if_true,if_false]; rfl
 rintro i fr s hle ⟨rfl,⟨q1,hn⟩,v7,v8,v10,v11,v12,v13,q0,o7,o8,o10,o11,o12,o13⟩
 by_cases hlt:i<6
 ·have hcase:i=0∨i=1∨i=2∨i=3∨i=4∨i=5:=by omega
  rcases hcase with rfl|rfl|rfl|rfl|rfl|rfl
  ·have hv:v7=ac5 p.requires:=by
    rcases o7 with ⟨h,_⟩|⟨_,h⟩
    ·exact absurd h (by omega)
    ·exact h
   subst hv
   have hfl:p.requires.length<2^31∧∀ r∈p.requires,r.fit∧r.count<2^31:=hf.rich (1,p.requires) (by simp[Package.rows])
   simp only[go_sem,bz6,q0,pcs,ay2]
   refine af8 fok141 (ao6 p.requires _ (by have:=hfl.1; omega)) ?_
   rintro v s2 ⟨hs2,hn2,hg,hid⟩
   refine ⟨hn2,?_⟩
   have q02:s2.obj 0=some (.cells (pcs p (ac5 p.requires) v8 v10 v11 v12 v13)):=by rw[hs2 0 (by omega)]; exact q0
   have q12:s2.obj 1=some (.cells au2):=by rw[hs2 1 (by omega)]; exact q1
   have hvl:v.leaf=true:=by rcases hg with ⟨rfl,_⟩|⟨id,rfl,_⟩<;>rfl
   have hvc:v.cs=[v]:=by rcases hg with ⟨rfl,_⟩|⟨id,rfl,_⟩<;>rfl
   have hlen:∀ s,cx8 0 s v=some (.int .i64 (p.requires.length:Nat)):=fun s=>by
    rcases hg with ⟨rfl,he⟩|⟨id,rfl,_⟩
    ·have:p.requires=[]:=by simpa using he
     rw[this]; rfl
    ·rw[ay8,List.length_map]
   simp only[go_sem,q02,pcs,hvl,hvc,hlen]
   refine aa9 noT (fun j fr t=>fr=[(1,.ptr 0 0),(2,.ptr 1 0),(4,.ptr 0 7),(25,.tslice bz6),(26,.int .i64 6),(27,.int .i64 0),(39,v),(40,.int .i64 p.requires.length),(41,.int .i64 j)] ∧
    s2.next≤t.next∧t.obj 0=some (.cells (pcs p v v8 v10 v11 v12 v13))∧t.obj 1=some (.cells au2)∧∀ id cs,id<s2.next→s2.obj id=some (.row cs)→t.obj id=some (.row cs)) p.requires.length ⟨rfl,Nat.le_refl _,?_,?_,?_⟩ ?_
   ·simp only[aa2,if_true]; rfl
   ·simp only[aa2,reduceCtorEq,Int.reduceLT,Int.reduceLE,Int.reduceToNat,Int.reduceAdd,Nat.reduceEqDiff,Nat.reduceAdd,Nat.reduceMul,Nat.reduceLT,Nat.reduceLeDiff,decide_true,decide_false,↓reduceIte,if_false]; exact q12
   ·intro id cs hlt' h
    have:¬ id=0:=fun e=>by subst e; rw[q02] at h; cases h
    simp only[aa2,this,if_false]; exact h
   rintro j fr t hle' ⟨rfl,t0,t1,t2,t3⟩
   by_cases hjl:j<p.requires.length
   ·obtain ⟨a,ha,_,hdr,hget,_⟩:=ad1 p.requires j hjl
    rcases hg with ⟨_,he⟩|⟨id,rfl,ho,hil⟩
    ·have:p.requires=[]:=by simpa using he
     rw[this] at hjl; cases hjl
    have hrow:=t3 _ _ hil ho
    have c1:(j:Int)<p.requires.length:=by omega
    have c2:(0:Int)≤j:=by omega
    have w1:=ad5 (i:=j) (by have:=hfl.1; omega)
    have hid0:¬ id=0:=fun e=>by subst e; rw[t1] at hrow; cases hrow
    have hid1:¬ id=1:=fun e=>by subst e; rw[t2] at hrow; cases hrow
    have u0:¬ 0=t.next:=by omega
    have u1:¬ 1=t.next:=by omega
    have u2:¬ id=t.next:=by omega
    have u3:¬ t.next=id:=by omega
    have u4:¬ 0=id:=by omega
    have u5:¬ 1=id:=by omega
    have hall:=fun x hx=>(ao8 p.requires x hx).1
    have hfl2:=ah5 hall
    have hpart:=ap8 hall j (by rw[List.length_map]; exact hjl)
    rw[hget] at hpart
    rw[List.length_map] at hfl2
    have hin:7≤((p.requires.map Rich.cs).flatten.drop (j*7)).length:=by rw[List.length_drop,hfl2]; omega
    have hin2:j*7+7≤(p.requires.map Rich.cs).flatten.length:=by rw[hfl2]; omega
    have hsame:ag9 (p.requires.map Rich.cs).flatten (j*7) a.cs=(p.requires.map Rich.cs).flatten:=av5 (by rw[aa8]; exact hpart) (by rw[aa8]; exact hin2)
    simp only[go_sem,c1,c2,hrow,hin,hpart,cb8,aa8,aa6,ab4,t1,pcs,u0,u2,u3,hid0]
    refine aa3 (am4 a (hfl.2 a ha).1) ?_
    simp only[go_sem,c1,c2,hrow,hin2,cb9,aa8,aa6,hsame,t1,pcs,u0,u2,w1]
    refine ⟨hjl,by omega,?_,?_,?_⟩
    ·simp only[u4,if_false]
    ·simp only[u5,u1,if_false]; exact t2
    ·intro id' cs hlt' h
     have h':=t3 id' cs hlt' h
     have u6:¬ id'=t.next:=by omega
     by_cases e:id'=id
     ·subst e
      rw[hrow] at h'
      simp only[if_true]; exact h'
     ·simp only[e,u6,if_false]; exact h'
   ·have hj':j=p.requires.length:=by omega
    subst hj'
    have c1:¬ (p.requires.length:Int)<p.requires.length:=by omega
    have hgt:Grow t v 7 (p.requires.map Rich.cs):=by
     rcases hg with h|⟨id,rfl,ho,hil⟩
     ·exact .inl h
     ·exact .inr ⟨id,rfl,t3 _ _ hil ho,by omega⟩
    have hrows:∀ id cs,id<s.next→s.obj id=some (.row cs)→t.obj id=some (.row cs):=fun id cs hlt' h=>t3 id cs (by omega) (by rw[hs2 id hlt']; exact h)
    have mm:∀ {d d':Prop} (u:IV) (l:List Rich),ai6 s d u l→(d↔d')→ai6 t d' u l:=fun u l h hd=>h.mono hd (by omega) hrows
    simp only[go_sem,c1]
    exact ⟨rfl,⟨t2,by omega⟩,v,v8,v10,v11,v12,v13,t1,.inl ⟨by simp,hgt⟩,mm _ _ o8 (by simp),mm _ _ o10 (by simp),mm _ _ o11 (by simp),mm _ _ o12 (by simp),mm _ _ o13 (by simp)⟩
  ·have hv:v8=ac5 p.conflicts:=by
    rcases o8 with ⟨h,_⟩|⟨_,h⟩
    ·exact absurd h (by omega)
    ·exact h
   subst hv
   have hfl:p.conflicts.length<2^31∧∀ r∈p.conflicts,r.fit∧r.count<2^31:=hf.rich (2,p.conflicts) (by simp[Package.rows])
   simp only[go_sem,bz6,q0,pcs,ay2]
   refine af8 fok141 (ao6 p.conflicts _ (by have:=hfl.1; omega)) ?_
   rintro v s2 ⟨hs2,hn2,hg,hid⟩
   refine ⟨hn2,?_⟩
   have q02:s2.obj 0=some (.cells (pcs p v7 (ac5 p.conflicts) v10 v11 v12 v13)):=by rw[hs2 0 (by omega)]; exact q0
   have q12:s2.obj 1=some (.cells au2):=by rw[hs2 1 (by omega)]; exact q1
   have hvl:v.leaf=true:=by rcases hg with ⟨rfl,_⟩|⟨id,rfl,_⟩<;>rfl
   have hvc:v.cs=[v]:=by rcases hg with ⟨rfl,_⟩|⟨id,rfl,_⟩<;>rfl
   have hlen:∀ s,cx8 0 s v=some (.int .i64 (p.conflicts.length:Nat)):=fun s=>by
    rcases hg with ⟨rfl,he⟩|⟨id,rfl,_⟩
    ·have:p.conflicts=[]:=by simpa using he
     rw[this]; rfl
    ·rw[ay8,List.length_map]
   simp only[go_sem,q02,pcs,hvl,hvc,hlen]
   refine aa9 noT (fun j fr t=>fr=[(1,.ptr 0 0),(2,.ptr 1 0),(4,.ptr 0 8),(25,.tslice bz6),(26,.int .i64 6),(27,.int .i64 1),(39,v),(40,.int .i64 p.conflicts.length),(41,.int .i64 j)] ∧
    s2.next≤t.next∧t.obj 0=some (.cells (pcs p v7 v v10 v11 v12 v13))∧t.obj 1=some (.cells au2)∧∀ id cs,id<s2.next→s2.obj id=some (.row cs)→t.obj id=some (.row cs)) p.conflicts.length ⟨rfl,Nat.le_refl _,?_,?_,?_⟩ ?_
   ·simp only[aa2,if_true]; rfl
   ·simp only[aa2,reduceCtorEq,Int.reduceLT,Int.reduceLE,Int.reduceToNat,Int.reduceAdd,Nat.reduceEqDiff,Nat.reduceAdd,Nat.reduceMul,Nat.reduceLT,Nat.reduceLeDiff,decide_true,decide_false,↓reduceIte,if_false]; exact q12
   ·intro id cs hlt' h
    have:¬ id=0:=fun e=>by subst e; rw[q02] at h; cases h
    simp only[aa2,this,if_false]; exact h
   rintro j fr t hle' ⟨rfl,t0,t1,t2,t3⟩
   by_cases hjl:j<p.conflicts.length
   ·obtain ⟨a,ha,_,hdr,hget,_⟩:=ad1 p.conflicts j hjl
    rcases hg with ⟨_,he⟩|⟨id,rfl,ho,hil⟩
    ·have:p.conflicts=[]:=by simpa using he
     rw[this] at hjl; cases hjl
    have hrow:=t3 _ _ hil ho
    have c1:(j:Int)<p.conflicts.length:=by omega
    have c2:(0:Int)≤j:=by omega
    have w1:=ad5 (i:=j) (by have:=hfl.1; omega)
    have hid0:¬ id=0:=fun e=>by subst e; rw[t1] at hrow; cases hrow
    have hid1:¬ id=1:=fun e=>by subst e; rw[t2] at hrow; cases hrow
    have u0:¬ 0=t.next:=by omega
    have u1:¬ 1=t.next:=by omega
    have u2:¬ id=t.next:=by omega
    have u3:¬ t.next=id:=by omega
    have u4:¬ 0=id:=by omega
    have u5:¬ 1=id:=by omega
    have hall:=fun x hx=>(ao8 p.conflicts x hx).1
    have hfl2:=ah5 hall
    have hpart:=ap8 hall j (by rw[List.length_map]; exact hjl)
    rw[hget] at hpart
    rw[List.length_map] at hfl2
    have hin:7≤((p.conflicts.map Rich.cs).flatten.drop (j*7)).length:=by rw[List.length_drop,hfl2]; omega
    have hin2:j*7+7≤(p.conflicts.map Rich.cs).flatten.length:=by rw[hfl2]; omega
    have hsame:ag9 (p.conflicts.map Rich.cs).flatten (j*7) a.cs=(p.conflicts.map Rich.cs).flatten:=av5 (by rw[aa8]; exact hpart) (by rw[aa8]; exact hin2)
    simp only[go_sem,c1,c2,hrow,hin,hpart,cb8,aa8,aa6,ab4,t1,pcs,u0,u2,u3,hid0]
    refine aa3 (am4 a (hfl.2 a ha).1) ?_
    simp only[go_sem,c1,c2,hrow,hin2,cb9,aa8,aa6,hsame,t1,pcs,u0,u2,w1]
    refine ⟨hjl,by omega,?_,?_,?_⟩
    ·simp only[u4,if_false]
    ·simp only[u5,u1,if_false]; exact t2
    ·intro id' cs hlt' h
     have h':=t3 id' cs hlt' h
     have u6:¬ id'=t.next:=by omega
     by_cases e:id'=id
     ·subst e
      rw[hrow] at h'
      simp only[if_true]; exact h'
     ·simp only[e,u6,if_false]; exact h'
   ·have hj':j=p.conflicts.length:=by omega
    subst hj'
    have c1:¬ (p.conflicts.length:Int)<p.conflicts.length:=by omega
    have hgt:Grow t v 7 (p.conflicts.map Rich.cs):=by
     rcases hg with h|⟨id,rfl,ho,hil⟩
     ·exact .inl h
     ·exact .inr ⟨id,rfl,t3 _ _ hil ho,by omega⟩
    have hrows:∀ id cs,id<s.next→s.obj id=some (.row cs)→t.obj id=some (.row cs):=fun id cs hlt' h=>t3 id cs (by omega) (by rw[hs2 id hlt']; exact h)
    have mm:∀ {d d':Prop} (u:IV) (l:List Rich),ai6 s d u l→(d↔d')→ai6 t d' u l:=fun u l h hd=>h.mono hd (by omega) hrows
    simp only[go_sem,c1]
    exact ⟨rfl,⟨t2,by omega⟩,v7,v,v10,v11,v12,v13,t1,mm _ _ o7 (by simp),.inl ⟨by simp,hgt⟩,mm _ _ o10 (by simp),mm _ _ o11 (by simp),mm _ _ o12 (by simp),mm _ _ o13 (by simp)⟩
  ·have hv:v10=ac5 p.recommends:=by
    rcases o10 with ⟨h,_⟩|⟨_,h⟩
    ·exact absurd h (by omega)
    ·exact h
   subst hv
   have hfl:p.recommends.length<2^31∧∀ r∈p.recommends,r.fit∧r.count<2^31:=hf.rich (1,p.recommends) (by simp[Package.rows])
   simp only[go_sem,bz6,q0,pcs,ay2]
   refine af8 fok141 (ao6 p.recommends _ (by have:=hfl.1; omega)) ?_
   rintro v s2 ⟨hs2,hn2,hg,hid⟩
   refine ⟨hn2,?_⟩
   have q02:s2.obj 0=some (.cells (pcs p v7 v8 (ac5 p.recommends) v11 v12 v13)):=by rw[hs2 0 (by omega)]; exact q0
   have q12:s2.obj 1=some (.cells au2):=by rw[hs2 1 (by omega)]; exact q1
   have hvl:v.leaf=true:=by rcases hg with ⟨rfl,_⟩|⟨id,rfl,_⟩<;>rfl
   have hvc:v.cs=[v]:=by rcases hg with ⟨rfl,_⟩|⟨id,rfl,_⟩<;>rfl
   have hlen:∀ s,cx8 0 s v=some (.int .i64 (p.recommends.length:Nat)):=fun s=>by
    rcases hg with ⟨rfl,he⟩|⟨id,rfl,_⟩
    ·have:p.recommends=[]:=by simpa using he
     rw[this]; rfl
    ·rw[ay8,List.length_map]
   simp only[go_sem,q02,pcs,hvl,hvc,hlen]
   refine aa9 noT (fun j fr t=>fr=[(1,.ptr 0 0),(2,.ptr 1 0),(4,.ptr 0 10),(25,.tslice bz6),(26,.int .i64 6),(27,.int .i64 2),(39,v),(40,.int .i64 p.recommends.length),(41,.int .i64 j)] ∧
    s2.next≤t.next∧t.obj 0=some (.cells (pcs p v7 v8 v v11 v12 v13))∧t.obj 1=some (.cells au2)∧∀ id cs,id<s2.next→s2.obj id=some (.row cs)→t.obj id=some (.row cs)) p.recommends.length ⟨rfl,Nat.le_refl _,?_,?_,?_⟩ ?_
   ·simp only[aa2,if_true]; rfl
   ·simp only[aa2,reduceCtorEq,Int.reduceLT,Int.reduceLE,Int.reduceToNat,Int.reduceAdd,Nat.reduceEqDiff,Nat.reduceAdd,Nat.reduceMul,Nat.reduceLT,Nat.reduceLeDiff,decide_true,decide_false,↓reduceIte,if_false]; exact q12
   ·intro id cs hlt' h
    have:¬ id=0:=fun e=>by subst e; rw[q02] at h; cases h
    simp only[aa2,this,if_false]; exact h
   rintro j fr t hle' ⟨rfl,t0,t1,t2,t3⟩
   by_cases hjl:j<p.recommends.length
   ·obtain ⟨a,ha,_,hdr,hget,_⟩:=ad1 p.recommends j hjl
    rcases hg with ⟨_,he⟩|⟨id,rfl,ho,hil⟩
    ·have:p.recommends=[]:=by simpa using he
     rw[this] at hjl; cases hjl
    have hrow:=t3 _ _ hil ho
    have c1:(j:Int)<p.recommends.length:=by omega
    have c2:(0:Int)≤j:=by omega
    have w1:=ad5 (i:=j) (by have:=hfl.1; omega)
    have hid0:¬ id=0:=fun e=>by subst e; rw[t1] at hrow; cases hrow
    have hid1:¬ id=1:=fun e=>by subst e; rw[t2] at hrow; cases hrow
    have u0:¬ 0=t.next:=by omega
    have u1:¬ 1=t.next:=by omega
    have u2:¬ id=t.next:=by omega
    have u3:¬ t.next=id:=by omega
    have u4:¬ 0=id:=by omega
    have u5:¬ 1=id:=by omega
    have hall:=fun x hx=>(ao8 p.recommends x hx).1
    have hfl2:=ah5 hall
    have hpart:=ap8 hall j (by rw[List.length_map]; exact hjl)
    rw[hget] at hpart
    rw[List.length_map] at hfl2
    have hin:7≤((p.recommends.map Rich.cs).flatten.drop (j*7)).length:=by rw[List.length_drop,hfl2]; omega
    have hin2:j*7+7≤(p.recommends.map Rich.cs).flatten.length:=by rw[hfl2]; omega
    have hsame:ag9 (p.recommends.map Rich.cs).flatten (j*7) a.cs=(p.recommends.map Rich.cs).flatten:=av5 (by rw[aa8]; exact hpart) (by rw[aa8]; exact hin2)
    simp only[go_sem,c1,c2,hrow,hin,hpart,cb8,aa8,aa6,ab4,t1,pcs,u0,u2,u3,hid0]
    refine aa3 (am4 a (hfl.2 a ha).1) ?_
    simp only[go_sem,c1,c2,hrow,hin2,cb9,aa8,aa6,hsame,t1,pcs,u0,u2,w1]
    refine ⟨hjl,by omega,?_,?_,?_⟩
    ·simp only[u4,if_false]
    ·simp only[u5,u1,if_false]; exact t2
    ·intro id' cs hlt' h
     have h':=t3 id' cs hlt' h
     have u6:¬ id'=t.next:=by omega
     by_cases e:id'=id
     ·subst e
      rw[hrow] at h'
      simp only[if_true]; exact h'
     ·simp only[e,u6,if_false]; exact h'
   ·have hj':j=p.recommends.length:=by omega
    subst hj'
    have c1:¬ (p.recommends.length:Int)<p.recommends.length:=by omega
    have hgt:Grow t v 7 (p.recommends.map Rich.cs):=by
     rcases hg with h|⟨id,rfl,ho,hil⟩
     ·exact .inl h
     ·exact .inr ⟨id,rfl,t3 _ _ hil ho,by omega⟩
    have hrows:∀ id cs,id<s.next→s.obj id=some (.row cs)→t.obj id=some (.row cs):=fun id cs hlt' h=>t3 id cs (by omega) (by rw[hs2 id hlt']; exact h)
    have mm:∀ {d d':Prop} (u:IV) (l:List Rich),ai6 s d u l→(d↔d')→ai6 t d' u l:=fun u l h hd=>h.mono hd (by omega) hrows
    simp only[go_sem,c1]
    exact ⟨rfl,⟨t2,by omega⟩,v7,v8,v,v11,v12,v13,t1,mm _ _ o7 (by simp),mm _ _ o8 (by simp),.inl ⟨by simp,hgt⟩,mm _ _ o11 (by simp),mm _ _ o12 (by simp),mm _ _ o13 (by simp)⟩
  ·have hv:v11=ac5 p.supplements:=by
    rcases o11 with ⟨h,_⟩|⟨_,h⟩
    ·exact absurd h (by omega)
    ·exact h
   subst hv
   have hfl:p.supplements.length<2^31∧∀ r∈p.supplements,r.fit∧r.count<2^31:=hf.rich (3,p.supplements) (by simp[Package.rows])
   simp only[go_sem,bz6,q0,pcs,ay2]
   refine af8 fok141 (ao6 p.supplements _ (by have:=hfl.1; omega)) ?_
   rintro v s2 ⟨hs2,hn2,hg,hid⟩
   refine ⟨hn2,?_⟩
   have q02:s2.obj 0=some (.cells (pcs p v7 v8 v10 (ac5 p.supplements) v12 v13)):=by rw[hs2 0 (by omega)]; exact q0
   have q12:s2.obj 1=some (.cells au2):=by rw[hs2 1 (by omega)]; exact q1
   have hvl:v.leaf=true:=by rcases hg with ⟨rfl,_⟩|⟨id,rfl,_⟩<;>rfl
   have hvc:v.cs=[v]:=by rcases hg with ⟨rfl,_⟩|⟨id,rfl,_⟩<;>rfl
   have hlen:∀ s,cx8 0 s v=some (.int .i64 (p.supplements.length:Nat)):=fun s=>by
    rcases hg with ⟨rfl,he⟩|⟨id,rfl,_⟩
    ·have:p.supplements=[]:=by simpa using he
     rw[this]; rfl
    ·rw[ay8,List.length_map]
   simp only[go_sem,q02,pcs,hvl,hvc,hlen]
   refine aa9 noT (fun j fr t=>fr=[(1,.ptr 0 0),(2,.ptr 1 0),(4,.ptr 0 11),(25,.tslice bz6),(26,.int .i64 6),(27,.int .i64 3),(39,v),(40,.int .i64 p.supplements.length),(41,.int .i64 j)] ∧
    s2.next≤t.next∧t.obj 0=some (.cells (pcs p v7 v8 v10 v v12 v13))∧t.obj 1=some (.cells au2)∧∀ id cs,id<s2.next→s2.obj id=some (.row cs)→t.obj id=some (.row cs)) p.supplements.length ⟨rfl,Nat.le_refl _,?_,?_,?_⟩ ?_
   ·simp only[aa2,if_true]; rfl
   ·simp only[aa2,reduceCtorEq,Int.reduceLT,Int.reduceLE,Int.reduceToNat,Int.reduceAdd,Nat.reduceEqDiff,Nat.reduceAdd,Nat.reduceMul,Nat.reduceLT,Nat.reduceLeDiff,decide_true,decide_false,↓reduceIte,if_false]; exact q12
   ·intro id cs hlt' h
    have:¬ id=0:=fun e=>by subst e; rw[q02] at h; cases h
    simp only[aa2,this,if_false]; exact h
   rintro j fr t hle' ⟨rfl,t0,t1,t2,t3⟩
   by_cases hjl:j<p.supplements.length
   ·obtain ⟨a,ha,_,hdr,hget,_⟩:=ad1 p.supplements j hjl
    rcases hg with ⟨_,he⟩|⟨id,rfl,ho,hil⟩
    ·have:p.supplements=[]:=by simpa using he
     rw[this] at hjl; cases hjl
    have hrow:=t3 _ _ hil ho
    have c1:(j:Int)<p.supplements.length:=by omega
    have c2:(0:Int)≤j:=by omega
    have w1:=ad5 (i:=j) (by have:=hfl.1; omega)
    have hid0:¬ id=0:=fun e=>by subst e; rw[t1] at hrow; cases hrow
    have hid1:¬ id=1:=fun e=>by subst e; rw[t2] at hrow; cases hrow
    have u0:¬ 0=t.next:=by omega
    have u1:¬ 1=t.next:=by omega
    have u2:¬ id=t.next:=by omega
    have u3:¬ t.next=id:=by omega
    have u4:¬ 0=id:=by omega
    have u5:¬ 1=id:=by omega
    have hall:=fun x hx=>(ao8 p.supplements x hx).1
    have hfl2:=ah5 hall
    have hpart:=ap8 hall j (by rw[List.length_map]; exact hjl)
    rw[hget] at hpart
    rw[List.length_map] at hfl2
    have hin:7≤((p.supplements.map Rich.cs).flatten.drop (j*7)).length:=by rw[List.length_drop,hfl2]; omega
    have hin2:j*7+7≤(p.supplements.map Rich.cs).flatten.length:=by rw[hfl2]; omega
    have hsame:ag9 (p.supplements.map Rich.cs).flatten (j*7) a.cs=(p.supplements.map Rich.cs).flatten:=av5 (by rw[aa8]; exact hpart) (by rw[aa8]; exact hin2)
    simp only[go_sem,c1,c2,hrow,hin,hpart,cb8,aa8,aa6,ab4,t1,pcs,u0,u2,u3,hid0]
    refine aa3 (am4 a (hfl.2 a ha).1) ?_
    simp only[go_sem,c1,c2,hrow,hin2,cb9,aa8,aa6,hsame,t1,pcs,u0,u2,w1]
    refine ⟨hjl,by omega,?_,?_,?_⟩
    ·simp only[u4,if_false]
    ·simp only[u5,u1,if_false]; exact t2
    ·intro id' cs hlt' h
     have h':=t3 id' cs hlt' h
     have u6:¬ id'=t.next:=by omega
     by_cases e:id'=id
     ·subst e
      rw[hrow] at h'
      simp only[if_true]; exact h'
     ·simp only[e,u6,if_false]; exact h'
   ·have hj':j=p.supplements.length:=by omega
    subst hj'
    have c1:¬ (p.supplements.length:Int)<p.supplements.length:=by omega
    have hgt:Grow t v 7 (p.supplements.map Rich.cs):=by
     rcases hg with h|⟨id,rfl,ho,hil⟩
     ·exact .inl h
     ·exact .inr ⟨id,rfl,t3 _ _ hil ho,by omega⟩
    have hrows:∀ id cs,id<s.next→s.obj id=some (.row cs)→t.obj id=some (.row cs):=fun id cs hlt' h=>t3 id cs (by omega) (by rw[hs2 id hlt']; exact h)
    have mm:∀ {d d':Prop} (u:IV) (l:List Rich),ai6 s d u l→(d↔d')→ai6 t d' u l:=fun u l h hd=>h.mono hd (by omega) hrows
    simp only[go_sem,c1]
    exact ⟨rfl,⟨t2,by omega⟩,v7,v8,v10,v,v12,v13,t1,mm _ _ o7 (by simp),mm _ _ o8 (by simp),mm _ _ o10 (by simp),.inl ⟨by simp,hgt⟩,mm _ _ o12 (by simp),mm _ _ o13 (by simp)⟩
  ·have hv:v12=ac5 p.suggests:=by
    rcases o12 with ⟨h,_⟩|⟨_,h⟩
    ·exact absurd h (by omega)
    ·exact h
   subst hv
   have hfl:p.suggests.length<2^31∧∀ r∈p.suggests,r.fit∧r.count<2^31:=hf.rich (1,p.suggests) (by simp[Package.rows])
   simp only[go_sem,bz6,q0,pcs,ay2]
   refine af8 fok141 (ao6 p.suggests _ (by have:=hfl.1; omega)) ?_
   rintro v s2 ⟨hs2,hn2,hg,hid⟩
   refine ⟨hn2,?_⟩
   have q02:s2.obj 0=some (.cells (pcs p v7 v8 v10 v11 (ac5 p.suggests) v13)):=by rw[hs2 0 (by omega)]; exact q0
   have q12:s2.obj 1=some (.cells au2):=by rw[hs2 1 (by omega)]; exact q1
   have hvl:v.leaf=true:=by rcases hg with ⟨rfl,_⟩|⟨id,rfl,_⟩<;>rfl
   have hvc:v.cs=[v]:=by rcases hg with ⟨rfl,_⟩|⟨id,rfl,_⟩<;>rfl
   have hlen:∀ s,cx8 0 s v=some (.int .i64 (p.suggests.length:Nat)):=fun s=>by
    rcases hg with ⟨rfl,he⟩|⟨id,rfl,_⟩
    ·have:p.suggests=[]:=by simpa using he
     rw[this]; rfl
    ·rw[ay8,List.length_map]
   simp only[go_sem,q02,pcs,hvl,hvc,hlen]
   refine aa9 noT (fun j fr t=>fr=[(1,.ptr 0 0),(2,.ptr 1 0),(4,.ptr 0 12),(25,.tslice bz6),(26,.int .i64 6),(27,.int .i64 4),(39,v),(40,.int .i64 p.suggests.length),(41,.int .i64 j)] ∧
    s2.next≤t.next∧t.obj 0=some (.cells (pcs p v7 v8 v10 v11 v v13))∧t.obj 1=some (.cells au2)∧∀ id cs,id<s2.next→s2.obj id=some (.row cs)→t.obj id=some (.row cs)) p.suggests.length ⟨rfl,Nat.le_refl _,?_,?_,?_⟩ ?_
   ·simp only[aa2,if_true]; rfl
   ·simp only[aa2,reduceCtorEq,Int.reduceLT,Int.reduceLE,Int.reduceToNat,Int.reduceAdd,Nat.reduceEqDiff,Nat.reduceAdd,Nat.reduceMul,Nat.reduceLT,Nat.reduceLeDiff,decide_true,decide_false,↓reduceIte,if_false]; exact q12
   ·intro id cs hlt' h
    have:¬ id=0:=fun e=>by subst e; rw[q02] at h; cases h
    simp only[aa2,this,if_false]; exact h
   rintro j fr t hle' ⟨rfl,t0,t1,t2,t3⟩
   by_cases hjl:j<p.suggests.length
   ·obtain ⟨a,ha,_,hdr,hget,_⟩:=ad1 p.suggests j hjl
    rcases hg with ⟨_,he⟩|⟨id,rfl,ho,hil⟩
    ·have:p.suggests=[]:=by simpa using he
     rw[this] at hjl; cases hjl
    have hrow:=t3 _ _ hil ho
    have c1:(j:Int)<p.suggests.length:=by omega
    have c2:(0:Int)≤j:=by omega
    have w1:=ad5 (i:=j) (by have:=hfl.1; omega)
    have hid0:¬ id=0:=fun e=>by subst e; rw[t1] at hrow; cases hrow
    have hid1:¬ id=1:=fun e=>by subst e; rw[t2] at hrow; cases hrow
    have u0:¬ 0=t.next:=by omega
    have u1:¬ 1=t.next:=by omega
    have u2:¬ id=t.next:=by omega
    have u3:¬ t.next=id:=by omega
    have u4:¬ 0=id:=by omega
    have u5:¬ 1=id:=by omega
    have hall:=fun x hx=>(ao8 p.suggests x hx).1
    have hfl2:=ah5 hall
    have hpart:=ap8 hall j (by rw[List.length_map]; exact hjl)
    rw[hget] at hpart
    rw[List.length_map] at hfl2
    have hin:7≤((p.suggests.map Rich.cs).flatten.drop (j*7)).length:=by rw[List.length_drop,hfl2]; omega
    have hin2:j*7+7≤(p.suggests.map Rich.cs).flatten.length:=by rw[hfl2]; omega
    have hsame:ag9 (p.suggests.map Rich.cs).flatten (j*7) a.cs=(p.suggests.map Rich.cs).flatten:=av5 (by rw[aa8]; exact hpart) (by rw[aa8]; exact hin2)
    simp only[go_sem,c1,c2,hrow,hin,hpart,cb8,aa8,aa6,ab4,t1,pcs,u0,u2,u3,hid0]
    refine aa3 (am4 a (hfl.2 a ha).1) ?_
    simp only[go_sem,c1,c2,hrow,hin2,cb9,aa8,aa6,hsame,t1,pcs,u0,u2,w1]
    refine ⟨hjl,by omega,?_,?_,?_⟩
    ·simp only[u4,if_false]
    ·simp only[u5,u1,if_false]; exact t2
    ·intro id' cs hlt' h
     have h':=t3 id' cs hlt' h
     have u6:¬ id'=t.next:=by omega
     by_cases e:id'=id
     ·subst e
      rw[hrow] at h'
      simp only[if_true]; exact h'
     ·simp only[e,u6,if_false]; exact h'
   ·have hj':j=p.suggests.length:=by omega
    subst hj'
    have c1:¬ (p.suggests.length:Int)<p.suggests.length:=by omega
    have hgt:Grow t v 7 (p.suggests.map Rich.cs):=by
     rcases hg with h|⟨id,rfl,ho,hil⟩
     ·exact .inl h
     ·exact .inr ⟨id,rfl,t3 _ _ hil ho,by omega⟩
    have hrows:∀ id cs,id<s.next→s.obj id=some (.row cs)→t.obj id=some (.row cs):=fun id cs hlt' h=>t3 id cs (by omega) (by rw[hs2 id hlt']; exact h)
    have mm:∀ {d d':Prop} (u:IV) (l:List Rich),ai6 s d u l→(d↔d')→ai6 t d' u l:=fun u l h hd=>h.mono hd (by omega) hrows
    simp only[go_sem,c1]
    exact ⟨rfl,⟨t2,by omega⟩,v7,v8,v10,v11,v,v13,t1,mm _ _ o7 (by simp),mm _ _ o8 (by simp),mm _ _ o10 (by simp),mm _ _ o11 (by simp),.inl ⟨by simp,hgt⟩,mm _ _ o13 (by simp)⟩
  ·have hv:v13=ac5 p.enhances:=by
    rcases o13 with ⟨h,_⟩|⟨_,h⟩
    ·exact absurd h (by omega)
    ·exact h
   subst hv
   have hfl:p.enhances.length<2^31∧∀ r∈p.enhances,r.fit∧r.count<2^31:=hf.rich (3,p.enhances) (by simp[Package.rows])
   simp only[go_sem,bz6,q0,pcs,ay2]
   refine af8 fok141 (ao6 p.enhances _ (by have:=hfl.1; omega)) ?_
   rintro v s2 ⟨hs2,hn2,hg,hid⟩
   refine ⟨hn2,?_⟩
   have q02:s2.obj 0=some (.cells (pcs p v7 v8 v10 v11 v12 (ac5 p.enhances))):=by rw[hs2 0 (by omega)]; exact q0
   have q12:s2.obj 1=some (.cells au2):=by rw[hs2 1 (by omega)]; exact q1
   have hvl:v.leaf=true:=by rcases hg with ⟨rfl,_⟩|⟨id,rfl,_⟩<;>rfl
   have hvc:v.cs=[v]:=by rcases hg with ⟨rfl,_⟩|⟨id,rfl,_⟩<;>rfl
   have hlen:∀ s,cx8 0 s v=some (.int .i64 (p.enhances.length:Nat)):=fun s=>by
    rcases hg with ⟨rfl,he⟩|⟨id,rfl,_⟩
    ·have:p.enhances=[]:=by simpa using he
     rw[this]; rfl
    ·rw[ay8,List.length_map]
   simp only[go_sem,q02,pcs,hvl,hvc,hlen]
   refine aa9 noT (fun j fr t=>fr=[(1,.ptr 0 0),(2,.ptr 1 0),(4,.ptr 0 13),(25,.tslice bz6),(26,.int .i64 6),(27,.int .i64 5),(39,v),(40,.int .i64 p.enhances.length),(41,.int .i64 j)] ∧
    s2.next≤t.next∧t.obj 0=some (.cells (pcs p v7 v8 v10 v11 v12 v))∧t.obj 1=some (.cells au2)∧∀ id cs,id<s2.next→s2.obj id=some (.row cs)→t.obj id=some (.row cs)) p.enhances.length ⟨rfl,Nat.le_refl _,?_,?_,?_⟩ ?_
   ·simp only[aa2,if_true]; rfl
   ·simp only[aa2,reduceCtorEq,Int.reduceLT,Int.reduceLE,Int.reduceToNat,Int.reduceAdd,Nat.reduceEqDiff,Nat.reduceAdd,Nat.reduceMul,Nat.reduceLT,Nat.reduceLeDiff,decide_true,decide_false,↓reduceIte,if_false]; exact q12
   ·intro id cs hlt' h
    have:¬ id=0:=fun e=>by subst e; rw[q02] at h; cases h
    simp only[aa2,this,if_false]; exact h
   rintro j fr t hle' ⟨rfl,t0,t1,t2,t3⟩
   by_cases hjl:j<p.enhances.length
   ·obtain ⟨a,ha,_,hdr,hget,_⟩:=ad1 p.enhances j hjl
    rcases hg with ⟨_,he⟩|⟨id,rfl,ho,hil⟩
    ·have:p.enhances=[]:=by simpa using he
     rw[this] at hjl; cases hjl
    have hrow:=t3 _ _ hil ho
    have c1:(j:Int)<p.enhances.length:=by omega
    have c2:(0:Int)≤j:=by omega
    have w1:=ad5 (i:=j) (by have:=hfl.1; omega)
    have hid0:¬ id=0:=fun e=>by subst e; rw[t1] at hrow; cases hrow
    have hid1:¬ id=1:=fun e=>by subst e; rw[t2] at hrow; cases hrow
    have u0:¬ 0=t.next:=by omega
    have u1:¬ 1=t.next:=by omega
    have u2:¬ id=t.next:=by omega
    have u3:¬ t.next=id:=by omega
    have u4:¬ 0=id:=by omega
    have u5:¬ 1=id:=by omega
    have hall:=fun x hx=>(ao8 p.enhances x hx).1
    have hfl2:=ah5 hall
    have hpart:=ap8 hall j (by rw[List.length_map]; exact hjl)
    rw[hget] at hpart
    rw[List.length_map] at hfl2
    have hin:7≤((p.enhances.map Rich.cs).flatten.drop (j*7)).length:=by rw[List.length_drop,hfl2]; omega
    have hin2:j*7+7≤(p.enhances.map Rich.cs).flatten.length:=by rw[hfl2]; omega
    have hsame:ag9 (p.enhances.map Rich.cs).flatten (j*7) a.cs=(p.enhances.map Rich.cs).flatten:=av5 (by rw[aa8]; exact hpart) (by rw[aa8]; exact hin2)
    simp only[go_sem,c1,c2,hrow,hin,hpart,cb8,aa8,aa6,ab4,t1,pcs,u0,u2,u3,hid0]
    refine aa3 (am4 a (hfl.2 a ha).1) ?_
    simp only[go_sem,c1,c2,hrow,hin2,cb9,aa8,aa6,hsame,t1,pcs,u0,u2,w1]
    refine ⟨hjl,by omega,?_,?_,?_⟩
    ·simp only[u4,if_false]
    ·simp only[u5,u1,if_false]; exact t2
    ·intro id' cs hlt' h
     have h':=t3 id' cs hlt' h
     have u6:¬ id'=t.next:=by omega
     by_cases e:id'=id
     ·subst e
      rw[hrow] at h'
      simp only[if_true]; exact h'
     ·simp only[e,u6,if_false]; exact h'
   ·have hj':j=p.enhances.length:=by omega
    subst hj'
    have c1:¬ (p.enhances.length:Int)<p.enhances.length:=by omega
    have hgt:Grow t v 7 (p.enhances.map Rich.cs):=by
     rcases hg with h|⟨id,rfl,ho,hil⟩
     ·exact .inl h
     ·exact .inr ⟨id,rfl,t3 _ _ hil ho,by omega⟩
    have hrows:∀ id cs,id<s.next→s.obj id=some (.row cs)→t.obj id=some (.row cs):=fun id cs hlt' h=>t3 id cs (by omega) (by rw[hs2 id hlt']; exact h)
    have mm:∀ {d d':Prop} (u:IV) (l:List Rich),ai6 s d u l→(d↔d')→ai6 t d' u l:=fun u l h hd=>h.mono hd (by omega) hrows
    simp only[go_sem,c1]
    exact ⟨rfl,⟨t2,by omega⟩,v7,v8,v10,v11,v12,v,t1,mm _ _ o7 (by simp),mm _ _ o8 (by simp),mm _ _ o10 (by simp),mm _ _ o11 (by simp),mm _ _ o12 (by simp),.inl ⟨by simp,hgt⟩⟩
 ·have hi':i=6:=by omega
  subst hi'
  have c1:¬ ((6:Nat):Int)<6:=by omega
  simp only[go_sem,c1,q0,q1,pcs,au2,bo1,o7.leaf,o8.leaf,o10.leaf,o11.leaf,o12.leaf,o13.leaf]
  have fz:∀ (v:IV) (l:List Rich) (k:Nat) (s':Store),k<6→ai6 s (k<6) v l→(∀ id cs,s.obj id=some (.row cs)→s'.obj id=some (.row cs))→s.next≤s'.next→ch1 s' 0 v (ac5 l):=by
   intro v l k s' hk ho h1 h2
   rcases ho.mono Iff.rfl h2 (fun id cs _ h=>h1 id cs h) with ⟨_,h⟩|⟨h,_⟩
   ·exact h.frz (fun x hx=>(ao8 l x hx).1) (fun _ _=>Nat.not_lt_zero _) (aj4 (aw9 l))
   ·exact absurd hk h
  have hr:∀ id cs,s.obj id=some (.row cs)→(s.put 1 (IObj.cells (pcs p v7 v8 v10 v11 v12 v13))).obj id=some (.row cs):=fun id cs h=>by
   have:¬ id=1:=fun e=>by subst e; rw[q1] at h; cases h
   simp only[aa2,this,if_false]; exact h
  have b1:=fun v hv=>Frz.keep (σ:=s.put 1 (IObj.cells (pcs p v7 v8 v10 v11 v12 v13))) (S:=fun i=>i<0) v hv
  exact .agg2 (.cons (ax9 _) (.cons (ab8 _ _) (.cons (ax9 _) (.cons (ax9 _) (.cons (ab8 _ _) (.cons (ax9 _) (.cons (b1 _ (bp4 _))
   (.cons (fz v7 _ 0 _ (by omega) o7 hr (Nat.le_refl _)) (.cons (fz v8 _ 1 _ (by omega) o8 hr (Nat.le_refl _)) (.cons (b1 _ (bp4 _)) (.cons (fz v10 _ 2 _ (by omega) o10 hr (Nat.le_refl _)) (.cons (fz v11 _ 3 _ (by omega) o11 hr (Nat.le_refl _))
   (.cons (fz v12 _ 4 _ (by omega) o12 hr (Nat.le_refl _)) (.cons (fz v13 _ 5 _ (by omega) o13 hr (Nat.le_refl _)) (.cons (b1 _ (cd7 _)) .nil)))))))))))))))
end Go.Id.Tryz
