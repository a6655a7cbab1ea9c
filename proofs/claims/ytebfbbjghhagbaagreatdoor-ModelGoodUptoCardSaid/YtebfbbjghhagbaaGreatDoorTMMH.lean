/- Whether a rich dependency is whole. Conditions: sizes that fit. -/
import Derived.Test.YtebfbbjghhagbaaGreatDoorTMPD
import Derived.Test.YtebfbbjghhagbaaGreatDoorMv
import Derived.Test.YtebfbbjghhagbaaGreatDoorFwZb
import Derived.Test.YtebfbbjghhagbaaGreatDoorTMSJ
set_option linter.all false
namespace Go.Id.Tryz
open Go Go.Id Go.Proofs Go.Id.Md
set_option maxRecDepth 100000
def msV (m:Nat×Nat×Bool):IV:=.tuple [.int .i64 m.1,.int .i64 m.2.1,.bool m.2.2]
theorem ey3 {s:Store}(m:Nat×Nat×Bool):bt7 s 0 (.tuple [.int .i64 m.1,.int .i64 m.2.1,.bool m.2.2]) (msV m):=.keep _ (.tuple _ (ba2 (.int _ _) (.int _ _) (.bool _)))
theorem fr7 (r:aa8):r.fit->r.count<2^31->PC Tryz.prog EE 219 [.agg r.cs] (msV r.ms):=by
 induction r using aa8.ind with
 | h k d xs ih=>
  intro hf hc;obtain ⟨f1,f2,f3,f4,f5⟩:=aa8.bk4.1 hf;have hms:∀ a∈xs,a.ms.1<=a.count/\a.ms.2.1<=a.count:=fun a _=>aa8.iv5 a
  refine ae9 hE fok219 (nZ rfl) (ae1 (ag1 _)) ?_;by_cases k1:k=1
  ·subst k1;have hm:=bo2 d f3.1 f3.2.1 f3.2.2;by_cases h0:xs.length=0
   ·have h0':(xs.length:Int)=0:=by omega
    simp only[ic219,go_sem,aa8.an7,aa8.kind,aa8.dep,aa8.args,h0']
    first|refine aa4 fok84 (hm) ?_|refine aa2 (hm) ?_
    simp only[go_sem];have e:aa8.ms (.mk 1 d xs)=(1,0,ah9 d):=by simp[aa8.ms,h0]
    rw[e]; exact ey3 (1,0,ah9 d)
   ·have h0':¬ (xs.length:Int)=0:=by omega
    simp only[ic219,go_sem,aa8.an7,aa8.kind,aa8.dep,aa8.args,h0'];have e:aa8.ms (.mk 1 d xs)=(1,0,false):=by simp[aa8.ms,h0]
    rw[e]; exact ey3 (1,0,false)
  have e:aa8.ms (.mk k d xs)=((aa8.msL xs 1 0 (as6 k d xs.length)).1,(aa8.msL xs 1 0 (as6 k d xs.length)).2.1+1,(aa8.msL xs 1 0 (as6 k d xs.length)).2.2):=by rw[aa8.ms,if_neg k1]
  have hdd:decide (d=by7)=(decide (d.name=[])&&(decide (d.op=0)&&(decide (d.evr.am9=0)&&(decide (d.evr.ver=[])&&decide (d.evr.rel=[]))))):=by
   obtain ⟨n,o,e,v,r⟩:=d;simp only[by7,fs3,Dep.mk.injEq,EVR.mk.injEq,Bool.decide_and]
  have hg:∀ a∈xs,a.fit/\a.count<2^31/\a.count<=aa8.counts xs:=fun a ha=>by
   have h1:a.count<=aa8.counts xs:=by
    clear hc f4 f5 hms ih hdd e hf
    induction xs with
    | nil=>cases ha
    | cons y ys ihy=>
     simp only[aa8.counts];rcases List.mem_cons.1 ha with rfl|ha
     ·omega
     ·have:=ihy ha; omega
   have h2:aa8.counts xs<2^31:=by simp only[aa8.count] at hc; omega
   exact ⟨f5 a ha,by omega,h1⟩
  have hcs:aa8.counts xs<2^31:=by simp only[aa8.count] at hc; omega
  -- what holds of Kinds and counts
  by_cases q1:1<k
  case' neg=>
   have hH:as6 k d xs.length=false:=by simp[as6,q1]
   simp only[ic219,go_sem,aa8.an7,aa8.kind,aa8.dep,aa8.args,k1,q1]
  case' pos=>
   by_cases q2:k<=7
   case' neg=>
    have hH:as6 k d xs.length=false:=by simp[as6,q2]
    simp only[ic219,go_sem,aa8.an7,aa8.kind,aa8.dep,aa8.args,k1,q1,q2]
   case' pos=>
    by_cases q3:d=by7
    case' neg=>
     have hd1:decide (d=by7)=false:=decide_eq_false q3;rw[hdd] at hd1;have hH:as6 k d xs.length=false:=by simp[as6,q3]
     simp only[ic219,go_sem,aa8.an7,aa8.kind,aa8.dep,aa8.args,k1,q1,q2,hd1]
    case' pos=>
     have hd1:decide (d=by7)=true:=decide_eq_true q3;rw[hdd] at hd1;by_cases q4:2<=xs.length
     case' neg=>
      have q4':¬ (2:Int)<=xs.length:=by omega
      have hH:as6 k d xs.length=false:=by simp[as6,q4]
      simp only[ic219,go_sem,aa8.an7,aa8.kind,aa8.dep,aa8.args,k1,q1,q2,hd1,q4']
     case' pos=>
      have q4':(2:Int)<=xs.length:=by omega
      obtain ⟨ks,hk1,hk2,hk3⟩:∃ ks,(if 0<=k/\k<8 then cn4 (k.toNat*2) (EE 2) else none)=some (.ab8 ks)/\(ks.drop 1).head? = some (.int .i64 (ek9 k))/\1<ks.length:=by
       have hk:k=2\/k=3\/k=4\/k=5\/k=6\/k=7:=by omega
       rcases hk with rfl|rfl|rfl|rfl|rfl|rfl<;>exact ⟨_,rfl,rfl,by decide⟩
      simp only[ic219,go_sem,aa8.an7,aa8.kind,aa8.dep,aa8.args,k1,q1,q2,hd1,q4',hk1,hk2,hk3];by_cases q5:xs.length<=ek9 k
      case' neg=>
       have q5':¬ (xs.length:Int)<=ek9 k:=by omega
       have hH:as6 k d xs.length=false:=by simp[as6,q5]
       simp only[go_sem,q5']
      case' pos=>
       have q5':(xs.length:Int)<=ek9 k:=by omega
       have hH:as6 k d xs.length=true:=by simp[as6, *]
       simp only[go_sem,q5']
  all_goals
   rw[e]
   refine ab7 noT (fun i fr t=>∃ (p dd:Nat) (ok:Bool),fr=[(2,.int .i64 p),(3,.int .i64 dd),(4,.bool ok),(54,.aa5 (xs.map aa8.cs)),(55,.int .i64 xs.length),(56,.int .i64 (i:Int))]/\p+aa8.counts (xs.drop i)<=1+aa8.counts xs/\dd<=aa8.counts xs /\
    aa8.msL xs 1 0 (as6 k d xs.length)=aa8.msL (xs.drop i) p dd ok) xs.length ⟨1,0,_,rfl,Nat.le_refl _,Nat.zero_le _,by rw[hH]; rfl⟩ ?_
   rintro i fr t hle ⟨p,dd,ok,rfl,hp,hdl,hI⟩;rw[hI];by_cases hlt:i<xs.length
   ·obtain ⟨x,hx,_,hdr,hget,htk⟩:=ae2 xs i hlt;have c1:(i:Int)<xs.length:=by omega
    have c2:(0:Int)<=i:=by omega
    have w1:=ad4 (i:=i) (by omega);rw[hdr] at hp hI ⊢;obtain ⟨x1,x2,x3⟩:=hg x hx
    cases ok with
    | false=>
     have w3:=ad4 (i:=dd) (by omega);simp only[go_sem,c1,c2,hget,ac1,ac6,ab4,w3,aa8.msL]
     exact ey3 (p,dd+1,false)
    | true=>
     have hA:=ih x hx x1 x2;have hml:=aa8.iv5 x;simp only[aa8.counts] at hp;have w2:IntKind.i64.wrap ((p:Int)+x.ms.1)=((p+x.ms.1:Nat):Int):=by rw[wrap64 (by omega) (by omega)]; omega
     simp only[go_sem,c1,c2,hget,ac1,ac6,ab4]
     first|refine aa4 fok219 (hA) ?_|refine aa2 (hA) ?_
     simp only[go_sem,msV,w1,w2];have wm:(if (x.ms.2.1:Int)>dd then (x.ms.2.1:Int) else dd)=((max dd x.ms.2.1:Nat):Int):=by split<;>omega
     exact ⟨hlt,p+x.ms.1,max dd x.ms.2.1,x.ms.2.2,by rw[wm],by omega,by omega,by simp[aa8.msL]⟩
   ·have hi':i=xs.length:=by omega
    subst hi';have c1:¬ (xs.length:Int)<xs.length:=by omega
    have w3:=ad4 (i:=dd) (by omega);rw[List.drop_length];simp only[go_sem,c1,w3,aa8.msL];exact ey3 (p,dd+1,ok)
theorem hh8 (r:aa8)(h1:r.fit)(h2:r.count<2^31):PC Tryz.prog EE 158 [.agg r.cs] (.bool (eb4 r)):=by
 refine ae9 hE fok158 (nZ rfl) (ae1 (ag1 _)) ?_;have h:=fr7 r h1 h2;unfold eb4;generalize r.ms=m at *;obtain ⟨p,d,ok⟩:=m;simp only[ic158,go_sem,ac1,ac6,ab4]
 first|refine aa4 fok219 (h) ?_|refine aa2 (h) ?_
 have e1:((p:Int)<=24)=(p<=24):=by simp only[eq_iff_iff]; omega
 have e2:((d:Int)<=8)=(d<=8):=by simp only[eq_iff_iff]; omega
 cases ok with
 | false=>simp only[go_sem,msV]; exact ab3 _
 | true=>
  by_cases q1:p<=24
  ·have q1':(p:Int)<=24:=by omega
   by_cases q2:d<=8
   ·have q2':(d:Int)<=8:=by omega
    simp only[go_sem,msV,q1,q1',q2,q2']; exact ab3 _
   ·have q2':¬ (d:Int)<=8:=by omega
    simp only[go_sem,msV,q1,q1',q2,q2']; exact ab3 _
  ·have q1':¬ (p:Int)<=24:=by omega
   simp only[go_sem,msV,q1,q1']; exact ab3 _
open Go Go.Id Go.Proofs Go.Shelf Go.Id.Md
def ef2 (c:Nat->Bool)(n:Nat):List IV:=(List.range n).map fun j=>.bool (c j)
theorem bj9 (c:Nat->Bool)(n:Nat):(ef2 c n).length=n:=by simp[ef2]
theorem gm1:∀ n:Nat,rep [IV.bool false] n=ef2 (fun _=>false) n:=by
 intro n
 have h:∀ m,rep [IV.bool false] m=List.replicate m (.bool false):=by
  intro m
  induction m with
  | zero=>rfl
  | succ m ih=>show [IV.bool false]++rep _ m=_; rw[ih]; rfl
 rw[h];exact List.ext_getElem (by simp[ef2]) fun i h1 h2=>by simp[ef2]
theorem ey4 (c:Nat->Bool){n i:Nat}(h:i<(ef2 c n).length):(ef2 c n)[i]=.bool (c i):=by simp[ef2]
theorem hh9 (c:Nat->Bool){n j:Nat}(h:j<n)(x:Bool):ay1 (ef2 c n) j [.bool x]=ef2 (fun i=>if i=j then x else c i) n:=by
 refine List.ext_getElem (by rw[ai6 (by rw[bj9]; simp only[List.length_singleton]; omega),bj9,bj9]) fun i h1 h2=>?_
 rw[ey4];rw[bj9] at h2;unfold ay1;simp only[List.getElem_append,List.length_take,bj9,List.getElem_take,List.getElem_drop,List.length_append,List.length_singleton,ey4];by_cases e:i=j
 ·subst e;have g1:¬ i<min i n:=by omega
  have g2:i<min i n+1:=by omega
  simp only[g1,g2,dite_false,dite_true,if_true,List.getElem_singleton]
 ·by_cases e2:i<j
  ·have g1:i<min j n:=by omega
   have g2:i<min j n+1:=by omega
   simp only[g1,g2,dite_true,e,if_false]
  ·have g1:¬ i<min j n:=by omega
   have g2:¬ i<min j n+1:=by omega
   have g3:j+1+(i-(min j n+1))=i:=by omega
   simp only[g2,g3,dite_false,e,if_false]
theorem iz6 {pt:PT}{ct:CT}{P:Program}{E:Nat->IV}{e id:Nat}{z:List IV}{x:IX}{fr:Frm}{σ:Store}{K:IV->Store->Prop}:opT pt ct P E (.dc6 e z x) id fr σ K=bv2 (do2 (x.ev E fr)) fun n=>K (.slice id 0 n e) (σ.put id (.row (rep z n))):=rfl
theorem ik8 {K:Nat->Prop}(n:Nat)(h:n<=2147483648):bv2 (do2 (.int .i64 (n:Int))) K=K n:=by
 have h1:(0:Int)<=n/\(n:Int)<=2147483648:=by omega
 show bv2 (if 0<=(n:Int)/\(n:Int)<=2147483648 then some ((n:Int).toNat) else none) K=K n;rw[if_pos h1]; rfl
theorem hi6 {s:Store}{S:Nat->Prop}{id n:Nat}{c:Nat->Bool}(hid:¬ S id)(ho:s.obj id=some (.row (ef2 c n))):Frz s S (.slice id 0 n 1) (.aa5 (((List.range n).map c).map dr5)):=by
 have hl:(((List.range n).map c).map dr5).length=n:=by simp
 refine .slice id 0 n 1 (ef2 c n) _ hid (.inr ho) hl (by rw[bj9]; omega) (fun i hi=>?_) fun i hi j hj=>?_
 ·simp[List.getD_eq_getElem?_getD,hi,dr5]
 ·have hj0:j=0:=by omega
  subst hj0;have e2:((((List.range n).map c).map dr5).getD i []).getD 0 .undef=.bool (c i):=by simp[List.getD_eq_getElem?_getD,hi,dr5]
  have e3:(ef2 c n).getD (0+(i*1+0)) .undef=.bool (c i):=by simp[List.getD_eq_getElem?_getD,hi,ef2]
  rw[e2,e3];exact .keep _ (.bool _)
abbrev ey5 (st:List Bool):IV:=.aa5 (st.map dr5)
def al5 (l:List aa3):IV:=.ab8 [(ah8 l).v,.int .i64 l.length]
def am8 (l:List aa3)(st:List Bool):List IV:=[al5 l,ey5 st]
theorem gm2 (st:List Bool):Bnd 0 (ey5 st):=.aa5 _ fun e he c hc=>by
 obtain ⟨b,_,rfl⟩:=List.mem_map.1 he
 cases hc with
 | head=>exact .bool _
 | tail _ h=>cases h
theorem as9 (l:List aa3):Bnd 0 (al5 l):=.ab8 _ (aj9 (bc4 _) (.int _ _))
theorem ee5 (l:List aa3)(st:List Bool):∀ c∈am8 l st,Bnd 0 c:=aj9 (as9 l) (gm2 st)
theorem ey6 (l:List aa3)(zs:List Int)(hl:l.length<=256)(hz:zs.length<2^40):PC Tryz.prog EE 159 [al5 l,.aa5 (zs.map Md.ah6)] (.agg (am8 l (stB l.length zs))):=by
 refine ae9 hE fok159 (nZ rfl) (aj9 (as9 l) (ag5 zs)) ?_;have hnc:(al5 l)=.ab8 [(ah8 l).v,.int .i64 l.length]:=rfl;simp only[ic159,go_sem,al5];simp only[iz6,ik8 _ (show l.length<=2147483648 by omega),go_sem];rw[gm1]
 refine ab7 noT (fun i fr t=>∃ c:Nat->Bool,fr=[(0,al5 l),(4,.ptr 0 0),(5,.ptr 2 0),(15,.aa5 (zs.map Md.ah6)),(16,.int .i64 zs.length),(17,.int .i64 (i:Int))]/\2<t.next/\t.obj 0=some (.cells [.ab6,.aa1])/\t.obj 1=some (.row (ef2 c l.length)) /\
  t.obj 2=some (.cells [al5 l,.slice 1 0 l.length 1])/\∀ j,j<l.length->c j=decide ((j:Int)∈zs.take i)) zs.length ⟨fun _=>false,rfl,by show 2<3; omega,rfl,rfl,rfl,fun j hj=>by simp⟩ ?_
 rintro i fr t hle ⟨c,rfl,hnx,o0,o1,o2,hc⟩;by_cases hlt:i<zs.length
 ·obtain ⟨x,hx,_,hdr,hget,htk⟩:=ae2 zs i hlt;have c1:(i:Int)<zs.length:=by omega
  have c2:(0:Int)<=i:=by omega
  have w1:=ad4 (i:=i) (by omega);by_cases q1:0<=x
  ·by_cases q2:x<(l.length:Nat)
   ·have hxn:x.toNat<l.length:=by omega
    have r2:=hh9 c hxn true;have r3:x.toNat+1<=(ef2 c l.length).length:=by rw[bj9]; omega
    simp only[go_sem,c1,c2,hget,Md.ah6,q1,q2,al5,o2,o1,Nat.zero_add,Nat.mul_one,r2,r3,w1];refine ⟨hlt,fun i=>if i=x.toNat then true else c i,hnx,o0,rfl,fun j hj=>?_⟩
    ·show (if j=x.toNat then true else c j)=_;rw[htk];by_cases e:j=x.toNat
     ·rw[if_pos e];have:(j:Int)=x:=by omega
      simp[this]
     ·rw[if_neg e,hc j hj];have:¬ (j:Int)=x:=by omega
      simp[this]
   ·simp only[go_sem,c1,c2,hget,Md.ah6,q1,q2,al5,w1];refine ⟨hlt,c,hnx,o0,o1,o2,fun j hj=>?_⟩;have:¬ (j:Int)=x:=by omega
    rw[hc j hj,htk]; simp[this]
  ·simp only[go_sem,c1,c2,hget,Md.ah6,q1,w1];refine ⟨hlt,c,hnx,o0,o1,o2,fun j hj=>?_⟩;have:¬ (j:Int)=x:=by omega
   rw[hc j hj,htk]; simp[this]
 ·have hi':i=zs.length:=by omega
  subst hi';have c1:¬ (zs.length:Int)<zs.length:=by omega
  have hst:stB l.length zs=(List.range l.length).map c:=by
   unfold stB;refine List.map_congr_left fun m hm=>?_
   rw[hc m (List.mem_range.1 hm),List.take_length]
  simp only[go_sem,c1,o0,o1,o2];rw[hst];exact ⟨rfl,.il8 (.cons (.keep _ (as9 l)) (.cons (hi6 (Nat.not_lt_zero _) (by rw[aa7,if_neg (by decide)]; exact o1)) .nil))⟩
theorem gm3 {d:Dep}(h:ah9 d=true):Dep.small d:=by
 obtain ⟨h1,h2,h3,h4⟩:=dr1 h;exact ⟨h1,h2,by have:=h3.1; omega,by have:=h3.2; omega⟩
theorem ad5 (l:List aa3)(st:List Bool):(am8 l st).all IV.leaf=true:=rfl
theorem ae8 (l:List aa3)(st:List Bool):(am8 l st).take 2=am8 l st:=rfl
theorem ae4 (l:List aa3)(st:List Bool):(am8 l st).length=2:=rfl
theorem gm4 (l:List aa3)(st:List Bool):((am8 l st).drop 1).head? = some (ey5 st):=rfl
theorem gm5 (l:List aa3)(st:List Bool):(am8 l st).head? = some (al5 l):=rfl
theorem ee6 {st:List Bool}{n:Nat}(h:n<st.length):(st.map dr5).getD n []=[.bool (st.getD n false)]:=by simp[List.getD_eq_getElem?_getD,h,dr5]
abbrev gm6 (l:List aa3)(r:aa8):Prop:=∀ st:List Bool,st.length=l.length->PC Tryz.prog EE 160 [.agg (am8 l st),.agg r.cs] (.bool (r.tr l st))
theorem ao2 (l:List aa3)(st:List Bool):Bnd 0 (.agg (am8 l st)):=.agg _ (ee5 l st)
theorem dm9 (l:List aa3)(st:List Bool):Bnd 0 (.ab8 (am8 l st)):=.ab8 _ (ee5 l st)
theorem cb7 (r:aa8):Bnd 0 (.ab8 r.cs):=.ab8 _ (dt1 r)
theorem jj2 (d:Dep)(xs:List aa8)(k:Int):((aa8.mk k d xs).cs.drop 1).take 5=d.cs:=by rw[aa8.an7]; rfl
theorem iz7 (d:Dep)(xs:List aa8)(k:Int):((aa8.mk k d xs).cs.drop 1).length=6:=by rw[aa8.an7]; rfl
theorem bk7 (d:Dep)(xs:List aa8)(k:Int):((aa8.mk k d xs).cs.drop 6).head? = some (ai9 xs):=by rw[aa8.an7]; rfl
theorem cz3 (d:Dep)(xs:List aa8)(k:Int):(aa8.mk k d xs).cs.head? = some (.int .u8 k):=by rw[aa8.an7]; rfl
theorem ee7 {xs:List aa8}{n:Nat}(h:n<xs.length):(xs.map aa8.cs).getD n []=(xs[n]).cs:=by simp[List.getD_eq_getElem?_getD,h]
theorem hi8 (l:List aa3)(st:List Bool)(n:Nat)(h:n<st.length):PC Tryz.prog EE 258 [.int .i64 n,.ab8 (am8 l st)] (.bool (st.getD n false)):=by
 refine ae9 hE fok258 (nZ rfl) (aj9 (.int _ _) (dm9 l st)) ?_;have c1:(n:Int)<st.length:=by omega
 have c2:(0:Int)<=n:=by omega
 have g:=ee6 h;simp only[ic258,go_sem,ae4,gm4,c1,c2,g];exact ab2 rfl
theorem ik9 (l:List aa3)(hl:l.length<=256)(hs:∀ p∈l,Pkg.small p)(st:List Bool)(hst:st.length=l.length)(d:Dep)(hd:ah9 d=true) :
  PC Tryz.prog EE 220 [.agg (am8 l st),.agg (aa8.mk 1 d []).cs] (.bool ((al9 l d).any fun n=>st.getD n.toNat false)):=by
 refine ae9 hE fok220 (nZ rfl) (aj9 (ao2 l st) (ag1 _)) ?_;have h1:=bo3 l d (by omega) hs (gm3 hd)
 have h2:=bh8 (al9 l d) 258 [] [.ab8 (am8 l st)] (fun n=>st.getD n.toNat false) (by have:=al8 (fun p=>provides p d) l; unfold al9; omega) fok258.1 fun x hx=>by
  obtain ⟨m,rfl,hm⟩:=numsOf_at hx;rw[Int.toNat_natCast];exact hi8 l st m (by omega)
 have ht:al5 l=.ab8 [(ah8 l).v,.int .i64 l.length]:=rfl;have h7:=ab4 (.mk 1 d []);simp only[ic220,go_sem,ae4,ad5,gm5,ac1,h7,jj2,iz7,ht]
 first|refine aa4 fok196 (h1) ?_|refine aa2 (h1) ?_
 simp only[go_sem,ae4,ad5]
 first|refine aa4 fok99 (h2) ?_|refine aa2 (h2) ?_
 simp only[go_sem];exact ab2 rfl
theorem il1 (l:List aa3)(st:List Bool)(hst:st.length=l.length)(x:aa8)(hx:gm6 l x):PC Tryz.prog EE 259 [.agg x.cs,.ab8 (am8 l st)] (.bool !(x.tr l st)):=by
 refine ae9 hE fok259 (nZ rfl) (aj9 (ag1 _) (dm9 l st)) ?_;have h:=hx st hst;simp only[ic259,go_sem,ae4,ae8,ad5,ac1,ac6,ab4]
 first|refine aa4 fok160 (h) ?_|refine aa2 (h) ?_
 simp only[go_sem];exact ab2 rfl
theorem ht8 (l:List aa3)(st:List Bool)(hst:st.length=l.length)(k:Int)(d:Dep)(xs:List aa8)(hn:xs.length<2^62)(hx:∀ x∈xs,gm6 l x):PC Tryz.prog EE 221 [.agg (am8 l st),.agg (aa8.mk k d xs).cs] (.bool ((aa8.trs l xs).all fun f=>f st)):=by
 refine ae9 hE fok221 (nZ rfl) (aj9 (ao2 l st) (ag1 _)) ?_;have h:=ck9 xs 259 [] [.ab8 (am8 l st)] (fun x=>!(x.tr l st)) hn fok259.1 fun x hm=>il1 l st hst x (hx x hm)
 have e:(aa8.trs l xs).all (fun f=>f st)=!xs.any fun x=>!(x.tr l st):=by
  rw[aa8.dr4,List.all_map,List.not_any_eq_all_not];congr 1; funext x; simp
 have h7:=ab4 (.mk k d xs);rw[e];simp only[ic221,go_sem,ae4,ad5,ac1,h7,bk7]
 first|refine aa4 fok247 (h) ?_|refine aa2 (h) ?_
 simp only[go_sem];exact ab2 rfl
theorem iz8 (l:List aa3)(st:List Bool)(hst:st.length=l.length)(k:Int)(d:Dep)(xs:List aa8)(hn:xs.length<2^62)(hx:∀ x∈xs,gm6 l x):PC Tryz.prog EE 222 [.agg (am8 l st),.agg (aa8.mk k d xs).cs] (.bool ((aa8.trs l xs).any fun f=>f st)):=by
 refine ae9 hE fok222 (nZ rfl) (aj9 (ao2 l st) (ag1 _)) ?_;have h:=ck9 xs 160 [.agg (am8 l st)] [] (fun x=>x.tr l st) hn fok160.1 fun x hm=>hx x hm st hst
 have e:(aa8.trs l xs).any (fun f=>f st)=xs.any fun x=>x.tr l st:=by
  rw[aa8.dr4,List.any_map]; rfl
 have h7:=ab4 (.mk k d xs);rw[e];simp only[ic222,go_sem,ae4,ad5,ae8,ac1,h7,bk7]
 first|refine aa4 fok247 (h) ?_|refine aa2 (h) ?_
 simp only[go_sem];exact ab2 rfl
theorem ee8 {l:List aa3}{xs:List aa8}{n:Nat}(h:n<xs.length)(st:List Bool):((aa8.trs l xs).getD n ff) st=(xs[n]).tr l st:=by rw[aa8.dr4]; simp[List.getD_eq_getElem?_getD,h]
theorem gm7 (l:List aa3)(xs:List aa8):(aa8.trs l xs).length=xs.length:=by rw[aa8.dr4,List.length_map]
theorem iz9 (l:List aa3)(st:List Bool)(hst:st.length=l.length)(k:Int)(d:Dep)(xs:List aa8)(hn:2<=xs.length)(hx:∀ x∈xs,gm6 l x):PC Tryz.prog EE 223 [.agg (am8 l st),.agg (aa8.mk k d xs).cs]
  (.bool (if ((aa8.trs l xs).getD 1 ff) st then ((aa8.trs l xs).getD 0 ff) st else decide ((aa8.trs l xs).length<3)||((aa8.trs l xs).getD 2 ff) st)):=by
 refine ae9 hE fok223 (nZ rfl) (aj9 (ao2 l st) (ag1 _)) ?_;have n0:0<xs.length:=by omega
 have n1:1<xs.length:=by omega
 have h0:=hx _ (List.getElem_mem n0) st hst;have h1:=hx _ (List.getElem_mem n1) st hst;have g0:=ee7 n0;have g1:=ee7 n1;have c0:(0:Int)<xs.length:=by omega
 have c1:(1:Int)<xs.length:=by omega
 have h7:=ab4 (.mk k d xs);rw[ee8 n1,ee8 n0,gm7];simp only[ic223,go_sem,ae4,ad5,ae8,ac1,h7,bk7,c0,c1,g0,g1,ac6,ab4]
 first|refine aa4 fok160 (h1) ?_|refine aa2 (h1) ?_
 cases xs[1].tr l st with
 | true=>
  simp only[go_sem,ae4,ad5,ae8,ac1,h7,bk7,c0,c1,g0,g1,ac6,ab4]
  first|refine aa4 fok160 (h0) ?_|refine aa2 (h0) ?_
  simp only[go_sem]
  exact ab2 rfl
 | false=>
  by_cases q:xs.length<3
  ·have q':(xs.length:Int)<3:=by omega
   simp only[go_sem,ae4,ad5,ae8,ac1,h7,bk7,q'];exact ab2 (by simp[q])
  ·have q':¬ (xs.length:Int)<3:=by omega
   have n2:2<xs.length:=by omega
   have h2:=hx _ (List.getElem_mem n2) st hst;have g2:=ee7 n2;have c2:(2:Int)<xs.length:=by omega
   rw[ee8 n2];simp only[go_sem,ae4,ad5,ae8,ac1,h7,bk7,q',c2,g2,ac6,ab4]
   first|refine aa4 fok160 (h2) ?_|refine aa2 (h2) ?_
   simp only[go_sem];exact ab2 (by simp[q])
theorem gm8 (l:List aa3)(st:List Bool)(hst:st.length=l.length)(k:Int)(d:Dep)(xs:List aa8)(hn:2<=xs.length)(hn2:xs.length<2^31)(hx:∀ x∈xs,gm6 l x):PC Tryz.prog EE 224 [.agg (am8 l st),.agg (aa8.mk k d xs).cs]
  (.bool (if ((aa8.trs l xs).getD 1 ff) st then decide ((aa8.trs l xs).length=3)&&((aa8.trs l xs).getD 2 ff) st else ((aa8.trs l xs).getD 0 ff) st)):=by
 refine ae9 hE fok224 (nZ rfl) (aj9 (ao2 l st) (ag1 _)) ?_;have n0:0<xs.length:=by omega
 have n1:1<xs.length:=by omega
 have h0:=hx _ (List.getElem_mem n0) st hst;have h1:=hx _ (List.getElem_mem n1) st hst;have g0:=ee7 n0;have g1:=ee7 n1;have c0:(0:Int)<xs.length:=by omega
 have c1:(1:Int)<xs.length:=by omega
 have h7:=ab4 (.mk k d xs);rw[ee8 n1,ee8 n0,gm7];simp only[ic224,go_sem,ae4,ad5,ae8,ac1,h7,bk7,c0,c1,g0,g1,ac6,ab4]
 first|refine aa4 fok160 (h1) ?_|refine aa2 (h1) ?_
 cases xs[1].tr l st with
 | false=>
  simp only[go_sem,ae4,ad5,ae8,ac1,h7,bk7,c0,c1,g0,g1,ac6,ab4]
  first|refine aa4 fok160 (h0) ?_|refine aa2 (h0) ?_
  simp only[go_sem]
  exact ab2 rfl
 | true=>
  by_cases q:xs.length=3
  ·have q':(xs.length:Int)=3:=by omega
   have n2:2<xs.length:=by omega
   have h2:=hx _ (List.getElem_mem n2) st hst;have g2:=ee7 n2;have c2:(2:Int)<3:=by omega
   rw[ee8 n2];simp only[go_sem,ae4,ad5,ae8,ac1,h7,bk7,q',c2,g2,ac6,ab4]
   first|refine aa4 fok160 (h2) ?_|refine aa2 (h2) ?_
   simp only[go_sem];exact ab2 (by simp[q])
  ·have q':¬ (xs.length:Int)=3:=by omega
   simp only[go_sem,ae4,ad5,ae8,ac1,h7,bk7,q'];exact ab2 (by simp[q])
theorem il2 (c n:Nat):stB c [(n:Int)]=eb5 c n:=by
 unfold stB eb5;refine List.map_congr_left fun m _=>decide_eq_decide.2 ?_
 rw[List.mem_singleton]; omega
theorem hj4 (c n:Nat):(eb5 c n).length=c:=by simp[eb5]
theorem ht9 (l:List aa3)(hl:l.length<=256)(st:List Bool)(hst:st.length=l.length)(g:Nat)(cap:List IV)(q:List Bool->Bool)(hok:okF Tryz.prog g=true)(hcap:∀ c∈cap,Bnd 0 c)
  (hq:∀ s2:List Bool,s2.length=l.length->PC Tryz.prog EE g (.agg (am8 l s2)::cap) (.bool (q s2))):PC Tryz.prog EE 260 [.agg (am8 l st),.func (.func g) [] cap] (.bool (gx5 st fun n=>q (eb5 st.length n))):=by
 have hbf:Bnd 0 (.func (.func g) [] cap):=.func _ _ _ (fun c hc=>by cases hc) hcap;refine ae9 hE fok260 (nZ rfl) (aj9 (ao2 l st) hbf) ?_;simp only[ic260,go_sem,ae4,ad5,gm4];refine ab7 noT (fun i fr t=>fr=[(1,.func (.func g) [] cap),(2,.ab8 (am8 l st)),(8,ey5 st),(9,.int .i64 st.length),(10,.int .i64 (i:Int))]/\∀ j,j<i->(st.getD j false&&q (eb5 st.length j))=false) st.length ⟨rfl,fun j hj=>absurd hj (Nat.not_lt_zero _)⟩ ?_;rintro i fr t hle ⟨rfl,hI⟩;by_cases hlt:i<st.length
 ·have c1:(i:Int)<st.length:=by omega
  have c2:(0:Int)<=i:=by omega
  have w1:=ad4 (i:=i) (by omega);have g1:=ee6 hlt
  cases hb:st.getD i false with
  | false=>
   rw[hb] at g1;simp only[go_sem,c1,c2,g1,w1];refine ⟨hlt,fun j hj=>?_⟩;by_cases e:j=i
   ·subst e; rw[hb]; rfl
   ·exact hI j (by omega)
  | true=>
   rw[hb] at g1;have hS:=ey6 l [(i:Int)] hl (by show 1<_; decide);rw[il2] at hS;have hQ:=hq (eb5 l.length i) (hj4 _ _);simp only[go_sem,c1,c2,g1,ae4,gm5]
   have hfz:Frz (({ next:=t.next+1,obj:=t.obj }:Store).put t.next (.row [.int .i64 i])) (fun _=>false=true) (.slice t.next 0 1 1) (.aa5 ([(i:Int)].map Md.ah6)):=
    .slice t.next 0 1 1 [.int .i64 i] _ Bool.false_ne_true (.inr (by rw[aa7,if_pos rfl])) rfl (Nat.le_refl 1) (fun k hk=>by
     have:k=0:=by omega
     subst this; rfl) fun k hk j hj=>by
     have:k=0:=by omega
     have:j=0:=by omega
     subst this; subst k;exact .keep _ (.int _ _)
   refine af1 fok159 (gb3 (S:=fun _=>false) (args':=[al5 l,.aa5 ([(i:Int)].map Md.ah6)]) rfl (fun k hk=>by
    match k,hk with
    | 0,_=>exact .keep _ ((as9 l).weak fun _ h=>absurd h (Nat.not_lt_zero _))
    | 1,_=>exact hfz) (ej4 hS)) ?_
   rintro v s ⟨rfl,rfl⟩;refine ⟨Nat.le_refl _,?_⟩;simp only[go_sem];refine du2 hok hQ ?_
   cases hv:q (eb5 l.length i) with
   | true=>
    have e:gx5 st (fun n=>q (eb5 st.length n))=true:=by
     unfold gx5;exact List.any_eq_true.2 ⟨i,List.mem_range.2 hlt,by rw[hb,hst]; show (true&&q (eb5 l.length i))=true; rw[hv]; rfl⟩
    simp only[go_sem,e]
    exact ab3 _
   | false=>
    simp only[go_sem,w1];refine ⟨hlt,fun j hj=>?_⟩;by_cases e:j=i
    ·subst e; rw[hst,hv,Bool.and_false]
    ·exact hI j (by omega)
 ·have hi':i=st.length:=by omega
  subst hi';have c1:¬ (st.length:Int)<st.length:=by omega
  have e:gx5 st (fun n=>q (eb5 st.length n))=false:=by
   unfold gx5;refine List.any_eq_false.2 fun n hn=>?_
   rw[hI n (List.mem_range.1 hn)];exact Bool.false_ne_true
  simp only[go_sem,c1,e];exact ab3 _
theorem hj5 (l:List aa3)(k:Int)(d:Dep)(xs:List aa8)(hn:xs.length<2^62)(hx:∀ x∈xs,gm6 l x)(st:List Bool)(hst:st.length=l.length) :
  PC Tryz.prog EE 261 [.agg (am8 l st),.ab8 (aa8.mk k d xs).cs] (.bool ((aa8.trs l xs).all fun f=>f st)):=by
 refine ae9 hE fok261 (nZ rfl) (aj9 (ao2 l st) (cb7 _)) ?_;have h:=ht8 l st hst k d xs hn hx;simp only[ic261,go_sem,ae4,ad5,ae8,ac1,ac6,ab4]
 first|refine aa4 fok221 (h) ?_|refine aa2 (h) ?_
 simp only[go_sem];exact ab2 rfl
theorem ep3 (l:List aa3)(k:Int)(d:Dep)(xs:List aa8)(hn:2<=xs.length)(hx:∀ x∈xs,gm6 l x)(st:List Bool)(hst:st.length=l.length) :
  PC Tryz.prog EE 262 [.agg (am8 l st),.ab8 (aa8.mk k d xs).cs] (.bool (((aa8.trs l xs).getD 0 ff) st&&!((aa8.trs l xs).getD 1 ff) st)):=by
 refine ae9 hE fok262 (nZ rfl) (aj9 (ao2 l st) (cb7 _)) ?_;have n0:0<xs.length:=by omega
 have n1:1<xs.length:=by omega
 have h0:=hx _ (List.getElem_mem n0) st hst;have h1:=hx _ (List.getElem_mem n1) st hst;have g0:=ee7 n0;have g1:=ee7 n1;have c0:(0:Int)<xs.length:=by omega
 have c1:(1:Int)<xs.length:=by omega
 rw[ee8 n1,ee8 n0];simp only[ic262,go_sem,ae4,ad5,ae8,ac1,bk7,c0,c1,g0,g1,ac6,ab4]
 first|refine aa4 fok160 (h0) ?_|refine aa2 (h0) ?_
 cases xs[0].tr l st with
 | false=>simp only[go_sem]; exact ab2 rfl
 | true=>
  simp only[go_sem,ae4,ad5,ae8,ac1,bk7,c0,c1,g0,g1,ac6,ab4]
  first|refine aa4 fok160 (h1) ?_|refine aa2 (h1) ?_
  simp only[go_sem];exact ab2 rfl
theorem il3 (l:List aa3)(hl:l.length<=256)(st:List Bool)(hst:st.length=l.length)(k:Int)(d:Dep)(xs:List aa8)(hn:xs.length<2^62)(hx:∀ x∈xs,gm6 l x) :
  PC Tryz.prog EE 225 [.agg (am8 l st),.agg (aa8.mk k d xs).cs] (.bool (gx5 st fun n=>(aa8.trs l xs).all fun f=>f (eb5 st.length n))):=by
 refine ae9 hE fok225 (nZ rfl) (aj9 (ao2 l st) (ag1 _)) ?_;have h:=ht9 l hl st hst 261 [.ab8 (aa8.mk k d xs).cs] (fun s2=>(aa8.trs l xs).all fun f=>f s2) fok261.1 (ai8 (cb7 _)) fun s2 h2=>hj5 l k d xs hn hx s2 h2
 have h7:=ab4 (.mk k d xs);simp only[ic225,go_sem,ae4,ad5,ae8,ac1,h7]
 first|refine aa4 fok260 (h) ?_|refine aa2 (h) ?_
 simp only[go_sem];exact ab2 rfl
theorem fr8 (l:List aa3)(hl:l.length<=256)(st:List Bool)(hst:st.length=l.length)(k:Int)(d:Dep)(xs:List aa8)(hn:2<=xs.length)(hx:∀ x∈xs,gm6 l x) :
  PC Tryz.prog EE 226 [.agg (am8 l st),.agg (aa8.mk k d xs).cs] (.bool (gx5 st fun n=>((aa8.trs l xs).getD 0 ff) (eb5 st.length n)&&!((aa8.trs l xs).getD 1 ff) (eb5 st.length n))):=by
 refine ae9 hE fok226 (nZ rfl) (aj9 (ao2 l st) (ag1 _)) ?_;have h:=ht9 l hl st hst 262 [.ab8 (aa8.mk k d xs).cs] (fun s2=>((aa8.trs l xs).getD 0 ff) s2&&!((aa8.trs l xs).getD 1 ff) s2) fok262.1 (ai8 (cb7 _)) fun s2 h2=>ep3 l k d xs hn hx s2 h2
 have h7:=ab4 (.mk k d xs);simp only[ic226,go_sem,ae4,ad5,ae8,ac1,h7]
 first|refine aa4 fok260 (h) ?_|refine aa2 (h) ?_
 simp only[go_sem];exact ab2 rfl
theorem jj3 (l:List aa3)(hl:l.length<=256)(hs:∀ p∈l,Pkg.small p)(r:aa8):r.Good->gm6 l r:=by
 induction r using aa8.ind with
 | h k d xs ih=>
  intro hg st hst;refine ae9 hE fok160 (nZ rfl) (aj9 (ao2 l st) (ag1 _)) ?_;have h7:=ab4 (.mk k d xs);have h8:=ac6 (.mk k d xs);have nfl:IV.ab9.leaf=true:=rfl;have e:(aa8.mk k d xs).tr l st=trK l k d (aa8.trs l xs) st:=by rw[aa8.tr]
  rw[e]
  cases hg with
  | atom _ hd=>
   have h:=ik9 l hl hs st hst d hd;unfold trK;simp only[ic160,go_sem,ae4,ad5,ae8,ac1,h7,h8,cz3,nfl]
   first|refine aa4 fok220 (h) ?_|refine aa2 (h) ?_
   simp only[go_sem]
   exact ab2 rfl
  | node _ _ _ h1 h2 h3 h4 h5=>
   have hx:∀ x∈xs,gm6 l x:=fun x hx=>ih x hx (h5 x hx)
   have hn:xs.length<=24:=by
    unfold ek9 at h4;split at h4
    ·omega
    split at h4
    ·omega
    split at h4<;>omega
   have c2:=ht8 l st hst k d xs (by omega) hx;have c3:=iz8 l st hst k d xs (by omega) hx;have c4:=iz9 l st hst k d xs (by omega) hx;have c5:=gm8 l st hst k d xs (by omega) (by omega) hx;have c6:=il3 l hl st hst k d xs (by omega) hx;have c7:=fr8 l hl st hst k d xs (by omega) hx;unfold trK;have hk:k=2\/k=3\/k=4\/k=5\/k=6\/k=7:=by omega
   rcases hk with rfl|rfl|rfl|rfl|rfl|rfl
   ·simp only[ic160,go_sem,ae4,ad5,ae8,ac1,h7,h8,cz3,nfl]
    first|refine aa4 fok221 (c2) ?_|refine aa2 (c2) ?_
    simp only[go_sem];exact ab2 rfl
   ·simp only[ic160,go_sem,ae4,ad5,ae8,ac1,h7,h8,cz3,nfl]
    first|refine aa4 fok222 (c3) ?_|refine aa2 (c3) ?_
    simp only[go_sem];exact ab2 rfl
   ·simp only[ic160,go_sem,ae4,ad5,ae8,ac1,h7,h8,cz3,nfl]
    first|refine aa4 fok223 (c4) ?_|refine aa2 (c4) ?_
    simp only[go_sem];exact ab2 rfl
   ·simp only[ic160,go_sem,ae4,ad5,ae8,ac1,h7,h8,cz3,nfl]
    first|refine aa4 fok224 (c5) ?_|refine aa2 (c5) ?_
    simp only[go_sem];exact ab2 rfl
   ·simp only[ic160,go_sem,ae4,ad5,ae8,ac1,h7,h8,cz3,nfl]
    first|refine aa4 fok225 (c6) ?_|refine aa2 (c6) ?_
    simp only[go_sem];exact ab2 rfl
   ·simp only[ic160,go_sem,ae4,ad5,ae8,ac1,h7,h8,cz3,nfl]
    first|refine aa4 fok226 (c7) ?_|refine aa2 (c7) ?_
    simp only[go_sem];exact ab2 rfl
theorem il4 (c:Nat)(zs:List Int):(stB c zs).length=c:=by simp[stB]
theorem cn2 (l:List aa3)(hl:l.length<=256)(hs:∀ p∈l,Pkg.small p)(zs:List Int)(hz:zs.length<2^40)(r:aa8)(h1:r.fit)(h2:r.count<2^31) :
  PC Tryz.prog EE 97 [al5 l,.aa5 (zs.map Md.ah6),.agg r.cs] (.bool (gn8 l zs r)):=by
 refine ae9 hE fok97 (nZ rfl) (ba2 (as9 l) (ag5 zs) (ag1 _)) ?_;have hw:=hh8 r h1 h2;have hS:=ey6 l zs hl hz;have hnl:∀ d:TypeId,bt8 (.pointer d) (al5 l)=some false:=fun _=>rfl
 unfold gn8;simp only[ic97,go_sem,hnl,ac1,ac6,ab4]
 first|refine aa4 fok158 (hw) ?_|refine aa2 (hw) ?_
 cases hq:eb4 r with
 | false=>simp only[go_sem]; exact ab2 rfl
 | true=>
  have hg:r.ms.2.2=true:=by
   unfold eb4 at hq;simp only[Bool.and_eq_true] at hq;exact hq.1.1
  have hi:=jj3 l hl hs r (aa8.ie6 r hg) (stB l.length zs) (il4 _ _);simp only[go_sem]
  first|refine aa4 fok159 (hS) ?_|refine aa2 (hS) ?_
  simp only[go_sem,ac1,ac6,ab4]
  first|refine aa4 fok160 (hi) ?_|refine aa2 (hi) ?_
  simp only[go_sem];exact ab2 rfl
theorem ep4 (p:Pool)(hl:(ae3 p).length<=256)(hf:∀ x∈ae3 p,x.Fit/\x.Tiny):PC Tryz.prog EE 94 [p.v] (.tuple [al5 (ae3 p),.int .i64 0]):=by
 refine ae9 hE fok94 (nZ rfl) (ai8 (be2 p)) ?_;have hrl:p.rows.length=(ae3 p).length:=by simp[ae3]
 have hM:=bj5 p (fun x hx=>(hf _ (List.mem_map_of_mem (f:=fun x:bd9=>x.pkg) hx)).1) (by omega) (fun x hx=>by
  have:=(hf _ (List.mem_map_of_mem (f:=fun x:bd9=>x.pkg) hx)).2;have a:=this.av9.1; have b:=this.obs.1; have c:=this.files; omega)
 have hM:PC Tryz.prog EE 89 [p.v] (.tuple [(ah8 (ae3 p)).v,.int .i64 0]):=hM;have hC:=be3 p;rw[hrl] at hC;have hb:=as9 (ae3 p);unfold al5 at *;have xlf:(ah8 (ae3 p)).v.leaf=true:=rfl;have xcs:(ah8 (ae3 p)).v.cs=[(ah8 (ae3 p)).v]:=rfl;generalize (ah8 (ae3 p)).v=X at *;simp only[ic94,go_sem]
 first|refine aa4 fok89 (hM) ?_|refine aa2 (hM) ?_
 simp only[go_sem]
 first|refine aa4 fok27 (hC) ?_|refine aa2 (hC) ?_
 simp only[go_sem,xlf,xcs];exact .keep _ (.tuple _ (aj9 hb (.int _ _)))
theorem dn1 (a:ac5):PC Tryz.prog EE 26 [a.v] a.p.v:=by
 refine ae9 hE fok26 (nZ rfl) (ai8 (ah4 a)) ?_;have hb:=be2 a.p;unfold ac5.v ac5.cs;simp only[ic26,go_sem,as2];exact .keep _ hb
theorem dv4 (a:ac5)(hA:AOK a):PC Tryz.prog EE 157 [a.v] (.agg a.r.cs):=by
 refine ae9 hE fok157 (nZ rfl) (ai8 (ah4 a)) ?_;have hO:=ht6 a.r (by have:=hA.ai4; omega) (by have:=hA.ai5; omega);have hb:=bc6 a.r;unfold ac5.v ac5.cs;unfold Req.cs at *;simp only[ic157,go_sem,as2]
 first|refine aa4 fok90 (hO) ?_|refine aa2 (hO) ?_
 simp only[go_sem];exact .keep _ (.agg _ hb)
end Go.Id.Tryz
set_option linter.all false
namespace Go.Id.Tryz
open Go Go.Id Go.Proofs Go.Shelf Go.Id.Md
set_option maxRecDepth 100000
set_option maxHeartbeats 1000000
theorem ag4 (d:Itm):d.cs.length=3:=rfl
theorem af3 (d:Itm):d.cs.all IV.leaf=true:=rfl
theorem af4 (d:Itm):d.cs.take 3=d.cs:=rfl
theorem cw9 (d:Itm):d.cs.head? = some (.int .u8 d.kind):=rfl
theorem dr9 (d:Itm):∀ c∈d.cs,Bnd 0 c:=ba2 (.int _ _) (.int _ _) (.int _ _)
theorem bc2 (d:Itm):Bnd 0 (.agg d.cs):=.agg _ (dr9 d)
theorem aw2 (l:List Itm):Bnd 0 (am7 l):=.aa5 _ fun e he c hc=>by
 obtain ⟨d,_,rfl⟩:=List.mem_map.1 he; exact dr9 d c hc
theorem ge4 (l:List Itm):Bnd 0 (.al6 (ba4 l)):=.al6 _ (fun e he=>by
 obtain ⟨d,_,rfl⟩:=List.mem_map.1 he; exact bc2 d) fun e he=>by
 obtain ⟨d,_,rfl⟩:=List.mem_map.1 he; exact .agg _ fun c hc=>by cases hc
end Go.Id.Tryz
namespace Go.Id.Md
open Go Go.Id
def ac5.mcs (a:ac5):List IV:=[a.v,Go.Id.Tryz.al5 a.l,.aa5 (a.l.map aa3.cs),am7 a.items,.al6 (ba4 a.items)]
def ac5.mv (a:ac5):IV:=.ab8 a.mcs
def ac5.held (a:ac5)(st:List Int)(x:Itm):List IV:=[a.mv,.aa5 (st.map Md.ah6),.int .u8 x.kind,.int .i64 x.p,.int .i64 x.q]
end Go.Id.Md
namespace Go.Id.Tryz
open Go Go.Id Go.Proofs Go.Shelf Go.Id.Md
open Go.Id.Md.ac5 (inS less)
theorem ao9 (a:ac5):Bnd 0 a.mv:=.ab8 _ fun c hc=>by
 simp only[ac5.mcs,List.mem_cons,List.not_mem_nil,or_false] at hc;rcases hc with rfl|rfl|rfl|rfl|rfl
 ·exact ah4 a
 ·exact as9 _
 ·exact aw3 _
 ·exact aw2 _
 ·exact ge4 _
theorem ba5 (a:ac5)(st:List Int)(x:Itm):Bnd 0 (.agg (a.held st x)):=.agg _ fun c hc=>by
 simp only[ac5.held,List.mem_cons,List.not_mem_nil,or_false] at hc;rcases hc with rfl|rfl|rfl|rfl|rfl
 ·exact ao9 a
 ·exact ag5 st
 ·exact .int _ _
 ·exact .int _ _
 ·exact .int _ _
theorem aq8 (a:ac5)(st:List Int)(x:Itm):(a.held st x).length=5:=rfl
theorem am6 (a:ac5)(st:List Int)(x:Itm):(a.held st x).all IV.leaf=true:=rfl
theorem ao1 (a:ac5)(st:List Int)(x:Itm):(a.held st x).take 5=a.held st x:=rfl
theorem dl1 (a:ac5)(st:List Int)(x:Itm):(a.held st x).head? = some a.mv:=rfl
theorem cx1 (a:ac5)(st:List Int)(x:Itm):((a.held st x).drop 1).head? = some (.aa5 (st.map Md.ah6)):=rfl
theorem bk5 (a:ac5)(st:List Int)(x:Itm):(((a.held st x).drop 2).drop 1).head? = some (.int .i64 x.p):=rfl
theorem eb9 (a:ac5)(st:List Int)(x:Itm):(((a.held st x).drop 2).drop 2).head? = some (.int .i64 x.q):=rfl
theorem hp9 (a:ac5)(x:Itm):PC Tryz.prog EE 21 [a.mv,.agg x.cs] (.bool (a.isI x)):=by
 refine ae9 hE fok21 (nZ rfl) (aj9 (ao9 a) (bc2 x)) ?_;have hl:=gc2 x a.items;unfold ac5.mv ac5.mcs ac5.isI
 have hk:∀ σ:Store,cr3 σ 6 (.agg []) true (.al6 (ba4 a.items)) (.agg x.cs)=some (.tuple [.agg [],.bool (decide (x∈a.items))]):=fun σ=>by
  simp only[cr3,cc2,hl];by_cases h:x∈a.items<;>simp[h]
 simp only[ic21,go_sem,af3,ag4,af4,as2,hk];exact ab2 rfl
theorem az1 (a:ac5)(st:List Int)(x:Itm)(n:Int)(hs:st.length<2^40):PC Tryz.prog EE 96 [.agg (a.held st x),.int .i64 n] (.bool (inS st n)):=by
 refine ae9 hE fok96 (nZ rfl) (aj9 (ba5 a st x) (.int _ _)) ?_;have h:=ca8 st n hs;simp only[ic96,go_sem,am6,cx1]
 first|refine aa4 fok151 (h) ?_|refine aa2 (h) ?_
 simp only[go_sem];exact ab2 rfl
theorem el5 (a:ac5)(st:List Int)(x:Itm)(hs:st.length<2^40):PC Tryz.prog EE 44 [.agg (a.held st x)] (.bool (!inS st x.p)):=by
 refine ae9 hE fok44 (nZ rfl) (ai8 (ba5 a st x)) ?_;have h:=az1 a st x x.p hs;simp only[ic44,go_sem,am6,aq8,ao1,bk5]
 first|refine aa4 fok96 (h) ?_|refine aa2 (h) ?_
 simp only[go_sem];exact ab2 rfl
theorem el6 (a:ac5)(st:List Int)(x:Itm)(hs:st.length<2^40):PC Tryz.prog EE 48 [.agg (a.held st x)] (.bool (!inS st x.p || !inS st x.q)):=by
 refine ae9 hE fok48 (nZ rfl) (ai8 (ba5 a st x)) ?_;have h:=az1 a st x x.p hs;have h2:=az1 a st x x.q hs;simp only[ic48,go_sem,am6,aq8,ao1,bk5]
 first|refine aa4 fok96 (h) ?_|refine aa2 (h) ?_
 cases inS st x.p with
 | false=>simp only[go_sem]; exact ab2 rfl
 | true=>
  simp only[go_sem,am6,aq8,ao1,eb9]
  first|refine aa4 fok96 (h2) ?_|refine aa2 (h2) ?_
  simp only[go_sem];exact ab2 rfl
theorem gy6 (zs:List Int)(hl:zs.length<2^30)(σ:Store):C Tryz.prog EE 162 [.aa5 (zs.map Md.ah6)] σ (da5 σ zs):=by
 cases hz:zs with
 | nil=>
  refine dp3 ?_ ?_
  ·refine C_f fok162 (nZ rfl) ?_;simp only[ic162,go_sem,ai2];exact ⟨Kept.refl σ,.inl ⟨rfl,rfl⟩⟩
  ·refine C_f fok162 (nZ rfl) ?_;simp only[ic162,go_sem,ai2];rw[bd2 (by simp only[aa7,if_true]) rfl];simp only[go_sem];refine ⟨⟨by show σ.next<=σ.next+2; omega,fun i hi=>?_⟩,.inr ⟨σ.next,Nat.le_refl _,by show σ.next<σ.next+2; omega,rfl,by simp only[aa7,if_true]; rfl⟩⟩;have:¬ i=σ.next:=by omega
   simp only[aa7,this,if_false]
 | cons z ys=>
  have hne:zs≠[]:=by rw[hz]; exact fun h=>by cases h
  rw[<- hz];refine C_f fok162 (nZ rfl) ?_;have hnil:∀ (d:TypeId),bt8 (.slice d) (.aa5 (zs.map Md.ah6))=some false:=fun d=>by rw[hz]; rfl
  simp only[ic162,go_sem,hnil];generalize hS:Store.put _ σ.next (ak4.row [])=S;have hSn:S.next=σ.next+2:=by rw[<- hS]; rfl
  have hSo:S.obj σ.next=some (.row []):=by rw[<- hS]; simp only[aa7,if_true]
  have hSk:∀ i,i<σ.next->S.obj i=σ.obj i:=fun i hi=>by
   have:¬ i=σ.next:=by omega
   rw[<- hS]; simp only[aa7,this,if_false]
  have hg:aw6 S σ.next (.slice σ.next 0 0 1) []:=.inr ⟨σ.next,Nat.le_refl _,by omega,rfl,hSo⟩;obtain ⟨v',σ',h1,h2,h3,h4⟩:=es4 (nid:=σ.next+1) (xs:=zs) hg (by simp only[List.length_nil]; omega);simp only[go_sem,h1];have h5:=h4 σ' rfl (by omega) (by omega) (by omega);rw[List.nil_append] at h5;exact ⟨⟨by omega,fun i hi=>by rw[h3 i hi (by omega)]; exact hSk i hi⟩,h5⟩
theorem da8 (n m:Int):PC Tryz.prog EE 163 [.int .i64 n,.ab8 [.int .i64 m]] (.bool (decide (n=m))):=by
 refine ae9 hE fok163 (nZ rfl) (aj9 (.int _ _) (.ab8 _ (ai8 (.int _ _)))) ?_;simp only[ic163,go_sem];exact ab2 rfl
theorem cx2 (l:List aa3)(hl:l.length<=256)(hs:∀ p∈l,Pkg.small p)(zs:List Int)(hz:zs.length<2^30)(n:Int)(r:aa8)(h1:r.fit)(h2:r.count<2^31) :
  PC Tryz.prog EE 98 [al5 l,.aa5 (zs.map Md.ah6),.int .i64 n,.agg r.cs] (.bool (gn8 l (less zs n) r)):=by
 refine ib8 hE fok98 (nZ rfl) (ic7 (as9 l) (ag5 zs) (.int _ _) (ag1 _)) ?_;have hlen:(less zs n).length<=zs.length:=List.length_filter_le _ _;have hS:=cn2 l hl hs (less zs n) (by omega) r h1 h2;have tcs:(al5 l).cs=[al5 l]:=rfl;have tlf:(al5 l).leaf=true:=rfl;simp only[ic98];refine ae5 (ai3 ?_);simp only[go_sem,ab4];refine ae5 (gr6 ?_);simp only[go_sem,ab4,ac1,ac6,tcs,tlf];refine af1 fok162 (gy6 zs hz _) ?_;rintro v s ⟨k1,hr⟩;refine ⟨k1.next,?_⟩;simp only[go_sem];refine af1 fok161 (ij6 (fun m=>decide (m=n)) (by omega) hr.w fok163.1 (ai8 (.ab8 _ (ai8 (.int _ _)))) fun z _=>da8 z n) ?_;rintro v2 s2 ⟨⟨k2,k3⟩,hr2⟩;refine ⟨k2,?_⟩;simp only[go_sem]
 refine af1 fok97 (bf2 (args':=[al5 l,.aa5 ((less zs n).map Md.ah6),.agg r.cs]) hE rfl (fun z hz=>by
  match z,hz with
  | 0,_=>exact .keep _ (as9 l)
  | 1,_=>exact hr2.frz fun _ _=>Nat.not_lt_zero _
  | 2,_=>exact .keep _ (ag1 _)) (by simp[IV.plain]) hS) ?_
 rintro v3 s3 ⟨rfl,rfl⟩;refine ⟨Nat.le_refl _,?_⟩;simp only[go_sem];refine ai3 ?_;simp only[go_sem];exact ab2 rfl
theorem eu6 (a:ac5){p:Nat}(h:p<a.l.length):a.pk p∈a.l:=by
 have:a.pk p=a.l[p]:=by simp[ac5.pk,List.getD_eq_getElem?_getD,h]
 rw[this]; exact List.getElem_mem h
theorem gy7 (a:ac5){p:Nat}(h:p<a.l.length):(a.l.map aa3.cs).getD p []=(a.pk p).cs:=by
 simp[ac5.pk,List.getD_eq_getElem?_getD,h]
theorem ge5 (l:List aa8){q:Nat}(h:q<l.length):(l.map aa8.cs).getD q []=(l.getD q default).cs:=by
 simp[List.getD_eq_getElem?_getD,h]
theorem iw3 (l:List Dep){q:Nat}(h:q<l.length):(l.map Dep.cs).getD q []=(l.getD q default).cs:=by
 simp[List.getD_eq_getElem?_getD,h]
theorem getD_in {α:Type}[Inhabited α](l:List α){q:Nat}(h:q<l.length):l.getD q default∈l:=by
 have:l.getD q default=l[q]:=by simp[List.getD_eq_getElem?_getD,h]
 rw[this]; exact List.getElem_mem h
theorem gy8 (a:ac5):(ac5.mcs a).head? = some a.v:=rfl
theorem iw4 (a:ac5):((ac5.mcs a).drop 1).head? = some (al5 a.l):=rfl
theorem gy9 (a:ac5):((ac5.mcs a).drop 2).head? = some (.aa5 (a.l.map aa3.cs)):=rfl
theorem if6 (a:ac5):((ac5.mcs a).drop 3).head? = some (am7 a.items):=rfl
theorem el7 (a:ac5)(hA:AOK a)(st:List Int)(hs:st.length<2^30)(p q:Nat)(hp:p<a.l.length)(hq:q<(a.pk p).requires.length):PC Tryz.prog EE 45 [.agg (a.held st ⟨2,p,q⟩)] (.bool (a.keeps st ⟨2,p,q⟩)):=by
 refine ae9 hE fok45 (nZ rfl) (ai8 (ba5 a st _)) ?_;have h:=az1 a st ⟨2,p,q⟩ p (by omega);have hf:=(hA.fit _ (eu6 a hp)).rich (1,(a.pk p).requires) (by simp[aa3.rows]);obtain ⟨f1,f2⟩:=hf.2 _ (getD_in _ hq);have hsat:=cn2 a.l hA.len hA.small st (by omega) _ f1 f2;have e1:=gy7 a hp;have e2:=ge5 (a.pk p).requires hq;have e3:((a.pk p).cs.drop 7).head? = some (ai9 (a.pk p).requires):=rfl
 have hk:a.keeps st ⟨2,p,q⟩=(!inS st p||gn8 a.l st ((a.pk p).requires.getD q default)):=by
  unfold ac5.keeps ac5.iu3;simp
 rw[hk];have d1:(0:Int)<=(p:Int):=by omega
 have d2:(p:Int)<a.l.length:=by omega
 have d3:(0:Int)<=(q:Int):=by omega
 have d4:(q:Int)<(a.pk p).requires.length:=by omega
 have hm:a.mv=.ab8 a.mcs:=rfl;generalize (a.pk p).requires.getD q default=r at *;simp only[ic45,go_sem,am6,aq8,ao1,bk5]
 first|refine aa4 fok96 (h) ?_|refine aa2 (h) ?_
 cases inS st p with
 | false=>simp only[go_sem]; exact ab2 rfl
 | true=>
  simp only[go_sem,am6,aq8,ao1,dl1,cx1,bk5,eb9,hm,iw4,gy9,as2,d1,d2,d3,d4,e1,e2,e3,ag9,ac1,ac6,ab4]
  first|refine aa4 fok97 (hsat) ?_|refine aa2 (hsat) ?_
  simp only[go_sem];exact ab2 rfl
theorem ec1 (a:ac5)(hA:AOK a)(st:List Int)(hs:st.length<2^30)(p q:Nat)(hp:p<a.l.length)(hq:q<(a.pk p).conflicts.length):PC Tryz.prog EE 46 [.agg (a.held st ⟨3,p,q⟩)] (.bool (a.keeps st ⟨3,p,q⟩)):=by
 refine ae9 hE fok46 (nZ rfl) (ai8 (ba5 a st _)) ?_;have h:=az1 a st ⟨3,p,q⟩ p (by omega);have hf:=(hA.fit _ (eu6 a hp)).rich (2,(a.pk p).conflicts) (by simp[aa3.rows]);obtain ⟨f1,f2⟩:=hf.2 _ (getD_in _ hq);have hsat:=cx2 a.l hA.len hA.small st hs p _ f1 f2;have e1:=gy7 a hp;have e2:=ge5 (a.pk p).conflicts hq;have e3:((a.pk p).cs.drop 8).head? = some (ai9 (a.pk p).conflicts):=rfl
 have hk:a.keeps st ⟨3,p,q⟩=(!inS st p || !gn8 a.l (less st p) ((a.pk p).conflicts.getD q default)):=by
  unfold ac5.keeps ac5.ho8;simp
 rw[hk];have d1:(0:Int)<=(p:Int):=by omega
 have d2:(p:Int)<a.l.length:=by omega
 have d3:(0:Int)<=(q:Int):=by omega
 have d4:(q:Int)<(a.pk p).conflicts.length:=by omega
 have hm:a.mv=.ab8 a.mcs:=rfl;generalize (a.pk p).conflicts.getD q default=r at *;simp only[ic46,go_sem,am6,aq8,ao1,bk5]
 first|refine aa4 fok96 (h) ?_|refine aa2 (h) ?_
 cases inS st p with
 | false=>simp only[go_sem]; exact ab2 rfl
 | true=>
  simp only[go_sem,am6,aq8,ao1,dl1,cx1,bk5,eb9,hm,iw4,gy9,as2,d1,d2,d3,d4,e1,e2,e3,ag9,ac1,ac6,ab4]
  first|refine aa4 fok98 (hsat) ?_|refine aa2 (hsat) ?_
  simp only[go_sem];exact ab2 rfl
theorem el8 (a:ac5):PC Tryz.prog EE 100 [a.v] (ah8 a.l).v:=by
 refine ae9 hE fok100 (nZ rfl) (ai8 (ah4 a)) ?_;have hb:=bc4 (ah8 a.l);unfold ac5.v ac5.cs;simp only[ic100,go_sem,as2];exact .keep _ hb
theorem gz1 (a:ac5)(st:List Int)(x:Itm)(n:Int)(hs:st.length<2^40):PC Tryz.prog EE 102 [.int .i64 n,.ab8 (a.held st x)] (.bool (!decide (n=x.p)&&inS st n)):=by
 refine ae9 hE fok102 (nZ rfl) (aj9 (.int _ _) (by cases ba5 a st x with|agg _ h=>exact .ab8 _ h)) ?_;have h:=az1 a st x n hs;by_cases e:n=x.p
 ·simp only[ic102,go_sem,bk5,e];exact ab2 rfl
 ·simp only[ic102,go_sem,am6,aq8,ao1,bk5,e]
  first|refine aa4 fok96 (h) ?_|refine aa2 (h) ?_
  simp only[go_sem];exact ab2 rfl
theorem el9 (a:ac5)(hA:AOK a)(st:List Int)(hs:st.length<2^30)(p q:Nat)(hp:p<a.l.length)(hq:q<(a.pk p).aa9.length):PC Tryz.prog EE 47 [.agg (a.held st ⟨4,p,q⟩)] (.bool (a.keeps st ⟨4,p,q⟩)):=by
 refine ae9 hE fok47 (nZ rfl) (ai8 (ba5 a st _)) ?_;have h:=az1 a st ⟨4,p,q⟩ p (by omega);have hsm:=hA.small _ (eu6 a hp);have hds:Dep.small ((a.pk p).aa9.getD q default):=hsm.2.2.1 _ (getD_in _ hq);have hI:=el8 a;have hN:=bv9 a.l ((a.pk p).aa9.getD q default) (by have:=hA.len; omega) hA.small hds;have hnl:(an9 a.l ((a.pk p).aa9.getD q default)).length<=a.l.length:=al8 _ _;have hA1:=hA.len;have hC:=bh8 (an9 a.l ((a.pk p).aa9.getD q default)) 102 [] [.ab8 (a.held st ⟨4,p,q⟩)] (fun n=>!decide (n=(p:Int))&&inS st n) (by omega) fok102.1 fun n _=>gz1 a st ⟨4,p,q⟩ n (by omega)
 have e1:=gy7 a hp;have e2:=iw3 (a.pk p).aa9 hq;have e3:((a.pk p).cs.drop 9).head? = some (deps (a.pk p).aa9):=rfl
 have hk:a.keeps st ⟨4,p,q⟩=(!inS st p || !((an9 a.l ((a.pk p).aa9.getD q default)).any fun n=>!decide (n=(p:Int))&&inS st n)):=by
  unfold ac5.keeps ac5.gd1;simp
 rw[hk];have d1:(0:Int)<=(p:Int):=by omega
 have d2:(p:Int)<a.l.length:=by omega
 have d3:(0:Int)<=(q:Int):=by omega
 have d4:(q:Int)<(a.pk p).aa9.length:=by omega
 have hm:a.mv=.ab8 a.mcs:=rfl;have vcs:a.v.cs=[a.v]:=rfl;have vlf:a.v.leaf=true:=rfl;generalize hdd:(a.pk p).aa9.getD q default=d at *;generalize (an9 a.l d).any (fun n=>!decide (n=(p:Int))&&inS st n)=R at *;simp only[ic47,go_sem,am6,aq8,ao1,dl1,cx1,bk5,eb9,hm,gy8,gy9,as2,d1,d2,d3,d4,e1,e2,e3,ag9,ar6,ao6,an2]
 first|refine aa4 fok96 (h) ?_|refine aa2 (h) ?_
 cases inS st p with
 | false=>simp only[go_sem]; exact ab2 rfl
 | true=>
  simp only[go_sem,am6,aq8,ao1,dl1,cx1,bk5,eb9,hm,gy8,gy9,as2,vcs,vlf]
  first|refine aa4 fok100 (hI) ?_|refine aa2 (hI) ?_
  simp only[go_sem,ar6,ao6,an2]
  first|refine aa4 fok101 (hN) ?_|refine aa2 (hN) ?_
  simp only[go_sem]
  first|refine aa4 fok99 (hC) ?_|refine aa2 (hC) ?_
  simp only[go_sem];exact ab2 rfl
theorem em1 (a:ac5)(hA:AOK a)(st:List Int)(hs:st.length<2^30)(p:Nat):PC Tryz.prog EE 49 [.agg (a.held st ⟨6,p,0⟩)] (.bool (a.keeps st ⟨6,p,0⟩)):=by
 refine ae9 hE fok49 (nZ rfl) (ai8 (ba5 a st _)) ?_;have hS:=cz2 a p hA;have hl:=a.bz7 p;have hA1:=hA.len;have hC:=bh8 (a.ay8 p) 96 [.agg (a.held st ⟨6,p,0⟩)] [] (fun n=>inS st n) (by omega) fok96.1 fun n _=>az1 a st ⟨6,p,0⟩ n (by omega)
 have hk:a.keeps st ⟨6,p,0⟩=(a.ay8 p).any fun n=>inS st n:=by
  unfold ac5.keeps;simp;rfl
 rw[hk];have hm:a.mv=.ab8 a.mcs:=rfl;have vcs:a.v.cs=[a.v]:=rfl;have vlf:a.v.leaf=true:=rfl;generalize (a.ay8 p).any (fun n=>inS st n)=R at *;simp only[ic49,go_sem,am6,aq8,ao1,dl1,cx1,bk5,hm,gy8,as2,vcs,vlf]
 first|refine aa4 fok103 (hS) ?_|refine aa2 (hS) ?_
 simp only[go_sem,am6,aq8,ao1]
 first|refine aa4 fok99 (hC) ?_|refine aa2 (hC) ?_
 simp only[go_sem];exact ab2 rfl
theorem fn9 (a:ac5)(hA:AOK a)(st:List Int)(hs:st.length<2^30)(p:Nat):PC Tryz.prog EE 50 [.agg (a.held st ⟨7,p,0⟩)] (.bool (a.keeps st ⟨7,p,0⟩)):=by
 refine ae9 hE fok50 (nZ rfl) (ai8 (ba5 a st _)) ?_;have hF:=dv1 a p st hA (by omega)
 have hk:a.keeps st ⟨7,p,0⟩=a.bj2 p st:=by
  unfold ac5.keeps;simp
 rw[hk];have hm:a.mv=.ab8 a.mcs:=rfl;have vcs:a.v.cs=[a.v]:=rfl;have vlf:a.v.leaf=true:=rfl;simp only[ic50,go_sem,am6,aq8,ao1,dl1,cx1,bk5,hm,gy8,as2,vcs,vlf]
 first|refine aa4 fok33 (hF) ?_|refine aa2 (hF) ?_
 simp only[go_sem];exact ab2 rfl
theorem bn9 (a:ac5)(hA:AOK a)(st:List Int)(hs:st.length<2^30)(x:Itm):PC Tryz.prog EE 12 [a.mv,.aa5 (st.map Md.ah6),.agg x.cs] (.bool (a.holds st x)):=by
 refine ae9 hE fok12 (nZ rfl) (ba2 (ao9 a) (ag5 st) (bc2 x)) ?_;have hi:=hp9 a x;have hnl:∀ d:TypeId,bt8 (.pointer d) a.mv=some false:=fun _=>rfl
 have vcs:a.mv.cs=[a.mv]:=rfl;have vlf:a.mv.leaf=true:=rfl
 cases hx:a.isI x with
 | false=>
  rw[hx] at hi;have hh:a.holds st x=true:=by unfold ac5.holds; rw[hx]; rfl
  simp only[ic12,go_sem,af3,ag4,af4,hnl]
  first|refine aa4 fok21 (hi) ?_|refine aa2 (hi) ?_
  simp only[go_sem]
  exact ab2 hh.symm
 | true=>
  rw[hx] at hi;have hmem:x∈a.items:=of_decide_eq_true hx;have hh:a.holds st x=a.keeps st x:=a.holds_of hmem;rw[hh]
  cases a.gc5.1 hmem with
  | au2 p hp hf=>
   have hF:=el5 a st ⟨1,p,0⟩ (by omega);have hk:a.keeps st ⟨1,p,0⟩=!inS st (p:Int):=by unfold ac5.keeps; simp
   rw[hk];simp only[ic12,go_sem,af3,ag4,af4,hnl,vcs,vlf]
   first|refine aa4 fok21 (hi) ?_|refine aa2 (hi) ?_
   simp only[go_sem,af3,ag4,af4,cw9,vcs,vlf];refine ⟨rfl,?_⟩;refine aa4 fok44 hF ?_;simp only[go_sem]
   exact ab2 rfl
  | need p q hp hq=>
   have hF:=el7 a hA st hs p q hp hq;generalize a.keeps st ⟨2,p,q⟩=R at *;simp only[ic12,go_sem,af3,ag4,af4,hnl,vcs,vlf]
   first|refine aa4 fok21 (hi) ?_|refine aa2 (hi) ?_
   simp only[go_sem,af3,ag4,af4,cw9,vcs,vlf];refine ⟨rfl,?_⟩;refine aa4 fok45 hF ?_;simp only[go_sem]
   exact ab2 rfl
  | clash p q hp hq=>
   have hF:=ec1 a hA st hs p q hp hq;generalize a.keeps st ⟨3,p,q⟩=R at *;simp only[ic12,go_sem,af3,ag4,af4,hnl,vcs,vlf]
   first|refine aa4 fok21 (hi) ?_|refine aa2 (hi) ?_
   simp only[go_sem,af3,ag4,af4,cw9,vcs,vlf];refine ⟨rfl,?_⟩;refine aa4 fok46 hF ?_;simp only[go_sem]
   exact ab2 rfl
  | over p q hp hq=>
   have hF:=el9 a hA st hs p q hp hq;generalize a.keeps st ⟨4,p,q⟩=R at *;simp only[ic12,go_sem,af3,ag4,af4,hnl,vcs,vlf]
   first|refine aa4 fok21 (hi) ?_|refine aa2 (hi) ?_
   simp only[go_sem,af3,ag4,af4,cw9,vcs,vlf];refine ⟨rfl,?_⟩;refine aa4 fok47 hF ?_;simp only[go_sem]
   exact ab2 rfl
  | twin p q hp hq ht=>
   have hF:=el6 a st ⟨5,p,q⟩ (by omega);have hk:a.keeps st ⟨5,p,q⟩=(!inS st (p:Int) || !inS st (q:Int)):=by unfold ac5.keeps; simp
   rw[hk];simp only[ic12,go_sem,af3,ag4,af4,hnl,vcs,vlf]
   first|refine aa4 fok21 (hi) ?_|refine aa2 (hi) ?_
   simp only[go_sem,af3,ag4,af4,cw9,vcs,vlf];refine ⟨rfl,?_⟩;refine aa4 fok48 hF ?_;simp only[go_sem]
   exact ab2 rfl
  | keep p hp hg=>
   have hF:=em1 a hA st hs p;generalize a.keeps st ⟨6,p,0⟩=R at *;simp only[ic12,go_sem,af3,ag4,af4,hnl,vcs,vlf]
   first|refine aa4 fok21 (hi) ?_|refine aa2 (hi) ?_
   simp only[go_sem,af3,ag4,af4,cw9,vcs,vlf];refine ⟨rfl,?_⟩;refine aa4 fok49 hF ?_;simp only[go_sem]
   exact ab2 rfl
  | job p hp hd=>
   have hF:=fn9 a hA st hs p;generalize a.keeps st ⟨7,p,0⟩=R at *;simp only[ic12,go_sem,af3,ag4,af4,hnl,vcs,vlf]
   first|refine aa4 fok21 (hi) ?_|refine aa2 (hi) ?_
   simp only[go_sem,af3,ag4,af4,cw9,vcs,vlf];refine ⟨rfl,?_⟩;refine aa4 fok50 hF ?_;simp only[go_sem];exact ab2 rfl
theorem ca1 (xs:List Itm)(g:Nat)(first cap:List IV)(q:Itm->Bool)(hn:xs.length<2^62)(hok:okF Tryz.prog g=true)
  (hq:∀ x∈xs,PC Tryz.prog EE g (first++[IV.agg (Itm.cs x)]++cap) (.bool (q x))):PC Tryz.prog EE 104 [.aa5 (xs.map Itm.cs),.func (.func g) first cap] (.int .i64 (ah5 q xs 0)):=by
 refine az3 fok104 (nZ rfl) fun σ=>?_
 simp only[ic104,go_sem];refine ab7 noT (fun i fr s=>s=σ/\fr=[(0,.aa5 (xs.map Itm.cs)),(1,.func (.func g) first cap),(7,.int .i64 xs.length),(8,.int .i64 i)]/\ah5 q xs 0=ah5 q (xs.drop i) i) xs.length ⟨rfl,rfl,rfl⟩ ?_;rintro i fr s hi ⟨rfl,rfl,hf⟩;by_cases hlt:i<xs.length
 ·obtain ⟨x,ha,_,hdr,hget,_⟩:=ae2 xs i hlt;have c1:(i:Int)<xs.length:=by omega
  have c2:(0:Int)<=i:=by omega
  have w1:=ad4 (i:=i) (by omega);rw[hdr] at hf;simp only[go_sem,c1,c2,hget,ag4,af4,af3];refine an1 hok (ej4 (hq x ha)) ?_;rintro v s ⟨rfl,rfl⟩;refine ⟨Nat.le_refl _,?_⟩
  cases hqe:q x with
  | true=>simp only[go_sem,hf,ah5,hqe,and_self]
  | false=>
   simp only[go_sem,w1];exact ⟨hlt,by rw[hf]; simp only[ah5,hqe,Bool.false_eq_true,if_false,Int.natCast_add,Int.natCast_one]⟩
 ·have hi':i=xs.length:=by omega
  subst hi';have c1:¬ (xs.length:Int)<xs.length:=by omega
  rw[List.drop_length] at hf;simp only[go_sem,c1,hf,ah5,and_self]
theorem ge6 (xs:List Itm)(g:Nat)(first cap:List IV)(q:Itm->Bool)(hn:xs.length<2^62)(hok:okF Tryz.prog g=true)
  (hq:∀ x∈xs,PC Tryz.prog EE g (first++[IV.agg (Itm.cs x)]++cap) (.bool (q x))):PC Tryz.prog EE 57 [.aa5 (xs.map Itm.cs),.func (.func g) first cap] (.bool (xs.any q)):=by
 refine az3 fok57 (nZ rfl) fun σ=>?_
 simp only[ic57,go_sem]
 first|refine aa4 fok104 (ca1 xs g first cap q hn hok hq) ?_|refine aa2 (ca1 xs g first cap q hn hok hq) ?_
 simp only[go_sem,aq9,and_self]
theorem em2 (xs:List Itm)(hn:xs.length<=2147483648):PC Tryz.prog EE 43 [.aa5 (xs.map Itm.cs)] (.aa5 (xs.map Itm.cs)):=by
 cases hx:xs with
 | nil=>
  rw[List.map_nil];refine bm7 ?_ ?_
  ·refine ae9 hE fok43 (nZ rfl) (ae1 .aa1) ?_;simp only[ic43,go_sem,ai2];exact .bu6
  ·refine ae9 hE fok43 (nZ rfl) (ae1 .af6) ?_;simp only[ic43,go_sem,ai2];rw[bd2 (by simp only[aa7,if_true]) rfl];simp only[go_sem]
   exact .dc2 _ _ _ (by simp only[aa7,if_true]; exact fun h=>(by cases h))
 | cons a as'=>
  have hne:xs.map Itm.cs≠[]:=by rw[hx]; exact fun h=>(by cases h)
  have hall:∀ e∈xs.map Itm.cs,e.length=3/\e.all IV.leaf=true:=fun e he=>by
   obtain ⟨x,_,rfl⟩:=List.mem_map.1 he;exact ⟨ag4 x,af3 x⟩
  rw[<- hx];refine ae9 hE fok43 (nZ rfl) (ae1 (aw2 xs)) ?_;have hnil:∀ d,bt8 (.slice d) (.aa5 (xs.map Itm.cs))=some false:=fun d=>by rw[hx]; rfl
  simp only[ic43,go_sem,ai2,hnil];rw[bu9 (by simp only[aa7,if_true]) hne hall (by rw[List.length_map]; exact hn)];simp only[go_sem];refine Grow.frz (esz:=3) (es:=xs.map Itm.cs) (.inr ⟨1,by rw[List.length_map],by simp only[aa7,if_true],Nat.lt_succ_self _⟩) (fun x hx=>(hall x hx).1) (fun _ _=>Nat.not_lt_zero _) (ak5 (aw2 xs))
theorem gz2 (a:ac5)(hA:AOK a)(st:List Int)(hs:st.length<2^30)(x:Itm):PC Tryz.prog EE 58 [.agg x.cs,.ab8 [a.mv],.ab8 [.aa5 (st.map Md.ah6)]] (.bool (!a.holds st x)):=by
 refine ae9 hE fok58 (nZ rfl) (ba2 (bc2 x) (.ab8 _ (ai8 (ao9 a))) (.ab8 _ (ai8 (ag5 st)))) ?_;have h:=bn9 a hA st hs x;have vcs:a.mv.cs=[a.mv]:=rfl;have vlf:a.mv.leaf=true:=rfl;simp only[ic58,go_sem,af3,ag4,af4,vcs,vlf]
 first|refine aa4 fok12 (h) ?_|refine aa2 (h) ?_
 simp only[go_sem];exact ab2 rfl
theorem ds2 (a:ac5)(hA:AOK a)(st:List Int)(hs:st.length<2^30)(l:List Itm)(hl:l.length<2^62):PC Tryz.prog EE 19 [a.mv,.aa5 (st.map Md.ah6),am7 l] (.bool (a.kept st l)):=by
 refine ae9 hE fok19 (nZ rfl) (ba2 (ao9 a) (ag5 st) (aw2 l)) ?_;have hC:=ge6 l 58 [] [.ab8 [a.mv],.ab8 [.aa5 (st.map Md.ah6)]] (fun x=>!a.holds st x) hl fok58.1 fun x _=>gz2 a hA st hs x
 have vcs:a.mv.cs=[a.mv]:=rfl;have vlf:a.mv.leaf=true:=rfl;have hnl:∀ d:TypeId,bt8 (.pointer d) a.mv=some false:=fun _=>rfl
 simp only[ic19,go_sem,vcs,vlf,hnl,List.all_cons,List.all_nil,List.head?_cons]
 first|refine aa4 fok57 (hC) ?_|refine aa2 (hC) ?_
 simp only[go_sem];exact ab2 rfl
theorem ds4 (a:ac5)(hA:AOK a)(st:List Int)(hs:st.length<2^30)(hl:a.items.length<2^62):PC Tryz.prog EE 17 [a.mv,.aa5 (st.map Md.ah6)] (.bool (a.good st)):=by
 refine ae9 hE fok17 (nZ rfl) (aj9 (ao9 a) (ag5 st)) ?_;have h:=ds2 a hA st hs a.items hl;have hnl:∀ d:TypeId,bt8 (.pointer d) (.ab8 a.mcs)=some false:=fun _=>rfl
 unfold ac5.good;unfold ac5.mv at *;simp only[ic17,go_sem,hnl,if6,as2]
 first|refine aa4 fok19 (h) ?_|refine aa2 (h) ?_
 simp only[go_sem];exact ab2 rfl
theorem ec2 (a:ac5)(hl:a.items.length<=2147483648):PC Tryz.prog EE 11 [a.mv] (am7 a.items):=by
 refine ae9 hE fok11 (nZ rfl) (ai8 (ao9 a)) ?_;have h:=em2 a.items hl;have hnl:∀ d:TypeId,bt8 (.pointer d) (.ab8 a.mcs)=some false:=fun _=>rfl
 unfold ac5.mv at *;simp only[ic11,go_sem,hnl,if6,as2]
 first|refine aa4 fok43 (h) ?_|refine aa2 (h) ?_
 simp only[go_sem];exact .keep _ (aw2 _)
set_option maxHeartbeats 1000000
structure MO (s:Store) (pp mid:Nat) (av tv allv itv:IV) (P:List aa3) (D:List Itm):Prop where
 cell:s.obj pp=some (.cells [av,tv,allv,itv,.map mid])
 grow:Grow s itv 3 (D.map Itm.cs)
 map:s.obj mid=some (.map (ba4 D))
 all:Grow s allv 15 (P.map aa3.cs)
 ne:∀ i k j l,itv=.slice i 0 k 3->allv=.slice j 0 l 15->i≠j
 lt:pp<s.next/\mid<s.next
theorem MO.mono {s s':Store}{pp mid:Nat}{av tv allv itv:IV}{P:List aa3}{D:List Itm}(h:MO s pp mid av tv allv itv P D)(hn:s.next<=s'.next)(ho:∀ i,i<s.next->s'.obj i=s.obj i):MO s' pp mid av tv allv itv P D where
 cell:=by rw[ho _ h.lt.1]; exact h.cell
 grow:=h.grow.mono hn fun id _ hid=>ho id hid
 map:=by rw[ho _ h.lt.2]; exact h.map
 all:=h.all.mono hn fun id _ hid=>ho id hid
 ne:=h.ne
 lt:=⟨by have:=h.lt.1; omega,by have:=h.lt.2; omega⟩
theorem eu7 (l:List Itm):∀ e∈l.map Itm.cs,e.length=3/\e.all IV.leaf=true:=fun e he=>by
 obtain ⟨x,_,rfl⟩:=List.mem_map.1 he;exact ⟨rfl,rfl⟩
theorem ge7 {τ:Store}{mid:Nat}{D:List Itm}{x:Itm}(h:τ.obj mid=some (.map (ba4 D)))(hx:x ∉ D):at6 τ 6 (.map mid) (.agg [.int .u8 x.kind,.int .i64 x.p,.int .i64 x.q]) (.agg [])=some (τ.put mid (.map (ba4 (D++[x])))):=by
 have h2:=gv2 hx;have hxc:x.cs=[.int .u8 x.kind,.int .i64 x.p,.int .i64 x.q]:=rfl;rw[hxc] at h2;simp only[at6,h,h2,Option.map]
def if7 (pp:Nat)(σ s:Store):Prop:=σ.next<=s.next/\∀ i cs,i<σ.next->i≠pp->σ.obj i=some (.cells cs)->s.obj i=some (.cells cs)
theorem ec3 (σ:Store)(pp mid:Nat)(av tv allv itv:IV)(P:List aa3)(D:List Itm)(x:Itm)(h:MO σ pp mid av tv allv itv P D)(hx:x ∉ D)(hD:D.length<2^30) :
  C Tryz.prog EE 155 [.ptr pp 0,.int .u8 x.kind,.int .i64 x.p,.int .i64 x.q] σ (fun v s=>if7 pp σ s/\∃ itv',MO s pp mid av tv allv itv' P (D++[x])):=by
 refine C_f fok155 (nZ rfl) ?_;have hxc:x.cs=[.int .u8 x.kind,.int .i64 x.p,.int .i64 x.q]:=rfl;have npp:¬ pp=σ.next:=by have:=h.lt.1; omega
 have nmid:¬ mid=σ.next:=by have:=h.lt.2; omega
 have npn:¬ pp=σ.next+1+7:=by have:=h.lt.1; omega
 have nmn:¬ mid=σ.next+1+7:=by have:=h.lt.2; omega
 have nmp:¬ mid=pp:=fun e=>by have h1:=h.cell; have h2:=h.map; rw[<- e,h2] at h1; cases h1
 have nsn:¬ σ.next=σ.next+1+7:=by omega
 have nsp:¬ σ.next=pp:=fun e=>npp e.symm
 have hc:=h.cell;have hm:=h.map;obtain ⟨S,hS⟩:∃ S:Store,S=(({ next:=σ.next+1,obj:=σ.obj }:Store).put σ.next (ak4.cells [.int .u8 0,.int .i64 0,.int .i64 0])).put σ.next (ak4.cells [.int .u8 x.kind,.int .i64 x.p,.int .i64 x.q]):=⟨_,rfl⟩;have So:∀ i,¬ i=σ.next->S.obj i=σ.obj i:=fun i hi=>by rw[hS]; simp only[aa7,hi,if_false]
 have Sb:S.obj σ.next=some (.cells [.int .u8 x.kind,.int .i64 x.p,.int .i64 x.q]):=by rw[hS]; simp only[aa7,if_true]
 have hg1:Grow (⟨σ.next+1+11,S.obj⟩:Store) itv 3 (D.map Itm.cs):=h.grow.mono (by show σ.next<=σ.next+1+11; omega) fun id _ hid=>So id (by omega)
 have ha1:Grow (⟨σ.next+1+11,S.obj⟩:Store) allv 15 (P.map aa3.cs):=h.all.mono (by show σ.next<=σ.next+1+11; omega) fun id _ hid=>So id (by omega)
 have hap:=al4 (nid:=σ.next+1+7) (e:=x.cs) hg1 (eu7 D) ⟨rfl,rfl⟩ (by rw[List.length_map]; omega);rw[List.length_map,hxc] at hap;have kp:=af7 hg1 pp _ (by rw[<- hc]; exact So pp npp) (fun _ e=>by cases e);have km:=af7 hg1 mid _ (by rw[<- hm]; exact So mid nmid) (fun _ e=>by cases e);have kb:=af7 hg1 σ.next _ Sb (fun _ e=>by cases e);have kn:(ai7 itv (⟨σ.next+1+11,S.obj⟩:Store)).next=σ.next+1+11:=ad8 itv;have hcp:S.obj pp=some (.cells [av,tv,allv,itv,.map mid]):=by rw[So pp npp]; exact hc
 have kall:∀ i cs,i<σ.next->σ.obj i=some (.cells cs)->(ai7 itv (⟨σ.next+1+11,S.obj⟩:Store)).obj i=some (.cells cs):=fun i cs hi ho=>af7 hg1 i _ (by rw[<- ho]; exact So i (by omega)) (fun _ e=>by cases e)
 have hkall:Grow (ai7 itv (⟨σ.next+1+11,S.obj⟩:Store)) allv 15 (P.map aa3.cs):=by
  refine ha1.mono (by rw[kn]; exact Nat.le_refl _) fun id hv _=>?_
  rcases hg1 with ⟨h0,_⟩|⟨j,hj,_,_⟩
  ·rw[h0]; rfl
  ·have hne:=h.ne _ _ _ _ hj hv;rw[hj];show (if id=j then none else S.obj id)=_;rw[if_neg fun e=>hne e.symm]
 simp only[ic155,go_sem,npp,hc,b_o,b_p,b_t];rw[<- hS];generalize ai7 itv (⟨σ.next+1+11,S.obj⟩:Store)=K at *;simp only[show σ.next+1+1+1+1+1+1+1+1=σ.next+1+7 from rfl,hap,go_sem,npn,nmn,nmp,nsn,nsp,kp,km,kb];generalize hK2:(⟨K.next+7,_⟩:Store)=K2;have K2o:K2.obj=((K.put (σ.next+1+7) (ak4.row (List.map Itm.cs D++[[IV.int IntKind.u8 x.kind,IV.int IntKind.i64 x.p,IV.int IntKind.i64 x.q]]).flatten)).put pp (ak4.cells [av,tv,allv,IV.slice (σ.next+1+7) 0 (D.length+1) 3,IV.map mid])).obj:=by rw[<- hK2]
 have K2n:K2.next=σ.next+1+11+7:=by rw[<- hK2]; show K.next+7=_; rw[kn]
 have hmk:K2.obj mid=some (.map (ba4 D)):=by rw[K2o]; simp only[aa7,nmp,nmn,if_false]; exact km
 have npm:¬ pp=mid:=fun e=>nmp e.symm
 rw[ge7 hmk hx];simp only[go_sem];refine ⟨⟨by rw[ab5,K2n]; omega,fun i cs hi hip ho=>?_⟩,.slice (σ.next+1+7) 0 (D.length+1) 3,?_⟩
 ·have him:¬ i=mid:=fun e=>by rw[e,hm] at ho; cases ho
  have hin:¬ i=σ.next+1+7:=by omega
  rw[aa7,if_neg him,K2o];simp only[aa7,hip,hin,if_false];exact kall i cs hi ho
 ·have hrow:∀ id,id≠mid->id≠pp->id≠σ.next+1+7->(K2.put mid (.map (ba4 (D++[x])))).obj id=K.obj id:=fun id h1 h2 h3=>by
   rw[aa7,if_neg h1,K2o];simp only[aa7,h2,h3,if_false]
  exact {
   cell:=by rw[aa7,if_neg npm,K2o]; simp only[aa7,if_true]
   grow:=by
    refine .inr ⟨σ.next+1+7,by rw[List.map_append,List.length_append,List.length_map]; rfl,?_,by rw[ab5,K2n]; omega⟩;rw[aa7,if_neg (fun e=>nmn e.symm),K2o];simp only[aa7,if_true];rw[if_neg (fun e=>npn e.symm),List.map_append]; rfl
   map:=by rw[aa7,if_pos rfl]
   all:=by
    refine hkall.mono (by rw[ab5,K2n,kn]; omega) fun id hv hid=>?_
    rw[kn] at hid
    have hr:K.obj id=some (.row (P.map aa3.cs).flatten):=by
     rcases hkall with ⟨h0,_⟩|⟨j,hj,ho,_⟩
     ·rw[h0] at hv; cases hv
     ·rw[hj] at hv; cases hv; exact ho
    refine hrow id (fun e=>by rw[e,km] at hr; cases hr) (fun e=>by rw[e,kp] at hr; cases hr) fun e=>?_
    rw[e] at hv;rcases h.all with ⟨h0,_⟩|⟨j,hj,_,hjl⟩
    ·rw[h0] at hv; cases hv
    ·rw[hj] at hv; cases hv; omega
   ne:=fun i k j l e1 e2=>by
    cases e1;rcases h.all with ⟨h0,_⟩|⟨j',hj,_,hjl⟩
    ·rw[h0] at e2; cases e2
    ·rw[hj] at e2; cases e2; omega
   lt:=⟨by rw[ab5,K2n]; have:=h.lt.1; omega,by rw[ab5,K2n]; have:=h.lt.2; omega⟩ }
set_option maxHeartbeats 1000000
theorem if7.refl (pp:Nat)(σ:Store):if7 pp σ σ:=⟨Nat.le_refl _,fun _ _ _ _ h=>h⟩
theorem if7.trans {pp:Nat}{a b c:Store}(h1:if7 pp a b)(h2:if7 pp b c):if7 pp a c:=⟨Nat.le_trans h1.1 h2.1,fun i cs hi hp ho=>h2.2 i cs (Nat.lt_of_lt_of_le hi h1.1) hp (h1.2 i cs hi hp ho)⟩
theorem iw5 (a:ac5){i:Nat}(h:i<a.l.length):((a.l.map aa3.cs).flatten.drop (i*15)).take 15=(a.pk i).cs/\15<=((a.l.map aa3.cs).flatten.drop (i*15)).length:=by
 have hl:∀ e∈a.l.map aa3.cs,e.length=15:=fun e he=>(bc3 _ e he).1
 have h1:=av5 hl i (by rw[List.length_map]; exact h);have h2:=am4 hl;refine ⟨by rw[h1]; exact gy7 a h,?_⟩;rw[List.length_drop,h2,List.length_map]; omega
theorem iw6 (a:ac5) (hA:AOK a) (hI:0<=a.p.inst) (σ:Store) (pp mid:Nat) (tv allv itv:IV) (h:MO σ pp mid a.v tv allv itv a.l []) (hIt:a.items.length<2^30) :
  C Tryz.prog EE 95 [.ptr pp 0] σ (fun v s=>σ.next<=s.next/\∃ itv',MO s pp mid a.v tv allv itv' a.l a.items):=by
 refine is3 fok95 (nZ rfl) ?_;have hlen:=hA.len;have vcs:a.v.cs=[a.v]:=rfl;have vlf:a.v.leaf=true:=rfl;simp only[ic95]
 have hlen0:cl8 0 σ allv=some (.int .i64 a.l.length):=by
  have:=dt5 (s':=σ) h.all;rw[List.length_map] at this; exact this
 have hc:=h.cell;refine ae5 (ae5 (ai3 ?_));simp only[go_sem,hc,hlen0];have x1:∀ (p k:Int) (q:Int),(⟨k,p,q⟩:Itm).cs=[.int .u8 k,.int .i64 p,.int .i64 q]:=fun _ _ _=>rfl
 refine av6 (az4 (Q:=fun e f s=>e=.exit 0/\σ.next<=s.next/\(∃ itv,MO s pp mid a.v tv allv itv a.l (a.owns a.l.length))/\∃ rst:Frm,f=(0,.ptr pp 0)::rst)
  (do5 (fun p fr s=>fr=[(0,.ptr pp 0),(14,allv),(15,.int .i64 a.l.length),(16,.int .i64 (p:Int))]/\σ.next<=s.next/\∃ itv,MO s pp mid a.v tv allv itv a.l (a.owns p)) a.l.length ⟨rfl,Nat.le_refl _,itv,h⟩ ?_) ?_)
 ·clear h hc hlen0 itv;rintro p fr t hp ⟨rfl,hn,itv,hM⟩;refine ae5 (ai3 ?_);by_cases hpl:p<a.l.length
  ·have c1:(p:Int)<a.l.length:=by omega
   have c2:(0:Int)<=(p:Int):=by omega
   have w1:=ad4 (i:=p) (by omega);obtain ⟨r1,r2⟩:=iw5 a hpl
   obtain ⟨ga,hga,hgo,hgl⟩:∃ ga,allv=.slice ga 0 a.l.length 15/\t.obj ga=some (.row (a.l.map aa3.cs).flatten)/\ga<t.next:=by
    rcases hM.all with ⟨_,h1⟩|⟨ga,h1,h2,h3⟩
    ·have:=congrArg List.length h1; rw[List.length_map,List.length_nil] at this; omega
    ·exact ⟨ga,by rw[h1,List.length_map],h2,h3⟩
   subst hga;simp only[go_sem,c1];refine ae5 (ai3 ?_);simp only[go_sem];refine ae5 (av6 (ae5 (ai3 ?_)));simp only[go_sem,c1,c2,hgo,r1,r2,Nat.zero_add,Int.toNat_natCast,ag9,ah2,ad1];generalize hT:Store.put _ t.next (ak4.cells (a.pk p).cs)=T;have Tn:T.next=t.next+1:=by rw[<- hT]; rfl
   have To:∀ i,i<t.next->T.obj i=t.obj i:=fun i hi=>by
    have:¬ i=t.next:=by omega
    rw[<- hT]; simp only[aa7,this,if_false]
   have Tb:T.obj t.next=some (.cells (a.pk p).cs):=by rw[<- hT]; simp only[aa7,if_true]
   have hMT:=hM.mono (s':=T) (by omega) To;have hpt:=hM.lt.1;have hfit:=dm7 a p;have hcT:=hMT.cell
   refine ae5 (az4 (Q:=fun e f s=>e=.normal/\(∃ rst:Frm,f=(0,.ptr pp 0)::(2,.int .i64 (p:Int))::(3,.ptr t.next 0)::(14,.slice ga 0 a.l.length 15)::(15,.int .i64 a.l.length)::(16,.int .i64 (p:Int))::rst)/\t.next+1<=s.next/\s.obj t.next=some (.cells (a.pk p).cs) /\
    ∃ itv,MO s pp mid a.v tv (.slice ga 0 a.l.length 15) itv a.l (a.owns p++a.bn5 p)) (ai3 ?_) ?_)
   ·simp only[go_sem,hcT,vcs,vlf]
    first|refine aa4 fok29 (hfit) ?_|refine aa2 (hfit) ?_
    cases hf:a.fits p with
    | true=>
     have e:a.bn5 p=[]:=by unfold ac5.bn5; rw[hf]; rfl
     simp only[go_sem]
     exact ⟨⟨_,rfl⟩,by omega,Tb,itv,by rw[e,List.append_nil]; exact hMT⟩
    | false=>
     have e:a.bn5 p=[⟨1,p,0⟩]:=by unfold ac5.bn5; rw[hf]; rfl
     simp only[go_sem];refine af1 fok155 (ec3 T pp mid a.v tv _ itv a.l (a.owns p) ⟨1,p,0⟩ hMT (fun hm=>by obtain ⟨_,_,p',hp',e'⟩:=a.cu8 hm; simp only at e'; omega) (by have:=a.gv5 hpl; omega)) ?_;rintro v s ⟨⟨s1,s2⟩,itv2,hM2⟩;refine ⟨s1,?_⟩;simp only[go_sem];exact ⟨⟨_,rfl⟩,by omega,s2 t.next _ (by omega) (by omega) Tb,itv2,by rw[e]; exact hM2⟩
   clear hMT hcT hT Tn To Tb T hM;rintro e f T ⟨rfl,⟨rst,rfl⟩,Tn,Tb,itv,hM⟩;simp only[go_sem];obtain ⟨K,hK⟩:∃ K,K=[IV.int .u8 2,.int .i64 ((a.pk p).requires.length:Nat),.int .u8 3,.int .i64 ((a.pk p).conflicts.length:Nat),.int .u8 4,.int .i64 ((a.pk p).aa9.length:Nat)]:=⟨_,rfl⟩;have g7:((a.pk p).cs.drop 7).head? = some (ai9 (a.pk p).requires):=rfl;have g8:((a.pk p).cs.drop 8).head? = some (ai9 (a.pk p).conflicts):=rfl;have g9:((a.pk p).cs.drop 9).head? = some (deps (a.pk p).aa9):=rfl;refine ae5 (ai3 ?_);simp only[go_sem,Tb,g7,g8,g9];rw[<- hK]
   have hKj:∀ j,j<3->(K.drop (j*2)).take 2=[.int .u8 ((2+j:Nat):Int),.int .i64 (a.nsI p j)]/\2<=(K.drop (j*2)).length:=fun j hj=>by
    have:j=0\/j=1\/j=2:=by omega
    rcases this with rfl|rfl|rfl<;>(rw[hK]; exact ⟨rfl,by simp⟩)
   have hKl:K.length=6:=by rw[hK]; rfl
   refine av6 (az4 (Q:=fun e f s=>e=.exit 2/\σ.next<=s.next/\(∃ itv,MO s pp mid a.v tv (.slice ga 0 a.l.length 15) itv a.l (a.owns p++a.bn5 p++a.dq7 p 3))/\∃ rst:Frm,f=(0,.ptr pp 0)::(2,.int .i64 (p:Int))::(14,.slice ga 0 a.l.length 15)::(15,.int .i64 a.l.length)::(16,.int .i64 (p:Int))::rst)
    (do5 (fun j fr s=>fr=[(0,.ptr pp 0),(2,.int .i64 (p:Int)),(14,.slice ga 0 a.l.length 15),(15,.int .i64 a.l.length),(16,.int .i64 (p:Int)),(43,.agg K),(44,.int .i64 (j:Int))]/\σ.next<=s.next/\∃ itv,MO s pp mid a.v tv (.slice ga 0 a.l.length 15) itv a.l (a.owns p++a.bn5 p++a.dq7 p j)) 3 ⟨rfl,by omega,itv,by simpa [ac5.dq7] using hM⟩ ?_) ?_)
   ·clear hM Tb Tn itv g7 g8 g9 hK;rintro j fr u hj ⟨rfl,un,itv,hM⟩;refine ae5 (ai3 ?_);by_cases hj3:j<3
    ·have d1:(j:Int)<3:=by omega
     have d2:(0:Int)<=(j:Int):=by omega
     have w2:=ad4 (i:=j) (by omega);obtain ⟨k1,k2⟩:=hKj j hj3;simp only[go_sem,d1];refine ae5 (ai3 ?_);simp only[go_sem];refine ae5 (av6 (ae5 (ai3 ?_)));simp only[go_sem,d1,d2,k1,k2,hKl];refine ⟨by omega,?_⟩;generalize hU:Store.put _ u.next (ak4.cells [IV.int .u8 ((2+j:Nat):Int),IV.int .i64 (a.nsI p j)])=U;have Un:U.next=u.next+1:=by rw[<- hU]; rfl
     have Uo:∀ i,i<u.next->U.obj i=u.obj i:=fun i hi=>by
      have:¬ i=u.next:=by omega
      rw[<- hU]; simp only[aa7,this,if_false]
     have Ub:U.obj u.next=some (.cells [IV.int .u8 ((2+j:Nat):Int),IV.int .i64 (a.nsI p j)]):=by rw[<- hU]; simp only[aa7,if_true]
     have hMU:=hM.mono (s':=U) (by omega) Uo;have hpu:=hM.lt.1
     have hnn:a.nsI p j<2^30:=by
      have:=a.gc8 hpl hj3 (Nat.le_refl (a.nsI p j));rw[List.length_append,ac5.bz1] at this; omega
     refine ae5 (ai3 ?_);simp only[go_sem,Ub]
     refine av6 (az4 (Q:=fun e f s=>e=.exit 4/\σ.next<=s.next/\(∃ itv,MO s pp mid a.v tv (.slice ga 0 a.l.length 15) itv a.l (a.owns p++a.bn5 p++a.dq7 p (j+1)))/\∃ rst:Frm,f=(0,.ptr pp 0)::(2,.int .i64 (p:Int))::(5,.ptr u.next 0)::(14,.slice ga 0 a.l.length 15)::(15,.int .i64 a.l.length)::(16,.int .i64 (p:Int))::(43,.agg K)::(44,.int .i64 (j:Int))::rst)
      (ab7 noT (fun q fr s=>fr=[(0,.ptr pp 0),(2,.int .i64 (p:Int)),(5,.ptr u.next 0),(14,.slice ga 0 a.l.length 15),(15,.int .i64 a.l.length),(16,.int .i64 (p:Int)),(43,.agg K),(44,.int .i64 (j:Int)),(48,.int .i64 (a.nsI p j)),(49,.int .i64 (q:Int))]/\u.next+1<=s.next/\s.obj u.next=some (.cells [IV.int .u8 ((2+j:Nat):Int),IV.int .i64 (a.nsI p j)]) /\
       ∃ itv,MO s pp mid a.v tv (.slice ga 0 a.l.length 15) itv a.l (a.owns p++a.bn5 p++a.dq7 p j++bl5 ((2+j:Nat):Int) p q)) (a.nsI p j) ⟨rfl,by omega,Ub,itv,by simpa [bl5] using hMU⟩ ?_) ?_)
     ·clear hM hMU Un Uo Ub hU U itv;rintro q fr U hq ⟨rfl,Un,Ub,itv,hM⟩;by_cases hql:q<a.nsI p j
      ·have e1:(q:Int)<(a.nsI p j:Nat):=by omega
       have w3:=ad4 (i:=q) (by omega);simp only[go_sem,e1,Ub];refine af1 fok155 (ec3 U pp mid a.v tv _ itv a.l _ ⟨((2+j:Nat):Int),p,q⟩ hM (fun hm=>?_) ?_) ?_
       ·rcases List.mem_append.1 hm with hm|hm
        ·rcases List.mem_append.1 hm with hm|hm
         ·rcases List.mem_append.1 hm with hm|hm
          ·obtain ⟨_,_,p',hp',e'⟩:=a.cu8 hm; simp only at e'; omega
          ·have:=a.ie1 hm; simp only at this; omega
         ·have:=a.iu2 hm; simp only at this; omega
        ·obtain ⟨q',hq',e'⟩:=aw1.1 hm;have:=congrArg Itm.q e';simp only at this; omega
       ·have:=a.gc8 hpl hj3 hq; omega
       rintro v s ⟨⟨s1,s2⟩,itv2,hM2⟩;refine ⟨s1,?_⟩;simp only[go_sem,w3];refine ⟨hql,by omega,s2 u.next _ (by omega) (by omega) Ub,itv2,?_⟩;rw[fm1,<- List.append_assoc]; exact hM2
      ·have e1:¬ (q:Int)<(a.nsI p j:Nat):=by omega
       have e:q=a.nsI p j:=by omega
       simp only[go_sem,e1];refine ⟨by omega,⟨itv,?_⟩,_,rfl⟩;rw[a.as5,<- List.append_assoc,<- e]; exact hM
     ·rintro e f U ⟨rfl,Un,⟨itv,hM⟩,rst,rfl⟩;simp only[go_sem];refine ai3 ?_;simp only[go_sem,w2];exact ⟨hj3,Un,itv,hM⟩
    ·have d1:¬ (j:Int)<3:=by omega
     have e:j=3:=by omega
     subst e;simp only[go_sem,d1];refine ae5 (ai3 ?_);simp only[go_sem];exact ⟨un,⟨itv,hM⟩,_,rfl⟩
   ·rintro e f u ⟨rfl,un,⟨itv,hM⟩,rst,rfl⟩;simp only[go_sem];refine ai3 ?_;simp only[go_sem,w1];refine ⟨hpl,un,itv,?_⟩;rw[a.cu7,a.ho7,<- List.append_assoc];exact hM
  ·have c1:¬ (p:Int)<a.l.length:=by omega
   have e:p=a.l.length:=by omega
   simp only[go_sem,c1];refine ae5 (ai3 ?_);simp only[go_sem];exact ⟨hn,⟨itv,by rw[<- e]; exact hM⟩,_,rfl⟩
 rintro e f t ⟨rfl,hn,⟨itv2,hM⟩,rst,rfl⟩;simp only[go_sem];clear h hc hlen0;have hc:=hM.cell
 have hlen0:∀ s:Store,cl8 0 s allv=some (.int .i64 a.l.length):=fun s=>by
  have:=dt5 (s':=s) hM.all;rw[List.length_map] at this; exact this
 refine ae5 (ae5 (ai3 ?_));simp only[go_sem,hc,hlen0]
 refine av6 (az4 (Q:=fun e f s=>e=.exit 6/\σ.next<=s.next/\(∃ itv,MO s pp mid a.v tv allv itv a.l (a.owns a.l.length++a.as4 a.l.length))/\∃ rst:Frm,f=(0,.ptr pp 0)::rst)
  (do5 (fun p fr s=>fr=[(0,.ptr pp 0),(65,.int .i64 a.l.length),(66,.int .i64 (p:Int))]/\σ.next<=s.next/\∃ itv,MO s pp mid a.v tv allv itv a.l (a.owns a.l.length++a.as4 p)) a.l.length ⟨rfl,hn,itv2,by simpa [ac5.as4] using hM⟩ ?_) ?_)
 ·clear hM hc itv2;rintro p fr t hp ⟨rfl,hn,itv,hM⟩;refine ae5 (ai3 ?_);by_cases hpl:p<a.l.length
  ·have c1:(p:Int)<a.l.length:=by omega
   have w1:=ad4 (i:=p) (by omega);simp only[go_sem,c1];refine ae5 (ai3 ?_);simp only[go_sem];refine ae5 (av6 (ae5 (ai3 ?_)));simp only[go_sem];refine ae5 (ai3 ?_);simp only[go_sem,w1]
   refine av6 (az4 (Q:=fun e f s=>e=.exit 8/\σ.next<=s.next/\(∃ itv,MO s pp mid a.v tv allv itv a.l (a.owns a.l.length++a.as4 (p+1)))/\∃ rst:Frm,f=(0,.ptr pp 0)::(7,.int .i64 (p:Int))::(8,.int .i64 (a.l.length:Nat))::(65,.int .i64 a.l.length)::(66,.int .i64 (p:Int))::rst)
    (ab7 noT (fun d fr s=>fr=[(0,.ptr pp 0),(7,.int .i64 (p:Int)),(8,.int .i64 ((p+1+d:Nat):Int)),(65,.int .i64 a.l.length),(66,.int .i64 (p:Int))]/\σ.next<=s.next/\∃ itv,MO s pp mid a.v tv allv itv a.l (a.owns a.l.length++a.as4 p++a.cu6 p (p+1+d))) (a.l.length-(p+1)) ⟨rfl,hn,itv,by rw[Nat.add_zero,a.ej9,List.append_nil]; exact hM⟩ ?_) ?_)
   ·clear hM itv hn;rintro d fr u hd ⟨rfl,hn,itv,hM⟩;have hcu:=hM.cell;by_cases hdl:p+1+d<a.l.length
    ·have d1:((p+1+d:Nat):Int)<a.l.length:=by omega
     have w2:=ad4 (i:=p+1+d) (by omega);have hdl2:d<a.l.length-(p+1):=by omega
     have htw:=eo8 a p ((p+1+d:Nat):Int) hA
     have hsn:a.cu6 p (p+1+(d+1))=a.cu6 p (p+1+d)++if a.twins p ((p+1+d:Nat):Int) then [⟨5,p,((p+1+d:Nat):Int)⟩] else []:=by
      have e:p+1+(d+1)=p+1+d+1:=by omega
      have l1:p<p+1+d:=by omega
      rw[e];unfold ac5.cu6;rw[bs5];simp[l1]
     simp only[go_sem,hcu,hlen0,d1,vcs,vlf]
     first|refine aa4 fok30 (htw) ?_|refine aa2 (htw) ?_
     cases ht:a.twins p ((p+1+d:Nat):Int) with
     | false=>
      rw[ht] at hsn;simp only[go_sem,w2];refine ⟨hdl2,by rw[show p+1+(d+1)=p+1+d+1 by omega],hn,itv,?_⟩
      rw[hsn]; simpa using hM
     | true=>
      rw[ht] at hsn;simp only[go_sem];refine af1 fok155 (ec3 u pp mid a.v tv _ itv a.l _ ⟨5,p,((p+1+d:Nat):Int)⟩ hM (fun hm=>?_) ?_) ?_
      ·rcases List.mem_append.1 hm with hm|hm
       ·rcases List.mem_append.1 hm with hm|hm
        ·obtain ⟨_,h4,_⟩:=a.cu8 hm; simp only at h4; omega
        ·obtain ⟨_,p',hp',e'⟩:=a.dq6 hm; simp only at e'; omega
       ·obtain ⟨_,_,q',hq',e'⟩:=a.gv4 hm; simp only at e'; omega
      ·have:=a.gv6 hpl (show p+1+d<=a.l.length by omega); omega
      rintro v s ⟨⟨s1,s2⟩,itv2,hM2⟩;refine ⟨s1,?_⟩;simp only[go_sem,w2];refine ⟨hdl2,by rw[show p+1+(d+1)=p+1+d+1 by omega],by omega,itv2,?_⟩;rw[hsn,if_pos rfl,<- List.append_assoc]; exact hM2
    ·have d1:¬ ((p+1+d:Nat):Int)<a.l.length:=by omega
     have e:p+1+d=a.l.length:=by omega
     simp only[go_sem,hcu,hlen0,d1];refine ⟨hn,⟨itv,?_⟩,_,by rw[e]⟩;rw[a.bv4,<- List.append_assoc];unfold ac5.gv3;rw[e] at hM; exact hM
   ·rintro e f u ⟨rfl,un,⟨itv,hM⟩,rst,rfl⟩;simp only[go_sem];refine ai3 ?_;simp only[go_sem,w1];exact ⟨hpl,un,itv,hM⟩
  ·have c1:¬ (p:Int)<a.l.length:=by omega
   have e:p=a.l.length:=by omega
   simp only[go_sem,c1];refine ae5 (ai3 ?_);simp only[go_sem];exact ⟨hn,⟨itv,by rw[e] at hM; exact hM⟩,_,rfl⟩
 clear hM hc itv2 hn;rintro e f t ⟨rfl,hn,⟨itv2,hM⟩,rst,rfl⟩;simp only[go_sem];have hP:=dn1 a;have hIn:=az7 a.p;have pvl:a.p.v.leaf=true:=rfl;have pvc:a.p.v.cs=[a.p.v]:=rfl;have hin:(a.p.inst:Int)=((a.p.inst.toNat:Nat):Int):=by omega
 have hin2:a.p.inst.toNat<=a.l.length:=by have:=hA.inst; omega
 rw[hin] at hIn;have hc:=hM.cell;refine ae5 (ae5 (ai3 ?_));simp only[go_sem,hc,vcs,vlf]
 first|refine aa4 fok26 (hP) ?_|refine aa2 (hP) ?_
 simp only[go_sem,pvl,pvc]
 first|refine aa4 fok88 (hIn) ?_|refine aa2 (hIn) ?_
 simp only[go_sem]
 refine av6 (az4 (Q:=fun e f s=>e=.exit 10/\σ.next<=s.next/\(∃ itv,MO s pp mid a.v tv allv itv a.l (a.owns a.l.length++a.as4 a.l.length++a.bv3 a.p.inst.toNat))/\∃ rst:Frm,f=(0,.ptr pp 0)::rst)
  (ab7 noT (fun i fr s=>fr=[(0,.ptr pp 0),(97,.int .i64 ((a.p.inst.toNat:Nat):Int)),(98,.int .i64 (i:Int))]/\σ.next<=s.next/\∃ itv,MO s pp mid a.v tv allv itv a.l (a.owns a.l.length++a.as4 a.l.length++a.bv3 i)) a.p.inst.toNat ⟨rfl,hn,itv2,by rw[show a.bv3 0=[] from rfl,List.append_nil]; exact hM⟩ ?_) ?_)
 ·clear hM hc itv2 hn;rintro i fr u hi ⟨rfl,hn,itv,hM⟩;have hcu:=hM.cell;by_cases hil:i<a.p.inst.toNat
  ·have d1:(i:Int)<((a.p.inst.toNat:Nat):Int):=by omega
   have w1:=ad4 (i:=i) (by omega);have hg:=fq9 a i hA;have hsn:a.bv3 (i+1)=a.bv3 i++if !a.goes i then [⟨6,i,0⟩] else []:=bs5 _ _ _
   simp only[go_sem,hcu,d1,vcs,vlf]
   first|refine aa4 fok156 (hg) ?_|refine aa2 (hg) ?_
   cases hgo:a.goes i with
   | true=>
    rw[hgo] at hsn;simp only[go_sem,w1];refine ⟨hil,hn,itv,?_⟩
    rw[hsn]; simpa using hM
   | false=>
    rw[hgo] at hsn;simp only[go_sem];refine af1 fok155 (ec3 u pp mid a.v tv _ itv a.l _ ⟨6,i,0⟩ hM (fun hm=>?_) ?_) ?_
    ·rcases List.mem_append.1 hm with hm|hm
     ·rcases List.mem_append.1 hm with hm|hm
      ·obtain ⟨_,h4,_⟩:=a.cu8 hm; simp only at h4; omega
      ·obtain ⟨h4,_⟩:=a.dq6 hm; simp only at h4; omega
     ·obtain ⟨_,q',hq',e'⟩:=a.gc7 hm; simp only at e'; omega
    ·have:=a.gv7 hi; omega
    rintro v s ⟨⟨s1,s2⟩,itv2,hM2⟩;refine ⟨s1,?_⟩;simp only[go_sem,w1];refine ⟨hil,by omega,itv2,?_⟩;rw[hsn,<- List.append_assoc]; exact hM2
  ·have d1:¬ (i:Int)<((a.p.inst.toNat:Nat):Int):=by omega
   have e:i=a.p.inst.toNat:=by omega
   simp only[go_sem,d1];exact ⟨hn,⟨itv,by rw[<- e]; exact hM⟩,_,rfl⟩
 clear hM hc itv2 hn;rintro e f t ⟨rfl,hn,⟨itv2,hM⟩,rst,rfl⟩;simp only[go_sem];have hR:=dv4 a hA;have hc:=hM.cell;have r2:a.r.cs[2]? = some (bi9 a.r.ai4):=rfl;refine ae5 (ai3 ?_);simp only[go_sem,hc,vcs,vlf]
 first|refine aa4 fok157 (hR) ?_|refine aa2 (hR) ?_
 simp only[go_sem,r2];refine av6 ?_;refine ab7 noT (fun j fr s=>fr=[(0,.ptr pp 0),(118,.int .i64 a.r.ai4.length),(119,.int .i64 (j:Int))]/\σ.next<=s.next/\∃ itv,MO s pp mid a.v tv allv itv a.l (a.owns a.l.length++a.as4 a.l.length++a.bv3 a.p.inst.toNat++a.fs4 j)) a.r.ai4.length ⟨rfl,hn,itv2,by rw[show a.fs4 0=[] from rfl,List.append_nil]; exact hM⟩ ?_;clear hM hc itv2 hn;rintro j fr u hj ⟨rfl,hn,itv,hM⟩;have hcu:=hM.cell;have hjb:=hA.ai4;by_cases hjl:j<a.r.ai4.length
 ·have d1:(j:Int)<a.r.ai4.length:=by omega
  have w1:=ad4 (i:=j) (by omega);have hg:=cb5 a j hA;have hsn:a.fs4 (j+1)=a.fs4 j++if !a.dropped j then [⟨7,j,0⟩] else []:=bs5 _ _ _
  simp only[go_sem,hcu,d1,vcs,vlf]
  first|refine aa4 fok32 (hg) ?_|refine aa2 (hg) ?_
  cases hgo:a.dropped j with
  | true=>
   rw[hgo] at hsn;simp only[go_sem,w1];refine ⟨hjl,hn,itv,?_⟩
   rw[hsn]; simpa using hM
  | false=>
   rw[hgo] at hsn;simp only[go_sem];refine af1 fok155 (ec3 u pp mid a.v tv _ itv a.l _ ⟨7,j,0⟩ hM (fun hm=>?_) ?_) ?_
   ·rcases List.mem_append.1 hm with hm|hm
    ·rcases List.mem_append.1 hm with hm|hm
     ·rcases List.mem_append.1 hm with hm|hm
      ·obtain ⟨_,h4,_⟩:=a.cu8 hm; simp only at h4; omega
      ·obtain ⟨h4,_⟩:=a.dq6 hm; simp only at h4; omega
     ·obtain ⟨h4,_⟩:=a.gc7 hm; simp only at h4; omega
    ·obtain ⟨_,q',hq',e'⟩:=a.iu1 hm; simp only at e'; omega
   ·have:=a.ie2 hj; omega
   rintro v s ⟨⟨s1,s2⟩,itv2,hM2⟩;refine ⟨s1,?_⟩;simp only[go_sem,w1];refine ⟨hjl,by omega,itv2,?_⟩;rw[hsn,<- List.append_assoc]; exact hM2
 ·have d1:¬ (j:Int)<a.r.ai4.length:=by omega
  have e:j=a.r.ai4.length:=by omega
  simp only[go_sem,d1];exact ⟨hn,itv,by unfold ac5.items; rw[<- e]; exact hM⟩
end Go.Id.Tryz
