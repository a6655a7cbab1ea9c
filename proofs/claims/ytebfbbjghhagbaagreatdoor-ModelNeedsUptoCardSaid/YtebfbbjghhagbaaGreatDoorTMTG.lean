/- Whether a rich dependency is whole. Conditions: sizes that fit. -/
import Derived.Test.YtebfbbjghhagbaaGreatDoorTMPD
import Derived.Test.YtebfbbjghhagbaaGreatDoorMw
import Derived.Test.YtebfbbjghhagbaaGreatDoorFwZb
import Derived.Test.YtebfbbjghhagbaaGreatDoorTMSJ
import Derived.Test.YtebfbbjghhagbaaGreatDoorTMSD
set_option linter.all false
namespace Go.Id.Tryz
open Go Go.Id Go.Proofs Go.Id.Md
set_option maxRecDepth 100000
def msV (m:Nat×Nat×Bool):IV:=.tuple [.int .i64 m.1,.int .i64 m.2.1,.bool m.2.2]
theorem ew7 {s:Store}(m:Nat×Nat×Bool):cm1 s 0 (.tuple [.int .i64 m.1,.int .i64 m.2.1,.bool m.2.2]) (msV m):=.keep _ (.tuple _ (az8 (.int _ _) (.int _ _) (.bool _)))
theorem fp5 (r:aa8):r.fit->r.count<2^31->PC Tryz.prog EE 219 [.agg r.cs] (msV r.ms):=by
 induction r using aa8.ind with
 | h k d xs ih=>
  intro hf hc;obtain ⟨f1,f2,f3,f4,f5⟩:=aa8.bk1.1 hf;have hms:∀ a∈xs,a.ms.1<=a.count/\a.ms.2.1<=a.count:=fun a _=>aa8.ir9 a
  refine ae8 hE fok219 (nZ rfl) (ae2 (af7 _)) ?_;by_cases k1:k=1
  ·subst k1;have hm:=bo1 d f3.1 f3.2.1 f3.2.2;by_cases h0:xs.length=0
   ·have h0':(xs.length:Int)=0:=by omega
    simp only[ic219,go_sem,aa8.an4,aa8.kind,aa8.dep,aa8.args,h0']
    first|refine aa4 fok84 (hm) ?_|refine aa2 (hm) ?_
    simp only[go_sem];have e:aa8.ms (.mk 1 d xs)=(1,0,ah5 d):=by simp[aa8.ms,h0]
    rw[e]; exact ew7 (1,0,ah5 d)
   ·have h0':¬ (xs.length:Int)=0:=by omega
    simp only[ic219,go_sem,aa8.an4,aa8.kind,aa8.dep,aa8.args,h0'];have e:aa8.ms (.mk 1 d xs)=(1,0,false):=by simp[aa8.ms,h0]
    rw[e]; exact ew7 (1,0,false)
  have e:aa8.ms (.mk k d xs)=((aa8.msL xs 1 0 (as4 k d xs.length)).1,(aa8.msL xs 1 0 (as4 k d xs.length)).2.1+1,(aa8.msL xs 1 0 (as4 k d xs.length)).2.2):=by rw[aa8.ms,if_neg k1]
  have hdd:decide (d=by2)=(decide (d.name=[])&&(decide (d.op=0)&&(decide (d.evr.am7=0)&&(decide (d.evr.ver=[])&&decide (d.evr.rel=[]))))):=by
   obtain ⟨n,o,e,v,r⟩:=d;simp only[by2,fq2,Dep.mk.injEq,EVR.mk.injEq,Bool.decide_and]
  have hg:∀ a∈xs,a.fit/\a.count<2^31/\a.count<=aa8.counts xs:=fun a ha=>by
   have h1:a.count<=aa8.counts xs:=by
    clear hc f4 f5 hms ih hdd e hf
    induction xs with
    | nil=>cases ha
    | cons y ys ihy=>
     simp only[aa8.counts];rcases List.mem_cons.1 ha with rfl|ha
     ·omega
     ·have:=ihy ha; omega
   have h2:aa8.counts xs<2^31:=by simp only[aa8.count] at hc; omega
   exact ⟨f5 a ha,by omega,h1⟩
  have hcs:aa8.counts xs<2^31:=by simp only[aa8.count] at hc; omega
  -- what holds of Kinds and counts
  by_cases q1:1<k
  case' neg=>
   have hH:as4 k d xs.length=false:=by simp[as4,q1]
   simp only[ic219,go_sem,aa8.an4,aa8.kind,aa8.dep,aa8.args,k1,q1]
  case' pos=>
   by_cases q2:k<=7
   case' neg=>
    have hH:as4 k d xs.length=false:=by simp[as4,q2]
    simp only[ic219,go_sem,aa8.an4,aa8.kind,aa8.dep,aa8.args,k1,q1,q2]
   case' pos=>
    by_cases q3:d=by2
    case' neg=>
     have hd1:decide (d=by2)=false:=decide_eq_false q3;rw[hdd] at hd1;have hH:as4 k d xs.length=false:=by simp[as4,q3]
     simp only[ic219,go_sem,aa8.an4,aa8.kind,aa8.dep,aa8.args,k1,q1,q2,hd1]
    case' pos=>
     have hd1:decide (d=by2)=true:=decide_eq_true q3;rw[hdd] at hd1;by_cases q4:2<=xs.length
     case' neg=>
      have q4':¬ (2:Int)<=xs.length:=by omega
      have hH:as4 k d xs.length=false:=by simp[as4,q4]
      simp only[ic219,go_sem,aa8.an4,aa8.kind,aa8.dep,aa8.args,k1,q1,q2,hd1,q4']
     case' pos=>
      have q4':(2:Int)<=xs.length:=by omega
      obtain ⟨ks,hk1,hk2,hk3⟩:∃ ks,(if 0<=k/\k<8 then cn2 (k.toNat*2) (EE 2) else none)=some (.ac1 ks)/\(ks.drop 1).head? = some (.int .i64 (ej5 k))/\1<ks.length:=by
       have hk:k=2\/k=3\/k=4\/k=5\/k=6\/k=7:=by omega
       rcases hk with rfl|rfl|rfl|rfl|rfl|rfl<;>exact ⟨_,rfl,rfl,by decide⟩
      simp only[ic219,go_sem,aa8.an4,aa8.kind,aa8.dep,aa8.args,k1,q1,q2,hd1,q4',hk1,hk2,hk3];by_cases q5:xs.length<=ej5 k
      case' neg=>
       have q5':¬ (xs.length:Int)<=ej5 k:=by omega
       have hH:as4 k d xs.length=false:=by simp[as4,q5]
       simp only[go_sem,q5']
      case' pos=>
       have q5':(xs.length:Int)<=ej5 k:=by omega
       have hH:as4 k d xs.length=true:=by simp[as4, *]
       simp only[go_sem,q5']
  all_goals
   rw[e]
   refine ab7 noT (fun i fr t=>∃ (p dd:Nat) (ok:Bool),fr=[(2,.int .i64 p),(3,.int .i64 dd),(4,.bool ok),(54,.aa5 (xs.map aa8.cs)),(55,.int .i64 xs.length),(56,.int .i64 (i:Int))]/\p+aa8.counts (xs.drop i)<=1+aa8.counts xs/\dd<=aa8.counts xs /\
    aa8.msL xs 1 0 (as4 k d xs.length)=aa8.msL (xs.drop i) p dd ok) xs.length ⟨1,0,_,rfl,Nat.le_refl _,Nat.zero_le _,by rw[hH]; rfl⟩ ?_
   rintro i fr t hle ⟨p,dd,ok,rfl,hp,hdl,hI⟩;rw[hI];by_cases hlt:i<xs.length
   ·obtain ⟨x,hx,_,hdr,hget,htk⟩:=ae3 xs i hlt;have c1:(i:Int)<xs.length:=by omega
    have c2:(0:Int)<=i:=by omega
    have w1:=ad6 (i:=i) (by omega);rw[hdr] at hp hI ⊢;obtain ⟨x1,x2,x3⟩:=hg x hx
    cases ok with
    | false=>
     have w3:=ad6 (i:=dd) (by omega);simp only[go_sem,c1,c2,hget,ab9,ac6,ab4,w3,aa8.msL]
     exact ew7 (p,dd+1,false)
    | true=>
     have hA:=ih x hx x1 x2;have hml:=aa8.ir9 x;simp only[aa8.counts] at hp;have w2:IntKind.i64.wrap ((p:Int)+x.ms.1)=((p+x.ms.1:Nat):Int):=by rw[wrap64 (by omega) (by omega)]; omega
     simp only[go_sem,c1,c2,hget,ab9,ac6,ab4]
     first|refine aa4 fok219 (hA) ?_|refine aa2 (hA) ?_
     simp only[go_sem,msV,w1,w2];have wm:(if (x.ms.2.1:Int)>dd then (x.ms.2.1:Int) else dd)=((max dd x.ms.2.1:Nat):Int):=by split<;>omega
     exact ⟨hlt,p+x.ms.1,max dd x.ms.2.1,x.ms.2.2,by rw[wm],by omega,by omega,by simp[aa8.msL]⟩
   ·have hi':i=xs.length:=by omega
    subst hi';have c1:¬ (xs.length:Int)<xs.length:=by omega
    have w3:=ad6 (i:=dd) (by omega);rw[List.drop_length];simp only[go_sem,c1,w3,aa8.msL];exact ew7 (p,dd+1,ok)
theorem hc7 (r:aa8)(h1:r.fit)(h2:r.count<2^31):PC Tryz.prog EE 158 [.agg r.cs] (.bool (ea3 r)):=by
 refine ae8 hE fok158 (nZ rfl) (ae2 (af7 _)) ?_;have h:=fp5 r h1 h2;unfold ea3;generalize r.ms=m at *;obtain ⟨p,d,ok⟩:=m;simp only[ic158,go_sem,ab9,ac6,ab4]
 first|refine aa4 fok219 (h) ?_|refine aa2 (h) ?_
 have e1:((p:Int)<=24)=(p<=24):=by simp only[eq_iff_iff]; omega
 have e2:((d:Int)<=8)=(d<=8):=by simp only[eq_iff_iff]; omega
 cases ok with
 | false=>simp only[go_sem,msV]; exact ab3 _
 | true=>
  by_cases q1:p<=24
  ·have q1':(p:Int)<=24:=by omega
   by_cases q2:d<=8
   ·have q2':(d:Int)<=8:=by omega
    simp only[go_sem,msV,q1,q1',q2,q2']; exact ab3 _
   ·have q2':¬ (d:Int)<=8:=by omega
    simp only[go_sem,msV,q1,q1',q2,q2']; exact ab3 _
  ·have q1':¬ (p:Int)<=24:=by omega
   simp only[go_sem,msV,q1,q1']; exact ab3 _
open Go Go.Id Go.Proofs Go.Shelf Go.Id.Md
def ed6 (c:Nat->Bool)(n:Nat):List IV:=(List.range n).map fun j=>.bool (c j)
theorem bj6 (c:Nat->Bool)(n:Nat):(ed6 c n).length=n:=by simp[ed6]
theorem gj7:∀ n:Nat,rep [IV.bool false] n=ed6 (fun _=>false) n:=by
 intro n
 have h:∀ m,rep [IV.bool false] m=List.replicate m (.bool false):=by
  intro m
  induction m with
  | zero=>rfl
  | succ m ih=>show [IV.bool false]++rep _ m=_; rw[ih]; rfl
 rw[h];exact List.ext_getElem (by simp[ed6]) fun i h1 h2=>by simp[ed6]
theorem ew8 (c:Nat->Bool){n i:Nat}(h:i<(ed6 c n).length):(ed6 c n)[i]=.bool (c i):=by simp[ed6]
theorem hc9 (c:Nat->Bool){n j:Nat}(h:j<n)(x:Bool):ba9 (ed6 c n) j [.bool x]=ed6 (fun i=>if i=j then x else c i) n:=by
 refine List.ext_getElem (by rw[aj4 (by rw[bj6]; simp only[List.length_singleton]; omega),bj6,bj6]) fun i h1 h2=>?_
 rw[ew8];rw[bj6] at h2;unfold ba9;simp only[List.getElem_append,List.length_take,bj6,List.getElem_take,List.getElem_drop,List.length_append,List.length_singleton,ew8];by_cases e:i=j
 ·subst e;have g1:¬ i<min i n:=by omega
  have g2:i<min i n+1:=by omega
  simp only[g1,g2,dite_false,dite_true,if_true,List.getElem_singleton]
 ·by_cases e2:i<j
  ·have g1:i<min j n:=by omega
   have g2:i<min j n+1:=by omega
   simp only[g1,g2,dite_true,e,if_false]
  ·have g1:¬ i<min j n:=by omega
   have g2:¬ i<min j n+1:=by omega
   have g3:j+1+(i-(min j n+1))=i:=by omega
   simp only[g2,g3,dite_false,e,if_false]
theorem iw5 {pt:PT}{ct:CT}{P:Program}{E:Nat->IV}{e id:Nat}{z:List IV}{x:IX}{fr:Frm}{σ:Store}{K:IV->Store->Prop}:opT pt ct P E (.db8 e z x) id fr σ K=bu4 (dn3 (x.ev E fr)) fun n=>K (.slice id 0 n e) (σ.put id (.row (rep z n))):=rfl
theorem ig9 {K:Nat->Prop}(n:Nat)(h:n<=2147483648):bu4 (dn3 (.int .i64 (n:Int))) K=K n:=by
 have h1:(0:Int)<=n/\(n:Int)<=2147483648:=by omega
 show bu4 (if 0<=(n:Int)/\(n:Int)<=2147483648 then some ((n:Int).toNat) else none) K=K n;rw[if_pos h1]; rfl
theorem hd8 {s:Store}{S:Nat->Prop}{id n:Nat}{c:Nat->Bool}(hid:¬ S id)(ho:s.obj id=some (.row (ed6 c n))):Frz s S (.slice id 0 n 1) (.aa5 (((List.range n).map c).map dq5)):=by
 have hl:(((List.range n).map c).map dq5).length=n:=by simp
 refine .slice id 0 n 1 (ed6 c n) _ hid (.inr ho) hl (by rw[bj6]; omega) (fun i hi=>?_) fun i hi j hj=>?_
 ·simp[List.getD_eq_getElem?_getD,hi,dq5]
 ·have hj0:j=0:=by omega
  subst hj0;have e2:((((List.range n).map c).map dq5).getD i []).getD 0 .undef=.bool (c i):=by simp[List.getD_eq_getElem?_getD,hi,dq5]
  have e3:(ed6 c n).getD (0+(i*1+0)) .undef=.bool (c i):=by simp[List.getD_eq_getElem?_getD,hi,ed6]
  rw[e2,e3];exact .keep _ (.bool _)
abbrev ew9 (st:List Bool):IV:=.aa5 (st.map dq5)
def al5 (l:List aa3):IV:=.ac1 [(ah3 l).v,.int .i64 l.length]
def am6 (l:List aa3)(st:List Bool):List IV:=[al5 l,ew9 st]
theorem gj8 (st:List Bool):Bnd 0 (ew9 st):=.aa5 _ fun e he c hc=>by
 obtain ⟨b,_,rfl⟩:=List.mem_map.1 he
 cases hc with
 | head=>exact .bool _
 | tail _ h=>cases h
theorem as7 (l:List aa3):Bnd 0 (al5 l):=.ac1 _ (aj6 (bc2 _) (.int _ _))
theorem ec9 (l:List aa3)(st:List Bool):∀ c∈am6 l st,Bnd 0 c:=aj6 (as7 l) (gj8 st)
theorem ex1 (l:List aa3)(zs:List Int)(hl:l.length<=256)(hz:zs.length<2^40):PC Tryz.prog EE 159 [al5 l,.aa5 (zs.map Md.ah8)] (.agg (am6 l (stB l.length zs))):=by
 refine ae8 hE fok159 (nZ rfl) (aj6 (as7 l) (ag9 zs)) ?_;have hnc:(al5 l)=.ac1 [(ah3 l).v,.int .i64 l.length]:=rfl;simp only[ic159,go_sem,al5];simp only[iw5,ig9 _ (show l.length<=2147483648 by omega),go_sem];rw[gj7]
 refine ab7 noT (fun i fr t=>∃ c:Nat->Bool,fr=[(0,al5 l),(4,.ptr 0 0),(5,.ptr 2 0),(15,.aa5 (zs.map Md.ah8)),(16,.int .i64 zs.length),(17,.int .i64 (i:Int))]/\2<t.next/\t.obj 0=some (.cells [.ab6,.aa1])/\t.obj 1=some (.row (ed6 c l.length)) /\
  t.obj 2=some (.cells [al5 l,.slice 1 0 l.length 1])/\∀ j,j<l.length->c j=decide ((j:Int)∈zs.take i)) zs.length ⟨fun _=>false,rfl,by show 2<3; omega,rfl,rfl,rfl,fun j hj=>by simp⟩ ?_
 rintro i fr t hle ⟨c,rfl,hnx,o0,o1,o2,hc⟩;by_cases hlt:i<zs.length
 ·obtain ⟨x,hx,_,hdr,hget,htk⟩:=ae3 zs i hlt;have c1:(i:Int)<zs.length:=by omega
  have c2:(0:Int)<=i:=by omega
  have w1:=ad6 (i:=i) (by omega);by_cases q1:0<=x
  ·by_cases q2:x<(l.length:Nat)
   ·have hxn:x.toNat<l.length:=by omega
    have r2:=hc9 c hxn true;have r3:x.toNat+1<=(ed6 c l.length).length:=by rw[bj6]; omega
    simp only[go_sem,c1,c2,hget,Md.ah8,q1,q2,al5,o2,o1,Nat.zero_add,Nat.mul_one,r2,r3,w1];refine ⟨hlt,fun i=>if i=x.toNat then true else c i,hnx,o0,rfl,fun j hj=>?_⟩
    ·show (if j=x.toNat then true else c j)=_;rw[htk];by_cases e:j=x.toNat
     ·rw[if_pos e];have:(j:Int)=x:=by omega
      simp[this]
     ·rw[if_neg e,hc j hj];have:¬ (j:Int)=x:=by omega
      simp[this]
   ·simp only[go_sem,c1,c2,hget,Md.ah8,q1,q2,al5,w1];refine ⟨hlt,c,hnx,o0,o1,o2,fun j hj=>?_⟩;have:¬ (j:Int)=x:=by omega
    rw[hc j hj,htk]; simp[this]
  ·simp only[go_sem,c1,c2,hget,Md.ah8,q1,w1];refine ⟨hlt,c,hnx,o0,o1,o2,fun j hj=>?_⟩;have:¬ (j:Int)=x:=by omega
   rw[hc j hj,htk]; simp[this]
 ·have hi':i=zs.length:=by omega
  subst hi';have c1:¬ (zs.length:Int)<zs.length:=by omega
  have hst:stB l.length zs=(List.range l.length).map c:=by
   unfold stB;refine List.map_congr_left fun m hm=>?_
   rw[hc m (List.mem_range.1 hm),List.take_length]
  simp only[go_sem,c1,o0,o1,o2];rw[hst];exact ⟨rfl,.ii3 (.cons (.keep _ (as7 l)) (.cons (hd8 (Nat.not_lt_zero _) (by rw[aa7,if_neg (by decide)]; exact o1)) .nil))⟩
theorem gj9 {d:Dep}(h:ah5 d=true):Dep.small d:=by
 obtain ⟨h1,h2,h3,h4⟩:=dq2 h;exact ⟨h1,h2,by have:=h3.1; omega,by have:=h3.2; omega⟩
theorem ad5 (l:List aa3)(st:List Bool):(am6 l st).all IV.leaf=true:=rfl
theorem ae9 (l:List aa3)(st:List Bool):(am6 l st).take 2=am6 l st:=rfl
theorem ae4 (l:List aa3)(st:List Bool):(am6 l st).length=2:=rfl
theorem gk1 (l:List aa3)(st:List Bool):((am6 l st).drop 1).head? = some (ew9 st):=rfl
theorem gk2 (l:List aa3)(st:List Bool):(am6 l st).head? = some (al5 l):=rfl
theorem ed1 {st:List Bool}{n:Nat}(h:n<st.length):(st.map dq5).getD n []=[.bool (st.getD n false)]:=by simp[List.getD_eq_getElem?_getD,h,dq5]
abbrev gk3 (l:List aa3)(r:aa8):Prop:=∀ st:List Bool,st.length=l.length->PC Tryz.prog EE 160 [.agg (am6 l st),.agg r.cs] (.bool (r.tr l st))
theorem an7 (l:List aa3)(st:List Bool):Bnd 0 (.agg (am6 l st)):=.agg _ (ec9 l st)
theorem dm2 (l:List aa3)(st:List Bool):Bnd 0 (.ac1 (am6 l st)):=.ac1 _ (ec9 l st)
theorem ca7 (r:aa8):Bnd 0 (.ac1 r.cs):=.ac1 _ (dr7 r)
theorem jf9 (d:Dep)(xs:List aa8)(k:Int):((aa8.mk k d xs).cs.drop 1).take 5=d.cs:=by rw[aa8.an4]; rfl
theorem iw6 (d:Dep)(xs:List aa8)(k:Int):((aa8.mk k d xs).cs.drop 1).length=6:=by rw[aa8.an4]; rfl
theorem bk6 (d:Dep)(xs:List aa8)(k:Int):((aa8.mk k d xs).cs.drop 6).head? = some (ai5 xs):=by rw[aa8.an4]; rfl
theorem cy7 (d:Dep)(xs:List aa8)(k:Int):(aa8.mk k d xs).cs.head? = some (.int .u8 k):=by rw[aa8.an4]; rfl
theorem ed2 {xs:List aa8}{n:Nat}(h:n<xs.length):(xs.map aa8.cs).getD n []=(xs[n]).cs:=by simp[List.getD_eq_getElem?_getD,h]
theorem hd9 (l:List aa3)(st:List Bool)(n:Nat)(h:n<st.length):PC Tryz.prog EE 258 [.int .i64 n,.ac1 (am6 l st)] (.bool (st.getD n false)):=by
 refine ae8 hE fok258 (nZ rfl) (aj6 (.int _ _) (dm2 l st)) ?_;have c1:(n:Int)<st.length:=by omega
 have c2:(0:Int)<=n:=by omega
 have g:=ed1 h;simp only[ic258,go_sem,ae4,gk1,c1,c2,g];exact ab2 rfl
theorem ih4 (l:List aa3)(hl:l.length<=256)(hs:∀ p∈l,Pkg.small p)(st:List Bool)(hst:st.length=l.length)(d:Dep)(hd:ah5 d=true) :
  PC Tryz.prog EE 220 [.agg (am6 l st),.agg (aa8.mk 1 d []).cs] (.bool ((al9 l d).any fun n=>st.getD n.toNat false)):=by
 refine ae8 hE fok220 (nZ rfl) (aj6 (an7 l st) (af7 _)) ?_;have h1:=bo2 l d (by omega) hs (gj9 hd)
 have h2:=bg9 (al9 l d) 258 [] [.ac1 (am6 l st)] (fun n=>st.getD n.toNat false) (by have:=al8 (fun p=>provides p d) l; unfold al9; omega) fok258.1 fun x hx=>by
  obtain ⟨m,rfl,hm⟩:=numsOf_at hx;rw[Int.toNat_natCast];exact hd9 l st m (by omega)
 have ht:al5 l=.ac1 [(ah3 l).v,.int .i64 l.length]:=rfl;have h7:=ab4 (.mk 1 d []);simp only[ic220,go_sem,ae4,ad5,gk2,ab9,h7,jf9,iw6,ht]
 first|refine aa4 fok196 (h1) ?_|refine aa2 (h1) ?_
 simp only[go_sem,ae4,ad5]
 first|refine aa4 fok99 (h2) ?_|refine aa2 (h2) ?_
 simp only[go_sem];exact ab2 rfl
theorem ih5 (l:List aa3)(st:List Bool)(hst:st.length=l.length)(x:aa8)(hx:gk3 l x):PC Tryz.prog EE 259 [.agg x.cs,.ac1 (am6 l st)] (.bool !(x.tr l st)):=by
 refine ae8 hE fok259 (nZ rfl) (aj6 (af7 _) (dm2 l st)) ?_;have h:=hx st hst;simp only[ic259,go_sem,ae4,ae9,ad5,ab9,ac6,ab4]
 first|refine aa4 fok160 (h) ?_|refine aa2 (h) ?_
 simp only[go_sem];exact ab2 rfl
theorem hn9 (l:List aa3)(st:List Bool)(hst:st.length=l.length)(k:Int)(d:Dep)(xs:List aa8)(hn:xs.length<2^62)(hx:∀ x∈xs,gk3 l x):PC Tryz.prog EE 221 [.agg (am6 l st),.agg (aa8.mk k d xs).cs] (.bool ((aa8.trs l xs).all fun f=>f st)):=by
 refine ae8 hE fok221 (nZ rfl) (aj6 (an7 l st) (af7 _)) ?_;have h:=ck6 xs 259 [] [.ac1 (am6 l st)] (fun x=>!(x.tr l st)) hn fok259.1 fun x hm=>ih5 l st hst x (hx x hm)
 have e:(aa8.trs l xs).all (fun f=>f st)=!xs.any fun x=>!(x.tr l st):=by
  rw[aa8.dq4,List.all_map,List.not_any_eq_all_not];congr 1; funext x; simp
 have h7:=ab4 (.mk k d xs);rw[e];simp only[ic221,go_sem,ae4,ad5,ab9,h7,bk6]
 first|refine aa4 fok247 (h) ?_|refine aa2 (h) ?_
 simp only[go_sem];exact ab2 rfl
theorem iw7 (l:List aa3)(st:List Bool)(hst:st.length=l.length)(k:Int)(d:Dep)(xs:List aa8)(hn:xs.length<2^62)(hx:∀ x∈xs,gk3 l x):PC Tryz.prog EE 222 [.agg (am6 l st),.agg (aa8.mk k d xs).cs] (.bool ((aa8.trs l xs).any fun f=>f st)):=by
 refine ae8 hE fok222 (nZ rfl) (aj6 (an7 l st) (af7 _)) ?_;have h:=ck6 xs 160 [.agg (am6 l st)] [] (fun x=>x.tr l st) hn fok160.1 fun x hm=>hx x hm st hst
 have e:(aa8.trs l xs).any (fun f=>f st)=xs.any fun x=>x.tr l st:=by
  rw[aa8.dq4,List.any_map]; rfl
 have h7:=ab4 (.mk k d xs);rw[e];simp only[ic222,go_sem,ae4,ad5,ae9,ab9,h7,bk6]
 first|refine aa4 fok247 (h) ?_|refine aa2 (h) ?_
 simp only[go_sem];exact ab2 rfl
theorem ed3 {l:List aa3}{xs:List aa8}{n:Nat}(h:n<xs.length)(st:List Bool):((aa8.trs l xs).getD n ff) st=(xs[n]).tr l st:=by rw[aa8.dq4]; simp[List.getD_eq_getElem?_getD,h]
theorem gk4 (l:List aa3)(xs:List aa8):(aa8.trs l xs).length=xs.length:=by rw[aa8.dq4,List.length_map]
theorem iw8 (l:List aa3)(st:List Bool)(hst:st.length=l.length)(k:Int)(d:Dep)(xs:List aa8)(hn:2<=xs.length)(hx:∀ x∈xs,gk3 l x):PC Tryz.prog EE 223 [.agg (am6 l st),.agg (aa8.mk k d xs).cs]
  (.bool (if ((aa8.trs l xs).getD 1 ff) st then ((aa8.trs l xs).getD 0 ff) st else decide ((aa8.trs l xs).length<3)||((aa8.trs l xs).getD 2 ff) st)):=by
 refine ae8 hE fok223 (nZ rfl) (aj6 (an7 l st) (af7 _)) ?_;have n0:0<xs.length:=by omega
 have n1:1<xs.length:=by omega
 have h0:=hx _ (List.getElem_mem n0) st hst;have h1:=hx _ (List.getElem_mem n1) st hst;have g0:=ed2 n0;have g1:=ed2 n1;have c0:(0:Int)<xs.length:=by omega
 have c1:(1:Int)<xs.length:=by omega
 have h7:=ab4 (.mk k d xs);rw[ed3 n1,ed3 n0,gk4];simp only[ic223,go_sem,ae4,ad5,ae9,ab9,h7,bk6,c0,c1,g0,g1,ac6,ab4]
 first|refine aa4 fok160 (h1) ?_|refine aa2 (h1) ?_
 cases xs[1].tr l st with
 | true=>
  simp only[go_sem,ae4,ad5,ae9,ab9,h7,bk6,c0,c1,g0,g1,ac6,ab4]
  first|refine aa4 fok160 (h0) ?_|refine aa2 (h0) ?_
  simp only[go_sem]
  exact ab2 rfl
 | false=>
  by_cases q:xs.length<3
  ·have q':(xs.length:Int)<3:=by omega
   simp only[go_sem,ae4,ad5,ae9,ab9,h7,bk6,q'];exact ab2 (by simp[q])
  ·have q':¬ (xs.length:Int)<3:=by omega
   have n2:2<xs.length:=by omega
   have h2:=hx _ (List.getElem_mem n2) st hst;have g2:=ed2 n2;have c2:(2:Int)<xs.length:=by omega
   rw[ed3 n2];simp only[go_sem,ae4,ad5,ae9,ab9,h7,bk6,q',c2,g2,ac6,ab4]
   first|refine aa4 fok160 (h2) ?_|refine aa2 (h2) ?_
   simp only[go_sem];exact ab2 (by simp[q])
theorem gk5 (l:List aa3)(st:List Bool)(hst:st.length=l.length)(k:Int)(d:Dep)(xs:List aa8)(hn:2<=xs.length)(hn2:xs.length<2^31)(hx:∀ x∈xs,gk3 l x):PC Tryz.prog EE 224 [.agg (am6 l st),.agg (aa8.mk k d xs).cs]
  (.bool (if ((aa8.trs l xs).getD 1 ff) st then decide ((aa8.trs l xs).length=3)&&((aa8.trs l xs).getD 2 ff) st else ((aa8.trs l xs).getD 0 ff) st)):=by
 refine ae8 hE fok224 (nZ rfl) (aj6 (an7 l st) (af7 _)) ?_;have n0:0<xs.length:=by omega
 have n1:1<xs.length:=by omega
 have h0:=hx _ (List.getElem_mem n0) st hst;have h1:=hx _ (List.getElem_mem n1) st hst;have g0:=ed2 n0;have g1:=ed2 n1;have c0:(0:Int)<xs.length:=by omega
 have c1:(1:Int)<xs.length:=by omega
 have h7:=ab4 (.mk k d xs);rw[ed3 n1,ed3 n0,gk4];simp only[ic224,go_sem,ae4,ad5,ae9,ab9,h7,bk6,c0,c1,g0,g1,ac6,ab4]
 first|refine aa4 fok160 (h1) ?_|refine aa2 (h1) ?_
 cases xs[1].tr l st with
 | false=>
  simp only[go_sem,ae4,ad5,ae9,ab9,h7,bk6,c0,c1,g0,g1,ac6,ab4]
  first|refine aa4 fok160 (h0) ?_|refine aa2 (h0) ?_
  simp only[go_sem]
  exact ab2 rfl
 | true=>
  by_cases q:xs.length=3
  ·have q':(xs.length:Int)=3:=by omega
   have n2:2<xs.length:=by omega
   have h2:=hx _ (List.getElem_mem n2) st hst;have g2:=ed2 n2;have c2:(2:Int)<3:=by omega
   rw[ed3 n2];simp only[go_sem,ae4,ad5,ae9,ab9,h7,bk6,q',c2,g2,ac6,ab4]
   first|refine aa4 fok160 (h2) ?_|refine aa2 (h2) ?_
   simp only[go_sem];exact ab2 (by simp[q])
  ·have q':¬ (xs.length:Int)=3:=by omega
   simp only[go_sem,ae4,ad5,ae9,ab9,h7,bk6,q'];exact ab2 (by simp[q])
theorem ih6 (c n:Nat):stB c [(n:Int)]=ea4 c n:=by
 unfold stB ea4;refine List.map_congr_left fun m _=>decide_eq_decide.2 ?_
 rw[List.mem_singleton]; omega
theorem he3 (c n:Nat):(ea4 c n).length=c:=by simp[ea4]
theorem ho4 (l:List aa3)(hl:l.length<=256)(st:List Bool)(hst:st.length=l.length)(g:Nat)(cap:List IV)(q:List Bool->Bool)(hok:okF Tryz.prog g=true)(hcap:∀ c∈cap,Bnd 0 c)
  (hq:∀ s2:List Bool,s2.length=l.length->PC Tryz.prog EE g (.agg (am6 l s2)::cap) (.bool (q s2))):PC Tryz.prog EE 260 [.agg (am6 l st),.func (.func g) [] cap] (.bool (gu8 st fun n=>q (ea4 st.length n))):=by
 have hbf:Bnd 0 (.func (.func g) [] cap):=.func _ _ _ (fun c hc=>by cases hc) hcap;refine ae8 hE fok260 (nZ rfl) (aj6 (an7 l st) hbf) ?_;simp only[ic260,go_sem,ae4,ad5,gk1];refine ab7 noT (fun i fr t=>fr=[(1,.func (.func g) [] cap),(2,.ac1 (am6 l st)),(8,ew9 st),(9,.int .i64 st.length),(10,.int .i64 (i:Int))]/\∀ j,j<i->(st.getD j false&&q (ea4 st.length j))=false) st.length ⟨rfl,fun j hj=>absurd hj (Nat.not_lt_zero _)⟩ ?_;rintro i fr t hle ⟨rfl,hI⟩;by_cases hlt:i<st.length
 ·have c1:(i:Int)<st.length:=by omega
  have c2:(0:Int)<=i:=by omega
  have w1:=ad6 (i:=i) (by omega);have g1:=ed1 hlt
  cases hb:st.getD i false with
  | false=>
   rw[hb] at g1;simp only[go_sem,c1,c2,g1,w1];refine ⟨hlt,fun j hj=>?_⟩;by_cases e:j=i
   ·subst e; rw[hb]; rfl
   ·exact hI j (by omega)
  | true=>
   rw[hb] at g1;have hS:=ex1 l [(i:Int)] hl (by show 1<_; decide);rw[ih6] at hS;have hQ:=hq (ea4 l.length i) (he3 _ _);simp only[go_sem,c1,c2,g1,ae4,gk2]
   have hfz:Frz (({ next:=t.next+1,obj:=t.obj }:Store).put t.next (.row [.int .i64 i])) (fun _=>false=true) (.slice t.next 0 1 1) (.aa5 ([(i:Int)].map Md.ah8)):=
    .slice t.next 0 1 1 [.int .i64 i] _ Bool.false_ne_true (.inr (by rw[aa7,if_pos rfl])) rfl (Nat.le_refl 1) (fun k hk=>by
     have:k=0:=by omega
     subst this; rfl) fun k hk j hj=>by
     have:k=0:=by omega
     have:j=0:=by omega
     subst this; subst k;exact .keep _ (.int _ _)
   refine ah1 fok159 (fz5 (S:=fun _=>false) (args':=[al5 l,.aa5 ([(i:Int)].map Md.ah8)]) rfl (fun k hk=>by
    match k,hk with
    | 0,_=>exact .keep _ ((as7 l).weak fun _ h=>absurd h (Nat.not_lt_zero _))
    | 1,_=>exact hfz) (eh8 hS)) ?_
   rintro v s ⟨rfl,rfl⟩;refine ⟨Nat.le_refl _,?_⟩;simp only[go_sem];refine dt1 hok hQ ?_
   cases hv:q (ea4 l.length i) with
   | true=>
    have e:gu8 st (fun n=>q (ea4 st.length n))=true:=by
     unfold gu8;exact List.any_eq_true.2 ⟨i,List.mem_range.2 hlt,by rw[hb,hst]; show (true&&q (ea4 l.length i))=true; rw[hv]; rfl⟩
    simp only[go_sem,e]
    exact ab3 _
   | false=>
    simp only[go_sem,w1];refine ⟨hlt,fun j hj=>?_⟩;by_cases e:j=i
    ·subst e; rw[hst,hv,Bool.and_false]
    ·exact hI j (by omega)
 ·have hi':i=st.length:=by omega
  subst hi';have c1:¬ (st.length:Int)<st.length:=by omega
  have e:gu8 st (fun n=>q (ea4 st.length n))=false:=by
   unfold gu8;refine List.any_eq_false.2 fun n hn=>?_
   rw[hI n (List.mem_range.1 hn)];exact Bool.false_ne_true
  simp only[go_sem,c1,e];exact ab3 _
theorem he4 (l:List aa3)(k:Int)(d:Dep)(xs:List aa8)(hn:xs.length<2^62)(hx:∀ x∈xs,gk3 l x)(st:List Bool)(hst:st.length=l.length) :
  PC Tryz.prog EE 261 [.agg (am6 l st),.ac1 (aa8.mk k d xs).cs] (.bool ((aa8.trs l xs).all fun f=>f st)):=by
 refine ae8 hE fok261 (nZ rfl) (aj6 (an7 l st) (ca7 _)) ?_;have h:=hn9 l st hst k d xs hn hx;simp only[ic261,go_sem,ae4,ad5,ae9,ab9,ac6,ab4]
 first|refine aa4 fok221 (h) ?_|refine aa2 (h) ?_
 simp only[go_sem];exact ab2 rfl
theorem en8 (l:List aa3)(k:Int)(d:Dep)(xs:List aa8)(hn:2<=xs.length)(hx:∀ x∈xs,gk3 l x)(st:List Bool)(hst:st.length=l.length) :
  PC Tryz.prog EE 262 [.agg (am6 l st),.ac1 (aa8.mk k d xs).cs] (.bool (((aa8.trs l xs).getD 0 ff) st&&!((aa8.trs l xs).getD 1 ff) st)):=by
 refine ae8 hE fok262 (nZ rfl) (aj6 (an7 l st) (ca7 _)) ?_;have n0:0<xs.length:=by omega
 have n1:1<xs.length:=by omega
 have h0:=hx _ (List.getElem_mem n0) st hst;have h1:=hx _ (List.getElem_mem n1) st hst;have g0:=ed2 n0;have g1:=ed2 n1;have c0:(0:Int)<xs.length:=by omega
 have c1:(1:Int)<xs.length:=by omega
 rw[ed3 n1,ed3 n0];simp only[ic262,go_sem,ae4,ad5,ae9,ab9,bk6,c0,c1,g0,g1,ac6,ab4]
 first|refine aa4 fok160 (h0) ?_|refine aa2 (h0) ?_
 cases xs[0].tr l st with
 | false=>simp only[go_sem]; exact ab2 rfl
 | true=>
  simp only[go_sem,ae4,ad5,ae9,ab9,bk6,c0,c1,g0,g1,ac6,ab4]
  first|refine aa4 fok160 (h1) ?_|refine aa2 (h1) ?_
  simp only[go_sem];exact ab2 rfl
theorem ih7 (l:List aa3)(hl:l.length<=256)(st:List Bool)(hst:st.length=l.length)(k:Int)(d:Dep)(xs:List aa8)(hn:xs.length<2^62)(hx:∀ x∈xs,gk3 l x) :
  PC Tryz.prog EE 225 [.agg (am6 l st),.agg (aa8.mk k d xs).cs] (.bool (gu8 st fun n=>(aa8.trs l xs).all fun f=>f (ea4 st.length n))):=by
 refine ae8 hE fok225 (nZ rfl) (aj6 (an7 l st) (af7 _)) ?_;have h:=ho4 l hl st hst 261 [.ac1 (aa8.mk k d xs).cs] (fun s2=>(aa8.trs l xs).all fun f=>f s2) fok261.1 (aj1 (ca7 _)) fun s2 h2=>he4 l k d xs hn hx s2 h2
 have h7:=ab4 (.mk k d xs);simp only[ic225,go_sem,ae4,ad5,ae9,ab9,h7]
 first|refine aa4 fok260 (h) ?_|refine aa2 (h) ?_
 simp only[go_sem];exact ab2 rfl
theorem fp6 (l:List aa3)(hl:l.length<=256)(st:List Bool)(hst:st.length=l.length)(k:Int)(d:Dep)(xs:List aa8)(hn:2<=xs.length)(hx:∀ x∈xs,gk3 l x) :
  PC Tryz.prog EE 226 [.agg (am6 l st),.agg (aa8.mk k d xs).cs] (.bool (gu8 st fun n=>((aa8.trs l xs).getD 0 ff) (ea4 st.length n)&&!((aa8.trs l xs).getD 1 ff) (ea4 st.length n))):=by
 refine ae8 hE fok226 (nZ rfl) (aj6 (an7 l st) (af7 _)) ?_;have h:=ho4 l hl st hst 262 [.ac1 (aa8.mk k d xs).cs] (fun s2=>((aa8.trs l xs).getD 0 ff) s2&&!((aa8.trs l xs).getD 1 ff) s2) fok262.1 (aj1 (ca7 _)) fun s2 h2=>en8 l k d xs hn hx s2 h2
 have h7:=ab4 (.mk k d xs);simp only[ic226,go_sem,ae4,ad5,ae9,ab9,h7]
 first|refine aa4 fok260 (h) ?_|refine aa2 (h) ?_
 simp only[go_sem];exact ab2 rfl
theorem jg1 (l:List aa3)(hl:l.length<=256)(hs:∀ p∈l,Pkg.small p)(r:aa8):r.Good->gk3 l r:=by
 induction r using aa8.ind with
 | h k d xs ih=>
  intro hg st hst;refine ae8 hE fok160 (nZ rfl) (aj6 (an7 l st) (af7 _)) ?_;have h7:=ab4 (.mk k d xs);have h8:=ac6 (.mk k d xs);have nfl:IV.ab8.leaf=true:=rfl;have e:(aa8.mk k d xs).tr l st=trK l k d (aa8.trs l xs) st:=by rw[aa8.tr]
  rw[e]
  cases hg with
  | atom _ hd=>
   have h:=ih4 l hl hs st hst d hd;unfold trK;simp only[ic160,go_sem,ae4,ad5,ae9,ab9,h7,h8,cy7,nfl]
   first|refine aa4 fok220 (h) ?_|refine aa2 (h) ?_
   simp only[go_sem]
   exact ab2 rfl
  | node _ _ _ h1 h2 h3 h4 h5=>
   have hx:∀ x∈xs,gk3 l x:=fun x hx=>ih x hx (h5 x hx)
   have hn:xs.length<=24:=by
    unfold ej5 at h4;split at h4
    ·omega
    split at h4
    ·omega
    split at h4<;>omega
   have c2:=hn9 l st hst k d xs (by omega) hx;have c3:=iw7 l st hst k d xs (by omega) hx;have c4:=iw8 l st hst k d xs (by omega) hx;have c5:=gk5 l st hst k d xs (by omega) (by omega) hx;have c6:=ih7 l hl st hst k d xs (by omega) hx;have c7:=fp6 l hl st hst k d xs (by omega) hx;unfold trK;have hk:k=2\/k=3\/k=4\/k=5\/k=6\/k=7:=by omega
   rcases hk with rfl|rfl|rfl|rfl|rfl|rfl
   ·simp only[ic160,go_sem,ae4,ad5,ae9,ab9,h7,h8,cy7,nfl]
    first|refine aa4 fok221 (c2) ?_|refine aa2 (c2) ?_
    simp only[go_sem];exact ab2 rfl
   ·simp only[ic160,go_sem,ae4,ad5,ae9,ab9,h7,h8,cy7,nfl]
    first|refine aa4 fok222 (c3) ?_|refine aa2 (c3) ?_
    simp only[go_sem];exact ab2 rfl
   ·simp only[ic160,go_sem,ae4,ad5,ae9,ab9,h7,h8,cy7,nfl]
    first|refine aa4 fok223 (c4) ?_|refine aa2 (c4) ?_
    simp only[go_sem];exact ab2 rfl
   ·simp only[ic160,go_sem,ae4,ad5,ae9,ab9,h7,h8,cy7,nfl]
    first|refine aa4 fok224 (c5) ?_|refine aa2 (c5) ?_
    simp only[go_sem];exact ab2 rfl
   ·simp only[ic160,go_sem,ae4,ad5,ae9,ab9,h7,h8,cy7,nfl]
    first|refine aa4 fok225 (c6) ?_|refine aa2 (c6) ?_
    simp only[go_sem];exact ab2 rfl
   ·simp only[ic160,go_sem,ae4,ad5,ae9,ab9,h7,h8,cy7,nfl]
    first|refine aa4 fok226 (c7) ?_|refine aa2 (c7) ?_
    simp only[go_sem];exact ab2 rfl
theorem ih8 (c:Nat)(zs:List Int):(stB c zs).length=c:=by simp[stB]
theorem cm9 (l:List aa3)(hl:l.length<=256)(hs:∀ p∈l,Pkg.small p)(zs:List Int)(hz:zs.length<2^40)(r:aa8)(h1:r.fit)(h2:r.count<2^31) :
  PC Tryz.prog EE 97 [al5 l,.aa5 (zs.map Md.ah8),.agg r.cs] (.bool (ia9 l zs r)):=by
 refine ae8 hE fok97 (nZ rfl) (az8 (as7 l) (ag9 zs) (af7 _)) ?_;have hw:=hc7 r h1 h2;have hS:=ex1 l zs hl hz;have hnl:∀ d:TypeId,bv7 (.pointer d) (al5 l)=some false:=fun _=>rfl
 unfold ia9;simp only[ic97,go_sem,hnl,ab9,ac6,ab4]
 first|refine aa4 fok158 (hw) ?_|refine aa2 (hw) ?_
 cases hq:ea3 r with
 | false=>simp only[go_sem]; exact ab2 rfl
 | true=>
  have hg:r.ms.2.2=true:=by
   unfold ea3 at hq;simp only[Bool.and_eq_true] at hq;exact hq.1.1
  have hi:=jg1 l hl hs r (aa8.ia8 r hg) (stB l.length zs) (ih8 _ _);simp only[go_sem]
  first|refine aa4 fok159 (hS) ?_|refine aa2 (hS) ?_
  simp only[go_sem,ab9,ac6,ab4]
  first|refine aa4 fok160 (hi) ?_|refine aa2 (hi) ?_
  simp only[go_sem];exact ab2 rfl
theorem en9 (p:Pool)(hl:(ad4 p).length<=256)(hf:∀ x∈ad4 p,x.Fit/\x.Tiny):PC Tryz.prog EE 94 [p.v] (.tuple [al5 (ad4 p),.int .i64 0]):=by
 refine ae8 hE fok94 (nZ rfl) (aj1 (ax6 p)) ?_;have hrl:p.rows.length=(ad4 p).length:=by simp[ad4]
 have hM:=bj1 p (fun x hx=>(hf _ (List.mem_map_of_mem (f:=fun x:bb3=>x.pkg) hx)).1) (by omega) (fun x hx=>by
  have:=(hf _ (List.mem_map_of_mem (f:=fun x:bb3=>x.pkg) hx)).2;have a:=this.av5.1; have b:=this.obs.1; have c:=this.files; omega)
 have hM:PC Tryz.prog EE 89 [p.v] (.tuple [(ah3 (ad4 p)).v,.int .i64 0]):=hM;have hC:=ay8 p;rw[hrl] at hC;have hb:=as7 (ad4 p);unfold al5 at *;have xlf:(ah3 (ad4 p)).v.leaf=true:=rfl;have xcs:(ah3 (ad4 p)).v.cs=[(ah3 (ad4 p)).v]:=rfl;generalize (ah3 (ad4 p)).v=X at *;simp only[ic94,go_sem]
 first|refine aa4 fok89 (hM) ?_|refine aa2 (hM) ?_
 simp only[go_sem]
 first|refine aa4 fok27 (hC) ?_|refine aa2 (hC) ?_
 simp only[go_sem,xlf,xcs];exact .keep _ (.tuple _ (aj6 hb (.int _ _)))
theorem cl4 (a:ac4):PC Tryz.prog EE 26 [a.v] a.p.v:=by
 refine ae8 hE fok26 (nZ rfl) (aj1 (ag8 a)) ?_;have hb:=ax6 a.p;unfold ac4.v ac4.cs;simp only[ic26,go_sem,ar9];exact .keep _ hb
theorem du3 (a:ac4)(hA:AOK a):PC Tryz.prog EE 157 [a.v] (.agg a.r.cs):=by
 refine ae8 hE fok157 (nZ rfl) (aj1 (ag8 a)) ?_;have hO:=hn7 a.r (by have:=hA.ah4; omega) (by have:=hA.ah9; omega);have hb:=bc4 a.r;unfold ac4.v ac4.cs;unfold Req.cs at *;simp only[ic157,go_sem,ar9]
 first|refine aa4 fok90 (hO) ?_|refine aa2 (hO) ?_
 simp only[go_sem];exact .keep _ (.agg _ hb)
end Go.Id.Tryz
