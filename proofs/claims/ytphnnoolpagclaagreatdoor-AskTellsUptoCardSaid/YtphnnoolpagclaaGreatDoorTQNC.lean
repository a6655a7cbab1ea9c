/- MatchNames: by its run; the pools and the indexes from their contracts. Conditions: none. -/
import Derived.Test.YtphnnoolpagclaaGreatDoorTQQD
import Derived.Test.YtphnnoolpagclaaGreatDoorTQQN
import Derived.Test.YtphnnoolpagclaaGreatDoorFwZb
import Derived.Test.YtphnnoolpagclaaGreatDoorTQPB
import Derived.Test.YtphnnoolpagclaaGreatDoorMv
set_option linter.all false
namespace Go.Id.Tryz
open Go Go.Id Go.Proofs Go.Id.Md
set_option maxRecDepth 100000
def mP (name:Str)(as2 obs:List Dep)(files:List Str):aa3:={ name:=name,evr:=⟨0,[49],[49]⟩,ao9:=1,vendor:=[],provides:=as2,requires:=[],conflicts:=[],aa8:=obs,ac1:=[],ab8:=[],suggests:=[],ad6:=[],files:=files }
def dP (name:Str)(op:Int)(ver:Str):Dep:=⟨name,op,⟨0,ver,[]⟩⟩
def cP (name:Str)(as2 obs files:IV):List IV:=[.str name,.int .i64 0,.str [49],.str [49],.int .u8 1,.str [],as2,.aa1,.aa1,obs,.aa1,.aa1,.aa1,.aa1,files]
def mA:aa3:=mP [97] [] [] []
def mB:aa3:=mP [98] [dP [97] 2 [50]] [dP [97] 1 [50]] []
def mC:aa3:=mP [99] [] [] [[47,102]]
def mT:aa3:=mP [97] [dP [97] 2 [51],dP [97] 2 [52],dP [97] 0 []] [dP [97] 0 [],dP [98] 0 [],dP [98] 1 [57]] []
def mD:aa3:=mP [98] [] [] []
def cA:List IV:=cP [97] .aa1 .aa1 .aa1
def cB:List IV:=cP [98] (deps [dP [97] 2 [50]]) (deps [dP [97] 1 [50]]) .aa1
def cC:List IV:=cP [99] .aa1 .aa1 (strs [[47,102]])
def cT:List IV:=cP [97] (deps [dP [97] 2 [51],dP [97] 2 [52],dP [97] 0 []]) (deps [dP [97] 0 [],dP [98] 0 [],dP [98] 1 [57]]) .aa1
def cD:List IV:=cP [98] .aa1 .aa1 .aa1
theorem ht4 {name:Str}{as2 obs:List Dep}{files:List Str}(h1:name.length<100)(h2:as2.length<100)(h3:obs.length<100)(h4:files.length<100)(h5:(as2++obs).all (fun d=>decide (d.name.length<100)&&decide (d.evr.ver.length<100)&&decide (d.evr.rel.length<100))=true)(h6:files.all (fun s=>decide (s.length<100))=true):(mP name as2 obs files).Fit:=by
 have hd:∀ d∈as2++obs,d.fit:=fun d hd=>by
  have:=List.all_eq_true.1 h5 d hd;simp only[Bool.and_eq_true,decide_eq_true_eq] at this;exact ⟨by omega,by show d.evr.ver.length<_; omega,by show d.evr.rel.length<_; omega⟩
 refine ⟨by show name.length<_; omega,⟨by show ([49]:Str).length<2^62; decide,by show ([49]:Str).length<2^62; decide⟩,⟨by show as2.length<_; omega,fun d h=>hd d (List.mem_append_left _ h)⟩,⟨by show obs.length<_; omega,fun d h=>hd d (List.mem_append_right _ h)⟩,⟨by show files.length<_; omega,fun s h=>by have:=List.all_eq_true.1 h6 s h; simp only[decide_eq_true_eq] at this; omega⟩,fun x hx=>?_⟩;simp only[aa3.rows,mP,List.mem_cons,List.not_mem_nil,or_false] at hx;rcases hx with rfl|rfl|rfl|rfl|rfl|rfl<;>exact ⟨by decide,fun r h=>by cases h⟩
theorem cn9:∀ p∈[mA,mB,mC,mT,mD],p.Fit:=by
 intro p hp;simp only[List.mem_cons,List.not_mem_nil,or_false] at hp;rcases hp with rfl|rfl|rfl|rfl|rfl<;>exact ht4 (by decide) (by decide) (by decide) (by decide) (by decide) (by decide)
def p1M:Pool:=⟨rowsOf [mA,mB,mC] (-1) 1025,3,[([97],[0]),([98],[1]),([99],[2])]⟩
def p2M:Pool:=⟨rowsOf [mB,mC] (-1) 1025++rowsOf [mA] 0 0++rowsOf [mT,mD] 1 0,2,[([98],[0,4]),([99],[1]),([97],[2,3])]⟩
theorem ip5:hm8 (cq1 [] [mA,mB,mC])=.tuple [p1M.v,.int .i64 0]:=by kernel_rfl
theorem ip6:hm8 (cq1 [⟨0,[mA]⟩,⟨0,[mT,mD]⟩] [mB,mC])=.tuple [p2M.v,.int .i64 0]:=by kernel_rfl
def a1:List IV:=[.aa1,.aa5 [cA,cB,cC]]
def a2:List IV:=[.aa5 [[.int .i64 0,.aa5 [cA]],[.int .i64 0,.aa5 [cT,cD]]],.aa5 [cB,cC]]
theorem e1:PC Tryz.prog EE 5 a1 (.tuple [p1M.v,.int .i64 0]):=by
 rw[<- ip5];refine hj8 (args':=[bf3 [],ar8 [mA,mB,mC]]) (by kernel_rfl) (cd6 [] [mA,mB,mC] (by decide) (by decide) (by decide) (fun r h=>by cases h) fun p hp=>cn9 p ?_);simp only[List.mem_cons,List.not_mem_nil,or_false] at hp ⊢;rcases hp with h|h|h<;>simp[h]
theorem e2:PC Tryz.prog EE 5 a2 (.tuple [p2M.v,.int .i64 0]):=by
 rw[<- ip6];refine hj8 (args':=[bf3 [⟨0,[mA]⟩,⟨0,[mT,mD]⟩],ar8 [mB,mC]]) (by kernel_rfl) (cd6 _ _ (by decide) (by decide) (by decide) (fun r hr=>?_) fun p hp=>cn9 p ?_)
 ·simp only[List.mem_cons,List.not_mem_nil,or_false] at hr;rcases hr with rfl|rfl
  ·exact ⟨by decide,fun p hp=>cn9 p (by simp only[List.mem_cons,List.not_mem_nil,or_false] at hp ⊢; simp[hp])⟩
  ·exact ⟨by decide,fun p hp=>cn9 p (by simp only[List.mem_cons,List.not_mem_nil,or_false] at hp ⊢; rcases hp with h|h<;>simp[h])⟩
 ·simp only[List.mem_cons,List.not_mem_nil,or_false] at hp ⊢;rcases hp with h|h<;>simp[h]
theorem ej1 {p:Pool}{l:List aa3}(h:p.rows.map (·.pkg)=l)(hl:∀ x∈l,x∈[mA,mB,mC,mT,mD]):(∀ r∈p.rows,r.pkg.Fit)/\∀ r∈p.rows,r.pkg.provides.length+r.pkg.files.length+r.pkg.aa8.length+3<=2^15:=by
 have hm:∀ r∈p.rows,r.pkg∈[mA,mB,mC,mT,mD]:=fun r hr=>hl _ (by rw[<- h]; exact List.mem_map_of_mem hr)
 refine ⟨fun r hr=>cn9 _ (hm r hr),fun r hr=>?_⟩;have:=hm r hr;generalize r.pkg=x at this;simp only[List.mem_cons,List.not_mem_nil,or_false] at this;rcases this with rfl|rfl|rfl|rfl|rfl<;>decide
theorem e3:PC Tryz.prog EE 43 [p1M.v] (.tuple [(ae2 [mA,mB,mC]).v,.int .i64 0]):=by
 obtain ⟨h1,h2⟩:=ej1 (p:=p1M) (l:=[mA,mB,mC]) rfl (fun x hx=>by simp only[List.mem_cons,List.not_mem_nil,or_false] at hx ⊢; rcases hx with h|h|h<;>simp[h]);exact bq1 p1M h1 (by decide) h2
theorem e4:PC Tryz.prog EE 43 [p2M.v] (.tuple [(ae2 [mB,mC,mA,mT,mD]).v,.int .i64 0]):=by
 obtain ⟨h1,h2⟩:=ej1 (p:=p2M) (l:=[mB,mC,mA,mT,mD]) rfl (fun x hx=>by simp only[List.mem_cons,List.not_mem_nil,or_false] at hx ⊢; rcases hx with h|h|h|h|h<;>simp[h]);exact bq1 p2M h1 (by decide) h2
end Go.Id.Tryz
set_option linter.all false
namespace Go.Id.Tryz
open Go Go.Id Go.Proofs Go.Id.Md
set_option maxRecDepth 100000
theorem ab2 {S:Nat->Prop}{s:Store}{a b:Bool}(h:a=b):Frz s S (.bool a) (.bool b):=h▸ab6 a
theorem co1 {S:Nat->Prop}{s:Store}{k:IntKind}{a b:Int}(h:a=b):Frz s S (.int k a) (.int k b):=h▸.keep _ (.int _ _)
theorem cd8 (a:Int):PC Tryz.prog EE 35 [.int .u8 a] (.bool (bb3 a)):=by
 refine af5 hE fok35 (nZ rfl) (am3 (.int _ _)) ?_;simp only[ic35,go_sem]
 first|refine aa4 fok86 (ao2 a) ?_|refine aa2 (ao2 a) ?_
 unfold bb3
 cases ai7 a with
 | false=>simp only[go_sem]; exact ab2 rfl
 | true=>
  by_cases h:a=1
  ·simp only[go_sem,h]; exact ab2 rfl
  ·simp only[go_sem,h]; exact ab2 (by simp[h])
theorem ej2 (a b:Int):PC Tryz.prog EE 56 [.int .u8 a,.int .u8 b] (.bool (bt3 a b)):=by
 refine af5 hE fok56 (nZ rfl) (aj2 (.int _ _) (.int _ _)) ?_;have ha:=cd8 a;have hb:=cd8 b;simp only[ic56,go_sem]
 first|refine aa4 fok35 (ha) ?_|refine aa2 (ha) ?_
 unfold bt3
 cases bb3 a with
 | false=>simp only[go_sem]; exact ab2 rfl
 | true=>
  simp only[go_sem]
  first|refine aa4 fok35 (hb) ?_|refine aa2 (hb) ?_
  cases bb3 b with
  | false=>simp only[go_sem]; exact ab2 rfl
  | true=>
   by_cases h:a=b
   ·simp only[go_sem,h]; exact ab2 (by simp)
   ·simp only[go_sem,h]; exact ab2 (by simp[h])
theorem fa9 (a b:Int):PC Tryz.prog EE 67 [.int .u8 a,.int .u8 b] (.bool (ar7 a b)):=by
 refine af5 hE fok67 (nZ rfl) (aj2 (.int _ _) (.int _ _)) ?_;have ha:=ao2 a;have hb:=ao2 b;have hc:=ej2 a b;simp only[ic67,go_sem]
 first|refine aa4 fok86 (ha) ?_|refine aa2 (ha) ?_
 unfold ar7
 cases ai7 a with
 | false=>simp only[go_sem]; exact ab2 rfl
 | true=>
  simp only[go_sem]
  first|refine aa4 fok86 (hb) ?_|refine aa2 (hb) ?_
  cases ai7 b with
  | false=>simp only[go_sem]; exact ab2 rfl
  | true=>
   simp only[go_sem]
   first|refine aa4 fok56 (hc) ?_|refine aa2 (hc) ?_
   simp only[go_sem];exact ab2 (by simp)
def gm6:List IV:=[.int .i64 0,.int .i64 0,.int .i64 0,.int .i64 0,.int .i64 0,.int .i64 0,.int .i64 0,.int .i64 0,.int .i64 0,.int .i64 0,.int .i64 0,.int .i64 2,.int .i64 1,.int .i64 3,.int .i64 0,.int .i64 0,.int .i64 2,.int .i64 0,.int .i64 1,.int .i64 0,.int .i64 0,.int .i64 2,.int .i64 0,.int .i64 0,.int .i64 1]
theorem dr9:PC Tryz.prog EE 151 [] (.agg gm6):=by
 refine af5 hE fok151 (nZ rfl) (fun a h=>by cases h) ?_;simp only[ic151,go_sem];exact .keep _ (as9 10 _ (by kernel_rfl))
theorem gw3 (m a:Int)(h1:ai7 m=true)(h2:ai7 a=true):PC Tryz.prog EE 106 [.int .u8 m,.int .u8 a] (.int .i64 (ay1 m a)):=by
 unfold ai7 at h1 h2;simp only[Bool.and_eq_true,decide_eq_true_eq] at h1 h2;have hm:m=1\/m=2\/m=3\/m=4:=by omega
 have ha:a=1\/a=2\/a=3\/a=4:=by omega
 rcases hm with rfl|rfl|rfl|rfl<;>rcases ha with rfl|rfl|rfl|rfl
 all_goals
  refine af5 hE fok106 (nZ rfl) (aj2 (.int _ _) (.int _ _)) ?_;simp only[ic106,go_sem]
  first|refine aa4 fok86 (ao2 _) ?_|refine aa2 (ao2 _) ?_
  simp only[go_sem,ai7]
  first|refine aa4 fok86 (ao2 _) ?_|refine aa2 (ao2 _) ?_
  simp only[go_sem,ai7]
  first|refine aa4 fok151 (dr9) ?_|refine aa2 (dr9) ?_
  simp only[go_sem,gm6,List.drop_succ_cons,List.drop_zero,List.getElem?_cons_succ,List.getElem?_cons_zero];exact .keep _ (.int _ _)
theorem ej3 (m a:Int)(h:ai7 m=false\/ai7 a=false):ay1 m a=0:=by
 unfold ai7 at h;simp only[Bool.and_eq_false_iff,decide_eq_false_iff_not] at h;unfold ay1
 repeat' split
 all_goals first|rfl|omega
theorem gf9 (m a:Int):PC Tryz.prog EE 106 [.int .u8 m,.int .u8 a] (.int .i64 (ay1 m a)):=by
 have hm:=ao2 m;have ha:=ao2 a
 cases h1:ai7 m with
 | false=>
  rw[ej3 m a (.inl h1)];refine af5 hE fok106 (nZ rfl) (aj2 (.int _ _) (.int _ _)) ?_;rw[h1] at hm;simp only[ic106,go_sem]
  first|refine aa4 fok86 (hm) ?_|refine aa2 (hm) ?_
  simp only[go_sem]
  exact co1 rfl
 | true=>
  cases h2:ai7 a with
  | false=>
   rw[ej3 m a (.inr h2)];refine af5 hE fok106 (nZ rfl) (aj2 (.int _ _) (.int _ _)) ?_;rw[h1] at hm;rw[h2] at ha;simp only[ic106,go_sem]
   first|refine aa4 fok86 (hm) ?_|refine aa2 (hm) ?_
   simp only[go_sem]
   first|refine aa4 fok86 (ha) ?_|refine aa2 (ha) ?_
   simp only[go_sem]
   exact co1 rfl
  | true=>exact gw3 m a h1 h2
theorem gw4 (m a:Int):PC Tryz.prog EE 54 [.int .u8 m,.int .u8 a] (.bool (gb4 m a)):=by
 refine af5 hE fok54 (nZ rfl) (aj2 (.int _ _) (.int _ _)) ?_;have h:=gf9 m a;simp only[ic54,go_sem]
 first|refine aa4 fok106 (h) ?_|refine aa2 (h) ?_
 simp only[go_sem];exact ab2 rfl
end Go.Id.Tryz
set_option linter.all false
namespace Go.Id.Tryz
open Go Go.Id Go.Proofs Go.Id.Md
set_option maxRecDepth 100000
theorem fr7 {f:Nat}{args args':List IV}{σ:Store}{Q:IV->Store->Prop}(hl:args'.length=args.length)(ha:∀ i,i<args.length->Frz σ (fun _=>true=true) (args.getD i .undef) (args'.getD i .undef))(h:C Tryz.prog EE f args' σ Q):C Tryz.prog EE f args σ Q :=
 gk7 (S:=fun _=>true) hl ha h
theorem gm7 (x:Index)(l:List Int)(hl:l.length<2^30)(k:Nat)(cap:List IV)(w:Int->Bool)(hok:okF Tryz.prog k=true)
  (hW:∀ n∈l,∃ m:Nat,n=m/\∃ h:m<x.all.length,PC Tryz.prog EE k (.agg x.all[m].cs::.int .i64 n::cap) (.bool (w n))) (σ:Store) :
  C Tryz.prog EE 49 [x.v,.aa5 (l.map Md.af2),.func (.func k) [] cap] σ (de5 σ (l.filter w)):=by
 have hx:x.v=.ab7 [.aa5 (x.all.map aa3.cs),.ak1 (nmV x.as2),.ak1 (nmV x.names),.ak1 (nmV x.over)]:=rfl;rw[hx];generalize IV.ak1 (nmV x.as2)=v1 at *;generalize IV.ak1 (nmV x.names)=v2 at *;generalize IV.ak1 (nmV x.over)=v3 at *;refine C_f fok49 (nZ rfl) ?_;simp only[ic49,go_sem];refine ab5 noT (fun i fr s=>∃ gv,fr=[(0,.ab7 [.aa5 (x.all.map aa3.cs),v1,v2,v3]),(2,.func (.func k) [] cap),(7,gv),(10,.aa5 (l.map Md.af2)),(11,.int .i64 l.length),(12,.int .i64 i)]/\Kept σ s/\ax4 s σ.next gv ((l.take i).filter w)) l.length ⟨.aa1,rfl,Kept.refl σ,.inl ⟨rfl,rfl⟩⟩ ?_;rintro i fr s hle ⟨gv,rfl,hk,hg⟩;by_cases hlt:i<l.length
 ·obtain ⟨n,hn,_,hdr,hget,htk⟩:=ad5 l i hlt;have c1:(i:Int)<l.length:=by omega
  have c2:(0:Int)<=i:=by omega
  have w1:=ad9 (i:=i) (by omega);obtain ⟨m,rfl,hm,hpc⟩:=hW n hn;have c3:(m:Int)<x.all.length:=by omega
  have c4:(0:Int)<=m:=by omega
  have hgm:(x.all.map aa3.cs).getD m []=x.all[m].cs:=by simp[List.getD_eq_getElem?_getD,hm]
  simp only[go_sem,c1,c2,c3,c4,hget,Md.af2,hgm,al9,al2,ah9,Int.toNat_natCast,List.length_map];refine ea2 hok hpc ?_
  cases hw:w (m:Int) with
  | false=>
   simp only[go_sem,w1];have e:(l.take (i+1)).filter w=(l.take i).filter w:=by rw[htk,List.filter_append]; simp[hw]
   rw[e]
   exact ⟨hlt,gv,rfl,hk,hg⟩
  | true=>
   have hlen:((l.take i).filter w).length<=i:=by
    refine Nat.le_trans (List.length_filter_le _ _) ?_;rw[List.length_take]; omega
   have hap:=fj5 (nid:=s.next) (hg.up 1) (m:Int) (by omega);have e:(l.take (i+1)).filter w=(l.take i).filter w++[(m:Int)]:=by rw[htk,List.filter_append]; simp[hw]
   simp only[go_sem,hap,w1,e];have hz:=ee6 hk hg (m:Int) (a:=1) (nid:=s.next) (Nat.le_refl _) (Nat.lt_succ_self _) rfl;exact ⟨hlt,_,rfl,hz.1,hz.2⟩
 ·have hi':i=l.length:=by omega
  subst hi';have c1:¬ (l.length:Int)<l.length:=by omega
  rw[List.take_length] at hg;simp only[go_sem,c1];exact ⟨hk,hg⟩
open Go Go.Id Go.Proofs Go.Shelf Go.Id.Md
theorem au1 (d:Job):d.cs.length=6:=rfl
theorem ao7 (d:Job):d.cs.all IV.leaf=true:=rfl
theorem aw6 (d:Job):d.cs.take 6=d.cs:=rfl
theorem ak9 (d:at5):d.cs.length=2:=rfl
theorem ah4 (d:at5):d.cs.all IV.leaf=true:=rfl
theorem am6 (d:at5):d.cs.take 2=d.cs:=rfl
theorem fr8 (d:Job):∀ c∈d.cs,Bnd 0 c:=ig5 (.int _ _) (.str _) (.int _ _) (.int _ _) (.str _) (.str _)
theorem ej4 (d:at5):∀ c∈d.cs,Bnd 0 c:=aj2 (.int _ _) (.int _ _)
theorem bu6 (l:List Job):Bnd 0 (av1 l):=.aa5 _ fun e he c hc=>by
 obtain ⟨d,_,rfl⟩:=List.mem_map.1 he; exact fr8 d c hc
theorem ay8 (l:List at5):Bnd 0 (am1 l):=.aa5 _ fun e he c hc=>by
 obtain ⟨d,_,rfl⟩:=List.mem_map.1 he; exact ej4 d c hc
theorem gg6 (d:Job):Bnd 0 (.agg d.cs):=.agg _ (fr8 d)
theorem bu7 (d:at5):Bnd 0 (.agg d.cs):=.agg _ (ej4 d)
theorem bu8 (xs:List Int)(g:Nat)(first cap:List IV)(q:Int->Bool)(hn:xs.length<2^62)(hok:okF Tryz.prog g=true)
  (hq:∀ x∈xs,PC Tryz.prog EE g (first++[IV.int .i64 x]++cap) (.bool (q x))):PC Tryz.prog EE 119 [.aa5 (xs.map Md.af2),.func (.func g) first cap] (.int .i64 (ah8 q xs 0)):=by
 refine av4 fok119 (nZ rfl) fun σ=>?_
 simp only[ic119,go_sem];refine ab5 noT (fun i fr s=>s=σ/\fr=[(0,.aa5 (xs.map Md.af2)),(1,.func (.func g) first cap),(7,.int .i64 xs.length),(8,.int .i64 i)]/\ah8 q xs 0=ah8 q (xs.drop i) i) xs.length ⟨rfl,rfl,rfl⟩ ?_;rintro i fr s hi ⟨rfl,rfl,hf⟩;by_cases hlt:i<xs.length
 ·obtain ⟨x,ha,_,hdr,hget,_⟩:=ad5 xs i hlt;have c1:(i:Int)<xs.length:=by omega
  have c2:(0:Int)<=i:=by omega
  have w1:=ad9 (i:=i) (by omega);rw[hdr] at hf;simp only[go_sem,c1,c2,hget,Md.af2];refine an2 hok (ew4 (hq x ha)) ?_;rintro v s ⟨rfl,rfl⟩;refine ⟨Nat.le_refl _,?_⟩
  cases hqe:q x with
  | true=>simp only[go_sem,hf,ah8,hqe,and_self]
  | false=>
   simp only[go_sem,w1];exact ⟨hlt,by rw[hf]; simp only[ah8,hqe,Bool.false_eq_true,if_false,Int.natCast_add,Int.natCast_one]⟩
 ·have hi':i=xs.length:=by omega
  subst hi';have c1:¬ (xs.length:Int)<xs.length:=by omega
  rw[List.drop_length] at hf;simp only[go_sem,c1,hf,ah8,and_self]
theorem co2 (xs:List Int)(g:Nat)(first cap:List IV)(q:Int->Bool)(hn:xs.length<2^62)(hok:okF Tryz.prog g=true)
  (hq:∀ x∈xs,PC Tryz.prog EE g (first++[IV.int .i64 x]++cap) (.bool (q x))):PC Tryz.prog EE 125 [.aa5 (xs.map Md.af2),.func (.func g) first cap] (.bool (xs.any q)):=by
 refine av4 fok125 (nZ rfl) fun σ=>?_
 simp only[ic125,go_sem]
 first|refine aa4 fok119 (bu8 xs g first cap q hn hok hq) ?_|refine aa2 (bu8 xs g first cap q hn hok hq) ?_
 simp only[go_sem,ar2,and_self]
theorem ds2 (xs:List Job)(g:Nat)(first cap:List IV)(q:Job->Bool)(hn:xs.length<2^62)(hok:okF Tryz.prog g=true)
  (hq:∀ x∈xs,PC Tryz.prog EE g (first++[IV.agg (Job.cs x)]++cap) (.bool (q x))):PC Tryz.prog EE 87 [.aa5 (xs.map Job.cs),.func (.func g) first cap] (.int .i64 (ah8 q xs 0)):=by
 refine av4 fok87 (nZ rfl) fun σ=>?_
 simp only[ic87,go_sem];refine ab5 noT (fun i fr s=>s=σ/\fr=[(0,.aa5 (xs.map Job.cs)),(1,.func (.func g) first cap),(7,.int .i64 xs.length),(8,.int .i64 i)]/\ah8 q xs 0=ah8 q (xs.drop i) i) xs.length ⟨rfl,rfl,rfl⟩ ?_;rintro i fr s hi ⟨rfl,rfl,hf⟩;by_cases hlt:i<xs.length
 ·obtain ⟨x,ha,_,hdr,hget,_⟩:=ad5 xs i hlt;have c1:(i:Int)<xs.length:=by omega
  have c2:(0:Int)<=i:=by omega
  have w1:=ad9 (i:=i) (by omega);rw[hdr] at hf;simp only[go_sem,c1,c2,hget,au1,aw6,ao7];refine an2 hok (ew4 (hq x ha)) ?_;rintro v s ⟨rfl,rfl⟩;refine ⟨Nat.le_refl _,?_⟩
  cases hqe:q x with
  | true=>simp only[go_sem,hf,ah8,hqe,and_self]
  | false=>
   simp only[go_sem,w1];exact ⟨hlt,by rw[hf]; simp only[ah8,hqe,Bool.false_eq_true,if_false,Int.natCast_add,Int.natCast_one]⟩
 ·have hi':i=xs.length:=by omega
  subst hi';have c1:¬ (xs.length:Int)<xs.length:=by omega
  rw[List.drop_length] at hf;simp only[go_sem,c1,hf,ah8,and_self]
theorem fr9 (xs:List Job)(g:Nat)(first cap:List IV)(q:Job->Bool)(hn:xs.length<2^62)(hok:okF Tryz.prog g=true)
  (hq:∀ x∈xs,PC Tryz.prog EE g (first++[IV.agg (Job.cs x)]++cap) (.bool (q x))):PC Tryz.prog EE 36 [.aa5 (xs.map Job.cs),.func (.func g) first cap] (.bool (xs.any q)):=by
 refine av4 fok36 (nZ rfl) fun σ=>?_
 simp only[ic36,go_sem]
 first|refine aa4 fok87 (ds2 xs g first cap q hn hok hq) ?_|refine aa2 (ds2 xs g first cap q hn hok hq) ?_
 simp only[go_sem,ar2,and_self]
theorem db4 (xs:List at5)(g:Nat)(first cap:List IV)(q:at5->Bool)(hn:xs.length<2^62)(hok:okF Tryz.prog g=true)
  (hq:∀ x∈xs,PC Tryz.prog EE g (first++[IV.agg (at5.cs x)]++cap) (.bool (q x))):PC Tryz.prog EE 92 [.aa5 (xs.map at5.cs),.func (.func g) first cap] (.int .i64 (ah8 q xs 0)):=by
 refine av4 fok92 (nZ rfl) fun σ=>?_
 simp only[ic92,go_sem];refine ab5 noT (fun i fr s=>s=σ/\fr=[(0,.aa5 (xs.map at5.cs)),(1,.func (.func g) first cap),(7,.int .i64 xs.length),(8,.int .i64 i)]/\ah8 q xs 0=ah8 q (xs.drop i) i) xs.length ⟨rfl,rfl,rfl⟩ ?_;rintro i fr s hi ⟨rfl,rfl,hf⟩;by_cases hlt:i<xs.length
 ·obtain ⟨x,ha,_,hdr,hget,_⟩:=ad5 xs i hlt;have c1:(i:Int)<xs.length:=by omega
  have c2:(0:Int)<=i:=by omega
  have w1:=ad9 (i:=i) (by omega);rw[hdr] at hf;simp only[go_sem,c1,c2,hget,ak9,am6,ah4];refine an2 hok (ew4 (hq x ha)) ?_;rintro v s ⟨rfl,rfl⟩;refine ⟨Nat.le_refl _,?_⟩
  cases hqe:q x with
  | true=>simp only[go_sem,hf,ah8,hqe,and_self]
  | false=>
   simp only[go_sem,w1];exact ⟨hlt,by rw[hf]; simp only[ah8,hqe,Bool.false_eq_true,if_false,Int.natCast_add,Int.natCast_one]⟩
 ·have hi':i=xs.length:=by omega
  subst hi';have c1:¬ (xs.length:Int)<xs.length:=by omega
  rw[List.drop_length] at hf;simp only[go_sem,c1,hf,ah8,and_self]
theorem fb1 (xs:List at5)(g:Nat)(first cap:List IV)(q:at5->Bool)(hn:xs.length<2^62)(hok:okF Tryz.prog g=true)
  (hq:∀ x∈xs,PC Tryz.prog EE g (first++[IV.agg (at5.cs x)]++cap) (.bool (q x))):PC Tryz.prog EE 39 [.aa5 (xs.map at5.cs),.func (.func g) first cap] (.bool (xs.any q)):=by
 refine av4 fok39 (nZ rfl) fun σ=>?_
 simp only[ic39,go_sem]
 first|refine aa4 fok92 (db4 xs g first cap q hn hok hq) ?_|refine aa2 (db4 xs g first cap q hn hok hq) ?_
 simp only[go_sem,ar2,and_self]
theorem gw5 {α:Type}[DecidableEq α](xs:List α)(n:α):xs.any (fun x=>decide (n=x))=decide (n∈xs):=by
 rw[Bool.eq_iff_iff]; simp
theorem gm8 (a b:at5):ft5 [1,1] true false (.agg a.cs) (.agg b.cs)=some (.bool (decide (a=b))):=by
 have e:decide (a=b)=(decide (a.kind=b.kind)&&decide (a.n=b.n)):=by
  cases a; cases b; simp only[at5.mk.injEq,Bool.decide_and]
 rw[e];unfold at5.cs;simp only[gj6,gj8,gj7,go_sem,Option.map_some,ia7,ai2,Bool.xor_false,Bool.and_true]
theorem ds4 (xs:List at5)(n:at5)(hn:xs.length<2^62):PC Tryz.prog EE 158 [am1 xs,.agg n.cs] (.int .i64 (ah8 (fun x=>decide (n=x)) xs 0)):=by
 refine af5 hE fok158 (nZ rfl) (aj2 (ay8 xs) (bu7 n)) ?_;simp only[ic158,go_sem,ah4];refine ab5 noT (fun i fr s=>fr=[(0,am1 xs),(3,.ab7 n.cs),(7,.int .i64 xs.length),(8,.int .i64 i)]/\ah8 (fun x=>decide (n=x)) xs 0=ah8 (fun x=>decide (n=x)) (xs.drop i) i) xs.length ⟨rfl,rfl⟩ ?_;rintro i fr s hi ⟨rfl,hf⟩;by_cases hlt:i<xs.length
 ·obtain ⟨x,ha,_,hdr,hget,_⟩:=ad5 xs i hlt;have c1:(i:Int)<xs.length:=by omega
  have c2:(0:Int)<=i:=by omega
  have w1:=ad9 (i:=i) (by omega);rw[hdr] at hf;by_cases e:n=x
  ·simp only[go_sem,c1,c2,hget,ak9,am6,ah4,gm8,e];subst e;exact co1 (by rw[hf]; simp[ah8])
  ·simp only[go_sem,c1,c2,hget,ak9,am6,ah4,gm8,e,w1];exact ⟨hlt,by rw[hf]; simp only[ah8,e,decide_false,Bool.false_eq_true,if_false,Int.natCast_add,Int.natCast_one]⟩
 ·have hi':i=xs.length:=by omega
  subst hi';have c1:¬ (xs.length:Int)<xs.length:=by omega
  rw[List.drop_length] at hf;simp only[go_sem,c1];exact co1 (by rw[hf]; rfl)
theorem fb2 (xs:List at5)(n:at5)(hn:xs.length<2^62):PC Tryz.prog EE 115 [am1 xs,.agg n.cs] (.bool (decide (n∈xs))):=by
 refine af5 hE fok115 (nZ rfl) (aj2 (ay8 xs) (bu7 n)) ?_;have h:=ds4 xs n hn;have e:=ar2 (fun x=>decide (n=x)) xs;rw[gw5] at e;simp only[ic115,go_sem,ak9,am6,ah4]
 first|refine aa4 fok158 (h) ?_|refine aa2 (h) ?_
 simp only[go_sem,e];exact ab2 rfl
theorem eb3 (xs:List Job)(hn:xs.length<=2147483648):PC Tryz.prog EE 95 [.aa5 (xs.map Job.cs)] (.aa5 (xs.map Job.cs)):=by
 cases hx:xs with
 | nil=>
  rw[List.map_nil];refine br7 ?_ ?_
  ·refine af5 hE fok95 (nZ rfl) (ae6 .aa1) ?_;simp only[ic95,go_sem,ak2];exact .dd3
  ·refine af5 hE fok95 (nZ rfl) (ae6 .ae7) ?_;simp only[ic95,go_sem,ak2];rw[br9 (by simp only[aa7,if_true]) rfl];simp only[go_sem]
   exact .dl9 _ _ _ (by simp only[aa7,if_true]; exact fun h=>(by cases h))
 | cons a as'=>
  have hne:xs.map Job.cs≠[]:=by rw[hx]; exact fun h=>(by cases h)
  have hall:∀ e∈xs.map Job.cs,e.length=6/\e.all IV.leaf=true:=fun e he=>by
   obtain ⟨x,_,rfl⟩:=List.mem_map.1 he;exact ⟨au1 x,ao7 x⟩
  rw[<- hx];refine af5 hE fok95 (nZ rfl) (ae6 (bu6 xs)) ?_;have hnil:∀ d,co9 (.slice d) (.aa5 (xs.map Job.cs))=some false:=fun d=>by rw[hx]; rfl
  simp only[ic95,go_sem,ak2,hnil];rw[ck4 (by simp only[aa7,if_true]) hne hall (by rw[List.length_map]; exact hn)];simp only[go_sem];refine Grow.frz (esz:=6) (es:=xs.map Job.cs) (.inr ⟨1,by rw[List.length_map],by simp only[aa7,if_true],Nat.lt_succ_self _⟩) (fun x hx=>(hall x hx).1) (fun _ _=>Nat.not_lt_zero _) (am4 (bu6 xs))
theorem ds5 (xs:List at5)(hn:xs.length<=2147483648):PC Tryz.prog EE 96 [.aa5 (xs.map at5.cs)] (.aa5 (xs.map at5.cs)):=by
 cases hx:xs with
 | nil=>
  rw[List.map_nil];refine br7 ?_ ?_
  ·refine af5 hE fok96 (nZ rfl) (ae6 .aa1) ?_;simp only[ic96,go_sem,ak2];exact .dd3
  ·refine af5 hE fok96 (nZ rfl) (ae6 .ae7) ?_;simp only[ic96,go_sem,ak2];rw[br9 (by simp only[aa7,if_true]) rfl];simp only[go_sem]
   exact .dl9 _ _ _ (by simp only[aa7,if_true]; exact fun h=>(by cases h))
 | cons a as'=>
  have hne:xs.map at5.cs≠[]:=by rw[hx]; exact fun h=>(by cases h)
  have hall:∀ e∈xs.map at5.cs,e.length=2/\e.all IV.leaf=true:=fun e he=>by
   obtain ⟨x,_,rfl⟩:=List.mem_map.1 he;exact ⟨ak9 x,ah4 x⟩
  rw[<- hx];refine af5 hE fok96 (nZ rfl) (ae6 (ay8 xs)) ?_;have hnil:∀ d,co9 (.slice d) (.aa5 (xs.map at5.cs))=some false:=fun d=>by rw[hx]; rfl
  simp only[ic96,go_sem,ak2,hnil];rw[ck4 (by simp only[aa7,if_true]) hne hall (by rw[List.length_map]; exact hn)];simp only[go_sem];refine Grow.frz (esz:=2) (es:=xs.map at5.cs) (.inr ⟨1,by rw[List.length_map],by simp only[aa7,if_true],Nat.lt_succ_self _⟩) (fun x hx=>(hall x hx).1) (fun _ _=>Nat.not_lt_zero _) (am4 (ay8 xs))
end Go.Id.Tryz
set_option linter.all false
namespace Go.Id.Tryz
open Go Go.Id Go.Proofs Go.Shelf Go.Id.Md
set_option maxRecDepth 100000
structure AOK (a:ab9):Prop where
 len:a.l.length<=256
 small:∀ p∈a.l,Pkg.small p
 fit:∀ p∈a.l,p.Fit
 tiny:∀ p∈a.l,p.Tiny
 inst:a.p.inst<=a.l.length
 af3:a.r.af3.length<=64
 ae1:a.r.ae1.length<=128
 gm9:∀ j∈a.r.af3,Dep.small j.dep
 ht5:∀ j∈a.r.af3,1<=j.kind/\j.kind<=4
theorem ah1 (a:ab9):Bnd 0 a.v:=.ab7 _ fun c hc=>by
 simp only[ab9.cs,List.mem_cons,List.not_mem_nil,or_false] at hc;rcases hc with rfl|rfl|rfl|rfl|rfl|rfl|rfl|rfl
 ·exact be8 _
 ·exact av7 _
 ·exact .int _ _
 ·exact .bool _
 ·exact bu6 _
 ·exact ay8 _
 ·exact .int _ _
 ·exact ao6 _
theorem ad3 {d:TypeId}{c:IV}{cs:List IV}:co9 (.pointer d) (.ab7 (c::cs))=some false:=rfl
theorem ci3 (a:ab9)(n:Int):PC Tryz.prog EE 53 [a.v,.int .i64 n] (.bool (a.is n)):=by
 refine af5 hE fok53 (nZ rfl) (aj2 (ah1 a) (.int _ _)) ?_;unfold ab9.is ab9.v ab9.cs;have hl:(a.l.map aa3.cs).length=a.l.length:=List.length_map ..;generalize a.l.map aa3.cs=es at *;generalize a.l.length=k at *;by_cases h1:0<=n
 ·by_cases h2:n<(k:Nat)
  ·simp only[ic53,go_sem,ad3,h1,h2,hl]; exact ab2 rfl
  ·simp only[ic53,go_sem,ad3,h1,h2,hl]; exact ab2 rfl
 ·simp only[ic53,go_sem,ad3,h1]; exact ab2 rfl
theorem co3 (a:ab9)(n:Int):PC Tryz.prog EE 60 [a.v,.int .i64 n] (.bool (a.job n)):=by
 refine af5 hE fok60 (nZ rfl) (aj2 (ah1 a) (.int _ _)) ?_;unfold ab9.job ab9.v ab9.cs;by_cases h1:0<=n
 ·by_cases h2:n<(a.r.af3.length:Nat)
  ·simp only[ic60,go_sem,ad3,h1,h2]; exact ab2 (by simp[h1, *])
  ·simp only[ic60,go_sem,ad3,h1,h2]; exact ab2 (by simp[h1, *])
 ·simp only[ic60,go_sem,ad3,h1]; exact ab2 rfl
theorem bd8 (a:ab9)(n:Int):PC Tryz.prog EE 63 [a.v,.int .i64 n] (.bool (a.inst n)):=by
 refine af5 hE fok63 (nZ rfl) (aj2 (ah1 a) (.int _ _)) ?_;have h:=ci3 a n;have hp:=bf4 a.p;unfold ab9.inst;unfold ab9.v ab9.cs at *;simp only[ic63,go_sem]
 first|refine aa4 fok53 (h) ?_|refine aa2 (h) ?_
 cases a.is n with
 | false=>simp only[go_sem]; exact ab2 rfl
 | true=>
  simp only[go_sem]
  first|refine aa4 fok42 (hp) ?_|refine aa2 (hp) ?_
  simp only[go_sem];exact ab2 rfl
theorem db5 (a:ab9)(n:Int):PC Tryz.prog EE 17 [a.v,.int .i64 n] (.bool (a.fits n)):=by
 refine af5 hE fok17 (nZ rfl) (aj2 (ah1 a) (.int _ _)) ?_;have h:=ci3 a n;have hf:=gw4 a.r.ao9 (a.pk n).ao9;unfold ab9.fits
 cases hi:a.is n with
 | false=>
  rw[hi] at h;unfold ab9.v ab9.cs at *;simp only[ic17,go_sem]
  first|refine aa4 fok53 (h) ?_|refine aa2 (h) ?_
  simp only[go_sem]; exact ab2 rfl
 | true=>
  rw[hi] at h;unfold ab9.is at hi;simp only[Bool.and_eq_true,decide_eq_true_eq] at hi;have hl:(a.l.map aa3.cs).length=a.l.length:=List.length_map ..;have c1:n.toNat<a.l.length:=by omega
  have hg:(a.l.map aa3.cs).getD n.toNat []=(a.pk n).cs:=by
   unfold ab9.pk;rw[getD_at _ _ c1];simp[List.getD_eq_getElem?_getD,c1]
  have p4:((a.pk n).cs.drop 4).head? = some (.int .u8 (a.pk n).ao9):=rfl;unfold ab9.v ab9.cs at *;generalize a.pk n=q at *;generalize a.l.map aa3.cs=es at *;have c2:n<(es.length:Nat):=by omega
  simp only[ic17,go_sem]
  first|refine aa4 fok53 (h) ?_|refine aa2 (h) ?_
  simp only[go_sem,hi.1,c2,hg,p4,al9]
  first|refine aa4 fok54 (hf) ?_|refine aa2 (hf) ?_
  simp only[go_sem];exact ab2 rfl
theorem ba4 (a:ab9)(k n:Int)(hA:AOK a):PC Tryz.prog EE 61 [a.v,.int .u8 k,.int .i64 n] (.bool (a.aw1 k n)):=by
 refine af5 hE fok61 (nZ rfl) (bc8 (ah1 a) (.int _ _) (.int _ _)) ?_;have h:=fb2 a.r.ae1 ⟨k,n⟩ (by have:=hA.ae1; omega);unfold ab9.aw1;unfold ab9.v ab9.cs;unfold at5.cs at h;simp only[ic61,go_sem]
 first|refine aa4 fok115 (h) ?_|refine aa2 (h) ?_
 simp only[go_sem];exact ab2 rfl
theorem bu9 (a:ab9)(n:Int)(hA:AOK a):PC Tryz.prog EE 21 [a.v,.int .i64 n] (.bool (a.dropped n)):=by
 refine af5 hE fok21 (nZ rfl) (aj2 (ah1 a) (.int _ _)) ?_;have h:=co3 a n;have h2:=ba4 a 1 n hA;unfold ab9.dropped;simp only[ic21,go_sem]
 first|refine aa4 fok60 (h) ?_|refine aa2 (h) ?_
 cases a.job n with
 | false=>simp only[go_sem]; exact ab2 rfl
 | true=>
  simp only[go_sem]
  first|refine aa4 fok61 (h2) ?_|refine aa2 (h2) ?_
  simp only[go_sem];exact ab2 rfl
theorem gg7 (a:ab9){n:Int}(h:a.is n=true):0<=n/\n<(a.l.map aa3.cs).length/\(a.l.map aa3.cs).getD n.toNat []=(a.pk n).cs/\a.pk n∈a.l:=by
 unfold ab9.is at h;simp only[Bool.and_eq_true,decide_eq_true_eq] at h;have c1:n.toNat<a.l.length:=by omega
 refine ⟨h.1,by rw[List.length_map]; exact h.2,?_,?_⟩
 ·unfold ab9.pk;rw[getD_at _ _ c1];simp[List.getD_eq_getElem?_getD,c1]
 ·unfold ab9.pk;rw[getD_at _ _ c1];exact List.getElem_mem c1
theorem ci4 (p:aa3):(p.cs.drop 1).length=14:=rfl
theorem eb4 (a:ab9)(n m:Int)(hA:AOK a):PC Tryz.prog EE 19 [a.v,.int .i64 n,.int .i64 m] (.bool (a.twins n m)):=by
 refine af5 hE fok19 (nZ rfl) (bc8 (ah1 a) (.int _ _) (.int _ _)) ?_;have hn:=ci3 a n;have hm:=ci3 a m;unfold ab9.twins
 cases i1:a.is n with
 | false=>
  rw[i1] at hn;unfold ab9.v ab9.cs at *;simp only[ic19,go_sem]
  first|refine aa4 fok53 (hn) ?_|refine aa2 (hn) ?_
  simp only[go_sem]; exact ab2 rfl
 | true=>
 cases i2:a.is m with
 | false=>
  rw[i1] at hn;rw[i2] at hm;unfold ab9.v ab9.cs at *;simp only[ic19,go_sem]
  first|refine aa4 fok53 (hn) ?_|refine aa2 (hn) ?_
  simp only[go_sem]
  first|refine aa4 fok53 (hm) ?_|refine aa2 (hm) ?_
  simp only[go_sem]; exact ab2 rfl
 | true=>
 obtain ⟨n1,n2,n3,n4⟩:=gg7 a i1;obtain ⟨m1,m2,m3,m4⟩:=gg7 a i2;rw[i1] at hn;rw[i2] at hm;have hap:=ej2 (a.pk n).ao9 (a.pk m).ao9;have hev:=be9 (a.pk n).evr (a.pk m).evr (hA.small _ n4).1 (hA.small _ m4).1;unfold ab9.eg1;unfold ab9.v ab9.cs at *;generalize a.pk n=p at *;generalize a.pk m=q at *;generalize a.l.map aa3.cs=es at *;by_cases e:n=m
 ·simp only[ic19,go_sem]
  first|refine aa4 fok53 (hn) ?_|refine aa2 (hn) ?_
  simp only[go_sem]
  first|refine aa4 fok53 (hm) ?_|refine aa2 (hm) ?_
  simp only[go_sem,e]; exact ab2 (by simp)
 have p0:p.cs.head? = some (.str p.name):=rfl;have q0:q.cs.head? = some (.str q.name):=rfl;have p4:(p.cs.drop 4).head? = some (.int .u8 p.ao9):=rfl;have q4:(q.cs.drop 4).head? = some (.int .u8 q.ao9):=rfl;have p1:(p.cs.drop 1).take 3=p.evr.cs:=rfl;have q1:(q.cs.drop 1).take 3=q.evr.cs:=rfl;simp only[ic19,go_sem]
 first|refine aa4 fok53 (hn) ?_|refine aa2 (hn) ?_
 simp only[go_sem]
 first|refine aa4 fok53 (hm) ?_|refine aa2 (hm) ?_
 simp only[go_sem,e,n1,n2,n3,m1,m2,m3,al9,al2,ah9,p0,q0];by_cases e2:p.name=q.name
 ·simp only[go_sem,e2,p4,q4]
  first|refine aa4 fok56 (hap) ?_|refine aa2 (hap) ?_
  cases bt3 p.ao9 q.ao9 with
  | false=>simp only[go_sem]; exact ab2 rfl
  | true=>
   simp only[go_sem,al9,p1,q1,ci4]
   first|refine aa4 fok57 (hev) ?_|refine aa2 (hev) ?_
   simp only[go_sem];exact ab2 (by simp)
 ·simp only[go_sem,e2];exact ab2 (by simp)
theorem ci5 (j:Job):(j.cs.drop 1).take 5=j.dep.cs:=rfl
theorem co4 (a:ab9)(k n:Int)(hA:AOK a):PC Tryz.prog EE 64 [a.v,.int .u8 k,.int .i64 n] (.bool (a.at6 k n)):=by
 refine af5 hE fok64 (nZ rfl) (bc8 (ah1 a) (.int _ _) (.int _ _)) ?_;have hD:∀ i:Nat,i<a.r.af3.length->PC Tryz.prog EE 21 [a.v,.int .i64 i] (.bool (a.dropped i)):=fun i _=>bu9 a i hA
 have hN:∀ (i:Nat) (h:i<a.r.af3.length),PC Tryz.prog EE 74 [(ae2 a.l).v,.agg (a.jb i).dep.cs] (.aa5 ((al8 a.l (a.jb i).dep).map Md.af2)):=fun i h=>
  cn7 a.l (a.jb i).dep (by have:=hA.len; omega) hA.small (hA.gm9 _ (by
   have e:a.jb i=a.r.af3[i]:=by simp[ab9.jb,List.getD_eq_getElem?_getD,h]
   rw[e]; exact List.getElem_mem h))
 have hH:∀ i:Nat,PC Tryz.prog EE 94 [.aa5 ((al8 a.l (a.jb i).dep).map Md.af2),.int .i64 n] (.bool (decide (n∈al8 a.l (a.jb i).dep))):=fun i=>
  cn4 _ n (by have h1:=ag7 (fun p=>named p (a.jb i).dep) a.l; have:=hA.len; have:(al8 a.l (a.jb i).dep).length<=a.l.length:=h1; omega)
 have hg:∀ i:Nat,i<a.r.af3.length->(a.r.af3.map Job.cs).getD i []=(a.jb i).cs:=fun i h=>by simp[ab9.jb,List.getD_eq_getElem?_getD,h]
 have hlen:=hA.af3;unfold ab9.at6;unfold ab9.v ab9.cs at *;simp only[ic64,go_sem];generalize a.dropped=dr at *;generalize a.jb=jb at *;generalize al8 a.l=nm at *;refine ab5 noT (fun i fr s=>fr=[(0,.ab7 [a.p.v,(ae2 a.l).v,.int .u8 a.r.ao9,.bool a.r.vendor,av1 a.r.af3,am1 a.r.ae1,.int .i64 a.r.budget,.aa5 (a.l.map aa3.cs)]),(1,.int .u8 k),(2,.int .i64 n),(13,.aa5 (a.r.af3.map Job.cs)),(14,.int .i64 a.r.af3.length),(15,.int .i64 (i:Int))]/\((List.range i).any fun i=>decide ((jb i).kind=k)&&!dr i&&decide (n∈nm (jb i).dep))=false) a.r.af3.length ⟨rfl,rfl⟩ ?_;rintro i fr t hi ⟨rfl,hf⟩;by_cases hlt:i<a.r.af3.length
 ·have c1:(i:Int)<a.r.af3.length:=by omega
  have c2:(0:Int)<=i:=by omega
  have w1:=ad9 (i:=i) (by omega);have hgi:=hg i hlt;have hDi:=hD i hlt;have hNi:=hN i hlt;have hHi:=hH i
  have hex:∀ b,(decide ((jb i).kind=k)&&!dr i&&decide (n∈nm (jb i).dep))=b->(b=true->((List.range a.r.af3.length).any fun i=>decide ((jb i).kind=k)&&!dr i&&decide (n∈nm (jb i).dep))=true)/\(b=false->((List.range i++[i]).any fun i=>decide ((jb i).kind=k)&&!dr i&&decide (n∈nm (jb i).dep))=false):=by
   intro b hb;refine ⟨fun h=>List.any_eq_true.2 ⟨i,List.mem_range.2 hlt,by rw[hb]; exact h⟩,fun h=>?_⟩;rw[List.any_append,hf];simp only[List.any_cons,List.any_nil,Bool.or_false,Bool.false_or,hb,h]
  clear hD hN hH hg;have j0:(jb i).cs.head? = some (.int .u8 (jb i).kind):=rfl;have j1:=ci5 (jb i);have j2:((jb i).cs.drop 1).length=5:=rfl;generalize jb i=j at *;simp only[go_sem,c1,c2,hgi,au1,aw6,ao7,j0];by_cases e1:j.kind=k
  ·simp only[go_sem,e1]
   first|refine aa4 fok21 (hDi) ?_|refine aa2 (hDi) ?_
   cases e2:dr (i:Int) with
   | true=>
    simp only[go_sem,w1]
    exact ⟨hlt,(hex _ rfl).2 (by simp[e2])⟩
   | false=>
    simp only[go_sem,j1,j2]
    first|refine aa4 fok74 (hNi) ?_|refine aa2 (hNi) ?_
    simp only[go_sem]
    first|refine aa4 fok94 (hHi) ?_|refine aa2 (hHi) ?_
    by_cases e3:n∈nm j.dep
    ·simp only[go_sem,e3];exact ab2 ((hex _ rfl).1 (by simp[e1,e2,e3])).symm
    ·simp only[go_sem,e3,w1];exact ⟨hlt,(hex _ rfl).2 (by simp[e3])⟩
  ·simp only[go_sem,e1,w1];exact ⟨hlt,(hex _ rfl).2 (by simp[e1])⟩
 ·have hi':i=a.r.af3.length:=by omega
  subst hi';have c1:¬ (a.r.af3.length:Int)<(a.r.af3.length:Int):=by omega
  simp only[go_sem,c1];exact ab2 hf.symm
theorem fb3 (a:ab9)(n:Int)(hA:AOK a):PC Tryz.prog EE 23 [a.v,.int .i64 n] (.bool (a.goes n)):=by
 refine af5 hE fok23 (nZ rfl) (aj2 (ah1 a) (.int _ _)) ?_;have h:=bd8 a n;have h2:=co4 a 2 n hA;have h3:=ba4 a 2 n hA;unfold ab9.goes;simp only[ic23,go_sem]
 first|refine aa4 fok63 (h) ?_|refine aa2 (h) ?_
 cases a.inst n with
 | false=>simp only[go_sem]; exact ab2 rfl
 | true=>
  simp only[go_sem]
  first|refine aa4 fok64 (h2) ?_|refine aa2 (h2) ?_
  cases a.at6 2 n with
  | true=>simp only[go_sem]; exact ab2 rfl
  | false=>
   simp only[go_sem]
   first|refine aa4 fok61 (h3) ?_|refine aa2 (h3) ?_
   simp only[go_sem];exact ab2 rfl
end Go.Id.Tryz
set_option linter.all false
namespace Go.Id.Tryz
open Go Go.Id Go.Proofs Go.Id.Md
set_option maxRecDepth 100000
set_option maxHeartbeats 1000000
def dp7 (a b:Part):Bool:=decide (ag4 a b=-1)
theorem dy5 {a b:Int}:ar9 a b=-1↔a<b:=by
 unfold ar9;by_cases h:a<b
 ·simp[h]
 ·rw[if_neg h]; split<;>simp[h]
theorem gu4 {a b:Str}:ch5 a b=-1↔Op.bytesLess a b=true:=by
 unfold ch5
 cases h:Op.bytesLess a b with
 | true=>simp
 | false=>
  simp only[Bool.false_eq_true,if_false];split<;>simp
theorem gc5 (a b:Part):dp7 a b=if a.kind≠b.kind then decide (a.kind<b.kind) else if a.kind=5/\a.s.length≠b.s.length then decide (a.s.length<b.s.length) else Op.bytesLess a.s b.s:=by
 unfold dp7;have hp:ag4 a b=if ar9 a.kind b.kind≠0 then ar9 a.kind b.kind else if (if a.kind=5/\b.kind=5 then ar9 a.s.length b.s.length else 0)≠0 then (if a.kind=5/\b.kind=5 then ar9 a.s.length b.s.length else 0) else ch5 a.s b.s:=rfl
 rw[hp];have key:∀ (x:Int) (p:Prop) [Decidable p] ,(x=-1↔p)->decide (x=-1)=decide p:=fun x p _ h=>decide_eq_decide.2 h
 have hS:decide (ch5 a.s b.s=-1)=Op.bytesLess a.s b.s:=by
  rw[key _ _ gu4]; simp
 by_cases hk:a.kind=b.kind
 ·have e0:ar9 a.kind b.kind=0:=ay2.2 (by omega);have q0:¬ (a.kind≠b.kind):=fun h=>h hk
  have q1:¬ (ar9 (a.kind:Int) (b.kind:Int)≠0):=fun h=>h e0
  rw[if_neg q1,if_neg q0];by_cases h5:a.kind=5
  ·have q2:a.kind=5/\b.kind=5:=⟨h5,by omega⟩;simp only[if_pos q2];by_cases hl:a.s.length=b.s.length
   ·have e1:ar9 a.s.length b.s.length=0:=ay2.2 (by omega);have q3:¬ (ar9 (a.s.length:Int) (b.s.length:Int)≠0):=fun h=>h e1
    have q4:¬ (a.kind=5/\a.s.length≠b.s.length):=fun h=>h.2 hl
    rw[if_neg q3,if_neg q4,hS]
   ·have e1:ar9 (a.s.length:Int) (b.s.length:Int)≠0:=fun h=>hl (by have:=ay2.1 h; omega)
    have q4:a.kind=5/\a.s.length≠b.s.length:=⟨h5,hl⟩;rw[if_pos e1,if_pos q4,key _ _ dy5];exact decide_eq_decide.2 (by omega)
  ·have q2:¬ (a.kind=5/\b.kind=5):=fun h=>h5 h.1
   have q3:¬ ((0:Int)≠0):=fun h=>h rfl
   have q4:¬ (a.kind=5/\a.s.length≠b.s.length):=fun h=>h5 h.1
   simp only[if_neg q2];rw[if_neg q3,if_neg q4,hS]
 ·have e0:ar9 (a.kind:Int) (b.kind:Int)≠0:=fun h=>hk (by have:=ay2.1 h; omega)
  have q0:a.kind≠b.kind:=hk;rw[if_pos e0,if_pos q0,key _ _ dy5];exact decide_eq_decide.2 (by omega)
theorem gc6 (p:Part):(Part.cs p).length=2:=rfl
theorem bh6 (p:Part):(Part.cs p).all IV.leaf=true:=rfl
theorem fl9 (p:Part):(Part.cs p).take 2=Part.cs p:=rfl
theorem eh1 (p:Part):(Part.cs p).head? = some (.int .u8 p.kind):=rfl
theorem fm1 (p:Part):((Part.cs p).drop 1).head? = some (.str p.s):=rfl
theorem bt6 (p:Part):Bnd 0 (.agg (Part.cs p)):=.agg _ (ei4 p)
theorem dp8 (a b:Part)(ha:a.s.length<2^62)(hb:b.s.length<2^62):PC Tryz.prog EE 156 [.agg (Part.cs a),.agg (Part.cs b)] (.bool (dp7 a b)):=by
 refine af5 hE fok156 (nZ rfl) (aj2 (bt6 a) (bt6 b)) ?_;rw[gc5];by_cases hk:a.kind=b.kind
 case neg=>
  have e:¬ (a.kind:Int)=b.kind:=by omega
  have e2:decide (a.kind<b.kind)=decide ((a.kind:Int)<b.kind):=by simp
  rw[if_pos hk,e2];simp only[ic156,go_sem,bh6,eh1,e];exact ab2 rfl
 have e:(a.kind:Int)=b.kind:=by omega
 rw[if_neg (by simpa using hk)];by_cases h5:a.kind=5
 ·have e5:(b.kind:Int)=5:=by omega
  by_cases hl:a.s.length=b.s.length
  ·rw[if_neg (fun h=>h.2 hl)];have el:(a.s.length:Int)=b.s.length:=by omega
   simp only[ic156,go_sem,bh6,eh1,fm1,e,e5,el];exact ab2 rfl
  ·rw[if_pos ⟨h5,hl⟩];have el:¬ (a.s.length:Int)=b.s.length:=by omega
   have e2:decide (a.s.length<b.s.length)=decide ((a.s.length:Int)<b.s.length):=by simp
   rw[e2];simp only[ic156,go_sem,bh6,eh1,fm1,e,e5,el];exact ab2 rfl
 ·have e5:¬ (b.kind:Int)=5:=by omega
  rw[if_neg (fun h=>h5 h.1)];simp only[ic156,go_sem,bh6,eh1,fm1,e,e5];exact ab2 rfl
def atP (l:List Part)(i:Nat):Part:=l.getD i eg4
theorem gl7 (l:List Part)(i:Nat):PC Tryz.prog EE 157 [.aa5 (l.map Part.cs),.int .i64 i] (.agg (Part.cs (atP l i))):=by
 refine af5 hE fok157 (nZ rfl) (aj2 (dq7 l) (.int _ _)) ?_;unfold atP;by_cases h:i<l.length
 ·have c1:¬ (l.length:Int)<=i:=by omega
  have c2:(i:Int)<l.length:=by omega
  have c3:(0:Int)<=(i:Int):=by omega
  have g:=fp5 l i h;have e:l.getD i eg4=l[i]:=by simp[List.getD_eq_getElem?_getD,h]
  rw[e];simp only[ic157,go_sem,c1,c2,c3,g,gc6,bh6,fl9];exact .keep _ (bt6 _)
 ·have c1:(l.length:Int)<=i:=by omega
  have e:l.getD i eg4=eg4:=by simp[List.getD_eq_getElem?_getD,List.getElem?_eq_none (Nat.le_of_not_lt h)]
  rw[e];simp only[ic157,go_sem,c1];exact .keep _ (bt6 eg4)
theorem ho8 (s:Str)(i:Nat)(h:i<=(ab3 s).length):(vL s)[i]? = some (atP (ab3 s) i):=by
 unfold atP;by_cases hl:i<(ab3 s).length
 ·rw[List.getElem?_append_left hl,List.getElem?_eq_getElem hl]; simp[List.getD_eq_getElem?_getD,hl]
 ·have:i=(ab3 s).length:=by omega
  subst this;rw[List.getElem?_append_right (Nat.le_refl _),Nat.sub_self];simp[List.getD_eq_getElem?_getD]
theorem cm7 (a b:Str)(ha:a.length<2^30)(hb:b.length<2^30):PC Tryz.prog EE 114 [.str a,.str b] (.int .i64 (au8 a b)):=by
 refine af5 hE fok114 (nZ rfl) (aj2 (.str _) (.str _)) ?_;have la:=bd7 a;have lb:=bd7 b;have pa:=dq8 a ha;have pb:=dq8 b hb;have na:=dp1 a;have nb:=dp1 b;simp only[ic114,go_sem]
 first|refine aa4 fok155 (pa) ?_|refine aa2 (pa) ?_
 simp only[go_sem]
 first|refine aa4 fok155 (pb) ?_|refine aa2 (pb) ?_
 simp only[go_sem];refine ab5 noT (fun i fr s=>fr=[(5,.aa5 ((ab3 a).map Part.cs)),(6,.aa5 ((ab3 b).map Part.cs)),(7,.int .i64 (i:Int))]/\i<=(ab3 a).length/\i<=(ab3 b).length/\au8 a b=ak6 ((vL a).drop i) ((vL b).drop i)) (2^30) ⟨rfl,Nat.zero_le _,Nat.zero_le _,rfl⟩ ?_;rintro i fr s hi ⟨rfl,ia,ib,hv⟩;have w1:=ad9 (i:=i) (by omega);have xa:=ho8 a i ia;have xb:=ho8 b i ib;obtain ⟨hia,hxa⟩:=List.getElem?_eq_some_iff.1 xa;obtain ⟨hib,hxb⟩:=List.getElem?_eq_some_iff.1 xb;rw[bu4 hia hib,hxa,hxb] at hv;by_cases hmore:i<(ab3 a).length\/i<(ab3 b).length
 ·have ga:=gl7 (ab3 a) i;have gb:=gl7 (ab3 b) i;have sa:(atP (ab3 a) i).s.length<=a.length:=hz5 a _ (hxa▸List.getElem_mem hia);have sb:(atP (ab3 b) i).s.length<=b.length:=hz5 b _ (hxb▸List.getElem_mem hib);have b1:=dp8 (atP (ab3 a) i) (atP (ab3 b) i) (by omega) (by omega);have b2:=dp8 (atP (ab3 b) i) (atP (ab3 a) i) (by omega) (by omega);have h3:=dq9 (atP (ab3 a) i) (atP (ab3 b) i);have hneg:=dy1 (atP (ab3 a) i) (atP (ab3 b) i)
  have hnext:ag4 (atP (ab3 a) i) (atP (ab3 b) i)=0->i+1<=(ab3 a).length/\i+1<=(ab3 b).length:=fun h0=>by
   have hk:=fl1 h0;rcases hmore with h|h
   ·refine ⟨h,?_⟩;by_cases h':i<(ab3 b).length
    ·exact h'
    ·have e1:atP (ab3 b) i=eg4:=by unfold atP; simp[List.getD_eq_getElem?_getD,List.getElem?_eq_none (Nat.le_of_not_lt h')]
     have e2:atP (ab3 a) i=(ab3 a)[i]:=by unfold atP; simp[List.getD_eq_getElem?_getD,h]
     rw[e1,e2] at hk;exact absurd hk (na _ (List.getElem_mem h))
   ·refine ⟨?_,h⟩;by_cases h':i<(ab3 a).length
    ·exact h'
    ·have e1:atP (ab3 a) i=eg4:=by unfold atP; simp[List.getD_eq_getElem?_getD,List.getElem?_eq_none (Nat.le_of_not_lt h')]
     have e2:atP (ab3 b) i=(ab3 b)[i]:=by unfold atP; simp[List.getD_eq_getElem?_getD,h]
     rw[e1,e2] at hk;exact absurd hk.symm (nb _ (List.getElem_mem h))
  have v1:dp7 (atP (ab3 a) i) (atP (ab3 b) i)=decide (ag4 (atP (ab3 a) i) (atP (ab3 b) i)=-1):=rfl;have v2:dp7 (atP (ab3 b) i) (atP (ab3 a) i)=decide (ag4 (atP (ab3 b) i) (atP (ab3 a) i)=-1):=rfl;rw[v1] at b1;rw[v2] at b2;generalize atP (ab3 a) i=x at *;generalize atP (ab3 b) i=y at *;generalize ag4 y x=c2 at *;generalize ag4 x y=c at *;by_cases hA:i<(ab3 a).length
  case' pos=>
   have d1:(i:Int)<(ab3 a).length:=by omega
   simp only[go_sem,d1]
  case' neg=>
   have d1:¬ (i:Int)<(ab3 a).length:=by omega
   have d2:(i:Int)<(ab3 b).length:=by omega
   simp only[go_sem,d1,d2]
  all_goals
   first|refine aa4 fok157 (ga) ?_|refine aa2 (ga) ?_
   simp only[go_sem]
   first|refine aa4 fok157 (gb) ?_|refine aa2 (gb) ?_
   simp only[go_sem]
   first|refine aa4 fok156 (b1) ?_|refine aa2 (b1) ?_
   rcases h3 with h|h|h
   ·subst h;rw[if_pos (by decide)] at hv;simp only[go_sem,decide_true];rw[hv]; exact ac7 _ _
   ·subst h;have hc2:c2=0:=by omega
    subst hc2;rw[if_neg (by decide)] at hv;obtain ⟨n1,n2⟩:=hnext rfl;simp only[go_sem,Int.reduceEq,Int.reduceNeg,decide_false]
    first|refine aa4 fok157 (gb) ?_|refine aa2 (gb) ?_
    simp only[go_sem]
    first|refine aa4 fok157 (ga) ?_|refine aa2 (ga) ?_
    simp only[go_sem]
    first|refine aa4 fok156 (b2) ?_|refine aa2 (b2) ?_
    simp only[go_sem,Int.reduceEq,Int.reduceNeg,decide_false,w1];exact ⟨by omega,n1,n2,hv⟩
   ·subst h;subst hneg;rw[if_pos (by decide)] at hv;simp only[go_sem,Int.reduceEq,Int.reduceNeg,decide_false]
    first|refine aa4 fok157 (gb) ?_|refine aa2 (gb) ?_
    simp only[go_sem]
    first|refine aa4 fok157 (ga) ?_|refine aa2 (ga) ?_
    simp only[go_sem]
    first|refine aa4 fok156 (b2) ?_|refine aa2 (b2) ?_
    simp only[go_sem,decide_true];rw[hv]; exact ac7 _ _
 ·have ea:i=(ab3 a).length:=by omega
  have eb:i=(ab3 b).length:=by omega
  have d1:¬ (i:Int)<(ab3 a).length:=by omega
  have d2:¬ (i:Int)<(ab3 b).length:=by omega
  have e1:atP (ab3 a) i=eg4:=by unfold atP; simp[List.getD_eq_getElem?_getD,List.getElem?_eq_none (show (ab3 a).length<=i by omega)]
  have e2:atP (ab3 b) i=eg4:=by unfold atP; simp[List.getD_eq_getElem?_getD,List.getElem?_eq_none (show (ab3 b).length<=i by omega)]
  have h0:ag4 eg4 eg4=0:=by decide
  have hend:ak6 ((vL a).drop (i+1)) ((vL b).drop (i+1))=0:=cf1 (.inl (by simp only[List.length_append,List.length_singleton]; omega));rw[e1,e2,h0,if_neg (by decide),hend] at hv;simp only[go_sem,d1,d2];rw[hv]; exact ac7 _ _
set_option maxHeartbeats 1000000
theorem dg4 (e:EVR):e.cs.all IV.leaf=true:=rfl
theorem gu5 (e:EVR):e.cs.head? = some (.int .i64 e.ao4):=rfl
theorem ih7 (e:EVR):(e.cs.drop 1).head? = some (.str e.ver):=rfl
theorem gu6 (e:EVR):(e.cs.drop 2).head? = some (.str e.rel):=rfl
theorem bp7 (a b:EVR)(ha:EVR.small a)(hb:EVR.small b):PC Tryz.prog EE 59 [.agg a.cs,.agg b.cs] (.int .i64 (au9 a b)):=by
 refine af5 hE fok59 (nZ rfl) (aj2 (bm9 a) (bm9 b)) ?_;have h1:=cm7 a.ver b.ver ha.1 hb.1;have h2:=cm7 a.rel b.rel ha.2 hb.2;unfold au9;by_cases e1:a.ao4<b.ao4
 ·have c0:ar9 a.ao4 b.ao4=-1:=dy5.2 e1;rw[c0,if_pos (by decide)];simp only[ic59,go_sem,dg4,gu5,e1];exact ac7 _ _
 by_cases e2:b.ao4<a.ao4
 ·have c0:ar9 a.ao4 b.ao4=1:=by
   unfold ar9;rw[if_neg e1,if_neg (by omega)]
  rw[c0,if_pos (by decide)];simp only[ic59,go_sem,dg4,gu5,e1,e2];exact ac7 _ _
 have c0:ar9 a.ao4 b.ao4=0:=ay2.2 (by omega);have nn:∀ {α:Type} (x y:α),(if (0:Int)≠0 then x else y)=y:=fun _ _=>if_neg (by decide)
 rw[c0,nn];simp only[ic59,go_sem,dg4,gu5,ih7,e1,e2]
 first|refine aa4 fok114 (h1) ?_|refine aa2 (h1) ?_
 generalize au8 a.ver b.ver=n at *;by_cases hn:n=0
 ·subst hn;rw[nn];by_cases r1:a.rel=[]
  ·rw[if_pos (.inl r1)];simp only[go_sem,gu6,r1];exact ac7 _ _
  by_cases r2:b.rel=[]
  ·rw[if_pos (.inr r2)];simp only[go_sem,gu6,r1,r2];exact ac7 _ _
  rw[if_neg (by simp[r1,r2])];simp only[go_sem,gu6,r1,r2]
  first|refine aa4 fok114 (h2) ?_|refine aa2 (h2) ?_
  simp only[go_sem];exact ac7 _ _
 ·have hn':n≠0:=hn;rw[if_pos hn'];simp only[go_sem,hn];exact ac7 _ _
theorem eh2 (a b:Dep)(ha:Dep.small a)(hb:Dep.small b):PC Tryz.prog EE 149 [.agg a.cs,.agg b.cs] (.bool (meet a b)):=by
 refine af5 hE fok149 (nZ rfl) (ag9 (aj8 a) (aj8 b)) ?_;obtain ⟨a1,a2,a3⟩:=ha;obtain ⟨b1,b2,b3⟩:=hb;have hc:=bp7 a.evr b.evr a3 b3;have h3:=ei7 a.evr b.evr;unfold meet;generalize au9 a.evr b.evr=n at hc h3;simp only[EVR.cs] at hc;obtain ⟨x,hx⟩:∃ x:Nat,a.op=x:=⟨a.op.toNat,by omega⟩;obtain ⟨y,hy⟩:∃ y:Nat,b.op=y:=⟨b.op.toNat,by omega⟩;have hx2:x<256:=by omega
 have hy2:y<256:=by omega
 rw[hx,hy,Int.toNat_natCast,Int.toNat_natCast];have tm:∀ k:Nat,(k:Int).tmod 8=((k%8:Nat):Int):=fun k=>rfl
 have z0:∀ k:Nat,((k:Int)=0)↔k=0:=fun k=>by omega
 have bt:∀ (k i:Nat),bit (k:Int) i=k.testBit i:=fun k i=>by unfold bit; rw[Int.toNat_natCast]
 by_cases hx0:x%8=0
 ·have q:(x:Int).tmod 8=0:=by rw[tm,z0]; exact hx0
  rw[if_pos (.inl hx0)];simp only[ic149,go_sem,Dep.cs,hx,hy,q,Int.reduceEq,true_and,not_false_eq_true];exact ab6 _
 have q:¬ (x:Int).tmod 8=0:=by rw[tm,z0]; exact hx0
 by_cases hy0:y%8=0
 ·have q2:(y:Int).tmod 8=0:=by rw[tm,z0]; exact hy0
  rw[if_pos (.inr hy0)];simp only[ic149,go_sem,Dep.cs,hx,hy,q,q2,Int.reduceEq,true_and,not_false_eq_true];exact ab6 _
 have q2:¬ (y:Int).tmod 8=0:=by rw[tm,z0]; exact hy0
 rw[if_neg (fun h=>h.elim hx0 hy0)];simp only[ic149,go_sem,Dep.cs,hx,hy,q,q2,Int.reduceEq,true_and,not_false_eq_true]
 first|refine aa4 fok59 (hc) ?_|refine aa2 (hc) ?_
 have exy:bf6 x y=((x &&& y:Nat):Int):=an4 x y hx2 hy2;have hxy:x &&& y<256:=Nat.lt_of_le_of_lt Nat.and_le_left hx2;have exy7:bf6 ((x &&& y:Nat):Int) 7=((x &&& y &&& 7:Nat):Int):=an4 _ 7 hxy (by omega);have x1:bf6 x 1=((x &&& 1:Nat):Int):=an4 x 1 hx2 (by omega);have x4:bf6 x 4=((x &&& 4:Nat):Int):=an4 x 4 hx2 (by omega);have y1:bf6 y 1=((y &&& 1:Nat):Int):=an4 y 1 hy2 (by omega);have y4:bf6 y 4=((y &&& 4:Nat):Int):=an4 y 4 hy2 (by omega);rcases h3 with rfl|rfl|rfl
 ·have g1:side (- -1)=2:=by decide
  have g2:side (-1)=0:=by decide
  have m0:¬ ((-1:Int)=0):=by decide
  have m1:((-1:Int)<0):=by decide
  simp only[go_sem,m0,m1,g1,g2,bt,if_false]
  cases hb:x.testBit 2 with
  | true=>
   have e:¬ bf6 x 4=0:=by rw[x4,z0,gm3 x hx2,hb]; simp
   simp only[go_sem,ap8,e]
   exact ab6 _
  | false=>
   have e:bf6 x 4=0:=by rw[x4,z0,gm3 x hx2,hb]
   simp only[go_sem,ap8,e]
   cases hc:y.testBit 0 with
   | true=>
    have e2:¬ bf6 y 1=0:=by rw[y1,z0,and1 y hy2,hc]; simp
    simp only[go_sem,ap8,e2]
    exact ab6 _
   | false=>
    have e2:bf6 y 1=0:=by rw[y1,z0,and1 y hy2,hc]
    simp only[go_sem,ap8,e2];exact ab6 _
 ·have m1:¬ ((0:Int)<0):=by decide
  simp only[go_sem,ap8,exy,exy7,bt,m1]
  have e:(!decide (((x &&& y &&& 7:Nat):Int)=0))=(x.testBit 0&&y.testBit 0||x.testBit 1&&y.testBit 1||x.testBit 2&&y.testBit 2):=by
   by_cases hz:x &&& y &&& 7=0
   ·obtain ⟨t0,t1,t2⟩:=(dh8 _ hxy).1 hz;rw[Nat.testBit_and] at t0 t1 t2;rw[hz,t0,t1,t2]; rfl
   ·have hz':¬ ((x &&& y &&& 7:Nat):Int)=0:=fun h=>hz (by omega)
    have ht:¬ ((x &&& y).testBit 0=false/\(x &&& y).testBit 1=false/\(x &&& y).testBit 2=false):=fun h=>hz ((dh8 _ hxy).2 h)
    rw[Nat.testBit_and,Nat.testBit_and,Nat.testBit_and] at ht;rw[decide_eq_false hz']
    revert ht
    generalize (x.testBit 0&&y.testBit 0)=b0;generalize (x.testBit 1&&y.testBit 1)=b1;generalize (x.testBit 2&&y.testBit 2)=b2;cases b0<;>cases b1<;>cases b2<;>simp
  exact ab2 e
 ·have g1:side (-1)=0:=by decide
  have g2:side 1=2:=by decide
  have m0:¬ ((1:Int)=0):=by decide
  have m1:¬ ((1:Int)<0):=by decide
  have m2:(0:Int)<1:=by decide
  simp only[go_sem,m0,m1,m2,g1,g2,bt,if_false]
  cases hb:x.testBit 0 with
  | true=>
   have e:¬ bf6 x 1=0:=by rw[x1,z0,and1 x hx2,hb]; simp
   simp only[go_sem,ap8,e]
   exact ab6 _
  | false=>
   have e:bf6 x 1=0:=by rw[x1,z0,and1 x hx2,hb]
   simp only[go_sem,ap8,e]
   cases hc:y.testBit 2 with
   | true=>
    have e2:¬ bf6 y 4=0:=by rw[y4,z0,gm3 y hy2,hc]; simp
    simp only[go_sem,ap8,e2]
    exact ab6 _
   | false=>
    have e2:bf6 y 4=0:=by rw[y4,z0,gm3 y hy2,hc]
    simp only[go_sem,ap8,e2];exact ab6 _
end Go.Id.Tryz
