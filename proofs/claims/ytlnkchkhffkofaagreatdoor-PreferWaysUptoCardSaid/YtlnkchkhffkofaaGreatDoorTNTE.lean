/- Indexes asked: rows of one's own. Conditions: sizes that fit. -/
import Derived.Test.YtlnkchkhffkofaaGreatDoorTNQO
import Derived.Test.YtlnkchkhffkofaaGreatDoorFwZb
import Derived.Test.YtlnkchkhffkofaaGreatDoorTNPE
import Derived.Test.YtlnkchkhffkofaaGreatDoorMf
set_option linter.all false
namespace Go.Id.Tryz
open Go Go.Id Go.Proofs Go.Id.Md
set_option maxRecDepth 100000
theorem io4 {f:Nat}{args args':List IV}{σ:Store}{Q:IV->Store->Prop}(hl:args'.length=args.length)(ha:∀ i,i<args.length->Frz σ (fun _=>true=true) (args.getD i .undef) (args'.getD i .undef))(h:C Tryz.prog EE f args' σ Q):C Tryz.prog EE f args σ Q :=
 ft2 (S:=fun _=>true) hl ha h
theorem io5 (x:Index)(l:List Int)(hl:l.length<2^30)(k:Nat)(cap:List IV)(w:Int->Bool)(hok:okF Tryz.prog k=true)
  (hW:∀ n∈l,∃ m:Nat,n=m/\∃ h:m<x.all.length,PC Tryz.prog EE k (.agg x.all[m].cs::.int .i64 n::cap) (.bool (w n))) (σ:Store) :
  C Tryz.prog EE 116 [x.v,.aa3 (l.map Md.af3),.func (.func k) [] cap] σ (ed2 σ (l.filter w)):=by
 have hx:x.v=.ab6 [.aa3 (x.all.map aa2.cs),.al8 (nmV x.av4),.al8 (nmV x.names),.al8 (nmV x.over)]:=rfl;rw[hx];generalize IV.al8 (nmV x.av4)=v1 at *;generalize IV.al8 (nmV x.names)=v2 at *;generalize IV.al8 (nmV x.over)=v3 at *;refine C_f fok116 (nZ rfl) ?_;simp only[ic116,go_sem];refine ab4 noT (fun i fr s=>∃ gv,fr=[(0,.ab6 [.aa3 (x.all.map aa2.cs),v1,v2,v3]),(2,.func (.func k) [] cap),(7,gv),(10,.aa3 (l.map Md.af3)),(11,.int .i64 l.length),(12,.int .i64 i)]/\Kept σ s/\as8 s σ.next gv ((l.take i).filter w)) l.length ⟨.aa1,rfl,Kept.refl σ,.inl ⟨rfl,rfl⟩⟩ ?_;rintro i fr s hle ⟨gv,rfl,hk,hg⟩;by_cases hlt:i<l.length
 ·obtain ⟨n,hn,_,hdr,hget,htk⟩:=af5 l i hlt;have c1:(i:Int)<l.length:=by omega
  have c2:(0:Int)<=i:=by omega
  have w1:=ad4 (i:=i) (by omega);obtain ⟨m,rfl,hm,hpc⟩:=hW n hn;have c3:(m:Int)<x.all.length:=by omega
  have c4:(0:Int)<=m:=by omega
  have hgm:(x.all.map aa2.cs).getD m []=x.all[m].cs:=by simp[List.getD_eq_getElem?_getD,hm]
  simp only[go_sem,c1,c2,c3,c4,hget,Md.af3,hgm,ag1,ag6,af1,Int.toNat_natCast,List.length_map];refine ak5 hok hpc ?_
  cases hw:w (m:Int) with
  | false=>
   simp only[go_sem,w1];have e:(l.take (i+1)).filter w=(l.take i).filter w:=by rw[htk,List.filter_append]; simp[hw]
   rw[e]
   exact ⟨hlt,gv,rfl,hk,hg⟩
  | true=>
   have hlen:((l.take i).filter w).length<=i:=by
    refine Nat.le_trans (List.length_filter_le _ _) ?_;rw[List.length_take]; omega
   have hap:=ed4 (nid:=s.next) (hg.up 1) (m:Int) (by omega);have e:(l.take (i+1)).filter w=(l.take i).filter w++[(m:Int)]:=by rw[htk,List.filter_append]; simp[hw]
   simp only[go_sem,hap,w1,e];have hz:=em7 hk hg (m:Int) (a:=1) (nid:=s.next) (Nat.le_refl _) (Nat.lt_succ_self _) rfl;exact ⟨hlt,_,rfl,hz.1,hz.2⟩
 ·have hi':i=l.length:=by omega
  subst hi';have c1:¬ (l.length:Int)<l.length:=by omega
  rw[List.take_length] at hg;simp only[go_sem,c1];exact ⟨hk,hg⟩
open Go Go.Id Go.Proofs Go.Shelf Go.Id.Md
theorem ei1 (d:Job):d.cs.length=6:=rfl
theorem bo8 (d:Job):d.cs.all IV.leaf=true:=rfl
theorem eq4 (d:Job):d.cs.take 6=d.cs:=rfl
theorem bo9 (d:ba2):d.cs.length=2:=rfl
theorem ao8 (d:ba2):d.cs.all IV.leaf=true:=rfl
theorem bj5 (d:ba2):d.cs.take 2=d.cs:=rfl
theorem ga5 (d:Job):∀ c∈d.cs,Bnd 0 c:=ix6 (.int _ _) (.str _) (.int _ _) (.int _ _) (.str _) (.str _)
theorem eq5 (d:ba2):∀ c∈d.cs,Bnd 0 c:=ah6 (.int _ _) (.int _ _)
theorem bx6 (l:List Job):Bnd 0 (bs3 l):=.aa3 _ fun e he c hc=>by
 obtain ⟨d,_,rfl⟩:=List.mem_map.1 he; exact ga5 d c hc
theorem az8 (l:List ba2):Bnd 0 (aw6 l):=.aa3 _ fun e he c hc=>by
 obtain ⟨d,_,rfl⟩:=List.mem_map.1 he; exact eq5 d c hc
theorem gs2 (d:Job):Bnd 0 (.agg d.cs):=.agg _ (ga5 d)
theorem bx7 (d:ba2):Bnd 0 (.agg d.cs):=.agg _ (eq5 d)
theorem cu2 (xs:List Int)(g:Nat)(first cap:List IV)(q:Int->Bool)(hn:xs.length<2^62)(hok:okF Tryz.prog g=true)
  (hq:∀ x∈xs,PC Tryz.prog EE g (first++[IV.int .i64 x]++cap) (.bool (q x))):PC Tryz.prog EE 76 [.aa3 (xs.map Md.af3),.func (.func g) first cap] (.int .i64 (ai3 q xs 0)):=by
 refine ap7 fok76 (nZ rfl) fun σ=>?_
 simp only[ic76,go_sem];refine ab4 noT (fun i fr s=>s=σ/\fr=[(0,.aa3 (xs.map Md.af3)),(1,.func (.func g) first cap),(7,.int .i64 xs.length),(8,.int .i64 i)]/\ai3 q xs 0=ai3 q (xs.drop i) i) xs.length ⟨rfl,rfl,rfl⟩ ?_;rintro i fr s hi ⟨rfl,rfl,hf⟩;by_cases hlt:i<xs.length
 ·obtain ⟨x,ha,_,hdr,hget,_⟩:=af5 xs i hlt;have c1:(i:Int)<xs.length:=by omega
  have c2:(0:Int)<=i:=by omega
  have w1:=ad4 (i:=i) (by omega);rw[hdr] at hf;simp only[go_sem,c1,c2,hget,Md.af3];refine an7 hok (ff2 (hq x ha)) ?_;rintro v s ⟨rfl,rfl⟩;refine ⟨Nat.le_refl _,?_⟩
  cases hqe:q x with
  | true=>simp only[go_sem,hf,ai3,hqe,and_self]
  | false=>
   simp only[go_sem,w1];exact ⟨hlt,by rw[hf]; simp only[ai3,hqe,Bool.false_eq_true,if_false,Int.natCast_add,Int.natCast_one]⟩
 ·have hi':i=xs.length:=by omega
  subst hi';have c1:¬ (xs.length:Int)<xs.length:=by omega
  rw[List.drop_length] at hf;simp only[go_sem,c1,hf,ai3,and_self]
theorem ga6 (xs:List Int)(g:Nat)(first cap:List IV)(q:Int->Bool)(hn:xs.length<2^62)(hok:okF Tryz.prog g=true)
  (hq:∀ x∈xs,PC Tryz.prog EE g (first++[IV.int .i64 x]++cap) (.bool (q x))):PC Tryz.prog EE 78 [.aa3 (xs.map Md.af3),.func (.func g) first cap] (.bool (xs.any q)):=by
 refine ap7 fok78 (nZ rfl) fun σ=>?_
 simp only[ic78,go_sem]
 first|refine aa5 fok76 (cu2 xs g first cap q hn hok hq) ?_|refine aa6 (cu2 xs g first cap q hn hok hq) ?_
 simp only[go_sem,as2,and_self]
theorem dx8 (xs:List Job)(g:Nat)(first cap:List IV)(q:Job->Bool)(hn:xs.length<2^62)(hok:okF Tryz.prog g=true)
  (hq:∀ x∈xs,PC Tryz.prog EE g (first++[IV.agg (Job.cs x)]++cap) (.bool (q x))):PC Tryz.prog EE 169 [.aa3 (xs.map Job.cs),.func (.func g) first cap] (.int .i64 (ai3 q xs 0)):=by
 refine ap7 fok169 (nZ rfl) fun σ=>?_
 simp only[ic169,go_sem];refine ab4 noT (fun i fr s=>s=σ/\fr=[(0,.aa3 (xs.map Job.cs)),(1,.func (.func g) first cap),(7,.int .i64 xs.length),(8,.int .i64 i)]/\ai3 q xs 0=ai3 q (xs.drop i) i) xs.length ⟨rfl,rfl,rfl⟩ ?_;rintro i fr s hi ⟨rfl,rfl,hf⟩;by_cases hlt:i<xs.length
 ·obtain ⟨x,ha,_,hdr,hget,_⟩:=af5 xs i hlt;have c1:(i:Int)<xs.length:=by omega
  have c2:(0:Int)<=i:=by omega
  have w1:=ad4 (i:=i) (by omega);rw[hdr] at hf;simp only[go_sem,c1,c2,hget,ei1,eq4,bo8];refine an7 hok (ff2 (hq x ha)) ?_;rintro v s ⟨rfl,rfl⟩;refine ⟨Nat.le_refl _,?_⟩
  cases hqe:q x with
  | true=>simp only[go_sem,hf,ai3,hqe,and_self]
  | false=>
   simp only[go_sem,w1];exact ⟨hlt,by rw[hf]; simp only[ai3,hqe,Bool.false_eq_true,if_false,Int.natCast_add,Int.natCast_one]⟩
 ·have hi':i=xs.length:=by omega
  subst hi';have c1:¬ (xs.length:Int)<xs.length:=by omega
  rw[List.drop_length] at hf;simp only[go_sem,c1,hf,ai3,and_self]
theorem ga7 (xs:List Job)(g:Nat)(first cap:List IV)(q:Job->Bool)(hn:xs.length<2^62)(hok:okF Tryz.prog g=true)
  (hq:∀ x∈xs,PC Tryz.prog EE g (first++[IV.agg (Job.cs x)]++cap) (.bool (q x))):PC Tryz.prog EE 93 [.aa3 (xs.map Job.cs),.func (.func g) first cap] (.bool (xs.any q)):=by
 refine ap7 fok93 (nZ rfl) fun σ=>?_
 simp only[ic93,go_sem]
 first|refine aa5 fok169 (dx8 xs g first cap q hn hok hq) ?_|refine aa6 (dx8 xs g first cap q hn hok hq) ?_
 simp only[go_sem,as2,and_self]
theorem dg5 (xs:List ba2)(g:Nat)(first cap:List IV)(q:ba2->Bool)(hn:xs.length<2^62)(hok:okF Tryz.prog g=true)
  (hq:∀ x∈xs,PC Tryz.prog EE g (first++[IV.agg (ba2.cs x)]++cap) (.bool (q x))):PC Tryz.prog EE 171 [.aa3 (xs.map ba2.cs),.func (.func g) first cap] (.int .i64 (ai3 q xs 0)):=by
 refine ap7 fok171 (nZ rfl) fun σ=>?_
 simp only[ic171,go_sem];refine ab4 noT (fun i fr s=>s=σ/\fr=[(0,.aa3 (xs.map ba2.cs)),(1,.func (.func g) first cap),(7,.int .i64 xs.length),(8,.int .i64 i)]/\ai3 q xs 0=ai3 q (xs.drop i) i) xs.length ⟨rfl,rfl,rfl⟩ ?_;rintro i fr s hi ⟨rfl,rfl,hf⟩;by_cases hlt:i<xs.length
 ·obtain ⟨x,ha,_,hdr,hget,_⟩:=af5 xs i hlt;have c1:(i:Int)<xs.length:=by omega
  have c2:(0:Int)<=i:=by omega
  have w1:=ad4 (i:=i) (by omega);rw[hdr] at hf;simp only[go_sem,c1,c2,hget,bo9,bj5,ao8];refine an7 hok (ff2 (hq x ha)) ?_;rintro v s ⟨rfl,rfl⟩;refine ⟨Nat.le_refl _,?_⟩
  cases hqe:q x with
  | true=>simp only[go_sem,hf,ai3,hqe,and_self]
  | false=>
   simp only[go_sem,w1];exact ⟨hlt,by rw[hf]; simp only[ai3,hqe,Bool.false_eq_true,if_false,Int.natCast_add,Int.natCast_one]⟩
 ·have hi':i=xs.length:=by omega
  subst hi';have c1:¬ (xs.length:Int)<xs.length:=by omega
  rw[List.drop_length] at hf;simp only[go_sem,c1,hf,ai3,and_self]
theorem fi8 (xs:List ba2)(g:Nat)(first cap:List IV)(q:ba2->Bool)(hn:xs.length<2^62)(hok:okF Tryz.prog g=true)
  (hq:∀ x∈xs,PC Tryz.prog EE g (first++[IV.agg (ba2.cs x)]++cap) (.bool (q x))):PC Tryz.prog EE 96 [.aa3 (xs.map ba2.cs),.func (.func g) first cap] (.bool (xs.any q)):=by
 refine ap7 fok96 (nZ rfl) fun σ=>?_
 simp only[ic96,go_sem]
 first|refine aa5 fok171 (dg5 xs g first cap q hn hok hq) ?_|refine aa6 (dg5 xs g first cap q hn hok hq) ?_
 simp only[go_sem,as2,and_self]
theorem ht9 {α:Type}[DecidableEq α](xs:List α)(n:α):xs.any (fun x=>decide (n=x))=decide (n∈xs):=by
 rw[Bool.eq_iff_iff]; simp
theorem gy8 (a b:ba2):gv3 [1,1] true false (.agg a.cs) (.agg b.cs)=some (.bool (decide (a=b))):=by
 have e:decide (a=b)=(decide (a.kind=b.kind)&&decide (a.n=b.n)):=by
  cases a; cases b; simp only[ba2.mk.injEq,Bool.decide_and]
 rw[e];unfold ba2.cs;simp only[gw1,gw3,gw2,go_sem,Option.map_some,it2,aj5,Bool.xor_false,Bool.and_true]
theorem dx9 (xs:List ba2)(n:ba2)(hn:xs.length<2^62):PC Tryz.prog EE 178 [aw6 xs,.agg n.cs] (.int .i64 (ai3 (fun x=>decide (n=x)) xs 0)):=by
 refine ag3 hE fok178 (nZ rfl) (ah6 (az8 xs) (bx7 n)) ?_;simp only[ic178,go_sem,ao8];refine ab4 noT (fun i fr s=>fr=[(0,aw6 xs),(3,.ab6 n.cs),(7,.int .i64 xs.length),(8,.int .i64 i)]/\ai3 (fun x=>decide (n=x)) xs 0=ai3 (fun x=>decide (n=x)) (xs.drop i) i) xs.length ⟨rfl,rfl⟩ ?_;rintro i fr s hi ⟨rfl,hf⟩;by_cases hlt:i<xs.length
 ·obtain ⟨x,ha,_,hdr,hget,_⟩:=af5 xs i hlt;have c1:(i:Int)<xs.length:=by omega
  have c2:(0:Int)<=i:=by omega
  have w1:=ad4 (i:=i) (by omega);rw[hdr] at hf;by_cases e:n=x
  ·simp only[go_sem,c1,c2,hget,bo9,bj5,ao8,gy8,e];subst e;exact bc1 (by rw[hf]; simp[ai3])
  ·simp only[go_sem,c1,c2,hget,bo9,bj5,ao8,gy8,e,w1];exact ⟨hlt,by rw[hf]; simp only[ai3,e,decide_false,Bool.false_eq_true,if_false,Int.natCast_add,Int.natCast_one]⟩
 ·have hi':i=xs.length:=by omega
  subst hi';have c1:¬ (xs.length:Int)<xs.length:=by omega
  rw[List.drop_length] at hf;simp only[go_sem,c1];exact bc1 (by rw[hf]; rfl)
theorem fi9 (xs:List ba2)(n:ba2)(hn:xs.length<2^62):PC Tryz.prog EE 109 [aw6 xs,.agg n.cs] (.bool (decide (n∈xs))):=by
 refine ag3 hE fok109 (nZ rfl) (ah6 (az8 xs) (bx7 n)) ?_;have h:=dx9 xs n hn;have e:=as2 (fun x=>decide (n=x)) xs;rw[ht9] at e;simp only[ic109,go_sem,bo9,bj5,ao8]
 first|refine aa5 fok178 (h) ?_|refine aa6 (h) ?_
 simp only[go_sem,e];exact ad9 rfl
theorem ei2 (xs:List Job)(hn:xs.length<=2147483648):PC Tryz.prog EE 173 [.aa3 (xs.map Job.cs)] (.aa3 (xs.map Job.cs)):=by
 cases hx:xs with
 | nil=>
  rw[List.map_nil];refine bu6 ?_ ?_
  ·refine ag3 hE fok173 (nZ rfl) (ae4 .aa1) ?_;simp only[ic173,go_sem,ak4];exact .bg7
  ·refine ag3 hE fok173 (nZ rfl) (ae4 .ae5) ?_;simp only[ic173,go_sem,ak4];rw[bu7 (by simp only[aa4,if_true]) rfl];simp only[go_sem]
   exact .dr5 _ _ _ (by simp only[aa4,if_true]; exact fun h=>(by cases h))
 | cons a as'=>
  have hne:xs.map Job.cs≠[]:=by rw[hx]; exact fun h=>(by cases h)
  have hall:∀ e∈xs.map Job.cs,e.length=6/\e.all IV.leaf=true:=fun e he=>by
   obtain ⟨x,_,rfl⟩:=List.mem_map.1 he;exact ⟨ei1 x,bo8 x⟩
  rw[<- hx];refine ag3 hE fok173 (nZ rfl) (ae4 (bx6 xs)) ?_;have hnil:∀ d,cl1 (.slice d) (.aa3 (xs.map Job.cs))=some false:=fun d=>by rw[hx]; rfl
  simp only[ic173,go_sem,ak4,hnil];rw[ca2 (by simp only[aa4,if_true]) hne hall (by rw[List.length_map]; exact hn)];simp only[go_sem];refine Grow.frz (esz:=6) (es:=xs.map Job.cs) (.inr ⟨1,by rw[List.length_map],by simp only[aa4,if_true],Nat.lt_succ_self _⟩) (fun x hx=>(hall x hx).1) (fun _ _=>Nat.not_lt_zero _) (ap6 (bx6 xs))
theorem dy1 (xs:List ba2)(hn:xs.length<=2147483648):PC Tryz.prog EE 174 [.aa3 (xs.map ba2.cs)] (.aa3 (xs.map ba2.cs)):=by
 cases hx:xs with
 | nil=>
  rw[List.map_nil];refine bu6 ?_ ?_
  ·refine ag3 hE fok174 (nZ rfl) (ae4 .aa1) ?_;simp only[ic174,go_sem,ak4];exact .bg7
  ·refine ag3 hE fok174 (nZ rfl) (ae4 .ae5) ?_;simp only[ic174,go_sem,ak4];rw[bu7 (by simp only[aa4,if_true]) rfl];simp only[go_sem]
   exact .dr5 _ _ _ (by simp only[aa4,if_true]; exact fun h=>(by cases h))
 | cons a as'=>
  have hne:xs.map ba2.cs≠[]:=by rw[hx]; exact fun h=>(by cases h)
  have hall:∀ e∈xs.map ba2.cs,e.length=2/\e.all IV.leaf=true:=fun e he=>by
   obtain ⟨x,_,rfl⟩:=List.mem_map.1 he;exact ⟨bo9 x,ao8 x⟩
  rw[<- hx];refine ag3 hE fok174 (nZ rfl) (ae4 (az8 xs)) ?_;have hnil:∀ d,cl1 (.slice d) (.aa3 (xs.map ba2.cs))=some false:=fun d=>by rw[hx]; rfl
  simp only[ic174,go_sem,ak4,hnil];rw[ca2 (by simp only[aa4,if_true]) hne hall (by rw[List.length_map]; exact hn)];simp only[go_sem];refine Grow.frz (esz:=2) (es:=xs.map ba2.cs) (.inr ⟨1,by rw[List.length_map],by simp only[aa4,if_true],Nat.lt_succ_self _⟩) (fun x hx=>(hall x hx).1) (fun _ _=>Nat.not_lt_zero _) (ap6 (az8 xs))
structure AOK (a:ah7):Prop where
 len:a.l.length<=256
 small:∀ p∈a.l,Pkg.small p
 fit:∀ p∈a.l,p.Fit
 tiny:∀ p∈a.l,p.Tiny
 inst:a.p.inst<=a.l.length
 an2:a.r.an2.length<=64
 al4:a.r.al4.length<=128
 ir8:∀ j∈a.r.an2,Dep.small j.dep
 jh4:∀ j∈a.r.an2,1<=j.kind/\j.kind<=4
theorem aq2 (a:ah7):Bnd 0 a.v:=.ab6 _ fun c hc=>by
 simp only[ah7.cs,List.mem_cons,List.not_mem_nil,or_false] at hc;rcases hc with rfl|rfl|rfl|rfl|rfl|rfl|rfl|rfl
 ·exact aq8 _
 ·exact bf4 _
 ·exact .int _ _
 ·exact .bool _
 ·exact bx6 _
 ·exact az8 _
 ·exact .int _ _
 ·exact ax6 _
theorem am4 {d:TypeId}{c:IV}{cs:List IV}:cl1 (.pointer d) (.ab6 (c::cs))=some false:=rfl
theorem eq6 (a:ah7)(n:Int):PC Tryz.prog EE 108 [a.v,.int .i64 n] (.bool (a.is n)):=by
 refine ag3 hE fok108 (nZ rfl) (ah6 (aq2 a) (.int _ _)) ?_;unfold ah7.is ah7.v ah7.cs;have hl:(a.l.map aa2.cs).length=a.l.length:=List.length_map ..;generalize a.l.map aa2.cs=es at *;generalize a.l.length=k at *;by_cases h1:0<=n
 ·by_cases h2:n<(k:Nat)
  ·simp only[ic108,go_sem,am4,h1,h2,hl]; exact ad9 rfl
  ·simp only[ic108,go_sem,am4,h1,h2,hl]; exact ad9 rfl
 ·simp only[ic108,go_sem,am4,h1]; exact ad9 rfl
theorem ga8 (a:ah7)(n:Int):PC Tryz.prog EE 179 [a.v,.int .i64 n] (.bool (a.job n)):=by
 refine ag3 hE fok179 (nZ rfl) (ah6 (aq2 a) (.int _ _)) ?_;unfold ah7.job ah7.v ah7.cs;by_cases h1:0<=n
 ·by_cases h2:n<(a.r.an2.length:Nat)
  ·simp only[ic179,go_sem,am4,h1,h2]; exact ad9 (by simp[h1, *])
  ·simp only[ic179,go_sem,am4,h1,h2]; exact ad9 (by simp[h1, *])
 ·simp only[ic179,go_sem,am4,h1]; exact ad9 rfl
theorem fj1 (a:ah7)(n:Int):PC Tryz.prog EE 44 [a.v,.int .i64 n] (.bool (a.inst n)):=by
 refine ag3 hE fok44 (nZ rfl) (ah6 (aq2 a) (.int _ _)) ?_;have h:=eq6 a n;have hp:=ax2 a.p;unfold ah7.inst;unfold ah7.v ah7.cs at *;simp only[ic44,go_sem]
 first|refine aa5 fok108 (h) ?_|refine aa6 (h) ?_
 cases a.is n with
 | false=>simp only[go_sem]; exact ad9 rfl
 | true=>
  simp only[go_sem]
  first|refine aa5 fok99 (hp) ?_|refine aa6 (hp) ?_
  simp only[go_sem];exact ad9 rfl
theorem dg6 (a:ah7)(n:Int):PC Tryz.prog EE 132 [a.v,.int .i64 n] (.bool (a.fits n)):=by
 refine ag3 hE fok132 (nZ rfl) (ah6 (aq2 a) (.int _ _)) ?_;have h:=eq6 a n;have hf:=ho7 a.r.an1 (a.pk n).an1;unfold ah7.fits
 cases hi:a.is n with
 | false=>
  rw[hi] at h;unfold ah7.v ah7.cs at *;simp only[ic132,go_sem]
  first|refine aa5 fok108 (h) ?_|refine aa6 (h) ?_
  simp only[go_sem]; exact ad9 rfl
 | true=>
  rw[hi] at h;unfold ah7.is at hi;simp only[Bool.and_eq_true,decide_eq_true_eq] at hi;have hl:(a.l.map aa2.cs).length=a.l.length:=List.length_map ..;have c1:n.toNat<a.l.length:=by omega
  have hg:(a.l.map aa2.cs).getD n.toNat []=(a.pk n).cs:=by
   unfold ah7.pk;rw[getD_at _ _ c1];simp[List.getD_eq_getElem?_getD,c1]
  have p4:((a.pk n).cs.drop 4).head? = some (.int .u8 (a.pk n).an1):=rfl;unfold ah7.v ah7.cs at *;generalize a.pk n=q at *;generalize a.l.map aa2.cs=es at *;have c2:n<(es.length:Nat):=by omega
  simp only[ic132,go_sem]
  first|refine aa5 fok108 (h) ?_|refine aa6 (h) ?_
  simp only[go_sem,hi.1,c2,hg,p4,ag1]
  first|refine aa5 fok196 (hf) ?_|refine aa6 (hf) ?_
  simp only[go_sem];exact ad9 rfl
theorem bj6 (a:ah7)(k n:Int)(hA:AOK a):PC Tryz.prog EE 45 [a.v,.int .u8 k,.int .i64 n] (.bool (a.cj9 k n)):=by
 refine ag3 hE fok45 (nZ rfl) (aw5 (aq2 a) (.int _ _) (.int _ _)) ?_;have h:=fi9 a.r.al4 ⟨k,n⟩ (by have:=hA.al4; omega);unfold ah7.cj9;unfold ah7.v ah7.cs;unfold ba2.cs at h;simp only[ic45,go_sem]
 first|refine aa5 fok109 (h) ?_|refine aa6 (h) ?_
 simp only[go_sem];exact ad9 rfl
theorem do2 (a:ah7)(n:Int)(hA:AOK a):PC Tryz.prog EE 110 [a.v,.int .i64 n] (.bool (a.dropped n)):=by
 refine ag3 hE fok110 (nZ rfl) (ah6 (aq2 a) (.int _ _)) ?_;have h:=ga8 a n;have h2:=bj6 a 1 n hA;unfold ah7.dropped;simp only[ic110,go_sem]
 first|refine aa5 fok179 (h) ?_|refine aa6 (h) ?_
 cases a.job n with
 | false=>simp only[go_sem]; exact ad9 rfl
 | true=>
  simp only[go_sem]
  first|refine aa5 fok45 (h2) ?_|refine aa6 (h2) ?_
  simp only[go_sem];exact ad9 rfl
theorem io6 (a:ah7){n:Int}(h:a.is n=true):0<=n/\n<(a.l.map aa2.cs).length/\(a.l.map aa2.cs).getD n.toNat []=(a.pk n).cs/\a.pk n∈a.l:=by
 unfold ah7.is at h;simp only[Bool.and_eq_true,decide_eq_true_eq] at h;have c1:n.toNat<a.l.length:=by omega
 refine ⟨h.1,by rw[List.length_map]; exact h.2,?_,?_⟩
 ·unfold ah7.pk;rw[getD_at _ _ c1];simp[List.getD_eq_getElem?_getD,c1]
 ·unfold ah7.pk;rw[getD_at _ _ c1];exact List.getElem_mem c1
theorem gs3 (p:aa2):(p.cs.drop 1).length=14:=rfl
theorem eq7 (j:Job):(j.cs.drop 1).take 5=j.dep.cs:=rfl
theorem ei3 (a:ah7)(k n:Int)(hA:AOK a):PC Tryz.prog EE 46 [a.v,.int .u8 k,.int .i64 n] (.bool (a.cs6 k n)):=by
 refine ag3 hE fok46 (nZ rfl) (aw5 (aq2 a) (.int _ _) (.int _ _)) ?_;have hD:∀ i:Nat,i<a.r.an2.length->PC Tryz.prog EE 110 [a.v,.int .i64 i] (.bool (a.dropped i)):=fun i _=>do2 a i hA
 have hN:∀ (i:Nat) (h:i<a.r.an2.length),PC Tryz.prog EE 112 [(ai8 a.l).v,.agg (a.jb i).dep.cs] (.aa3 ((bi9 a.l (a.jb i).dep).map Md.af3)):=fun i h=>
  eh9 a.l (a.jb i).dep (by have:=hA.len; omega) hA.small (hA.ir8 _ (by
   have e:a.jb i=a.r.an2[i]:=by simp[ah7.jb,List.getD_eq_getElem?_getD,h]
   rw[e]; exact List.getElem_mem h))
 have hH:∀ i:Nat,PC Tryz.prog EE 111 [.aa3 ((bi9 a.l (a.jb i).dep).map Md.af3),.int .i64 n] (.bool (decide (n∈bi9 a.l (a.jb i).dep))):=fun i=>
  dw8 _ n (by have h1:=ay4 (fun p=>named p (a.jb i).dep) a.l; have:=hA.len; have:(bi9 a.l (a.jb i).dep).length<=a.l.length:=h1; omega)
 have hg:∀ i:Nat,i<a.r.an2.length->(a.r.an2.map Job.cs).getD i []=(a.jb i).cs:=fun i h=>by simp[ah7.jb,List.getD_eq_getElem?_getD,h]
 have hlen:=hA.an2;unfold ah7.cs6;unfold ah7.v ah7.cs at *;simp only[ic46,go_sem];generalize a.dropped=dr at *;generalize a.jb=jb at *;generalize bi9 a.l=nm at *;refine ab4 noT (fun i fr s=>fr=[(0,.ab6 [a.p.v,(ai8 a.l).v,.int .u8 a.r.an1,.bool a.r.vendor,bs3 a.r.an2,aw6 a.r.al4,.int .i64 a.r.budget,.aa3 (a.l.map aa2.cs)]),(1,.int .u8 k),(2,.int .i64 n),(13,.aa3 (a.r.an2.map Job.cs)),(14,.int .i64 a.r.an2.length),(15,.int .i64 (i:Int))]/\((List.range i).any fun i=>decide ((jb i).kind=k)&&!dr i&&decide (n∈nm (jb i).dep))=false) a.r.an2.length ⟨rfl,rfl⟩ ?_;rintro i fr t hi ⟨rfl,hf⟩;by_cases hlt:i<a.r.an2.length
 ·have c1:(i:Int)<a.r.an2.length:=by omega
  have c2:(0:Int)<=i:=by omega
  have w1:=ad4 (i:=i) (by omega);have hgi:=hg i hlt;have hDi:=hD i hlt;have hNi:=hN i hlt;have hHi:=hH i
  have hex:∀ b,(decide ((jb i).kind=k)&&!dr i&&decide (n∈nm (jb i).dep))=b->(b=true->((List.range a.r.an2.length).any fun i=>decide ((jb i).kind=k)&&!dr i&&decide (n∈nm (jb i).dep))=true)/\(b=false->((List.range i++[i]).any fun i=>decide ((jb i).kind=k)&&!dr i&&decide (n∈nm (jb i).dep))=false):=by
   intro b hb;refine ⟨fun h=>List.any_eq_true.2 ⟨i,List.mem_range.2 hlt,by rw[hb]; exact h⟩,fun h=>?_⟩;rw[List.any_append,hf];simp only[List.any_cons,List.any_nil,Bool.or_false,Bool.false_or,hb,h]
  clear hD hN hH hg;have j0:(jb i).cs.head? = some (.int .u8 (jb i).kind):=rfl;have j1:=eq7 (jb i);have j2:((jb i).cs.drop 1).length=5:=rfl;generalize jb i=j at *;simp only[go_sem,c1,c2,hgi,ei1,eq4,bo8,j0];by_cases e1:j.kind=k
  ·simp only[go_sem,e1]
   first|refine aa5 fok110 (hDi) ?_|refine aa6 (hDi) ?_
   cases e2:dr (i:Int) with
   | true=>
    simp only[go_sem,w1]
    exact ⟨hlt,(hex _ rfl).2 (by simp[e2])⟩
   | false=>
    simp only[go_sem,j1,j2]
    first|refine aa5 fok112 (hNi) ?_|refine aa6 (hNi) ?_
    simp only[go_sem]
    first|refine aa5 fok111 (hHi) ?_|refine aa6 (hHi) ?_
    by_cases e3:n∈nm j.dep
    ·simp only[go_sem,e3];exact ad9 ((hex _ rfl).1 (by simp[e1,e2,e3])).symm
    ·simp only[go_sem,e3,w1];exact ⟨hlt,(hex _ rfl).2 (by simp[e3])⟩
  ·simp only[go_sem,e1,w1];exact ⟨hlt,(hex _ rfl).2 (by simp[e1])⟩
 ·have hi':i=a.r.an2.length:=by omega
  subst hi';have c1:¬ (a.r.an2.length:Int)<(a.r.an2.length:Int):=by omega
  simp only[go_sem,c1];exact ad9 hf.symm
def ea1 (c:Nat->Bool)(n:Nat):List IV:=(List.range n).map fun j=>.bool (c j)
theorem bf6 (c:Nat->Bool)(n:Nat):(ea1 c n).length=n:=by simp[ea1]
theorem ga9:∀ n:Nat,rep [IV.bool false] n=ea1 (fun _=>false) n:=by
 intro n
 have h:∀ m,rep [IV.bool false] m=List.replicate m (.bool false):=by
  intro m
  induction m with
  | zero=>rfl
  | succ m ih=>show [IV.bool false]++rep _ m=_; rw[ih]; rfl
 rw[h];exact List.ext_getElem (by simp[ea1]) fun i h1 h2=>by simp[ea1]
theorem eq8 (c:Nat->Bool){n i:Nat}(h:i<(ea1 c n).length):(ea1 c n)[i]=.bool (c i):=by simp[ea1]
theorem gs4 (c:Nat->Bool){n j:Nat}(h:j<n)(x:Bool):as6 (ea1 c n) j [.bool x]=ea1 (fun i=>if i=j then x else c i) n:=by
 refine List.ext_getElem (by rw[af8 (by rw[bf6]; simp only[List.length_singleton]; omega),bf6,bf6]) fun i h1 h2=>?_
 rw[eq8];rw[bf6] at h2;unfold as6;simp only[List.getElem_append,List.length_take,bf6,List.getElem_take,List.getElem_drop,List.length_append,List.length_singleton,eq8];by_cases e:i=j
 ·subst e;have g1:¬ i<min i n:=by omega
  have g2:i<min i n+1:=by omega
  simp only[g1,g2,dite_false,dite_true,if_true,List.getElem_singleton]
 ·by_cases e2:i<j
  ·have g1:i<min j n:=by omega
   have g2:i<min j n+1:=by omega
   simp only[g1,g2,dite_true,e,if_false]
  ·have g1:¬ i<min j n:=by omega
   have g2:¬ i<min j n+1:=by omega
   have g3:j+1+(i-(min j n+1))=i:=by omega
   simp only[g2,g3,dite_false,e,if_false]
theorem io7 {pt:PT}{ct:CT}{P:Program}{E:Nat->IV}{e id:Nat}{z:List IV}{x:IX}{fr:Frm}{σ:Store}{K:IV->Store->Prop}:opT pt ct P E (.dj9 e z x) id fr σ K=br9 (di7 (x.ev E fr)) fun n=>K (.slice id 0 n e) (σ.put id (.row (rep z n))):=rfl
theorem hu4 {K:Nat->Prop}(n:Nat)(h:n<=2147483648):br9 (di7 (.int .i64 (n:Int))) K=K n:=by
 have h1:(0:Int)<=n/\(n:Int)<=2147483648:=by omega
 show br9 (if 0<=(n:Int)/\(n:Int)<=2147483648 then some ((n:Int).toNat) else none) K=K n;rw[if_pos h1]; rfl
theorem gs5 {s:Store}{S:Nat->Prop}{id n:Nat}{c:Nat->Bool}(hid:¬ S id)(ho:s.obj id=some (.row (ea1 c n))):Frz s S (.slice id 0 n 1) (.aa3 (((List.range n).map c).map bp8)):=by
 have hl:(((List.range n).map c).map bp8).length=n:=by simp
 refine .slice id 0 n 1 (ea1 c n) _ hid (.inr ho) hl (by rw[bf6]; omega) (fun i hi=>?_) fun i hi j hj=>?_
 ·simp[List.getD_eq_getElem?_getD,hi,bp8]
 ·have hj0:j=0:=by omega
  subst hj0;have e2:((((List.range n).map c).map bp8).getD i []).getD 0 .undef=.bool (c i):=by simp[List.getD_eq_getElem?_getD,hi,bp8]
  have e3:(ea1 c n).getD (0+(i*1+0)) .undef=.bool (c i):=by simp[List.getD_eq_getElem?_getD,hi,ea1]
  rw[e2,e3];exact .keep _ (.bool _)
abbrev dy2 (st:List Bool):IV:=.aa3 (st.map bp8)
def ap9 (l:List aa2):IV:=.ab6 [(ai8 l).v,.int .i64 l.length]
def al3 (l:List aa2)(st:List Bool):List IV:=[ap9 l,dy2 st]
theorem dy3 (st:List Bool):Bnd 0 (dy2 st):=.aa3 _ fun e he c hc=>by
 obtain ⟨b,_,rfl⟩:=List.mem_map.1 he
 cases hc with
 | head=>exact .bool _
 | tail _ h=>cases h
theorem aw9 (l:List aa2):Bnd 0 (ap9 l):=.ab6 _ (ah6 (bf4 _) (.int _ _))
theorem dy4 (l:List aa2)(st:List Bool):∀ c∈al3 l st,Bnd 0 c:=ah6 (aw9 l) (dy3 st)
theorem eq9 (l:List aa2)(zs:List Int)(hl:l.length<=256)(hz:zs.length<2^40):PC Tryz.prog EE 176 [ap9 l,.aa3 (zs.map Md.af3)] (.agg (al3 l (stB l.length zs))):=by
 refine ag3 hE fok176 (nZ rfl) (ah6 (aw9 l) (an9 zs)) ?_;have hnc:(ap9 l)=.ab6 [(ai8 l).v,.int .i64 l.length]:=rfl;simp only[ic176,go_sem,ap9];simp only[io7,hu4 _ (show l.length<=2147483648 by omega),go_sem];rw[ga9]
 refine ab4 noT (fun i fr t=>∃ c:Nat->Bool,fr=[(0,ap9 l),(4,.ptr 0 0),(5,.ptr 2 0),(15,.aa3 (zs.map Md.af3)),(16,.int .i64 zs.length),(17,.int .i64 (i:Int))]/\2<t.next/\t.obj 0=some (.cells [.ab7,.aa1])/\t.obj 1=some (.row (ea1 c l.length)) /\
  t.obj 2=some (.cells [ap9 l,.slice 1 0 l.length 1])/\∀ j,j<l.length->c j=decide ((j:Int)∈zs.take i)) zs.length ⟨fun _=>false,rfl,by show 2<3; omega,rfl,rfl,rfl,fun j hj=>by simp⟩ ?_
 rintro i fr t hle ⟨c,rfl,hnx,o0,o1,o2,hc⟩;by_cases hlt:i<zs.length
 ·obtain ⟨x,hx,_,hdr,hget,htk⟩:=af5 zs i hlt;have c1:(i:Int)<zs.length:=by omega
  have c2:(0:Int)<=i:=by omega
  have w1:=ad4 (i:=i) (by omega);by_cases q1:0<=x
  ·by_cases q2:x<(l.length:Nat)
   ·have hxn:x.toNat<l.length:=by omega
    have r2:=gs4 c hxn true;have r3:x.toNat+1<=(ea1 c l.length).length:=by rw[bf6]; omega
    simp only[go_sem,c1,c2,hget,Md.af3,q1,q2,ap9,o2,o1,Nat.zero_add,Nat.mul_one,r2,r3,w1];refine ⟨hlt,fun i=>if i=x.toNat then true else c i,hnx,o0,rfl,fun j hj=>?_⟩
    ·show (if j=x.toNat then true else c j)=_;rw[htk];by_cases e:j=x.toNat
     ·rw[if_pos e];have:(j:Int)=x:=by omega
      simp[this]
     ·rw[if_neg e,hc j hj];have:¬ (j:Int)=x:=by omega
      simp[this]
   ·simp only[go_sem,c1,c2,hget,Md.af3,q1,q2,ap9,w1];refine ⟨hlt,c,hnx,o0,o1,o2,fun j hj=>?_⟩;have:¬ (j:Int)=x:=by omega
    rw[hc j hj,htk]; simp[this]
  ·simp only[go_sem,c1,c2,hget,Md.af3,q1,w1];refine ⟨hlt,c,hnx,o0,o1,o2,fun j hj=>?_⟩;have:¬ (j:Int)=x:=by omega
   rw[hc j hj,htk]; simp[this]
 ·have hi':i=zs.length:=by omega
  subst hi';have c1:¬ (zs.length:Int)<zs.length:=by omega
  have hst:stB l.length zs=(List.range l.length).map c:=by
   unfold stB;refine List.map_congr_left fun m hm=>?_
   rw[hc m (List.mem_range.1 hm),List.take_length]
  simp only[go_sem,c1,o0,o1,o2];rw[hst];exact ⟨rfl,.ih6 (.cons (.keep _ (aw9 l)) (.cons (gs5 (Nat.not_lt_zero _) (by rw[aa4,if_neg (by decide)]; exact o1)) .nil))⟩
theorem dy5 {d:Dep}(h:al2 d=true):Dep.small d:=by
 obtain ⟨h1,h2,h3,h4⟩:=dl6 h;exact ⟨h1,h2,by have:=h3.1; omega,by have:=h3.2; omega⟩
theorem ad3 (l:List aa2)(st:List Bool):(al3 l st).all IV.leaf=true:=rfl
theorem ae2 (l:List aa2)(st:List Bool):(al3 l st).take 2=al3 l st:=rfl
theorem ae1 (l:List aa2)(st:List Bool):(al3 l st).length=2:=rfl
theorem gb1 (l:List aa2)(st:List Bool):((al3 l st).drop 1).head? = some (dy2 st):=rfl
theorem gb2 (l:List aa2)(st:List Bool):(al3 l st).head? = some (ap9 l):=rfl
theorem bx8 {st:List Bool}{n:Nat}(h:n<st.length):(st.map bp8).getD n []=[.bool (st.getD n false)]:=by simp[List.getD_eq_getElem?_getD,h,bp8]
abbrev gb3 (l:List aa2)(r:aa8):Prop:=∀ st:List Bool,st.length=l.length->PC Tryz.prog EE 177 [.agg (al3 l st),.agg r.cs] (.bool (r.tr l st))
theorem am3 (l:List aa2)(st:List Bool):Bnd 0 (.agg (al3 l st)):=.agg _ (dy4 l st)
theorem dg7 (l:List aa2)(st:List Bool):Bnd 0 (.ab6 (al3 l st)):=.ab6 _ (dy4 l st)
theorem bx9 (r:aa8):Bnd 0 (.ab6 r.cs):=.ab6 _ (dm4 r)
theorem hu5 (d:Dep)(xs:List aa8)(k:Int):((aa8.mk k d xs).cs.drop 1).take 5=d.cs:=by rw[aa8.aq5]; rfl
theorem gb4 (d:Dep)(xs:List aa8)(k:Int):((aa8.mk k d xs).cs.drop 1).length=6:=by rw[aa8.aq5]; rfl
theorem bg6 (d:Dep)(xs:List aa8)(k:Int):((aa8.mk k d xs).cs.drop 6).head? = some (ae8 xs):=by rw[aa8.aq5]; rfl
theorem by1 (d:Dep)(xs:List aa8)(k:Int):(aa8.mk k d xs).cs.head? = some (.int .u8 k):=by rw[aa8.aq5]; rfl
theorem dy6 {xs:List aa8}{n:Nat}(h:n<xs.length):(xs.map aa8.cs).getD n []=(xs[n]).cs:=by simp[List.getD_eq_getElem?_getD,h]
theorem gs6 (l:List aa2)(st:List Bool)(n:Nat)(h:n<st.length):PC Tryz.prog EE 245 [.int .i64 n,.ab6 (al3 l st)] (.bool (st.getD n false)):=by
 refine ag3 hE fok245 (nZ rfl) (ah6 (.int _ _) (dg7 l st)) ?_;have c1:(n:Int)<st.length:=by omega
 have c2:(0:Int)<=n:=by omega
 have g:=bx8 h;simp only[ic245,go_sem,ae1,gb1,c1,c2,g];exact ad9 rfl
theorem hu6 (l:List aa2)(hl:l.length<=256)(hs:∀ p∈l,Pkg.small p)(st:List Bool)(hst:st.length=l.length)(d:Dep)(hd:al2 d=true) :
  PC Tryz.prog EE 223 [.agg (al3 l st),.agg (aa8.mk 1 d []).cs] (.bool ((ap4 l d).any fun n=>st.getD n.toNat false)):=by
 refine ag3 hE fok223 (nZ rfl) (ah6 (am3 l st) (ah8 _)) ?_;have h1:=ct7 l d (by omega) hs (dy5 hd)
 have h2:=ga6 (ap4 l d) 245 [] [.ab6 (al3 l st)] (fun n=>st.getD n.toNat false) (by have:=ay4 (fun p=>provides p d) l; unfold ap4; omega) fok245.1 fun x hx=>by
  obtain ⟨m,rfl,hm⟩:=numsOf_at hx;rw[Int.toNat_natCast];exact gs6 l st m (by omega)
 have ht:ap9 l=.ab6 [(ai8 l).v,.int .i64 l.length]:=rfl;have h7:=ab8 (.mk 1 d []);simp only[ic223,go_sem,ae1,ad3,gb2,ac2,h7,hu5,gb4,ht]
 first|refine aa5 fok244 (h1) ?_|refine aa6 (h1) ?_
 simp only[go_sem,ae1,ad3]
 first|refine aa5 fok78 (h2) ?_|refine aa6 (h2) ?_
 simp only[go_sem];exact ad9 rfl
theorem hu7 (l:List aa2)(st:List Bool)(hst:st.length=l.length)(x:aa8)(hx:gb3 l x):PC Tryz.prog EE 246 [.agg x.cs,.ab6 (al3 l st)] (.bool !(x.tr l st)):=by
 refine ag3 hE fok246 (nZ rfl) (ah6 (ah8 _) (dg7 l st)) ?_;have h:=hx st hst;simp only[ic246,go_sem,ae1,ae2,ad3,ac2,ad2,ab8]
 first|refine aa5 fok177 (h) ?_|refine aa6 (h) ?_
 simp only[go_sem];exact ad9 rfl
theorem gy9 (l:List aa2)(st:List Bool)(hst:st.length=l.length)(k:Int)(d:Dep)(xs:List aa8)(hn:xs.length<2^62)(hx:∀ x∈xs,gb3 l x):PC Tryz.prog EE 224 [.agg (al3 l st),.agg (aa8.mk k d xs).cs] (.bool ((aa8.trs l xs).all fun f=>f st)):=by
 refine ag3 hE fok224 (nZ rfl) (ah6 (am3 l st) (ah8 _)) ?_;have h:=bo7 xs 246 [] [.ab6 (al3 l st)] (fun x=>!(x.tr l st)) hn fok246.1 fun x hm=>hu7 l st hst x (hx x hm)
 have e:(aa8.trs l xs).all (fun f=>f st)=!xs.any fun x=>!(x.tr l st):=by
  rw[aa8.dl8,List.all_map,List.not_any_eq_all_not];congr 1; funext x; simp
 have h7:=ab8 (.mk k d xs);rw[e];simp only[ic224,go_sem,ae1,ad3,ac2,h7,bg6]
 first|refine aa5 fok81 (h) ?_|refine aa6 (h) ?_
 simp only[go_sem];exact ad9 rfl
theorem io8 (l:List aa2)(st:List Bool)(hst:st.length=l.length)(k:Int)(d:Dep)(xs:List aa8)(hn:xs.length<2^62)(hx:∀ x∈xs,gb3 l x):PC Tryz.prog EE 225 [.agg (al3 l st),.agg (aa8.mk k d xs).cs] (.bool ((aa8.trs l xs).any fun f=>f st)):=by
 refine ag3 hE fok225 (nZ rfl) (ah6 (am3 l st) (ah8 _)) ?_;have h:=bo7 xs 177 [.agg (al3 l st)] [] (fun x=>x.tr l st) hn fok177.1 fun x hm=>hx x hm st hst
 have e:(aa8.trs l xs).any (fun f=>f st)=xs.any fun x=>x.tr l st:=by
  rw[aa8.dl8,List.any_map]; rfl
 have h7:=ab8 (.mk k d xs);rw[e];simp only[ic225,go_sem,ae1,ad3,ae2,ac2,h7,bg6]
 first|refine aa5 fok81 (h) ?_|refine aa6 (h) ?_
 simp only[go_sem];exact ad9 rfl
theorem dy7 {l:List aa2}{xs:List aa8}{n:Nat}(h:n<xs.length)(st:List Bool):((aa8.trs l xs).getD n ff) st=(xs[n]).tr l st:=by rw[aa8.dl8]; simp[List.getD_eq_getElem?_getD,h]
theorem gb5 (l:List aa2)(xs:List aa8):(aa8.trs l xs).length=xs.length:=by rw[aa8.dl8,List.length_map]
theorem io9 (l:List aa2)(st:List Bool)(hst:st.length=l.length)(k:Int)(d:Dep)(xs:List aa8)(hn:2<=xs.length)(hx:∀ x∈xs,gb3 l x):PC Tryz.prog EE 226 [.agg (al3 l st),.agg (aa8.mk k d xs).cs]
  (.bool (if ((aa8.trs l xs).getD 1 ff) st then ((aa8.trs l xs).getD 0 ff) st else decide ((aa8.trs l xs).length<3)||((aa8.trs l xs).getD 2 ff) st)):=by
 refine ag3 hE fok226 (nZ rfl) (ah6 (am3 l st) (ah8 _)) ?_;have n0:0<xs.length:=by omega
 have n1:1<xs.length:=by omega
 have h0:=hx _ (List.getElem_mem n0) st hst;have h1:=hx _ (List.getElem_mem n1) st hst;have g0:=dy6 n0;have g1:=dy6 n1;have c0:(0:Int)<xs.length:=by omega
 have c1:(1:Int)<xs.length:=by omega
 have h7:=ab8 (.mk k d xs);rw[dy7 n1,dy7 n0,gb5];simp only[ic226,go_sem,ae1,ad3,ae2,ac2,h7,bg6,c0,c1,g0,g1,ad2,ab8]
 first|refine aa5 fok177 (h1) ?_|refine aa6 (h1) ?_
 cases xs[1].tr l st with
 | true=>
  simp only[go_sem,ae1,ad3,ae2,ac2,h7,bg6,c0,c1,g0,g1,ad2,ab8]
  first|refine aa5 fok177 (h0) ?_|refine aa6 (h0) ?_
  simp only[go_sem]
  exact ad9 rfl
 | false=>
  by_cases q:xs.length<3
  ·have q':(xs.length:Int)<3:=by omega
   simp only[go_sem,ae1,ad3,ae2,ac2,h7,bg6,q'];exact ad9 (by simp[q])
  ·have q':¬ (xs.length:Int)<3:=by omega
   have n2:2<xs.length:=by omega
   have h2:=hx _ (List.getElem_mem n2) st hst;have g2:=dy6 n2;have c2:(2:Int)<xs.length:=by omega
   rw[dy7 n2];simp only[go_sem,ae1,ad3,ae2,ac2,h7,bg6,q',c2,g2,ad2,ab8]
   first|refine aa5 fok177 (h2) ?_|refine aa6 (h2) ?_
   simp only[go_sem];exact ad9 (by simp[q])
theorem gb6 (l:List aa2)(st:List Bool)(hst:st.length=l.length)(k:Int)(d:Dep)(xs:List aa8)(hn:2<=xs.length)(hn2:xs.length<2^31)(hx:∀ x∈xs,gb3 l x):PC Tryz.prog EE 227 [.agg (al3 l st),.agg (aa8.mk k d xs).cs]
  (.bool (if ((aa8.trs l xs).getD 1 ff) st then decide ((aa8.trs l xs).length=3)&&((aa8.trs l xs).getD 2 ff) st else ((aa8.trs l xs).getD 0 ff) st)):=by
 refine ag3 hE fok227 (nZ rfl) (ah6 (am3 l st) (ah8 _)) ?_;have n0:0<xs.length:=by omega
 have n1:1<xs.length:=by omega
 have h0:=hx _ (List.getElem_mem n0) st hst;have h1:=hx _ (List.getElem_mem n1) st hst;have g0:=dy6 n0;have g1:=dy6 n1;have c0:(0:Int)<xs.length:=by omega
 have c1:(1:Int)<xs.length:=by omega
 have h7:=ab8 (.mk k d xs);rw[dy7 n1,dy7 n0,gb5];simp only[ic227,go_sem,ae1,ad3,ae2,ac2,h7,bg6,c0,c1,g0,g1,ad2,ab8]
 first|refine aa5 fok177 (h1) ?_|refine aa6 (h1) ?_
 cases xs[1].tr l st with
 | false=>
  simp only[go_sem,ae1,ad3,ae2,ac2,h7,bg6,c0,c1,g0,g1,ad2,ab8]
  first|refine aa5 fok177 (h0) ?_|refine aa6 (h0) ?_
  simp only[go_sem]
  exact ad9 rfl
 | true=>
  by_cases q:xs.length=3
  ·have q':(xs.length:Int)=3:=by omega
   have n2:2<xs.length:=by omega
   have h2:=hx _ (List.getElem_mem n2) st hst;have g2:=dy6 n2;have c2:(2:Int)<3:=by omega
   rw[dy7 n2];simp only[go_sem,ae1,ad3,ae2,ac2,h7,bg6,q',c2,g2,ad2,ab8]
   first|refine aa5 fok177 (h2) ?_|refine aa6 (h2) ?_
   simp only[go_sem];exact ad9 (by simp[q])
  ·have q':¬ (xs.length:Int)=3:=by omega
   simp only[go_sem,ae1,ad3,ae2,ac2,h7,bg6,q'];exact ad9 (by simp[q])
theorem hu8 (c n:Nat):stB c [(n:Int)]=dv6 c n:=by
 unfold stB dv6;refine List.map_congr_left fun m _=>decide_eq_decide.2 ?_
 rw[List.mem_singleton]; omega
theorem gs7 (c n:Nat):(dv6 c n).length=c:=by simp[dv6]
theorem gz1 (l:List aa2)(hl:l.length<=256)(st:List Bool)(hst:st.length=l.length)(g:Nat)(cap:List IV)(q:List Bool->Bool)(hok:okF Tryz.prog g=true)(hcap:∀ c∈cap,Bnd 0 c)
  (hq:∀ s2:List Bool,s2.length=l.length->PC Tryz.prog EE g (.agg (al3 l s2)::cap) (.bool (q s2))):PC Tryz.prog EE 247 [.agg (al3 l st),.func (.func g) [] cap] (.bool (gn5 st fun n=>q (dv6 st.length n))):=by
 have hbf:Bnd 0 (.func (.func g) [] cap):=.func _ _ _ (fun c hc=>by cases hc) hcap;refine ag3 hE fok247 (nZ rfl) (ah6 (am3 l st) hbf) ?_;simp only[ic247,go_sem,ae1,ad3,gb1];refine ab4 noT (fun i fr t=>fr=[(1,.func (.func g) [] cap),(2,.ab6 (al3 l st)),(8,dy2 st),(9,.int .i64 st.length),(10,.int .i64 (i:Int))]/\∀ j,j<i->(st.getD j false&&q (dv6 st.length j))=false) st.length ⟨rfl,fun j hj=>absurd hj (Nat.not_lt_zero _)⟩ ?_;rintro i fr t hle ⟨rfl,hI⟩;by_cases hlt:i<st.length
 ·have c1:(i:Int)<st.length:=by omega
  have c2:(0:Int)<=i:=by omega
  have w1:=ad4 (i:=i) (by omega);have g1:=bx8 hlt
  cases hb:st.getD i false with
  | false=>
   rw[hb] at g1;simp only[go_sem,c1,c2,g1,w1];refine ⟨hlt,fun j hj=>?_⟩;by_cases e:j=i
   ·subst e; rw[hb]; rfl
   ·exact hI j (by omega)
  | true=>
   rw[hb] at g1;have hS:=eq9 l [(i:Int)] hl (by show 1<_; decide);rw[hu8] at hS;have hQ:=hq (dv6 l.length i) (gs7 _ _);simp only[go_sem,c1,c2,g1,ae1,gb2]
   have hfz:Frz (({ next:=t.next+1,obj:=t.obj }:Store).put t.next (.row [.int .i64 i])) (fun _=>false=true) (.slice t.next 0 1 1) (.aa3 ([(i:Int)].map Md.af3)):=
    .slice t.next 0 1 1 [.int .i64 i] _ Bool.false_ne_true (.inr (by rw[aa4,if_pos rfl])) rfl (Nat.le_refl 1) (fun k hk=>by
     have:k=0:=by omega
     subst this; rfl) fun k hk j hj=>by
     have:k=0:=by omega
     have:j=0:=by omega
     subst this; subst k;exact .keep _ (.int _ _)
   refine ac9 fok176 (ft2 (S:=fun _=>false) (args':=[ap9 l,.aa3 ([(i:Int)].map Md.af3)]) rfl (fun k hk=>by
    match k,hk with
    | 0,_=>exact .keep _ ((aw9 l).weak fun _ h=>absurd h (Nat.not_lt_zero _))
    | 1,_=>exact hfz) (ff2 hS)) ?_
   rintro v s ⟨rfl,rfl⟩;refine ⟨Nat.le_refl _,?_⟩;simp only[go_sem];refine ak5 hok hQ ?_
   cases hv:q (dv6 l.length i) with
   | true=>
    have e:gn5 st (fun n=>q (dv6 st.length n))=true:=by
     unfold gn5;exact List.any_eq_true.2 ⟨i,List.mem_range.2 hlt,by rw[hb,hst]; show (true&&q (dv6 l.length i))=true; rw[hv]; rfl⟩
    simp only[go_sem,e]
    exact ab9 _
   | false=>
    simp only[go_sem,w1];refine ⟨hlt,fun j hj=>?_⟩;by_cases e:j=i
    ·subst e; rw[hst,hv,Bool.and_false]
    ·exact hI j (by omega)
 ·have hi':i=st.length:=by omega
  subst hi';have c1:¬ (st.length:Int)<st.length:=by omega
  have e:gn5 st (fun n=>q (dv6 st.length n))=false:=by
   unfold gn5;refine List.any_eq_false.2 fun n hn=>?_
   rw[hI n (List.mem_range.1 hn)];exact Bool.false_ne_true
  simp only[go_sem,c1,e];exact ab9 _
theorem gs8 (l:List aa2)(k:Int)(d:Dep)(xs:List aa8)(hn:xs.length<2^62)(hx:∀ x∈xs,gb3 l x)(st:List Bool)(hst:st.length=l.length) :
  PC Tryz.prog EE 248 [.agg (al3 l st),.ab6 (aa8.mk k d xs).cs] (.bool ((aa8.trs l xs).all fun f=>f st)):=by
 refine ag3 hE fok248 (nZ rfl) (ah6 (am3 l st) (bx9 _)) ?_;have h:=gy9 l st hst k d xs hn hx;simp only[ic248,go_sem,ae1,ad3,ae2,ac2,ad2,ab8]
 first|refine aa5 fok224 (h) ?_|refine aa6 (h) ?_
 simp only[go_sem];exact ad9 rfl
theorem ei4 (l:List aa2)(k:Int)(d:Dep)(xs:List aa8)(hn:2<=xs.length)(hx:∀ x∈xs,gb3 l x)(st:List Bool)(hst:st.length=l.length) :
  PC Tryz.prog EE 249 [.agg (al3 l st),.ab6 (aa8.mk k d xs).cs] (.bool (((aa8.trs l xs).getD 0 ff) st&&!((aa8.trs l xs).getD 1 ff) st)):=by
 refine ag3 hE fok249 (nZ rfl) (ah6 (am3 l st) (bx9 _)) ?_;have n0:0<xs.length:=by omega
 have n1:1<xs.length:=by omega
 have h0:=hx _ (List.getElem_mem n0) st hst;have h1:=hx _ (List.getElem_mem n1) st hst;have g0:=dy6 n0;have g1:=dy6 n1;have c0:(0:Int)<xs.length:=by omega
 have c1:(1:Int)<xs.length:=by omega
 rw[dy7 n1,dy7 n0];simp only[ic249,go_sem,ae1,ad3,ae2,ac2,bg6,c0,c1,g0,g1,ad2,ab8]
 first|refine aa5 fok177 (h0) ?_|refine aa6 (h0) ?_
 cases xs[0].tr l st with
 | false=>simp only[go_sem]; exact ad9 rfl
 | true=>
  simp only[go_sem,ae1,ad3,ae2,ac2,bg6,c0,c1,g0,g1,ad2,ab8]
  first|refine aa5 fok177 (h1) ?_|refine aa6 (h1) ?_
  simp only[go_sem];exact ad9 rfl
theorem hu9 (l:List aa2)(hl:l.length<=256)(st:List Bool)(hst:st.length=l.length)(k:Int)(d:Dep)(xs:List aa8)(hn:xs.length<2^62)(hx:∀ x∈xs,gb3 l x) :
  PC Tryz.prog EE 228 [.agg (al3 l st),.agg (aa8.mk k d xs).cs] (.bool (gn5 st fun n=>(aa8.trs l xs).all fun f=>f (dv6 st.length n))):=by
 refine ag3 hE fok228 (nZ rfl) (ah6 (am3 l st) (ah8 _)) ?_;have h:=gz1 l hl st hst 248 [.ab6 (aa8.mk k d xs).cs] (fun s2=>(aa8.trs l xs).all fun f=>f s2) fok248.1 (av3 (bx9 _)) fun s2 h2=>gs8 l k d xs hn hx s2 h2
 have h7:=ab8 (.mk k d xs);simp only[ic228,go_sem,ae1,ad3,ae2,ac2,h7]
 first|refine aa5 fok247 (h) ?_|refine aa6 (h) ?_
 simp only[go_sem];exact ad9 rfl
theorem fj3 (l:List aa2)(hl:l.length<=256)(st:List Bool)(hst:st.length=l.length)(k:Int)(d:Dep)(xs:List aa8)(hn:2<=xs.length)(hx:∀ x∈xs,gb3 l x) :
  PC Tryz.prog EE 229 [.agg (al3 l st),.agg (aa8.mk k d xs).cs] (.bool (gn5 st fun n=>((aa8.trs l xs).getD 0 ff) (dv6 st.length n)&&!((aa8.trs l xs).getD 1 ff) (dv6 st.length n))):=by
 refine ag3 hE fok229 (nZ rfl) (ah6 (am3 l st) (ah8 _)) ?_;have h:=gz1 l hl st hst 249 [.ab6 (aa8.mk k d xs).cs] (fun s2=>((aa8.trs l xs).getD 0 ff) s2&&!((aa8.trs l xs).getD 1 ff) s2) fok249.1 (av3 (bx9 _)) fun s2 h2=>ei4 l k d xs hn hx s2 h2
 have h7:=ab8 (.mk k d xs);simp only[ic229,go_sem,ae1,ad3,ae2,ac2,h7]
 first|refine aa5 fok247 (h) ?_|refine aa6 (h) ?_
 simp only[go_sem];exact ad9 rfl
theorem iz1 (l:List aa2)(hl:l.length<=256)(hs:∀ p∈l,Pkg.small p)(r:aa8):r.Good->gb3 l r:=by
 induction r using aa8.ind with
 | h k d xs ih=>
  intro hg st hst;refine ag3 hE fok177 (nZ rfl) (ah6 (am3 l st) (ah8 _)) ?_;have h7:=ab8 (.mk k d xs);have h8:=ad2 (.mk k d xs);have nfl:IV.ac6.leaf=true:=rfl;have e:(aa8.mk k d xs).tr l st=trK l k d (aa8.trs l xs) st:=by rw[aa8.tr]
  rw[e]
  cases hg with
  | atom _ hd=>
   have h:=hu6 l hl hs st hst d hd;unfold trK;simp only[ic177,go_sem,ae1,ad3,ae2,ac2,h7,h8,by1,nfl]
   first|refine aa5 fok223 (h) ?_|refine aa6 (h) ?_
   simp only[go_sem]
   exact ad9 rfl
  | node _ _ _ h1 h2 h3 h4 h5=>
   have hx:∀ x∈xs,gb3 l x:=fun x hx=>ih x hx (h5 x hx)
   have hn:xs.length<=24:=by
    unfold ef7 at h4;split at h4
    ·omega
    split at h4
    ·omega
    split at h4<;>omega
   have c2:=gy9 l st hst k d xs (by omega) hx;have c3:=io8 l st hst k d xs (by omega) hx;have c4:=io9 l st hst k d xs (by omega) hx;have c5:=gb6 l st hst k d xs (by omega) (by omega) hx;have c6:=hu9 l hl st hst k d xs (by omega) hx;have c7:=fj3 l hl st hst k d xs (by omega) hx;unfold trK;have hk:k=2\/k=3\/k=4\/k=5\/k=6\/k=7:=by omega
   rcases hk with rfl|rfl|rfl|rfl|rfl|rfl
   ·simp only[ic177,go_sem,ae1,ad3,ae2,ac2,h7,h8,by1,nfl]
    first|refine aa5 fok224 (c2) ?_|refine aa6 (c2) ?_
    simp only[go_sem];exact ad9 rfl
   ·simp only[ic177,go_sem,ae1,ad3,ae2,ac2,h7,h8,by1,nfl]
    first|refine aa5 fok225 (c3) ?_|refine aa6 (c3) ?_
    simp only[go_sem];exact ad9 rfl
   ·simp only[ic177,go_sem,ae1,ad3,ae2,ac2,h7,h8,by1,nfl]
    first|refine aa5 fok226 (c4) ?_|refine aa6 (c4) ?_
    simp only[go_sem];exact ad9 rfl
   ·simp only[ic177,go_sem,ae1,ad3,ae2,ac2,h7,h8,by1,nfl]
    first|refine aa5 fok227 (c5) ?_|refine aa6 (c5) ?_
    simp only[go_sem];exact ad9 rfl
   ·simp only[ic177,go_sem,ae1,ad3,ae2,ac2,h7,h8,by1,nfl]
    first|refine aa5 fok228 (c6) ?_|refine aa6 (c6) ?_
    simp only[go_sem];exact ad9 rfl
   ·simp only[ic177,go_sem,ae1,ad3,ae2,ac2,h7,h8,by1,nfl]
    first|refine aa5 fok229 (c7) ?_|refine aa6 (c7) ?_
    simp only[go_sem];exact ad9 rfl
theorem hv8 (c:Nat)(zs:List Int):(stB c zs).length=c:=by simp[stB]
theorem dy8 (l:List aa2)(hl:l.length<=256)(hs:∀ p∈l,Pkg.small p)(zs:List Int)(hz:zs.length<2^40)(r:aa8)(h1:r.fit)(h2:r.count<2^31) :
  PC Tryz.prog EE 107 [ap9 l,.aa3 (zs.map Md.af3),.agg r.cs] (.bool (hm5 l zs r)):=by
 refine ag3 hE fok107 (nZ rfl) (aw5 (aw9 l) (an9 zs) (ah8 _)) ?_;have hw:=gp2 r h1 h2;have hS:=eq9 l zs hl hz;have hnl:∀ d:TypeId,cl1 (.pointer d) (ap9 l)=some false:=fun _=>rfl
 unfold hm5;simp only[ic107,go_sem,hnl,ac2,ad2,ab8]
 first|refine aa5 fok175 (hw) ?_|refine aa6 (hw) ?_
 cases hq:dv5 r with
 | false=>simp only[go_sem]; exact ad9 rfl
 | true=>
  have hg:r.ms.2.2=true:=by
   unfold dv5 at hq;simp only[Bool.and_eq_true] at hq;exact hq.1.1
  have hi:=iz1 l hl hs r (aa8.hm4 r hg) (stB l.length zs) (hv8 _ _);simp only[go_sem]
  first|refine aa5 fok176 (hS) ?_|refine aa6 (hS) ?_
  simp only[go_sem,ac2,ad2,ab8]
  first|refine aa5 fok177 (hi) ?_|refine aa6 (hi) ?_
  simp only[go_sem];exact ad9 rfl
end Go.Id.Tryz
