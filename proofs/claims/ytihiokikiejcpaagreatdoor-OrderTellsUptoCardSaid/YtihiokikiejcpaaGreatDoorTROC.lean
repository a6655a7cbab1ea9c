/- Sets of numbers: who is in,one more,two together. Conditions: none. -/
import Derived.Test.YtihiokikiejcpaaGreatDoorTRQL
import Derived.Test.YtihiokikiejcpaaGreatDoorFwZb
import Derived.Test.YtihiokikiejcpaaGreatDoorMb
import Derived.Test.YtihiokikiejcpaaGreatDoorTRTS
set_option linter.all false
namespace Go.Id.Tryz
open Go Go.Id Go.Proofs Go.Id.Md
set_option maxRecDepth 100000
theorem if4 (n:Nat):(n:Int).tdiv 64=((n/64:Nat):Int):=rfl
theorem if5 (n:Nat):(n:Int).tmod 64=((n%64:Nat):Int):=rfl
theorem if6 (n:Nat)(hn:n<256):IntKind.i64.wrap ((n:Int).tdiv 64)=((n/64:Nat):Int):=wrap64 (by rw[if4]; omega) (by rw[if4]; omega)
theorem gt4 (s i:Nat)(hi:i<4):(List.drop (i*1) (aq3 s)).head? = some (.int .u64 (wd s i:Nat)):=by
 have:i=0\/i=1\/i=2\/i=3:=by omega
 rcases this with rfl|rfl|rfl|rfl<;>rfl
theorem bh8 (s n:Nat)(hn:n<256):PC Tryz.prog EE 21 [.agg (aq3 s),.int .i64 n] (.bool (s.testBit n)):=by
 refine av1 fok21 (nZ rfl) fun σ=>?_
 have hlf:(aq3 s).all IV.leaf=true:=rfl;have c1:(0:Int)<=((n/64:Nat):Int):=by omega
 have c2:((n/64:Nat):Int)<4:=by omega
 have c3:(0:Int)<=((n%64:Nat):Int):=by omega
 have c4:n/64*1+1<=4:=by omega
 have ha:=gt4 s (n/64) (by omega);have w1:=if6 n hn;have w2:=if5 n;have n64:((64:Int)=0)=False:=by decide
 have hm:min (n%64) 64=n%64:=by omega
 have hfd:((wd s (n/64):Nat):Int).fdiv (2^(n%64))=((wd s (n/64)/2^(n%64):Nat):Int):=by
  have:((2:Int)^(n%64))=((2^(n%64):Nat):Int):=by norm_cast
  rw[this,Int.fdiv_eq_ediv_of_nonneg _ (Int.natCast_nonneg _),<- Int.natCast_ediv]
 have hb:=u64_and1 (a:=wd s (n/64)/2^(n%64)) (Nat.lt_of_le_of_lt (Nat.div_le_self _ _) (gg8 s (n/64)));have hh:=hc7 s n;rw[hfd,Int.toNat_natCast] at hh
 have hh2:decide (((wd s (n/64)/2^(n%64)%2:Nat):Int)=1)=s.testBit n:=by
  rw[<- hh]; exact decide_eq_decide.2 (by omega)
 simp only[ic21,go_sem,hlf,w1,w2,c1,c2,c3,Int.toNat_natCast,ha,n64,hm,hfd,hb,hh2,not_false_eq_true,and_self]
theorem hh6 (s n:Nat)(hn:n<256):ap5 (aq3 s) (n/64*1) [.int .u64 (wd (s ||| 2^n) (n/64):Nat)]=aq3 (s ||| 2^n):=by
 have h:∀ i,i≠n/64->wd s i=wd (s ||| 2^n) i:=fun i hi=>(gg9 hi).symm
 have:n/64=0\/n/64=1\/n/64=2\/n/64=3:=by omega
 rcases this with e|e|e|e<;>rw[e] at h ⊢
 ·have h1:=h 1 (by decide); have h2:=h 2 (by decide); have h3:=h 3 (by decide);simp[aq3,ap5,h1,h2,h3,wdV]
 ·have h1:=h 0 (by decide); have h2:=h 2 (by decide); have h3:=h 3 (by decide);simp[aq3,ap5,h1,h2,h3,wdV]
 ·have h1:=h 0 (by decide); have h2:=h 1 (by decide); have h3:=h 3 (by decide);simp[aq3,ap5,h1,h2,h3,wdV]
 ·have h1:=h 0 (by decide); have h2:=h 1 (by decide); have h3:=h 2 (by decide);simp[aq3,ap5,h1,h2,h3,wdV]
theorem ar9 (s:Nat):(aq3 s).length=4:=rfl
theorem an6 (s:Nat):(aq3 s).take 4=aq3 s:=rfl
theorem am2 (s:Nat):(aq3 s).all IV.leaf=true:=rfl
theorem if7 (a b c d:IV):List.drop 4 [a,b,c,d]=[]:=rfl
theorem bq3 (s:Nat):∀ c∈aq3 s,Bnd 0 c:=gf7 (.int _ _) (.int _ _) (.int _ _) (.int _ _)
theorem orW (s n:Nat):wd s (n/64) ||| 2^(n%64)=wd (s ||| 2^n) (n/64):=by
 rw[hc5,gr9,if_pos rfl]
theorem ez4 (s n:Nat)(hn:n<256):PC Tryz.prog EE 31 [.agg (aq3 s),.int .i64 n] (.agg (aq3 (s ||| 2^n))):=by
 have hlf:(aq3 s).all IV.leaf=true:=rfl;have c1:(0:Int)<=((n/64:Nat):Int):=by omega
 have c2:((n/64:Nat):Int)<4:=by omega
 have c3:(0:Int)<=((n%64:Nat):Int):=by omega
 have c4:n/64*1+1<=4:=by omega
 have ha:=gt4 s (n/64) (by omega);have w1:=if6 n hn;have w2:=if5 n;have n64:((64:Int)=0)=False:=by decide
 have hbs:∀ s,∀ c∈aq3 s,Bnd 0 c:=fun s=>gf7 (.int _ _) (.int _ _) (.int _ _) (.int _ _)
 refine ao4 hE fok31 (nZ rfl) (au8 (.agg _ (hbs s)) (.int _ _)) ?_;have hm:min (n%64) 64=n%64:=by omega
 have hp64:2^(n%64)<2^64:=Nat.pow_lt_pow_right (by decide) (by omega)
 have hw:IntKind.u64.wrap (1*2^(n%64))=((2^(n%64):Nat):Int):=by
  have e:(1*(2:Int)^(n%64))=((2^(n%64):Nat):Int):=by push_cast; omega
  rw[e,dg1 hp64]
 have hor:=Md.gs2 (gg8 s (n/64)) hp64;rw[orW] at hor;have hpt:=hh6 s n hn;simp only[ic31,go_sem,hlf,w1,w2,c1,c2,c3,Int.toNat_natCast,ha,n64,not_false_eq_true,hm,hw,hor,hpt,ar9,an6,am2,if7,List.append_nil,c4];exact .keep _ (.agg _ (bq3 _))
theorem gk1 (s t:Nat):PC Tryz.prog EE 32 [.agg (aq3 s),.agg (aq3 t)] (.agg (aq3 (s ||| t))):=by
 refine ao4 hE fok32 (nZ rfl) (au8 (.agg _ (bq3 s)) (.agg _ (bq3 t))) ?_
 have hu:∀ i,ap9 .or (.int .u64 (wd s i:Nat)) (.int .u64 (wd t i:Nat))=some (.int .u64 (wd (s ||| t) i:Nat)):=fun i=>by
  rw[hc5]; exact Md.gs2 (gg8 s i) (gg8 t i)
 let mix:Nat->List IV:=fun k=>(aq3 (s ||| t)).take k++(aq3 s).drop k
 simp only[ic32,go_sem,am2];refine ab3 noT (fun k fr u=>fr=[(2,.ptr 0 0),(3,.ad4 (aq3 t)),(4,.ptr 1 0),(6,.int .i64 (k:Int))]/\1<u.next/\u.obj 0=some (.cells (mix k))/\u.obj 1=some (.cells [.int .u64 0,.int .u64 0,.int .u64 0,.int .u64 0])) 4 ⟨rfl,Nat.lt_succ_self 1,by simp only[aa2,reduceCtorEq,Int.reduceLT,Int.reduceLE,Int.reduceToNat,Int.reduceAdd,Nat.reduceEqDiff,Nat.reduceAdd,Nat.reduceMul,Nat.reduceLT,Nat.reduceLeDiff,decide_true,decide_false,↓reduceIte]; rfl,by simp only[aa2,if_true]⟩ ?_;rintro k fr u hk ⟨rfl,hn,h0,h1⟩;have hk5:k=0\/k=1\/k=2\/k=3\/k=4:=by omega
 rcases hk5 with rfl|rfl|rfl|rfl|rfl
 all_goals
  simp only[mix,aq3,wdV,List.take_succ_cons,List.take_zero,List.drop_zero,List.drop_succ_cons,List.nil_append,List.cons_append,List.take_nil,List.drop_nil] at h0;simp only[go_sem,h0,h1,aq3,wdV,hu,List.take_zero,List.drop_zero,List.take_succ_cons,List.drop_succ_cons]
  first|exact ⟨by omega,rfl⟩|exact ⟨by omega,by omega,rfl⟩|skip
 exact .keep _ (.agg _ (gf7 (.int _ _) (.int _ _) (.int _ _) (.int _ _)))
end Go.Id.Tryz
/- Who needs whom,walked. Conditions: packages that may be,and fit. -/
namespace Go.Id.Md
open Go Go.Id
def eh7 (p q:aa4):Bool:=p.requires.any fun r=>r.atoms.any fun d=>provides q d
def pkP (p:Pool)(n:Int):aa4:=(p.rows.getD n.toNat ⟨default,0,0⟩).pkg
def isP (p:Pool)(n:Int):Bool:=decide (0<=n)&&decide (n<p.rows.length)
def ai1 (p:Pool)(n m:Int):Bool:=isP p n&&isP p m&&!decide (n=m)&&eh7 (pkP p n) (pkP p m)
end Go.Id.Md
namespace Go.Id.Tryz
open Go Go.Id Go.Proofs Go.Id.Md
theorem fq3 (q:aa4)(d:Dep)(hq:Pkg.small q)(hd:Dep.small d):PC Tryz.prog EE 49 ([]++[.agg d.cs]++[.ad4 q.cs]) (.bool (provides q d)):=by
 have hp:=ec1 q d hq hd;refine ao4 hE fok49 (nZ rfl) (au8 (am5 d) (.ad4 _ (az8 q))) ?_;simp only[ic49,go_sem,List.nil_append,List.cons_append,ah7,ak5,ai9,al9,aj7,ah2]
 first|refine aa5 fok50 (hp) ?_|refine aa8 (hp) ?_
 simp only[go_sem];exact ah8 rfl
structure eh8 (r:aa9):Prop where
 fit:r.fit
 count:r.count<2^20
 atoms:r.atoms.length<2^20
 small:∀ d∈r.atoms,Dep.small d
theorem fq4 (q:aa4)(r:aa9)(hq:Pkg.small q)(hr:eh8 r):PC Tryz.prog EE 46 ([]++[.agg r.cs]++[.ad4 q.cs]) (.bool (r.atoms.any fun d=>provides q d)):=by
 have ha:=gn8 r hr.fit (by have:=hr.count; omega);have hc:=cp5 r.atoms 49 [] [.ad4 q.cs] (fun d=>provides q d) (by have:=hr.atoms; omega) fok49.1 fun d hd=>fq3 q d hq (hr.small d hd)
 refine ao4 hE fok46 (nZ rfl) (au8 (ax5 r) (.ad4 _ (az8 q))) ?_;simp only[ic46,go_sem,List.nil_append,List.cons_append,ae3,ag7,ad5]
 first|refine aa5 fok48 (ha) ?_|refine aa8 (ha) ?_
 simp only[go_sem];refine aa5 fok47 hc ?_;simp only[go_sem];exact ah8 rfl
structure be1 (p:aa4):Prop where
 fit:p.Fit
 small:Pkg.small p
 ik2:p.requires.length<2^20/\∀ r∈p.requires,eh8 r
theorem gk2 (p q:aa4)(hp:be1 p)(hq:be1 q):PC Tryz.prog EE 25 [.agg p.cs,.agg q.cs] (.bool (eh7 p q)):=by
 have hc:=dc2 p.requires 46 [] [.ad4 q.cs] (fun r=>r.atoms.any fun d=>provides q d) (by have:=hp.ik2.1; omega) fok46.1 fun r hr=>fq4 q r hq.small (hp.ik2.2 r hr)
 have p7:(p.cs.drop 7).head? = some (ae6 p.requires):=rfl;refine ao4 hE fok25 (nZ rfl) (au8 (.agg _ (az8 p)) (.agg _ (az8 q))) ?_;simp only[ic25,go_sem,al9,aj7,ah2,p7];refine aa5 fok45 hc ?_;simp only[go_sem];exact ah8 rfl
theorem ea3 (p:Pool)(n:Int):ck6 p n=if isP p n then .tuple [.agg (pkP p n).cs,.int .i64 0] else .tuple [.agg ii7.cs,.int .i64 5]:=by
 unfold ck6 isP pkP;by_cases h:0<=n/\n<p.rows.length
 ·rw[if_pos h]; simp[h]
 ·rw[if_neg h];have:¬ (decide (0<=n)&&decide (n<p.rows.length))=true:=by simpa using h
  rw[if_neg this]
structure bm8 (p:Pool):Prop where
 len:p.rows.length<=256
 good:∀ q∈an9 p,be1 q
theorem bm8.at {p:Pool}(h:bm8 p){n:Int}(hn:isP p n=true):be1 (pkP p n):=by
 unfold isP at hn;simp only[Bool.and_eq_true,decide_eq_true_eq] at hn;have hk:n.toNat<p.rows.length:=by omega
 refine h.good _ ?_;unfold pkP;have e:p.rows.getD n.toNat ⟨default,0,0⟩=p.rows[n.toNat]:=by simp[List.getD_eq_getElem?_getD,hk]
 rw[e];exact List.mem_map.2 ⟨_,List.getElem_mem hk,rfl⟩
theorem dr2 (p:Pool)(hp:bm8 p)(n m:Int):PC Tryz.prog EE 10 [p.v,.int .i64 n,.int .i64 m] (.bool (ai1 p n m)):=by
 have h1:=dc5 p n fun q hq=>(hp.good q hq).fit
 have h2:=dc5 p m fun q hq=>(hp.good q hq).fit
 rw[ea3] at h1 h2;unfold ai1;refine ao4 hE fok10 (nZ rfl) (dy4 (bv4 p) (.int _ _) (.int _ _)) ?_;simp only[ic10,go_sem]
 cases hn:isP p n with
 | false=>
  rw[hn] at h1;simp only[Bool.false_eq_true,if_false] at h1
  first|refine aa5 fok24 (h1) ?_|refine aa8 (h1) ?_
  cases hm:isP p m with
  | false=>
   rw[hm] at h2;simp only[Bool.false_eq_true,if_false] at h2;simp only[go_sem,al9,aj7,ah2]
   first|refine aa5 fok24 (h2) ?_|refine aa8 (h2) ?_
   simp only[go_sem,al9,aj7,ah2]
   exact ah8 rfl
  | true=>
   rw[hm] at h2;simp only[if_true] at h2;simp only[go_sem,al9,aj7,ah2]
   first|refine aa5 fok24 (h2) ?_|refine aa8 (h2) ?_
   simp only[go_sem,al9,aj7,ah2]
   exact ah8 rfl
 | true=>
  rw[hn] at h1;simp only[if_true] at h1
  first|refine aa5 fok24 (h1) ?_|refine aa8 (h1) ?_
  cases hm:isP p m with
  | false=>
   rw[hm] at h2;simp only[Bool.false_eq_true,if_false] at h2;simp only[go_sem,al9,aj7,ah2]
   first|refine aa5 fok24 (h2) ?_|refine aa8 (h2) ?_
   simp only[go_sem,al9,aj7,ah2]
   exact ah8 rfl
  | true=>
   rw[hm] at h2;simp only[if_true] at h2;have h3:=gk2 (pkP p n) (pkP p m) (hp.at hn) (hp.at hm);simp only[go_sem,al9,aj7,ah2]
   first|refine aa5 fok24 (h2) ?_|refine aa8 (h2) ?_
   by_cases hnm:n=m
   ·simp only[go_sem,al9,aj7,ah2,hnm];exact ah8 rfl
   ·simp only[go_sem,al9,aj7,ah2,hnm]
    first|refine aa5 fok25 (h3) ?_|refine aa8 (h3) ?_
    simp only[go_sem];exact ah8 rfl
end Go.Id.Tryz
