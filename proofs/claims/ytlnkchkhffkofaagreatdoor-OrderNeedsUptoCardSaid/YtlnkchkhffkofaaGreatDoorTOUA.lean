/- Rows of one's own whose packages are altered: walked. Conditions: sizes that fit. -/
import Derived.Test.YtlnkchkhffkofaaGreatDoorTOTN
import Derived.Test.YtlnkchkhffkofaaGreatDoorMv
import Derived.Test.YtlnkchkhffkofaaGreatDoorFwZb
import Derived.Test.YtlnkchkhffkofaaGreatDoorMb
import Derived.Test.YtlnkchkhffkofaaGreatDoorFwQ
import Derived.Sort.LotB
set_option linter.all false
namespace Go.Id.Tryz
open Go Go.Id Go.Proofs Go.Shelf Go.Id.Md
set_option maxRecDepth 100000
theorem dg3 {σ:Store}{id nid:Nat}(l:List aa4)(ho:σ.obj id=some (.row []))(hl:l.length<2^31) :
  ∃ w σ',bp4 σ nid 15 (.slice id 0 0 15) (bd5 l)=some (.slice w 0 l.length 15,σ')∧σ'.next=σ.next∧σ'.obj w=some (.row (l.map aa4.cs).flatten)∧(w=id∨w=nid)∧∀ j,j≠id→j≠nid→σ'.obj j=σ.obj j:=by
 have ha:∀ x∈l.map aa4.cs,x.length=15∧x.all IV.leaf=true:=by
  intro x hx;obtain ⟨y,_,rfl⟩:=List.mem_map.1 hx;exact ⟨rfl,rfl⟩
 have hsrc:bn9 σ 15 (.aa3 (l.map aa4.cs))=some (l.length,(l.map aa4.cs).flatten):=by
  have h1:(l.map aa4.cs).all (fun e=>e.length==15)=true:=List.all_eq_true.2 fun x hx=>by rw[(ha x hx).1]; rfl
  simp only[bn9,h1,if_true,List.length_map]
 have hx1:(l.map aa4.cs).flatten.all IV.leaf=true:=cn3 fun x hx=>(ha x hx).2
 have hx0:¬ ((l.map aa4.cs).flatten.all IV.leaf=false):=by rw[hx1]; decide
 unfold bp4;rw[hsrc];simp only[hx0,if_false,ho];by_cases h0:l.length=0
 ·have hxs:l=[]:=List.length_eq_zero_iff.1 h0;subst hxs;exact ⟨id,σ,rfl,rfl,ho,.inl rfl,fun _ _ _=>rfl⟩
 ·have h2:0+l.length≤2147483648:=by omega
  have h3:l.length≤2147483648:=by omega
  simp only[h0,and_false,if_false,List.length_nil,Nat.zero_mul,Nat.zero_add,List.drop_nil,List.all_nil,and_self,true_and,List.nil_append,h3,if_true];refine ⟨nid,_,rfl,rfl,?_,.inr rfl,fun j h3 h4=>?_⟩
  ·rw[aa2,if_pos rfl]
  ·rw[aa2,if_neg h4];show (if j=id then none else σ.obj j)=_;rw[if_neg h3]
def ij2:aa4:=⟨[],⟨0,[],[]⟩,0,[],[],[],[],[],[],[],[],[],[]⟩
def ck7 (p:Pool)(n:Int):IV:=if 0≤n∧n<p.rows.length then .tuple [.agg (p.rows.getD n.toNat ⟨default,0,0⟩).pkg.cs,.int .i64 0] else .tuple [.agg ij2.cs,.int .i64 5]
theorem de2 (p:Pool)(n:Int)(hf:∀ q∈bo5 p,q.Fit):PC Tryz.prog EE 19 [p.v,.int .i64 n] (ck7 p n):=by
 unfold ck7;by_cases h:0≤n∧n<p.rows.length
 ·rw[if_pos h];obtain ⟨k,rfl⟩:=Int.eq_ofNat_of_zero_le h.1;have hk:k<p.rows.length:=by omega
  have:=bo6 p k hk (hf _ (List.mem_map.2 ⟨_,List.getElem_mem hk,rfl⟩));have e:p.rows.getD (k:Int).toNat ⟨default,0,0⟩=p.rows[k]:=by simp[List.getD_eq_getElem?_getD,hk]
  rw[e]; exact this
 ·rw[if_neg h];refine ar1 hE fok19 (nZ rfl) (be7 (au7 p) (.int _ _)) ?_;have hr:=du7 p.rows n;have hb:(decide (0≤n)&&decide (n<p.rows.length))=false:=by simpa using h
  rw[hb] at hr;simp only[ic19,go_sem,Pool.v]
  first|refine aa5 fok57 (hr) ?_|refine aa7 (hr) ?_
  simp only[go_sem];exact .cn4 (.cons (.ik8 (.cons (cr3 _) (.cons (dm1 _ _) (.cons (cr3 _) (.cons (cr3 _) (.cons (dm1 _ _) (.cons (cr3 _) (.cons .bw7 (.cons .bw7 (.cons .bw7 (.cons .bw7 (.cons .bw7 (.cons .bw7 (.cons .bw7 (.cons .bw7 (.cons .bw7 .nil)))))))))))))))) (.cons (dm1 _ _) .nil))
/-! ### What is altered fits -/
end Go.Id.Tryz
set_option linter.all false
namespace Go.Id.Tryz
open Go Go.Id Go.Proofs Go.Id.Md
set_option maxRecDepth 100000
theorem ij3 (n:Nat):(n:Int).tdiv 64=((n/64:Nat):Int):=rfl
theorem ij4 (n:Nat):(n:Int).tmod 64=((n%64:Nat):Int):=rfl
theorem ij5 (n:Nat)(hn:n<256):IntKind.i64.wrap ((n:Int).tdiv 64)=((n/64:Nat):Int):=wrap64 (by rw[ij3]; omega) (by rw[ij3]; omega)
theorem gv6 (s i:Nat)(hi:i<4):(List.drop (i*1) (ap5 s)).head? = some (.int .u64 (wd s i:Nat)):=by
 have:i=0∨i=1∨i=2∨i=3:=by omega
 rcases this with rfl|rfl|rfl|rfl<;>rfl
theorem bh6 (s n:Nat)(hn:n<256):PC Tryz.prog EE 35 [.agg (ap5 s),.int .i64 n] (.bool (s.testBit n)):=by
 refine as8 fok35 (nZ rfl) fun σ=>?_
 have hlf:(ap5 s).all IV.leaf=true:=rfl;have c1:(0:Int)≤((n/64:Nat):Int):=by omega
 have c2:((n/64:Nat):Int)<4:=by omega
 have c3:(0:Int)≤((n%64:Nat):Int):=by omega
 have c4:n/64*1+1≤4:=by omega
 have ha:=gv6 s (n/64) (by omega);have w1:=ij5 n hn;have w2:=ij4 n;have n64:((64:Int)=0)=False:=by decide
 have hm:min (n%64) 64=n%64:=by omega
 have hfd:((wd s (n/64):Nat):Int).fdiv (2^(n%64))=((wd s (n/64)/2^(n%64):Nat):Int):=by
  have:((2:Int)^(n%64))=((2^(n%64):Nat):Int):=by norm_cast
  rw[this,Int.fdiv_eq_ediv_of_nonneg _ (Int.natCast_nonneg _),← Int.natCast_ediv]
 have hb:=u64_and1 (a:=wd s (n/64)/2^(n%64)) (Nat.lt_of_le_of_lt (Nat.div_le_self _ _) (gi3 s (n/64)));have hh:=he8 s n;rw[hfd,Int.toNat_natCast] at hh
 have hh2:decide (((wd s (n/64)/2^(n%64)%2:Nat):Int)=1)=s.testBit n:=by
  rw[← hh]; exact decide_eq_decide.2 (by omega)
 simp only[ic35,go_sem,hlf,w1,w2,c1,c2,c3,Int.toNat_natCast,ha,n64,hm,hfd,hb,hh2,not_false_eq_true,and_self]
theorem hn6 (s n:Nat)(hn:n<256):am6 (ap5 s) (n/64*1) [.int .u64 (wd (s ||| 2^n) (n/64):Nat)]=ap5 (s ||| 2^n):=by
 have h:∀ i,i≠n/64→wd s i=wd (s ||| 2^n) i:=fun i hi=>(gi4 hi).symm
 have:n/64=0∨n/64=1∨n/64=2∨n/64=3:=by omega
 rcases this with e|e|e|e<;>rw[e] at h ⊢
 ·have h1:=h 1 (by decide); have h2:=h 2 (by decide); have h3:=h 3 (by decide);simp[ap5,am6,h1,h2,h3,wdV]
 ·have h1:=h 0 (by decide); have h2:=h 2 (by decide); have h3:=h 3 (by decide);simp[ap5,am6,h1,h2,h3,wdV]
 ·have h1:=h 0 (by decide); have h2:=h 1 (by decide); have h3:=h 3 (by decide);simp[ap5,am6,h1,h2,h3,wdV]
 ·have h1:=h 0 (by decide); have h2:=h 1 (by decide); have h3:=h 2 (by decide);simp[ap5,am6,h1,h2,h3,wdV]
theorem ar4 (s:Nat):(ap5 s).length=4:=rfl
theorem an3 (s:Nat):(ap5 s).take 4=ap5 s:=rfl
theorem am2 (s:Nat):(ap5 s).all IV.leaf=true:=rfl
theorem ij6 (a b c d:IV):List.drop 4 [a,b,c,d]=[]:=rfl
theorem bq5 (s:Nat):∀ c∈ap5 s,Bnd 0 c:=he3 (.int _ _) (.int _ _) (.int _ _) (.int _ _)
theorem orW (s n:Nat):wd s (n/64) ||| 2^(n%64)=wd (s ||| 2^n) (n/64):=by
 rw[he7,gt4,if_pos rfl]
theorem fd9 (s n:Nat)(hn:n<256):PC Tryz.prog EE 69 [.agg (ap5 s),.int .i64 n] (.agg (ap5 (s ||| 2^n))):=by
 have hlf:(ap5 s).all IV.leaf=true:=rfl;have c1:(0:Int)≤((n/64:Nat):Int):=by omega
 have c2:((n/64:Nat):Int)<4:=by omega
 have c3:(0:Int)≤((n%64:Nat):Int):=by omega
 have c4:n/64*1+1≤4:=by omega
 have ha:=gv6 s (n/64) (by omega);have w1:=ij5 n hn;have w2:=ij4 n;have n64:((64:Int)=0)=False:=by decide
 have hbs:∀ s,∀ c∈ap5 s,Bnd 0 c:=fun s=>he3 (.int _ _) (.int _ _) (.int _ _) (.int _ _)
 refine ar1 hE fok69 (nZ rfl) (be7 (.agg _ (hbs s)) (.int _ _)) ?_;have hm:min (n%64) 64=n%64:=by omega
 have hp64:2^(n%64)<2^64:=Nat.pow_lt_pow_right (by decide) (by omega)
 have hw:IntKind.u64.wrap (1*2^(n%64))=((2^(n%64):Nat):Int):=by
  have e:(1*(2:Int)^(n%64))=((2^(n%64):Nat):Int):=by push_cast; omega
  rw[e,dh9 hp64]
 have hor:=Md.gt5 (gi3 s (n/64)) hp64;rw[orW] at hor;have hpt:=hn6 s n hn;simp only[ic69,go_sem,hlf,w1,w2,c1,c2,c3,Int.toNat_natCast,ha,n64,not_false_eq_true,hm,hw,hor,hpt,ar4,an3,am2,ij6,List.append_nil,c4];exact .keep _ (.agg _ (bq5 _))
theorem gp7 (s t:Nat):PC Tryz.prog EE 70 [.agg (ap5 s),.agg (ap5 t)] (.agg (ap5 (s ||| t))):=by
 refine ar1 hE fok70 (nZ rfl) (be7 (.agg _ (bq5 s)) (.agg _ (bq5 t))) ?_
 have hu:∀ i,ao9 .or (.int .u64 (wd s i:Nat)) (.int .u64 (wd t i:Nat))=some (.int .u64 (wd (s ||| t) i:Nat)):=fun i=>by
  rw[he7]; exact Md.gt5 (gi3 s i) (gi3 t i)
 let mix:Nat→List IV:=fun k=>(ap5 (s ||| t)).take k++(ap5 s).drop k
 simp only[ic70,go_sem,am2];refine ab7 noT (fun k fr u=>fr=[(2,.ptr 0 0),(3,.ac5 (ap5 t)),(4,.ptr 1 0),(6,.int .i64 (k:Int))]∧1<u.next∧u.obj 0=some (.cells (mix k))∧u.obj 1=some (.cells [.int .u64 0,.int .u64 0,.int .u64 0,.int .u64 0])) 4 ⟨rfl,Nat.lt_succ_self 1,by simp only[aa2,reduceCtorEq,Int.reduceLT,Int.reduceLE,Int.reduceToNat,Int.reduceAdd,Nat.reduceEqDiff,Nat.reduceAdd,Nat.reduceMul,Nat.reduceLT,Nat.reduceLeDiff,decide_true,decide_false,↓reduceIte]; rfl,by simp only[aa2,if_true]⟩ ?_;rintro k fr u hk ⟨rfl,hn,h0,h1⟩;have hk5:k=0∨k=1∨k=2∨k=3∨k=4:=by omega
 rcases hk5 with rfl|rfl|rfl|rfl|rfl
 all_goals
  simp only[mix,ap5,wdV,List.take_succ_cons,List.take_zero,List.drop_zero,List.drop_succ_cons,List.nil_append,List.cons_append,List.take_nil,List.drop_nil] at h0;simp only[go_sem,h0,h1,ap5,wdV,hu,List.take_zero,List.drop_zero,List.take_succ_cons,List.drop_succ_cons]
  first|exact ⟨by omega,rfl⟩|exact ⟨by omega,by omega,rfl⟩|skip
 exact .keep _ (.agg _ (he3 (.int _ _) (.int _ _) (.int _ _) (.int _ _)))
end Go.Id.Tryz
/- Who needs whom,walked. Conditions: packages that may be,and fit. -/
namespace Go.Id.Md
open Go Go.Id
def gv7 (p q:aa4):Bool:=p.requires.any fun r=>r.atoms.any fun d=>provides q d
def pkP (p:Pool)(n:Int):aa4:=(p.rows.getD n.toNat ⟨default,0,0⟩).pkg
def isP (p:Pool)(n:Int):Bool:=decide (0≤n)&&decide (n<p.rows.length)
def ac8 (p:Pool)(n m:Int):Bool:=isP p n&&isP p m&&!decide (n=m)&&gv7 (pkP p n) (pkP p m)
end Go.Id.Md
namespace Go.Id.Tryz
open Go Go.Id Go.Proofs Go.Id.Md
theorem fx8 (q:aa4)(d:Dep)(hq:Pkg.small q)(hd:Dep.small d):PC Tryz.prog EE 85 ([]++[.agg d.cs]++[.ac5 q.cs]) (.bool (provides q d)):=by
 have hp:=ee1 q d hq hd;refine ar1 hE fok85 (nZ rfl) (be7 (au8 d) (.ac5 _ (az5 q))) ?_;simp only[ic85,go_sem,List.nil_append,List.cons_append,ar8,az4,au5,ak6,aj1,ag1]
 first|refine aa5 fok86 (hp) ?_|refine aa7 (hp) ?_
 simp only[go_sem];exact am8 rfl
structure el9 (r:ab1):Prop where
 fit:r.fit
 count:r.count<2^20
 atoms:r.atoms.length<2^20
 small:∀ d∈r.atoms,Dep.small d
theorem fx9 (q:aa4)(r:ab1)(hq:Pkg.small q)(hr:el9 r):PC Tryz.prog EE 82 ([]++[.agg r.cs]++[.ac5 q.cs]) (.bool (r.atoms.any fun d=>provides q d)):=by
 have ha:=gp4 r hr.fit (by have:=hr.count; omega);have hc:=cq2 r.atoms 85 [] [.ac5 q.cs] (fun d=>provides q d) (by have:=hr.atoms; omega) fok85.1 fun d hd=>fx8 q d hq (hr.small d hd)
 refine ar1 hE fok82 (nZ rfl) (be7 (bb8 r) (.ac5 _ (az5 q))) ?_;simp only[ic82,go_sem,List.nil_append,List.cons_append,af2,ak1,ad3]
 first|refine aa5 fok84 (ha) ?_|refine aa7 (ha) ?_
 simp only[go_sem];refine aa5 fok83 hc ?_;simp only[go_sem];exact am8 rfl
structure dm2 (p:aa4):Prop where
 fit:p.Fit
 small:Pkg.small p
 iw5:p.requires.length<2^20∧∀ r∈p.requires,el9 r
theorem gp8 (p q:aa4)(hp:dm2 p)(hq:dm2 q):PC Tryz.prog EE 37 [.agg p.cs,.agg q.cs] (.bool (gv7 p q)):=by
 have hc:=dd6 p.requires 82 [] [.ac5 q.cs] (fun r=>r.atoms.any fun d=>provides q d) (by have:=hp.iw5.1; omega) fok82.1 fun r hr=>fx9 q r hq.small (hp.iw5.2 r hr)
 have p7:(p.cs.drop 7).head? = some (ae7 p.requires):=rfl;refine ar1 hE fok37 (nZ rfl) (be7 (.agg _ (az5 p)) (.agg _ (az5 q))) ?_;simp only[ic37,go_sem,ak6,aj1,ag1,p7];refine aa5 fok81 hc ?_;simp only[go_sem];exact am8 rfl
theorem ee5 (p:Pool)(n:Int):ck7 p n=if isP p n then .tuple [.agg (pkP p n).cs,.int .i64 0] else .tuple [.agg ij2.cs,.int .i64 5]:=by
 unfold ck7 isP pkP;by_cases h:0≤n∧n<p.rows.length
 ·rw[if_pos h]; simp[h]
 ·rw[if_neg h];have:¬ (decide (0≤n)&&decide (n<p.rows.length))=true:=by simpa using h
  rw[if_neg this]
structure av1 (p:Pool):Prop where
 len:p.rows.length≤256
 good:∀ q∈bo5 p,dm2 q
theorem av1.at {p:Pool}(h:av1 p){n:Int}(hn:isP p n=true):dm2 (pkP p n):=by
 unfold isP at hn;simp only[Bool.and_eq_true,decide_eq_true_eq] at hn;have hk:n.toNat<p.rows.length:=by omega
 refine h.good _ ?_;unfold pkP;have e:p.rows.getD n.toNat ⟨default,0,0⟩=p.rows[n.toNat]:=by simp[List.getD_eq_getElem?_getD,hk]
 rw[e];exact List.mem_map.2 ⟨_,List.getElem_mem hk,rfl⟩
theorem bc3 (p:Pool)(hp:av1 p)(n m:Int):PC Tryz.prog EE 10 [p.v,.int .i64 n,.int .i64 m] (.bool (ac8 p n m)):=by
 have h1:=de2 p n fun q hq=>(hp.good q hq).fit
 have h2:=de2 p m fun q hq=>(hp.good q hq).fit
 rw[ee5] at h1 h2;unfold ac8;refine ar1 hE fok10 (nZ rfl) (dr5 (au7 p) (.int _ _) (.int _ _)) ?_;simp only[ic10,go_sem]
 cases hn:isP p n with
 | false=>
  rw[hn] at h1;simp only[Bool.false_eq_true,if_false] at h1
  first|refine aa5 fok19 (h1) ?_|refine aa7 (h1) ?_
  cases hm:isP p m with
  | false=>
   rw[hm] at h2;simp only[Bool.false_eq_true,if_false] at h2;simp only[go_sem,ak6,aj1,ag1]
   first|refine aa5 fok19 (h2) ?_|refine aa7 (h2) ?_
   simp only[go_sem,ak6,aj1,ag1]
   exact am8 rfl
  | true=>
   rw[hm] at h2;simp only[if_true] at h2;simp only[go_sem,ak6,aj1,ag1]
   first|refine aa5 fok19 (h2) ?_|refine aa7 (h2) ?_
   simp only[go_sem,ak6,aj1,ag1]
   exact am8 rfl
 | true=>
  rw[hn] at h1;simp only[if_true] at h1
  first|refine aa5 fok19 (h1) ?_|refine aa7 (h1) ?_
  cases hm:isP p m with
  | false=>
   rw[hm] at h2;simp only[Bool.false_eq_true,if_false] at h2;simp only[go_sem,ak6,aj1,ag1]
   first|refine aa5 fok19 (h2) ?_|refine aa7 (h2) ?_
   simp only[go_sem,ak6,aj1,ag1]
   exact am8 rfl
  | true=>
   rw[hm] at h2;simp only[if_true] at h2;have h3:=gp8 (pkP p n) (pkP p m) (hp.at hn) (hp.at hm);simp only[go_sem,ak6,aj1,ag1]
   first|refine aa5 fok19 (h2) ?_|refine aa7 (h2) ?_
   by_cases hnm:n=m
   ·simp only[go_sem,ak6,aj1,ag1,hnm];exact am8 rfl
   ·simp only[go_sem,ak6,aj1,ag1,hnm]
    first|refine aa5 fok37 (h3) ?_|refine aa7 (h3) ?_
    simp only[go_sem];exact am8 rfl
open Go Go.Id Go.Proofs Go.Shelf Go.Id.Md
theorem ee6 (l:List Int)(hl:l.length<2^62):cn1 Tryz.prog EE (.func (.func 161) [] [.ac5 [.aa3 (l.map Md.ag9)]]) (l.map Md.ag9) (fun _=>True):=by
 intro yid I S σ hown hstab hy hi;refine ⟨fok161.1,?_⟩;refine C_f fok161 (nZ rfl) ?_;simp only[ic161,go_sem];refine ab7 noT (fun j fr t=>fr=[(0,.yield yid),(5,.aa3 (l.map Md.ag9)),(6,.int .i64 l.length),(7,.int .i64 (j:Int))]∧σ.next≤t.next∧I ((l.drop j).map Md.ag9) t) l.length ⟨rfl,Nat.le_refl _,hi⟩ ?_;rintro j fr t hle ⟨rfl,hn,hI⟩;by_cases hlt:j<l.length
 ·obtain ⟨x,_,_,hdr,hget,_⟩:=ah3 l j hlt;have c1:(j:Int)<l.length:=by omega
  have c2:(0:Int)≤(j:Int):=by omega
  have w1:=ad5 (i:=j) (by omega);rw[hdr,List.map_cons] at hI;simp only[go_sem,c1,c2,hget,Md.ag9];refine bx4 hy hI (fun s hs hI2=>?_) (fun s hs hS=>?_)
  ·simp only[go_sem,w1];exact ⟨hlt,by omega,hI2⟩
  ·simp only[go_sem];exact ⟨by omega,.inr hS⟩
 ·have c1:¬ (j:Int)<l.length:=by omega
  rw[List.drop_of_length_le (by omega)] at hI;simp only[go_sem,c1];exact ⟨hn,.inl hI⟩
theorem dv6 (l:List Int):PC Tryz.prog EE 75 [.aa3 (l.map Md.ag9)] (.func (.func 161) [] [.ac5 [.aa3 (l.map Md.ag9)]]):=by
 refine as8 fok75 (nZ rfl) fun σ=>?_
 simp only[ic75,go_sem]
theorem fy1 (ks:List Int)(fv:IV)(hT:cn1 Tryz.prog EE fv (ks.map Md.ag9) (fun _=>True))(hn:ks.length<2^30)(σ:Store) :
  C Tryz.prog EE 215 [.aa1,fv] σ (fn8 σ ks):=by
 refine C_f fok215 (nZ rfl) ?_;simp only[ic215,go_sem];refine bx3 hT (fun rest t=>∃ (zs rs:List Int) (v:IV),rest=rs.map Md.ag9∧zs++rs=ks∧t.obj σ.next=some (.cells [v])∧σ.next+1<t.next∧aj3 t (σ.next+2) v zs∧∀ i,i<σ.next→t.obj i=σ.obj i) (fun _ _ _=>trivial) ?_ ?_ ?_ ?_ ?_
 ·rintro rest t t' ⟨zs,rs,v,h1,h2,h3,h4,h5,h6⟩ hn ho;refine ⟨zs,rs,v,h1,h2,by rw[ho _ (by omega)]; exact h3,by omega,?_,fun i hi=>by rw[ho _ (by omega)]; exact h6 i hi⟩;rcases h5 with h5|⟨id,g1,g2,g3,g4⟩
  ·exact .inl h5
  ·exact .inr ⟨id,g1,by omega,g3,by rw[ho _ g2]; exact g4⟩
 ·intro a ha;obtain ⟨p,_,rfl⟩:=List.mem_map.1 ha;rfl
 ·intro o;have e0:¬ σ.next=σ.next+1:=by omega
  refine ⟨[],ks,.aa1,rfl,rfl,?_,by show σ.next+1<σ.next+1+1; omega,.inl ⟨rfl,rfl⟩,fun i hi=>?_⟩
  ·simp only[aa2,aa8,e0,if_false,if_true]
  ·have e1:¬ i=σ.next:=by omega
   have e2:¬ i=σ.next+1:=by omega
   simp only[aa2,aa8,e1,e2,if_false]
 ·rintro L pre a rest t hev ⟨zs,rs,v,h1,h2,h3,h4,h5,h6⟩ hL hlt
  cases rs with
  | nil=>cases h1
  | cons k rs=>
  rw[List.map_cons] at h1;obtain ⟨ha,hrest⟩:=List.cons.inj h1;subst ha;simp only[Md.ag9,aa8] at hL hlt ⊢;have e1:¬ σ.next+1=t.next:=by omega
  have e2:¬ σ.next=t.next:=by omega
  have e3:¬ σ.next=σ.next+1:=by omega
  simp only[go_sem,hL,e1,e2,e3,h3];generalize hU:t.put (σ.next+1) (L .busy none)=U
  have hUo:∀ i,i≠σ.next+1→U.obj i=t.obj i:=fun i hne=>by
   rw[← hU]; simp only[aa2,hne,if_false]
  have hUL:U.obj (σ.next+1)=some (L .busy none):=by rw[← hU]; simp only[aa2,if_true]
  have hg:aj3 ⟨t.next+1,U.obj⟩ (σ.next+2) v zs:=by
   rcases h5 with h5|⟨id,g1,g2,g3,g4⟩
   ·exact .inl h5
   ·exact .inr ⟨id,g1,by show id<t.next+1; omega,g3,by show U.obj id=_; rw[hUo id (by omega)]; exact g4⟩
  have hzl:zs.length<2^30:=by have:=congrArg List.length h2; rw[List.length_append,List.length_cons] at this; omega
  have hap:=cn7 (nid:=t.next) hg k (by omega);have k1:(ah9 v ⟨t.next+1,U.obj⟩).obj σ.next=some (.cells [v]):=by rw[aw2 hg (by omega)]; show U.obj _=_; rw[hUo _ e3]; exact h3
  have k2:(ah9 v ⟨t.next+1,U.obj⟩).obj (σ.next+1)=some (L .busy none):=by rw[aw2 hg (by omega)]; exact hUL
  have kn:=ae9 (σ:=⟨t.next+1,U.obj⟩) v;have e6:¬ σ.next=t.next:=by omega
  have e7:¬ σ.next+1=t.next:=by omega
  have e8:¬ σ.next+1=σ.next:=by omega
  simp only[go_sem,hap,e6,k1,e7,e8,k2];refine cs7 (by rw[aa8,aa8,aa8,kn]; show t.next≤t.next+1; omega) (by simp only[aa2,if_true]) ?_;refine ⟨zs++[k],rs,.slice t.next 0 (zs.length+1) 1,hrest,by rw[List.append_assoc]; exact h2,?_,?_,?_,fun i hi=>?_⟩
  ·simp only[aa2,e3,if_false,if_true]
  ·simp only[aa8,kn]; omega
  ·refine .inr ⟨t.next,by omega,by simp only[aa8,kn]; omega,by simp,?_⟩;have g1:¬ t.next=σ.next+1:=by omega
   have g2:¬ t.next=σ.next:=by omega
   simp only[aa2,g1,g2,if_false,if_true]
  ·have g1:¬ i=σ.next+1:=by omega
   have g2:¬ i=σ.next:=by omega
   have g3:¬ i=t.next:=by omega
   simp only[aa2,g1,g2,g3,if_false];rw[aw2 hg (by omega)]; show U.obj i=_; rw[hUo _ g1]; exact h6 i hi
 ·rintro t o ⟨zs,rs,v,h1,h2,h3,h4,h5,h6⟩ hlt ho
  cases rs with
  | cons k rs=>cases h1
  | nil=>
  rw[List.append_nil] at h2;subst h2;have e3:¬ σ.next=σ.next+1:=by omega
  simp only[aa8] at hlt ho ⊢;simp only[go_sem,e3,h3];refine ⟨⟨by show σ.next≤t.next; omega,fun i hi=>?_⟩,?_⟩
  ·have g1:¬ i=σ.next+1:=by omega
   show (if i=σ.next+1 then none else t.obj i)=_;rw[if_neg g1]; exact h6 i hi
  ·rcases h5 with h5|⟨id,g1,g2,g3,g4⟩
   ·exact .inl h5
   ·refine .inr ⟨id,by omega,g2,g3,?_⟩;have g5:¬ id=σ.next+1:=by omega
    show (if id=σ.next+1 then none else t.obj id)=_;rw[if_neg g5]; exact g4
theorem fy2 (ks:List Int)(fv:IV)(hT:cn1 Tryz.prog EE fv (ks.map Md.ag9) (fun _=>True))(hn:ks.length<2^30)(σ:Store) :
  C Tryz.prog EE 74 [fv] σ (fn8 σ (bt4 ks)):=by
 have hc:∀ σ:Store,C Tryz.prog EE 160 [fv] σ (fn8 σ ks):=fun σ=>by
  refine C_f fok160 (nZ rfl) ?_;simp only[ic160,go_sem];refine ad1 fok215 (fy1 ks fv hT hn _) ?_;rintro v t ⟨h1,h2⟩;refine ⟨h1.next,?_⟩;simp only[go_sem];exact ⟨h1,h2⟩
 refine C_f fok74 (nZ rfl) ?_;simp only[ic74,go_sem];refine ad1 fok160 (hc _) ?_;rintro v t ⟨h1,h2⟩;refine ⟨h1.next,?_⟩;rcases h2 with ⟨rfl,rfl⟩|⟨id,g1,g2,rfl,g4⟩
 ·simp only[go_sem];refine ad1 fok50 fw9 ?_;rintro v s ⟨rfl,rfl⟩;refine ⟨Nat.le_refl _,?_⟩;simp only[go_sem];exact ⟨h1,.inl ⟨rfl,by unfold bt4; exact List.mergeSort_nil⟩⟩
 ·simp only[go_sem];refine ad1 fok50 (fd6 (zs:=ks) (by omega) g4) ?_;rintro v s ⟨rfl,rfl⟩;refine ⟨Nat.le_refl _,?_⟩;simp only[go_sem];have hsl:(bt4 ks).length=ks.length:=List.length_mergeSort _;refine ⟨⟨h1.next,fun i hi=>?_⟩,.inr ⟨id,g1,g2,by rw[hsl],by simp only[aa2,if_true]; rfl⟩⟩;have e:¬ i=id:=by omega
  simp only[aa2,e,if_false];exact h1.obj i hi
def ij7:IC :=
 (.seq
 (.reg 0 [oM 6 (.c .aa1)] [0,1,2])
 (.seq
 (.reg 1 [oM 8 (.t 0),oM 9 (.t 1),oM 10 (.t 2),oM 11 (.t 0),oQ 12 (.len 0 (.t 11)),oK 13 (.st (.sl3 1 true) [(.t 8),(.t 9),(.t 10),(.t 12)])] [0,1,2])
 (.seq
 (.seq
 (.reg 2 [oM 14 (.t 1),oM 15 (.t 2),oQ 16 (.bin .eql (.t 14) (.t 15))] [0,1,2,16])
 (.cond (.t 16)
 (.seq
 (.reg 3 [oM 17 (.t 0),oM 6 (.t 17)] [6])
 .ret)
 .skip))
 (.seq
 (.reg 4 [oM 18 (.t 0),oQ 19 (.len 0 (.t 18)),oM 7 (.t 19)] [0,1,2,7])
 (.seq
 (.eo7 5 [(0,oM 20 (.t 0),0),(1,oM 21 (.t 1),0),(3,oM 23 (.t 0),0),(4,oM 24 (.t 2),0),(5,oQ 25 (.slc 1 (.t 23) (some (.t 24)) none),0),(2,oK 22 (.st (.rlp 1) [(.t 20),(.t 21)]),0),(6,oK 26 (.st (.apr 1) [(.t 22),(.t 25)]),0),(7,oM 0 (.t 26),0)] [0,7])
 (.seq
 (.reg 6 [oM 27 (.t 0),oM 28 (.t 0),oQ 29 (.len 0 (.t 28)),oM 30 (.t 7),oQ 31 (.slc 1 (.t 27) (some (.t 29)) (some (.t 30))),oN (.clr 1 [(zI 0)] (.t 31))] [0])
 (.seq
 (.reg 7 [oM 32 (.t 0),oM 6 (.t 32)] [6])
 .ret)))))))
theorem gv8:FOK Tryz.prog 80 (33,ij7,[(.t 6)]):=ak2 [1000013,1000022,1000026] Tryz.func80 (by kernel_rfl) (by kernel_rfl) (by kernel_rfl) (by kernel_rfl)
theorem iw3 {pt:PT}{ct:CT}{k:SK}{xs:List IX}{id:Nat}{fr:Frm}{σ:Store}{K:IV→Store→Prop}:opT pt ct Tryz.prog EE (.st k xs) id fr σ K=bo2 (stI k id σ (xs.map (·.ev EE fr))) fun r=>K r.1 r.2:=by first|rfl|simp[opT]
theorem iw4 {k:SK}{xs:List IX}:(IK.st k xs).lays=true:=rfl
structure hr7 (s:Store) (id:Nat) (zs:List Int):Prop where
 row:∃ cs,s.obj id=some (.row cs)∧cs.take zs.length=zs.map ch5∧zs.length≤cs.length
def unR:IV→IV
 | .ad7 i o l _ e=>.slice i o l e
 | v=>v
theorem iu4 {P:Program}{E:Nat→IV}{f:Nat}{args:List IV}{σ:Store}{Q Q':IV→Store→Prop}(h:C P E f args σ Q)(hq:∀ v s,Q v s→Q' (unR v) s):C P E f args σ Q':=by
 intro ρ w rargs hs hr;refine CallsIn.mono (h ρ w rargs hs hr) ?_;rintro e w' ⟨v,r,ρ',σ',rfl,hv,hs',hv',hx⟩;refine ⟨unR v,r,ρ',σ',rfl,hq _ _ hv,hs',?_,hx⟩
 cases v with
 | ad7 i o l m e=>exact dn2 hv'
 | _=>exact hv'
theorem ij8 {σ:Store}{id at_:Nat}{zs:List Int}(hid:id<σ.next)(hr:hr7 σ id zs)(hat:at_<zs.length)(hz:zs.length<2^30) :
  C Tryz.prog EE 80 [.slice id 0 zs.length 1,.int .i64 at_,.int .i64 ((at_+1:Nat):Int)] σ fun v s=>v=.slice id 0 (zs.length-1) 1∧σ.next≤s.next∧(∀ i,i<σ.next→i≠id→s.obj i=σ.obj i)∧hr7 s id (zs.eraseIdx at_):=by
 obtain ⟨cs,ho,htk,hle⟩:=hr.row;refine iu4 (Q:=fun v s=>v=.ad7 id 0 (zs.length-1) zs.length 1∧σ.next≤s.next∧(∀ i,i<σ.next→i≠id→s.obj i=σ.obj i)∧hr7 s id (zs.eraseIdx at_)) ?_ (fun v s h=>⟨by rw[h.1]; rfl,h.2⟩);refine gg7 gv8 (nZ rfl) ?_;have c1:(0:Int)≤(at_:Int):=by omega
 have c2:(0:Int)≤((at_+1:Nat):Int):=by omega
 have c3:(0:Int)≤(zs.length:Int):=by omega
 have c4:at_≤at_+1:=by omega
 have c5:at_+1≤zs.length:=by omega
 have e1:¬ (at_:Int)=((at_+1:Nat):Int):=by omega
 simp only[ij7];refine aa9 (ab2 ?_);simp only[go_sem];refine aa9 (ab2 ?_)
 have s1:∀ (nid:Nat) (τ:Store),stI (.sl3 1 true) nid τ [.slice id 0 zs.length 1,.int .i64 at_,.int .i64 ((at_+1:Nat):Int),.int .i64 zs.length]=some (.undef,τ):=fun nid τ=>by
  simp only[stI,ht5,de7,im4,c1,c2,c3,if_true,Int.toNat_natCast,c4,c5,Nat.le_refl,and_self]
 have s2:∀ (nid:Nat) (τ:Store),stI (.rlp 1) nid τ [.slice id 0 zs.length 1,.int .i64 at_]=some (.ad7 id 0 at_ zs.length 1,τ):=fun nid τ=>by
  simp only[stI,ik1,de7,c1,if_true,Int.toNat_natCast,show at_≤zs.length by omega,show 0<zs.length by omega,and_self,Option.map_some]
 have s3:∀ (nid:Nat) (τ:Store),τ.obj id=some (.row cs)→stI (.apr 1) nid τ [.ad7 id 0 at_ zs.length 1,.slice id (at_+1) (zs.length-(at_+1)) 1]=some (.ad7 id 0 (at_+(zs.length-(at_+1))) zs.length 1,τ.put id (.row (am6 cs (0+at_*1) ((cs.drop (at_+1)).take ((zs.length-(at_+1))*1))))):=fun nid τ hτ=>by
  have l1:cs.length≥zs.length:=hle
  have l2:(((cs.drop (at_+1)).take ((zs.length-(at_+1))*1))).all IV.leaf=true:=by
   refine List.all_eq_true.2 fun x hx=>?_
   have h1:x∈cs.take zs.length:=by
    rw[Nat.mul_one] at hx;have:(cs.drop (at_+1)).take (zs.length-(at_+1))=(cs.take zs.length).drop (at_+1):=by rw[List.drop_take]
    rw[this] at hx;exact List.mem_of_mem_drop hx
   rw[htk] at h1;obtain ⟨n,_,rfl⟩:=List.mem_map.1 h1;rfl
  have i1:at_+1+(zs.length-(at_+1))*1≤cs.length:=by omega
  have i2:at_+(zs.length-(at_+1))≤zs.length:=by omega
  have i3:0+at_*1+(zs.length-(at_+1))*1≤cs.length:=by omega
  simp only[stI,ht6,bn9,hτ,i1,i2,i3,l2,if_true,and_self]
 simp only[go_sem,c1,c2,c3,c4,c5,iw3,iw4,List.map_cons,List.map_nil,s1];refine aa9 (ab2 ?_);simp only[go_sem,e1];refine aa9 (ab2 ?_);simp only[go_sem];refine aa9 (ge4 ?_);simp only[go_sem,c1,c2,c3,c4,c5,iw3,iw4,List.map_cons,List.map_nil,ii5 c5,s2,s3,ho];have hm:at_+(zs.length-(at_+1))=zs.length-1:=by omega
 rw[hm];obtain ⟨c2s,hc2⟩:∃ c2s,c2s=am6 cs (at_*1) ((cs.drop (at_+1)).take ((zs.length-(at_+1))*1)):=⟨_,rfl⟩;have hc2l:c2s.length=cs.length:=by rw[hc2,ad9 (by simp; omega)]
 have hc2t:c2s.take (zs.length-1)=(zs.eraseIdx at_).map ch5:=by
  have hX:(cs.drop (at_+1)).take ((zs.length-(at_+1))*1)=(zs.drop (at_+1)).map ch5:=by
   rw[Nat.mul_one,List.map_drop,← htk,List.drop_take]
  have hA:cs.take (at_*1)=(zs.take at_).map ch5:=by
   rw[Nat.mul_one,List.map_take,← htk,List.take_take,Nat.min_eq_left (by omega)]
  have hl:((zs.take at_).map ch5++(zs.drop (at_+1)).map ch5).length=zs.length-1:=by simp; omega
  rw[hc2,hX];unfold am6;rw[hA,List.take_append_of_le_length (by omega),List.take_of_length_le (by omega),← List.map_append,List.eraseIdx_eq_take_drop_succ]
 rw[← hc2]
 have s4:dm6 1 (some (.int .i64 ((zs.length-1:Nat):Int))) (some (.int .i64 (zs.length:Int))) (.ad7 id 0 (zs.length-1) zs.length 1)=some (.slice id (zs.length-1) 1 1):=by
  have d1:(0:Int)≤((zs.length-1:Nat):Int):=by omega
  have d2:zs.length-(zs.length-1)=1:=by omega
  simp only[dm6,cr4,de7,d1,c3,if_true,Int.toNat_natCast,show zs.length-1≤zs.length by omega,Nat.le_refl,and_self,d2,Nat.mul_one,Nat.zero_add]
 have s5:∀ τ:Store,cr9 0 τ (.ad7 id 0 (zs.length-1) zs.length 1)=some (.int .i64 ((zs.length-1:Nat):Int)):=fun _=>rfl
 have s6:∀ τ:Store,τ.obj id=some (.row c2s)→fi9 τ 1 [.int .i64 0] (.slice id (zs.length-1) 1 1)=some (τ.put id (.row (am6 c2s (zs.length-1) [.int .i64 0]))):=fun τ hτ=>by
  have d1:zs.length-1+1*1≤c2s.length:=by omega
  simp only[fi9,hτ,d1];rfl
 refine aa9 (ab2 ?_);simp only[go_sem,s4,s5,iu1,s6];refine ab2 ?_;simp only[go_sem];refine ⟨by omega,fun i hi hne=>?_,⟨⟨am6 c2s (zs.length-1) [.int .i64 0],by simp only[aa2,if_true],?_,?_⟩⟩⟩
 ·simp only[aa2,hne,if_false]
 ·rw[List.length_eraseIdx_of_lt hat,← hc2t];unfold am6;rw[List.append_assoc,List.take_append_of_le_length (by rw[List.length_take]; omega),List.take_take,Nat.min_self]
 ·rw[List.length_eraseIdx_of_lt hat,ad9 (by simp; omega)]; omega
theorem fe1 (q:Int→Bool):∀ (l:List Int) (i:Nat),al4 q l i=match l.findIdx? q with|some k=>((i+k:Nat):Int)|none=>-1:=by
 intro l
 induction l with
 | nil=>intro i; rfl
 | cons x l ih=>
  intro i;have e:=ih (i+1);rw[List.findIdx?_cons];unfold al4
  cases q x with
  | true=>simp
  | false=>
   have e2:al4 q l ((i:Int)+1)=al4 q l ((i+1:Nat):Int):=by rw[Int.natCast_add,Int.natCast_one]
   simp only[Bool.false_eq_true,if_false,e2,e]
   cases l.findIdx? q with
   | none=>rfl
   | some k=>simp only[Option.map_some]; congr 1; omega
theorem gp9 (w:Int→Int→Bool)(left:List Int):mmI true (.int .i64 (al4 (fun n=>!left.any fun m=>w n m) left 0)) (.int .i64 0)=some (.int .i64 ((ai1 w left:Nat):Int)):=by
 have h:=fe1 (fun n=>!left.any fun m=>w n m) left 0;unfold ai1;rw[Int.natCast_zero] at h;rw[h]
 cases left.findIdx? fun n=>!left.any fun m=>w n m with
 | none=>rfl
 | some k=>
  have e:¬ (0:Int)>(k:Int):=by omega
  simp only[Option.getD_some,Nat.zero_add,mmI,if_true,e,if_false]
theorem fy3 {g:Nat}{cap:List IV}{w:Int→Int→Bool}{n m:Int}(hok:okF Tryz.prog g=true)(hb:∀ c∈cap,Bnd 0 c)(hw:PC Tryz.prog EE g ([.int .i64 n,.int .i64 m]++cap) (.bool (w n m))) :
  PC Tryz.prog EE 79 ([]++[.int .i64 m]++[.ac5 [.func (.func g) [] cap],.ac5 [.int .i64 n]]) (.bool (w n m)):=by
 have hbf:Bnd 0 (.func (.func g) [] cap):=.func _ _ _ (fun c hc=>by cases hc) hb;refine ar1 hE fok79 (nZ rfl) (dr5 (.int _ _) (dv5 hbf) (dv5 (.int _ _))) ?_;simp only[ic79,go_sem,List.nil_append,List.cons_append];refine al9 hok hw ?_;simp only[go_sem];exact am8 rfl
theorem fy4 {g:Nat}{cap:List IV}{w:Int→Int→Bool}{n:Int}{left:List Int}(hok:okF Tryz.prog g=true)(hb:∀ c∈cap,Bnd 0 c)(hl:left.length<2^30)(hw:∀ m∈left,PC Tryz.prog EE g ([.int .i64 n,.int .i64 m]++cap) (.bool (w n m))) :
  PC Tryz.prog EE 77 ([]++[.int .i64 n]++[.ac5 [.aa3 (left.map Md.ag9)],.ac5 [.func (.func g) [] cap]]) (.bool (!left.any fun m=>w n m)):=by
 have hbf:Bnd 0 (.func (.func g) [] cap):=.func _ _ _ (fun c hc=>by cases hc) hb;have hc:=fx1 left 79 [] [.ac5 [.func (.func g) [] cap],.ac5 [.int .i64 n]] (fun m=>w n m) (by omega) fok79.1 fun m hm=>fy3 hok hb (hw m hm)
 refine ar1 hE fok77 (nZ rfl) (dr5 (.int _ _) (dv5 (bn2 _)) (dv5 hbf)) ?_;simp only[ic77,go_sem,List.nil_append,List.cons_append]
 first|refine aa5 fok78 (hc) ?_|refine aa7 (hc) ?_
 simp only[go_sem];exact am8 rfl
def hn7 (s:Store)(B:Nat)(v:IV)(left:List Int):Prop:=(v=.aa1∧left=[])∨∃ id,v=.slice id 0 left.length 1∧(0<id∧id<B)∧hr7 s id left
theorem hn7.frz {s:Store}{B:Nat}{v:IV}{left:List Int}(h:hn7 s B v left)(hB:B≤s.next):dc1 s 0 v (.aa3 (left.map Md.ag9)):=by
 rcases h with ⟨rfl,rfl⟩|⟨id,rfl,h2,cs,h3,h4,h5⟩
 ·exact .bw7
 ·exact eh1.frz (lo:=0) (.inr ⟨id,cs,Nat.zero_le _,by omega,rfl,h3,h4,h5⟩) fun _ _=>Nat.not_lt_zero _
theorem hn7.mono {s t:Store}{B:Nat}{v:IV}{left:List Int}(h:hn7 s B v left)(ho:∀ i,0<i→i<B→t.obj i=s.obj i):hn7 t B v left:=by
 rcases h with h|⟨id,h1,h2,cs,h3,h4,h5⟩
 ·exact .inl h
 ·exact .inr ⟨id,h1,h2,cs,by rw[ho id h2.1 h2.2]; exact h3,h4,h5⟩
theorem gv9 (l:List Int)(g:Nat)(cap:List IV)(w:Int→Int→Bool)(hok:okF Tryz.prog g=true)(hb:∀ c∈cap,Bnd 0 c)(hl:l.length<2^30)(hw:∀ n∈l,∀ m∈l,PC Tryz.prog EE g ([.int .i64 n,.int .i64 m]++cap) (.bool (w n m))) :
  PC Tryz.prog EE 33 [.aa3 (l.map Md.ag9),.func (.func g) [] cap] (.aa3 ((co5 w l.length (bt4 l)).map Md.ag9)):=by
 have hbf:Bnd 0 (.func (.func g) [] cap):=.func _ _ _ (fun c hc=>by cases hc) hb;refine ar1 hE fok33 (nZ rfl) (be7 (bn2 _) hbf) ?_;simp only[ic33,go_sem]
 first|refine aa5 fok75 (dv6 l) ?_|refine aa7 (dv6 l) ?_
 simp only[go_sem];refine ad1 fok74 (fy2 l _ (ee6 l (by omega)) hl _) ?_;rintro v t ⟨hk,hv⟩;refine ⟨hk.next,?_⟩;have hvc:v.cs=[v]∧v.leaf=true:=by rcases hv with ⟨rfl,_⟩|⟨id,_,_,rfl,_⟩<;>exact ⟨rfl,rfl⟩
 simp only[go_sem,hvc.1,hvc.2];obtain ⟨B,hB⟩:∃ B,B=t.next:=⟨_,rfl⟩;have htn1:1≤t.next:=hk.next
 have hv1:∀ id,v=.slice id 0 (bt4 l).length 1→0<id:=fun id h=>by
  rcases hv with ⟨rfl,_⟩|⟨id',g1,_,rfl,_⟩
  ·cases h
  ·cases h; exact Nat.lt_of_lt_of_le Nat.zero_lt_one g1
 rw[← hB] at htn1 ⊢;generalize hT:Store.mk B _=T;have hTn:T.next=B:=by rw[← hT]
 have hTb:T.obj 0=some (.cells [v]):=by rw[← hT]; simp only[aa2,if_true]
 have hTo:∀ i,0<i→T.obj i=t.obj i:=fun i hi=>by
  have e:¬ i=0:=by omega
  rw[← hT]; simp only[aa2,e,if_false]
 clear hT;have htn:=hk.next;have hS:(bt4 l).length=l.length:=(ai3 l).length_eq
 have hv0:hn7 T B v (bt4 l):=by
  rcases hv with h|⟨id,g1,g2,g3,g4⟩
  ·exact .inl h
  ·have:=hv1 id g3;exact .inr ⟨id,g3,⟨this,by omega⟩,_,by rw[hTo id this]; exact g4,by rw[List.take_of_length_le (by simp)],by simp⟩
 refine ab7 noT (fun k fr s=>∃ (left zs:List Int) (lv gv:IV),fr=[(3,.ac5 [.func (.func g) [] cap]),(5,.ptr 0 0),(6,gv)]∧B≤s.next∧s.obj 0=some (.cells [lv])∧hn7 s B lv left∧aj3 s B gv zs∧zs++co5 w left.length left=co5 w l.length (bt4 l)∧(∀ x∈left,x∈l)∧left.length+k=l.length∧zs.length=k) l.length ⟨bt4 l,[],v,.aa1,rfl,by omega,hTb,hv0,.inl ⟨rfl,rfl⟩,by rw[hS]; rfl,fun x hx=>(ai3 l).mem_iff.1 hx,by omega,rfl⟩ ?_;rintro k fr s hk2 ⟨left,zs,lv,gv,rfl,hsn,hsb,hlv,hgv,hrow,hin,hlen,hzl⟩;by_cases h0:left=[]
 ·subst h0;rw[eh6,List.append_nil] at hrow;have hll:∀ τ,cr9 0 τ lv=some (.int .i64 0):=fun τ=>by rcases hlv with ⟨rfl,_⟩|⟨id,rfl,_,_⟩<;>rfl
  simp only[go_sem,hsb,hll];rw[← hrow];exact hgv.w.frz fun _ _=>Nat.not_lt_zero _
 have hpos:0<left.length:=List.length_pos_iff.2 h0;obtain ⟨id,rfl,hidB,cs,ho,htk,hle⟩:=hlv.resolve_left fun h=>h0 h.2
 have c1:(0:Int)<left.length:=by omega
 have hpk:=bt2 (w:=w) h0;have hix:=cr1 left 77 [] [.ac5 [.aa3 (left.map Md.ag9)],.ac5 [.func (.func g) [] cap]] (fun n=>!left.any fun m=>w n m) (by omega) fok77.1 fun n hn=>fy4 hok hb (by omega) fun m hm=>hw n (hin n hn) m (hin m hm)
 have hfm:=gp9 w left
 have hrf:co5 w left.length left=left.getD (ai1 w left) 0::co5 w (left.eraseIdx (ai1 w left)).length (left.eraseIdx (ai1 w left)):=by
  obtain ⟨m,hm⟩:∃ m,left.length=m+1:=⟨left.length-1,by omega⟩;have hm2:(left.eraseIdx (ai1 w left)).length=m:=by rw[List.length_eraseIdx_of_lt hpk]; omega
  rw[hm2,hm,aw4 h0]
 have hin2:∀ x∈left.eraseIdx (ai1 w left),x∈l:=fun x hx=>hin x (List.mem_of_mem_eraseIdx hx)
 have hgd:left.getD (ai1 w left) 0=left[ai1 w left]:=by simp[List.getD_eq_getElem?_getD,hpk]
 rw[hgd] at hrf;have hrp:hr7 s id left:=⟨cs,ho,htk,hle⟩;simp only[go_sem,hsb,c1]
 refine ad1 fok76 (dh2 (args':=[.aa3 (left.map Md.ag9),.func (.func 77) [] [.ac5 [.aa3 (left.map Md.ag9)],.ac5 [.func (.func g) [] cap]]]) hE rfl (fun z hz=>by
  match z,hz with
  | 0,_=>exact hlv.frz (by omega)
  | 1,_=>
   refine ij1 (.cons (.ptr 0 0 [_] _ (Nat.not_lt_zero _) (.inl hsb) (Nat.le_refl _) fun j hj=>?_) (.cons (.keep _ (dv5 hbf)) .nil));have hj0:j=0:=by simp only[List.length_singleton] at hj; omega
   subst hj0;exact hlv.frz (by omega)) (by simp[IV.plain]) hix) ?_
 rintro v2 s2 ⟨rfl,rfl⟩;refine ⟨Nat.le_refl _,?_⟩
 have hld:ct1 none (ai1 w left*1) (s2.obj id)=some (ch5 left[ai1 w left]):=by
  rw[ho];have h1:=fn9 htk hpk;have h2:ai1 w left<cs.length:=by omega
  rw[Nat.mul_one];show (cs.drop (ai1 w left)).head? = _;rw[List.head?_drop,List.getElem?_eq_getElem h2];rw[List.getD_eq_getElem?_getD,List.getElem?_eq_getElem h2] at h1;exact congrArg some h1
 have c2:(0:Int)≤((ai1 w left:Nat):Int):=by omega
 have c3:((ai1 w left:Nat):Int)<left.length:=by omega
 have w1:=ad5 (i:=ai1 w left) (by omega)
 have hgv2:aj3 ⟨s2.next+1,s2.obj⟩ B gv zs:=by
  rcases hgv with h|⟨i2,g1,g2,g3,g4⟩
  ·exact .inl h
  ·exact .inr ⟨i2,g1,by show i2<s2.next+1; omega,g3,g4⟩
 have hap:=cn7 (nid:=s2.next) hgv2 left[ai1 w left] (by omega);have hkl:∀ i,i<B→(ah9 gv ⟨s2.next+1,s2.obj⟩).obj i=s2.obj i:=fun i hi=>aw2 hgv2 hi
 have e0:¬ 0=s2.next:=by omega
 have k0:=hkl 0 (by omega);rw[show (⟨s2.next+1,s2.obj⟩:Store).obj 0=s2.obj 0 from rfl] at *;have kn:(ah9 gv (⟨s2.next+1,s2.obj⟩:Store)).next=s2.next+1:=ae9 gv;simp only[go_sem,hfm,hsb,c2,c3,hld,hap,e0,k0,kn,w1];generalize hU:Store.put (ah9 gv _) s2.next _=U;have hUn:U.next=s2.next+1:=by rw[← hU,aa8,kn]
 have hU0:∀ i,i<B→U.obj i=s2.obj i:=fun i hi=>by
  have e:¬ i=s2.next:=by omega
  rw[← hU]; simp only[aa2,e,if_false]; exact hkl i hi
 have hUr:U.obj s2.next=some (.row ((zs++[left[ai1 w left]]).map ch5)):=by rw[← hU]; simp only[aa2,if_true]
 clear hU hap hkl k0 kn;have hrp2:hr7 ⟨s2.next+1,U.obj⟩ id left:=⟨cs,by show U.obj id=_; rw[hU0 id hidB.2]; exact ho,htk,hle⟩;refine ad1 gv8 (ij8 (by show id<s2.next+1; omega) hrp2 hpk (by omega)) ?_;rintro v3 s3 ⟨rfl,hn3,ho3,hr3⟩;refine ⟨hn3,?_⟩;have hn3:s2.next+1≤s3.next:=hn3;have h30:s3.obj 0=some (.cells [.slice id 0 left.length 1]):=by rw[ho3 0 (by show 0<s2.next+1; omega) (by omega)]; show U.obj 0=_; rw[hU0 0 (by omega)]; exact hsb
 simp only[go_sem,h30];have hl2:(left.eraseIdx (ai1 w left)).length=left.length-1:=by rw[List.length_eraseIdx_of_lt hpk]
 refine ⟨by omega,left.eraseIdx (ai1 w left),zs++[left[ai1 w left]],_,_,rfl,by omega,rfl,.inr ⟨id,by rw[hl2],hidB,?_⟩,.inr ⟨s2.next,by omega,by show s2.next<s3.next; omega,by rw[List.length_append]; rfl,?_⟩,?_,hin2,by omega,by rw[List.length_append,hzl]; rfl⟩
 ·obtain ⟨cs3,q1,q2,q3⟩:=hr3;have e:¬ id=0:=by omega
  exact ⟨cs3,by simp only[aa2,e,if_false]; exact q1,q2,q3⟩
 ·have e:¬ s2.next=0:=by omega
  simp only[aa2,e,if_false];rw[ho3 s2.next (by show s2.next<s2.next+1; omega) (by omega)];exact hUr
 ·rw[← hrow,hrf,List.append_assoc]; rfl
open Go Go.Id Go.Proofs
theorem ga1 {a b:Nat}(h:a+b<2^62):IntKind.i64.wrap ((a:Int)+(b:Int))=((a+b:Nat):Int):=by rw[wrap64 (by omega) (by omega)]; omega
theorem ff1 {a b:Nat}(h:b≤a)(h2:a<2^62):IntKind.i64.wrap ((a:Int)-(b:Int))=((a-b:Nat):Int):=by rw[wrap64 (by omega) (by omega)]; omega
theorem be9 {a:Nat}(h:1≤a)(h2:a<2^62):IntKind.i64.wrap ((a:Int)-1)=((a-1:Nat):Int):=by rw[wrap64 (by omega) (by omega)]; omega
theorem jd4 {a:Nat}(h:a<2^60):IntKind.i64.wrap (2*(a:Int))=((2*a:Nat):Int):=by rw[wrap64 (by omega) (by omega)]; omega
section
variable {α:Type} [Inhabited α] (emb:α→Int) (tl:List IV) {cf:α→α→Int} {g:Nat} {first cap:List IV} {id:Nat}
theorem ah6 {d:Array α}{i j:Nat}(hi:i<d.size)(hj:j<d.size) :
  ((az7 emb tl d).drop i).head? = some (.int .i64 (emb d[i]!))∧((az7 emb tl d).drop j).head? = some (.int .i64 (emb d[j]!))∧i+1≤(az7 emb tl d).length∧j+1≤(am6 (az7 emb tl d) i [.int .i64 (emb d[j]!)]).length ∧
  am6 (am6 (az7 emb tl d) i [.int .i64 (emb d[j]!)]) j [.int .i64 (emb d[i]!)]=az7 emb tl (Go.Sort.swp d i j):=
 ⟨ah5 emb tl hi,ah5 emb tl hj,by rw[bn4]; omega,by rw[ad9 (by rw[bn4]; simp only[List.length_singleton]; omega),bn4]; omega,el8 emb tl hi hj⟩
theorem SO.put {d d':Array α}{σ u:Store}{n:Nat}(h:SO emb tl id d σ u)(hn:σ.next≤n){a:List IV}:SO emb tl id d' σ ⟨n,(((⟨n,u.obj⟩:Store).put id (.row a)).put id (.row (az7 emb tl d'))).obj⟩:=
 ⟨hn,fun i hi=>by simp only[aa2,hi,if_false]; exact h.other i hi,by simp only[aa2,if_true]⟩
theorem fy5 {f:List IV}{σ:Store}(d:Array α)(a b:Nat)(fv:IV)(hab:a<b)(hb:b≤d.size)(hz:d.size<2^40)(ho:σ.obj id=some (.row (az7 emb tl d))) :
  C Tryz.prog EE 154 [.slice id 0 d.size 1,.int .i64 a,.int .i64 b,fv] σ fun v s=>v=.tuple []∧SO emb tl id (Go.Sort.reverseRange d a b) σ s:=by
 refine C_f fok154 (nZ rfl) ?_;have w0:=be9 (a:=b) (by omega) (by omega);simp only[ic154,go_sem,w0];refine ab7 noT (fun k fr t=>∃ (i j:Nat) (dk:Array α),fr=[(0,.slice id 0 d.size 1),(8,.int .i64 (i:Int)),(9,.int .i64 (j:Int))]∧SO emb tl id dk σ t∧dk.size=d.size∧k≤i∧j<d.size∧Go.Sort.reverseLoop i j dk=Go.Sort.reverseRange d a b) d.size ⟨a,b-1,d,rfl,⟨Nat.le_refl _,fun _ _=>rfl,ho⟩,rfl,Nat.zero_le _,by omega,rfl⟩ ?_;rintro k fr t hk ⟨i,j,dk,rfl,hS,hsz,hki,hjd,hI⟩;by_cases hlt:i<j
 ·have c1:(i:Int)<(j:Int):=by omega
  have c2:(0:Int)≤i:=by omega
  have c3:(i:Int)<d.size:=by omega
  have c4:(0:Int)≤j:=by omega
  have c5:(j:Int)<d.size:=by omega
  have w1:=ad5 (i:=i) (by omega);have w2:=be9 (a:=j) (by omega) (by omega);obtain ⟨r1,r2,r3,r4,r5⟩:=ah6 emb tl (d:=dk) (i:=i) (j:=j) (by omega) (by omega);rw[Go.Sort.reverseLoop,if_pos hlt] at hI;simp only[go_sem,c1,c2,c3,c4,c5,hS.row,r1,r2,r3,r4,r5,w1,w2,Nat.mul_one];refine ⟨by omega,i+1,j-1,Go.Sort.swp dk i j,rfl,⟨?_,fun m hm=>?_,?_⟩,by rw[swp_size]; exact hsz,by omega,by omega,hI⟩
  ·have:=hS.next; simp only[aa8]; omega
  ·simp only[aa2,hm,if_false]; exact hS.other m hm
  ·simp only[aa2,if_true]
 ·have c1:¬ (i:Int)<(j:Int):=by omega
  rw[Go.Sort.reverseLoop,if_neg hlt] at hI;simp only[go_sem,c1];rw[← hI];exact ⟨hS.next,hS.other,hS.row⟩
theorem bv6 (lt:α→α→Bool)(hi fst:Nat):∀ (n root:Nat) (d:Array α),hi-root≤n→(Go.Sort.siftDown lt hi fst root d).size=d.size:=by
 intro n
 induction n with
 | zero=>
  intro root d h
  rw[Go.Sort.siftDown,dif_pos (by omega)]
 | succ n ih=>
  intro root d h;rw[Go.Sort.siftDown]
  repeat' split
  all_goals first|rfl|(rw[ih _ _ (by omega),swp_size])
theorem de3 (hC:cf4 emb cf g first cap){σ:Store}(d:Array α)(lo hi fst:Nat)(hb:fst+hi≤d.size)(hz:d.size<2^40)(hlo:lo<2^40)(ho:σ.obj id=some (.row (az7 emb tl d))) :
  C Tryz.prog EE 210 [.slice id 0 d.size 1,.int .i64 lo,.int .i64 hi,.int .i64 fst,.func (.func g) first cap] σ fun v s=>v=.tuple []∧SO emb tl id (Go.Sort.siftDown (ltOf cf) hi fst lo d) σ s:=by
 refine C_f fok210 (nZ rfl) ?_;simp only[ic210,go_sem];refine ab7 noT (fun k fr t=>∃ (root:Nat) (dk:Array α),fr=[(0,.slice id 0 d.size 1),(2,.int .i64 hi),(3,.int .i64 fst),(4,.func (.func g) first cap),(10,.int .i64 (root:Int))]∧SO emb tl id dk σ t∧dk.size=d.size∧k≤root∧root<2^40∧Go.Sort.siftDown (ltOf cf) hi fst root dk=Go.Sort.siftDown (ltOf cf) hi fst lo d) hi ⟨lo,d,rfl,⟨Nat.le_refl _,fun _ _=>rfl,ho⟩,rfl,Nat.zero_le _,hlo,rfl⟩ ?_;rintro k fr t hk ⟨root,dk,rfl,hS,hsz,hkr,hrt,hI⟩;have w1:=jd4 (a:=root) (by omega);have w2:=ad5 (i:=2*root) (by omega);have w3:=ad5 (i:=2*root+1) (by omega);rw[Go.Sort.siftDown] at hI;by_cases hge:2*root+1≥hi
 ·have c1:((hi:Nat):Int)≤((2*root+1:Nat):Int):=by omega
  rw[dif_pos hge] at hI;simp only[go_sem,w1,w2,c1];rw[← hI];exact ⟨hS.next,hS.other,hS.row⟩
 have c1:¬ ((hi:Nat):Int)≤((2*root+1:Nat):Int):=by omega
 have v1:=ga1 (a:=fst) (b:=root) (by omega);have v2:=ga1 (a:=fst) (b:=2*root+1) (by omega);have v3:=ad5 (i:=fst+(2*root+1)) (by omega);have p1:(0:Int)≤((fst+(2*root+1):Nat):Int):=by omega
 have p2:((fst+(2*root+1):Nat):Int)<d.size:=by omega
 have p3:(0:Int)≤((fst+root:Nat):Int):=by omega
 have p4:((fst+root:Nat):Int)<d.size:=by omega
 rw[dif_neg hge] at hI;have x1:=ah5 emb tl (d:=dk) (k:=fst+(2*root+1)) (by omega);have x0:=ah5 emb tl (d:=dk) (k:=fst+root) (by omega);by_cases h2:2*root+2<hi
 ·have c2:((2*root+1+1:Nat):Int)<hi:=by omega
  have p5:(0:Int)≤((fst+(2*root+1)+1:Nat):Int):=by omega
  have p6:((fst+(2*root+1)+1:Nat):Int)<d.size:=by omega
  have x2:=ah5 emb tl (d:=dk) (k:=fst+(2*root+1)+1) (by omega);have e2:(2*root+1+1<hi)=True:=eq_true (by omega);have hc1:=hC.pc dk[fst+(2*root+1)]! dk[fst+(2*root+1)+1]!;simp only[go_sem,w1,w2,w3,c1,c2,p1,p2,p5,p6,v2,v3,x1,x2,hS.row,Nat.mul_one];refine al9 hC.ok hc1 ?_;by_cases hcf:cf dk[fst+(2*root+1)]! dk[fst+(2*root+1)+1]! < 0
  ·have hl2:ltOf cf dk[fst+(2*root+1)]! dk[fst+(2*root+1)+1]! = true:=decide_eq_true hcf;have hh:decide (2*root+1+1<hi)=true:=decide_eq_true (by omega);rw[hl2,hh,Bool.and_self,if_pos rfl] at hI;simp only[h2,dite_true] at hI;have e3:2*root+1+1=2*root+2:=by omega
   have v4:=ga1 (a:=fst) (b:=2*root+2) (by omega);have q1:(0:Int)≤((fst+(2*root+2):Nat):Int):=by omega
   have q2:((fst+(2*root+2):Nat):Int)<d.size:=by omega
   have x4:=ah5 emb tl (d:=dk) (k:=fst+(2*root+2)) (by omega);have hc2:=hC.pc dk[fst+root]! dk[fst+(2*root+2)]!;simp only[go_sem,hcf,w3,e3,v1,v4,p3,p4,q1,q2,x0,x4,hS.row,Nat.mul_one];refine al9 hC.ok hc2 ?_;by_cases hcg:cf dk[fst+root]! dk[fst+(2*root+2)]! < 0
   ·have hl3:ltOf cf dk[fst+root]! dk[fst+(2*root+2)]! = true:=decide_eq_true hcg;rw[hl3] at hI;simp only[Bool.not_true,Bool.false_eq_true,if_false] at hI;obtain ⟨r1,r2,r3,r4,r5⟩:=ah6 emb tl (d:=dk) (i:=fst+root) (j:=fst+(2*root+2)) (by omega) (by omega);simp only[go_sem,hcg,v1,v4,p3,p4,q1,q2,r1,r2,r3,r4,r5,hS.row,Nat.mul_one];refine ⟨by omega,2*root+2,Go.Sort.swp dk (fst+root) (fst+(2*root+2)),rfl,⟨?_,fun m hm=>?_,?_⟩,by rw[swp_size]; exact hsz,by omega,by omega,hI⟩
    ·have:=hS.next; simp only[aa8]; omega
    ·simp only[aa2,hm,if_false]; exact hS.other m hm
    ·simp only[aa2,if_true]
   ·have hl3:ltOf cf dk[fst+root]! dk[fst+(2*root+2)]! = false:=decide_eq_false hcg;rw[hl3] at hI;simp only[Bool.not_false,if_true] at hI;simp only[go_sem,hcg];rw[← hI];exact ⟨by have:=hS.next; show σ.next≤t.next+_+_; omega,hS.other,hS.row⟩
  ·have hl2:ltOf cf dk[fst+(2*root+1)]! dk[fst+(2*root+1)+1]! = false:=decide_eq_false hcf;rw[hl2,Bool.and_false,if_neg (by decide)] at hI;have hc2:=hC.pc dk[fst+root]! dk[fst+(2*root+1)]!;simp only[go_sem,hcf,v1,v2,p3,p4,p1,p2,x0,x1,hS.row,Nat.mul_one];refine al9 hC.ok hc2 ?_;by_cases hcg:cf dk[fst+root]! dk[fst+(2*root+1)]! < 0
   ·have hl3:ltOf cf dk[fst+root]! dk[fst+(2*root+1)]! = true:=decide_eq_true hcg;rw[hl3] at hI;simp only[Bool.not_true,Bool.false_eq_true,if_false] at hI;obtain ⟨r1,r2,r3,r4,r5⟩:=ah6 emb tl (d:=dk) (i:=fst+root) (j:=fst+(2*root+1)) (by omega) (by omega);simp only[go_sem,hcg,v1,v2,p3,p4,p1,p2,r1,r2,r3,r4,r5,hS.row,Nat.mul_one];refine ⟨by omega,2*root+1,Go.Sort.swp dk (fst+root) (fst+(2*root+1)),rfl,⟨?_,fun m hm=>?_,?_⟩,by rw[swp_size]; exact hsz,by omega,by omega,hI⟩
    ·have:=hS.next; simp only[aa8]; omega
    ·simp only[aa2,hm,if_false]; exact hS.other m hm
    ·simp only[aa2,if_true]
   ·have hl3:ltOf cf dk[fst+root]! dk[fst+(2*root+1)]! = false:=decide_eq_false hcg;rw[hl3] at hI;simp only[Bool.not_false,if_true] at hI;simp only[go_sem,hcg];rw[← hI];exact ⟨by have:=hS.next; show σ.next≤t.next+_+_; omega,hS.other,hS.row⟩
 ·have c2:¬ ((2*root+1+1:Nat):Int)<hi:=by omega
  have hh:decide (2*root+1+1<hi)=false:=decide_eq_false (by omega);rw[hh,Bool.false_and,if_neg (by decide)] at hI;have hc2:=hC.pc dk[fst+root]! dk[fst+(2*root+1)]!;simp only[go_sem,w1,w2,w3,c1,c2,v1,v2,p3,p4,p1,p2,x0,x1,hS.row,Nat.mul_one];refine al9 hC.ok hc2 ?_;by_cases hcg:cf dk[fst+root]! dk[fst+(2*root+1)]! < 0
  ·have hl3:ltOf cf dk[fst+root]! dk[fst+(2*root+1)]! = true:=decide_eq_true hcg;rw[hl3] at hI;simp only[Bool.not_true,Bool.false_eq_true,if_false] at hI;obtain ⟨r1,r2,r3,r4,r5⟩:=ah6 emb tl (d:=dk) (i:=fst+root) (j:=fst+(2*root+1)) (by omega) (by omega);simp only[go_sem,hcg,v1,v2,p3,p4,p1,p2,r1,r2,r3,r4,r5,hS.row,Nat.mul_one];refine ⟨by omega,2*root+1,Go.Sort.swp dk (fst+root) (fst+(2*root+1)),rfl,⟨?_,fun m hm=>?_,?_⟩,by rw[swp_size]; exact hsz,by omega,by omega,hI⟩
   ·have:=hS.next; simp only[aa8]; omega
   ·simp only[aa2,hm,if_false]; exact hS.other m hm
   ·simp only[aa2,if_true]
  ·have hl3:ltOf cf dk[fst+root]! dk[fst+(2*root+1)]! = false:=decide_eq_false hcg;rw[hl3] at hI;simp only[Bool.not_false,if_true] at hI;simp only[go_sem,hcg];rw[← hI];exact ⟨by have:=hS.next; show σ.next≤t.next+_+_; omega,hS.other,hS.row⟩
theorem fe2 (hC:cf4 emb cf g first cap){σ:Store}(d:Array α)(a b:Nat)(hab:a<b)(hb:b≤d.size)(hz:d.size<2^40)(ho:σ.obj id=some (.row (az7 emb tl d))) :
  C Tryz.prog EE 151 [.slice id 0 d.size 1,.int .i64 a,.int .i64 b,.func (.func g) first cap] σ fun v s=>v=.tuple []∧SO emb tl id (Go.Sort.heapSort (ltOf cf) d a b) σ s:=by
 refine C_f fok151 (nZ rfl) ?_;have w0:=ff1 (a:=b) (b:=a) (by omega) (by omega);obtain ⟨hi,hhi⟩:∃ hi,hi=b-a:=⟨_,rfl⟩;rw[← hhi] at w0;have w1:=be9 (a:=hi) (by omega) (by omega)
 have w2:IntKind.i64.wrap (((hi-1:Nat):Int).tdiv 2)=(((hi-1)/2+1:Nat):Int)-1:=by
  have:((hi-1:Nat):Int).tdiv 2=(((hi-1)/2:Nat):Int):=by
   rw[Int.tdiv_eq_ediv_of_nonneg (by omega)]; omega
  rw[this,wrap64 (by omega) (by omega)]; omega
 unfold Go.Sort.heapSort;rw[← hhi];have n2:¬ ((2:Int)=0):=by decide
 simp only[ic151,go_sem,w0,w1,w2,n2];refine ab7 noT (fun k fr t=>∃ (r:Nat) (dk:Array α),fr=[(0,.slice id 0 d.size 1),(3,.func (.func g) first cap),(8,.int .i64 a),(9,.int .i64 0),(10,.int .i64 hi),(11,.int .i64 ((r:Int)-1))]∧r+k=(hi-1)/2+1∧SO emb tl id dk σ t∧dk.size=d.size∧Go.Sort.heapBuild (ltOf cf) hi a r dk=Go.Sort.heapBuild (ltOf cf) hi a ((hi-1)/2+1) d) ((hi-1)/2+1) ⟨_,d,rfl,rfl,⟨Nat.le_refl _,fun _ _=>rfl,ho⟩,rfl,rfl⟩ ?_;rintro k fr t hk ⟨r,dk,rfl,hrk,hS,hsz,hI⟩
 cases r with
 | succ r=>
  have e1:(((r+1:Nat):Int)-1)=(r:Int):=by omega
  have c1:(0:Int)≤(r:Int):=by omega
  have w3:IntKind.i64.wrap ((r:Int)-1)=(r:Int)-1:=wrap64 (by omega) (by omega);have hs1:=de3 emb tl hC (id:=id) (σ:=t) dk r hi a (by omega) (by omega) (by omega) hS.row;rw[hsz] at hs1;simp only[go_sem,e1,c1];refine ad1 fok210 hs1 ?_;rintro v s ⟨rfl,h1⟩;refine ⟨h1.next,?_⟩;simp only[go_sem,w3]
  refine ⟨by omega,r,_,rfl,by omega,hS.trans emb tl h1,by rw[bv6 _ _ _ _ _ _ (Nat.le_refl _)]; exact hsz,hI⟩
 | zero=>
  have e1:¬ (0:Int)≤0-1:=by decide
  have e0:(((0:Nat):Int))=0:=rfl;have e2:Go.Sort.heapBuild (ltOf cf) hi a 0 dk=dk:=rfl;rw[e2] at hI;have w4:(((hi-1:Nat):Int))=((hi:Nat):Int)-1:=by omega
  simp only[go_sem,e0,e1,w1,w4];rw[← hI];refine ab7 noT (fun k fr t=>∃ (r:Nat) (dj:Array α),fr=[(0,.slice id 0 d.size 1),(3,.func (.func g) first cap),(8,.int .i64 a),(9,.int .i64 0),(12,.int .i64 ((r:Int)-1))]∧r+k=hi∧SO emb tl id dj σ t∧dj.size=d.size∧Go.Sort.heapPop (ltOf cf) a r dj=Go.Sort.heapPop (ltOf cf) a hi dk) hi ⟨_,dk,rfl,rfl,⟨by have:=hS.next; show σ.next≤t.next; omega,hS.other,hS.row⟩,hsz,rfl⟩ ?_;rintro k fr t hk ⟨r,dj,rfl,hrk,hS,hsz,hI⟩
  cases r with
  | succ r=>
   have e1:(((r+1:Nat):Int)-1)=(r:Int):=by omega
   have c1:(0:Int)≤(r:Int):=by omega
   have c2:(0:Int)≤(a:Int):=by omega
   have c3:(a:Int)<d.size:=by omega
   have c4:(0:Int)≤((a+r:Nat):Int):=by omega
   have c5:((a+r:Nat):Int)<d.size:=by omega
   have v1:=ga1 (a:=a) (b:=r) (by omega);have w3:IntKind.i64.wrap ((r:Int)-1)=(r:Int)-1:=wrap64 (by omega) (by omega);obtain ⟨r1,r2,r3,r4,r5⟩:=ah6 emb tl (d:=dj) (i:=a) (j:=a+r) (by omega) (by omega);simp only[go_sem,e1,c1,c2,c3,c4,c5,v1,r1,r2,r3,r4,r5,hS.row,Nat.mul_one]
   have hs1:∀ U:Store,SO emb tl id (Go.Sort.swp dj a (a+r)) σ U→C Tryz.prog EE 210 [.slice id 0 d.size 1,.int .i64 0,.int .i64 r,.int .i64 a,.func (.func g) first cap] U fun v s=>v=.tuple []∧σ.next≤U.next∧SO emb tl id (Go.Sort.swp dj a (a+r)) σ U∧SO emb tl id (Go.Sort.siftDown (ltOf cf) r a 0 (Go.Sort.swp dj a (a+r))) U s:=fun U hU=>by
    have h:=de3 emb tl hC (id:=id) (σ:=U) (Go.Sort.swp dj a (a+r)) 0 r a (by rw[swp_size]; omega) (by rw[swp_size]; omega) (by omega) hU.row;rw[swp_size,hsz] at h;exact h.mono fun v s ⟨e,h⟩=>⟨e,hU.next,hU,h⟩
   refine ad1 fok210 (hs1 _ ⟨?_,fun m hm=>?_,?_⟩) ?_
   ·have:=hS.next; simp only[aa8]; omega
   ·simp only[aa2,hm,if_false]; exact hS.other m hm
   ·simp only[aa2,if_true]
   rintro v s ⟨rfl,_,hUs,h1⟩;refine ⟨h1.next,?_⟩;simp only[go_sem,w3]
   refine ⟨by omega,r,_,rfl,by omega,hUs.trans emb tl h1,by rw[bv6 _ _ _ _ _ _ (Nat.le_refl _),swp_size]; exact hsz,hI⟩
  | zero=>
   have e1:¬ (0:Int)≤0-1:=by decide
   have e0:(((0:Nat):Int))=0:=rfl;have e2:Go.Sort.heapPop (ltOf cf) a 0 dj=dj:=rfl;rw[e2] at hI;simp only[go_sem,e0,e1];rw[← hI];exact ⟨hS.next,hS.other,hS.row⟩
end
end Go.Id.Tryz
