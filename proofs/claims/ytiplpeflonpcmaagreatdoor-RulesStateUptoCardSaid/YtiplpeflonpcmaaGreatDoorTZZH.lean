/- How much packages hold,as the statements on rule books ask: walked. Conditions: sizes that fit. -/
import Derived.Test.YtiplpeflonpcmaaGreatDoorTZZC
import Derived.Test.YtiplpeflonpcmaaGreatDoorMsb
import Derived.Test.YtiplpeflonpcmaaGreatDoorMv
import Derived.Test.YtiplpeflonpcmaaGreatDoorTZYE
import Derived.Test.YtiplpeflonpcmaaGreatDoorTZPE
import Derived.Test.YtiplpeflonpcmaaGreatDoorGZR
import Derived.Test.YtiplpeflonpcmaaGreatDoorRows
import Derived.Test.YtiplpeflonpcmaaGreatDoorTZMG
open List renaming map_cons→za,length_cons→zb,cons_append→zc,length_nil→zd,mem_singleton→ze,nil_append→zf,append_nil→zg,map_nil→zh,mem_cons→zo,not_mem_nil→zq,drop_length→zr,mem_range→zw,getD_eq_getElem?_getD→zx,take_of_length_le→zy,map_congr_left→zz,length_append→z0
open Int renaming toNat_natCast→zi
open Nat renaming reduceAdd→zj,le_refl→zk,zero_add→zm,mul_one→zn,lt_succ_self→zt
open Option renaming some→zl
open Bool renaming false_or→zp,false_ne_true→zu,and_eq_true→zv
set_option linter.all false
set_option maxRecDepth 100000
set_option maxHeartbeats 1000000
private theorem om{P:Prop}(h:P:=by omega):P:=h
namespace Go.Id.Tryz
open Go Go.Id Go.Proofs Go.Id.Md
def eg9 (x:Nat×Bool):IV:=.tuple [.int .i64 x.1,.bool x.2]
theorem bn7 {s:Store}(n:Nat)(b:Bool):cu4 s 0 (.tuple [.int .i64 n,.bool b]) (eg9 (n,b)):=.by5 (.cons (af2 _ _) (.cons (ab4 _) .nil))
theorem gf3 (r:aa6)(rs:List aa6)(deep n:Nat):cw9 (r::rs) deep n=if big r.dep=true then (0,true) else
  if (ce6 r (deep+1)).2=true\/2000<n+1+(ce6 r (deep+1)).1 then (0,true) else cw9 rs deep (n+1+(ce6 r (deep+1)).1):=by
 simp only[cw9]
theorem hh4 (r:aa6):∀ deep:Nat,deep<=21->r.ok->PC Tryz.prog EE 32 [aj6 r.args,.int .i64 deep] (eg9 (ce6 r deep)):=by
 induction r using aa6.ind with
 | h k d xs ih=>
  intro deep hdeep hok;obtain ⟨o1,o2,o3,o4,o5⟩:=aa6.ga1.1 hok;refine ae6 hE fok32 (nZ rfl) (ao8 (bk2 _) (.int _ _)) ?_;by_cases b1:20<deep
  ·have c1:(20:Int)<deep:=om
   simp only[ic32,go_sem,aa6.args,ce6,c1,b1,true_or];exact bn7 0 true
  have c1:¬ (20:Int)<deep:=om
  by_cases b2:100<xs.length
  ·have c2:(100:Int)<xs.length:=om
   simp only[ic32,go_sem,aa6.args,ce6,c1,c2,b1,b2,or_true];exact bn7 0 true
  have c2:¬ (100:Int)<xs.length:=om
  simp only[ic32,go_sem,aa6.args,ce6,c1,c2,b1,b2,or_self];refine ab3 noT (fun i fr s=>∃ n:Nat,fr=[(0,aj6 xs),(1,.int .i64 deep),(6,.int .i64 n),(7,.int .i64 i)]/\n<=2000/\cw9 xs deep 0=cw9 (xs.drop i) deep n) xs.length ⟨0,rfl,om,rfl⟩ ?_;rintro i fr s hi ⟨n,rfl,hn,hm⟩;by_cases hlt:i<xs.length
  ·obtain ⟨x,hx,hxi,hdr,hget,htk⟩:=ad6 xs i hlt;have c3:(i:Int)<xs.length:=om
   have c4:(0:Int)<=i:=om
   have w1:=ad1 (i:=i) om;have w2:=ad1 (i:=deep) om;have w3:=ad1 (i:=n) om;rw[hdr,gf3] at hm;obtain ⟨k',d',ys⟩:=x;rw[show (aa6.mk k' d' ys).dep=d' from rfl] at hm;obtain ⟨x1,x2,x3,x4,x5⟩:=aa6.ga1.1 (o5 _ hx);have hA:=ih _ hx (deep+1) om (o5 _ hx)
   have hsz:IntKind.i64.wrap ((d'.name.length:Int)+d'.evr.ver.length)=((d'.name.length+d'.evr.ver.length:Nat):Int):=by
    have:=x3.1; have:=x3.2.1;rw[wrap64 om om]; omega
   simp only[go_sem,c3,c4,hget,aa6.ar1,aa6.kind,aa6.dep,aa6.args,hsz,bm2] at hA ⊢;have hbig:big d'=(decide (500<d'.name.length+d'.evr.ver.length)||decide (500<d'.evr.rel.length)):=rfl;by_cases q1:500<d'.name.length+d'.evr.ver.length
   ·have e1:(500:Int)<((d'.name.length+d'.evr.ver.length:Nat):Int):=om
    have hb:big d'=true:=by rw[hbig]; simp[q1]
    rw[if_pos hb] at hm;simp only[go_sem,e1,hm];exact bn7 0 true
   have e1:¬ (500:Int)<((d'.name.length+d'.evr.ver.length:Nat):Int):=om
   by_cases q2:500<d'.evr.rel.length
   ·have e2:(500:Int)<d'.evr.rel.length:=om
    have hb:big d'=true:=by rw[hbig]; simp[q2]
    rw[if_pos hb] at hm;simp only[go_sem,c3,c4,hget,aa6.ar1,aa6.kind,aa6.dep,aa6.args,e1,e2,hm];exact bn7 0 true
   have e2:¬ (500:Int)<d'.evr.rel.length:=om
   have hb:¬ big d'=true:=by rw[hbig]; simp[q1,q2]
   rw[if_neg hb] at hm;simp only[go_sem,c3,c4,hget,aa6.ar1,aa6.kind,aa6.dep,aa6.args,e1,e2,w2];refine aa3 fok32 hA ?_;have hkl:(ce6 (.mk k' d' ys) (deep+1)).1<=2000:=by rw[du1]; exact fg8 _ _
   generalize ce6 (.mk k' d' ys) (deep+1)=ka at *
   have w4:IntKind.i64.wrap (((n+1:Nat):Int)+ka.1)=((n+1+ka.1:Nat):Int):=by
    rw[wrap64 om om]; omega
   cases hk2:ka.2 with
   | true=>
    rw[if_pos (.inl hk2)] at hm;simp only[go_sem,eg9,hk2,w3,w4,hm]
    exact bn7 0 true
   | false=>
    by_cases q3:2000<n+1+ka.1
    ·have e3:(2000:Int)<((n+1+ka.1:Nat):Int):=om
     rw[if_pos (.inr q3)] at hm;simp only[go_sem,eg9,hk2,w3,w4,e3,hm];exact bn7 0 true
    ·have e3:¬ (2000:Int)<((n+1+ka.1:Nat):Int):=om
     rw[if_neg (by rw[hk2]; simp; omega)] at hm;simp only[go_sem,eg9,hk2,w1,w3,w4,e3];exact ⟨hlt,n+1+ka.1,rfl,om,hm⟩
  ·have hi':i=xs.length:=om
   subst hi';have c3:¬ (xs.length:Int)<xs.length:=om
   rw[zr] at hm;simp only[go_sem,c3,hm,cw9];exact bn7 n false
theorem gf4 (l:List aa6)(h1:l.length<2^62)(h2:∀ r∈l,r.ok):PC Tryz.prog EE 32 [aj6 l,.int .i64 0] (eg9 (cx1 l 0)):=by
 have h:=hh4 (.mk 1 cq9 l) 0 om (aa6.ga1.2 ⟨om,om,⟨by decide,by decide,by decide⟩,h1,h2⟩);rw[du1] at h;exact h
def lC (l:List aa6):List IV:=[aj6 l]
theorem fd2 {p:aa2}{l:List aa6}(h:l∈bq8 p):∃ x∈p.rows,x.2=l:=by
 simp only[bq8,zo,zq,or_false] at h;rcases h with rfl|rfl|rfl|rfl|rfl|rfl<;>simp[aa2.rows]
theorem fd3 (l:List aa6)(ls:List (List aa6))(n:Nat):ce7 (l::ls) n=if (cx1 l 0).2=true\/2000<n+(cx1 l 0).1 then true else ce7 ls (n+(cx1 l 0).1):=by simp only[ce7]
theorem dx4 (p:aa2)(ho:p.Ok):PC Tryz.prog EE 13 [.agg p.cs] (.bool (av5 p)):=by
 refine ae6 hE fok13 (nZ rfl) (ae5 (ao6 p)) ?_;by_cases b1:100<p.provides.length
 ·have c1:(100:Int)<p.provides.length:=om
  simp only[ic13,go_sem,ac9,aa2.cs,c1,av5,b1];exact ab4 _
 have c1:¬ (100:Int)<p.provides.length:=om
 by_cases b2:100<p.aa8.length
 ·have c2:(100:Int)<p.aa8.length:=om
  simp only[ic13,go_sem,ac9,aa2.cs,c1,c2,av5,b1,b2];exact ab4 _
 have c2:¬ (100:Int)<p.aa8.length:=om
 by_cases b3:100<p.files.length
 ·have c3:(100:Int)<p.files.length:=om
  simp only[ic13,go_sem,ac9,aa2.cs,c1,c2,c3,av5,b1,b2,b3];exact ab4 _
 have c3:¬ (100:Int)<p.files.length:=om
 by_cases b4:1000<p.name.length
 ·have c4:(1000:Int)<p.name.length:=om
  simp only[ic13,go_sem,ac9,aa2.cs,c1,c2,c3,c4,av5,b1,b2,b3,b4];exact ab4 _
 have c4:¬ (1000:Int)<p.name.length:=om
 by_cases b5:1000<p.vendor.length
 ·have c5:(1000:Int)<p.vendor.length:=om
  simp only[ic13,go_sem,ac9,aa2.cs,c1,c2,c3,c4,c5,av5,b1,b2,b3,b4,b5];exact ab4 _
 have c5:¬ (1000:Int)<p.vendor.length:=om
 by_cases b6:1000<p.evr.ver.length
 ·have c6:(1000:Int)<p.evr.ver.length:=om
  simp only[ic13,go_sem,ac9,aa2.cs,c1,c2,c3,c4,c5,c6,av5,b1,b2,b3,b4,b5,b6];exact ab4 _
 have c6:¬ (1000:Int)<p.evr.ver.length:=om
 by_cases b7:1000<p.evr.rel.length
 ·have c7:(1000:Int)<p.evr.rel.length:=om
  simp only[ic13,go_sem,ac9,aa2.cs,c1,c2,c3,c4,c5,c6,c7,av5,b1,b2,b3,b4,b5,b6,b7];exact ab4 _
 have c7:¬ (1000:Int)<p.evr.rel.length:=om
 have hM:av5 p=ce7 (bq8 p) 0:=by simp only[av5,b1,b2,b3,b4,b5,b6,b7,decide_false,zp]
 rw[hM];simp only[ic13,go_sem,ac9,aa2.cs,c1,c2,c3,c4,c5,c6,c7];refine ab3 noT (fun i fr s=>∃ n:Nat,fr=[(3,.int .i64 n),(62,.aa4 ((bq8 p).map lC)),(63,.int .i64 6),(64,.int .i64 i)]/\n<=2000/\ce7 (bq8 p) 0=ce7 ((bq8 p).drop i) n) 6 ⟨0,rfl,om,rfl⟩ ?_;rintro i fr s hi ⟨n,rfl,hn,hm⟩;by_cases hlt:i<6
 ·obtain ⟨l,hl,hli,hdr,hget,htk⟩:=ad6 (bq8 p) i hlt;have d1:(i:Int)<6:=om
  have d2:(0:Int)<=i:=om
  have d3:(i:Int)<((bq8 p).length:Nat):=by simp only[bq8,zb,zd]; omega
  have w1:=ad1 (i:=i) om;rw[hdr,fd3] at hm;obtain ⟨x,hx,rfl⟩:=fd2 hl;have hok:=ho.rich x hx;simp only[go_sem,d1,d2,d3,hget,lC];refine aa3 fok32 (gf4 x.2 hok.1 hok.2) ?_;have hle:=fg8 x.2 0;generalize cx1 x.2 0=ka at *
  have w4:IntKind.i64.wrap ((n:Int)+ka.1)=((n+ka.1:Nat):Int):=by
   rw[wrap64 om om]; omega
  cases hk2:ka.2 with
  | true=>
   rw[if_pos (.inl hk2)] at hm;simp only[go_sem,eg9,hk2,w4,hm]
   exact ab4 _
  | false=>
   by_cases q3:2000<n+ka.1
   ·have e3:(2000:Int)<((n+ka.1:Nat):Int):=om
    rw[if_pos (.inr q3)] at hm;simp only[go_sem,eg9,hk2,w4,e3,hm];exact ab4 _
   ·have e3:¬ (2000:Int)<((n+ka.1:Nat):Int):=om
    rw[if_neg (by rw[hk2]; simp; omega)] at hm;simp only[go_sem,eg9,hk2,w1,w4,e3];exact ⟨hlt,n+ka.1,rfl,om,hm⟩
 ·have hi':i=6:=om
  subst hi';have e6:(bq8 p).drop 6=[]:=rfl;rw[e6] at hm;simp only[go_sem,hm,ce7];exact ab4 _
theorem fm7 {α:Type}{q:α->Bool}{l:List α}{i:Nat}{a:α}(h:l.drop i=a::l.drop (i+1)):(l.drop i).any q=(q a||(l.drop (i+1)).any q):=by rw[h]; simp
end Go.Id.Tryz
namespace Go.Id.Tryz
open Go Go.Id Go.Proofs Go.Shelf Go.Id.Md
def by9 (most:Nat):List an7->Nat->Bool
 | [],_=>false
 | r::rs,n=>if most<n+r.packages.length then true else if r.packages.any av5=true then true else by9 most rs (n+r.packages.length)
def bh5 (repos:List an7)(inst:List aa2)(r:Req)(most:Nat):Bool :=
 decide (30<repos.length)||(decide (most<inst.length)||(decide (20<r.ag6.length)||(decide (20<r.ai1.length)||(inst.any av5||by9 most repos inst.length))))
theorem dj2 (most:Nat)(r:an7)(rs:List an7)(n:Nat):by9 most (r::rs) n=if most<n+r.packages.length then true else if r.packages.any av5=true then true else by9 most rs (n+r.packages.length):=by simp only[by9]
theorem jg6 (r:Req):(r.cs.drop 2).head? = zl (be1 r.ag6):=rfl
theorem jw4 (r:Req):(r.cs.drop 3).head? = zl (av7 r.ai1):=rfl
theorem hh5 (repos:List an7)(inst:List aa2)(r:Req)(most:Nat)(h1:repos.length<2^62)(h2:inst.length<2^62)(hmo:most<2^31)(hr:∀ r∈repos,an7.Ok r)(hi:∀ p∈inst,p.Ok) :
  PC Tryz.prog EE 4 [bb2 repos,bc2 inst,.agg r.cs,.int .i64 most] (.bool (bh5 repos inst r most)):=by
 refine ae6 hE fok4 (nZ rfl) (iz5 (bs2 _) (au2 _) (.agg _ (be5 r)) (.int _ _)) ?_;have rl:r.cs.length=5:=rfl;have jl:∀ l:List Job,∀ σ:Store,cc5 0 σ (be1 l)=zl (.int .i64 l.length):=fun l σ=>by unfold be1; simp only[go_sem]
 have el:∀ l:List bd9,∀ σ:Store,cc5 0 σ (av7 l)=zl (.int .i64 l.length):=fun l σ=>by unfold av7; simp only[go_sem]
 by_cases b1:30<repos.length
 ·have c1:(30:Int)<repos.length:=om
  simp only[ic4,go_sem,ag2,c1,bh5,b1];exact ab4 _
 have c1:¬ (30:Int)<repos.length:=om
 by_cases b2:most<inst.length
 ·have c2:(most:Int)<inst.length:=om
  simp only[ic4,go_sem,ag2,c1,c2,bh5,b1,b2];exact ab4 _
 have c2:¬ (most:Int)<inst.length:=om
 by_cases b3:20<r.ag6.length
 ·have c3:(20:Int)<r.ag6.length:=om
  simp only[ic4,go_sem,ag2,c1,c2,jg6,jl,c3,bh5,b1,b2,b3];exact ab4 _
 have c3:¬ (20:Int)<r.ag6.length:=om
 by_cases b4:20<r.ai1.length
 ·have c4:(20:Int)<r.ai1.length:=om
  simp only[ic4,go_sem,ag2,c1,c2,jg6,jw4,jl,el,c3,c4,bh5,b1,b2,b3,b4];exact ab4 _
 have c4:¬ (20:Int)<r.ai1.length:=om
 have hM:bh5 repos inst r most=(inst.any av5||by9 most repos inst.length):=by simp only[bh5,b1,b2,b3,b4,decide_false,zp]
 rw[hM];simp only[ic4,go_sem,ag2,c1,c2,jg6,jw4,jl,el,c3,c4];refine ab3 noT (fun i fr s=>fr=[(0,bb2 repos),(1,bc2 inst),(3,.int .i64 most),(9,.int .i64 inst.length),(10,.int .i64 i)]/\inst.any av5=(inst.drop i).any av5) inst.length ⟨rfl,rfl⟩ ?_;rintro i fr s hle ⟨rfl,hm⟩;by_cases hlt:i<inst.length
 ·obtain ⟨x,hx,hxi,hdr,hget,htk⟩:=ad6 inst i hlt;have d1:(i:Int)<inst.length:=om
  have d2:(0:Int)<=i:=om
  have w1:=ad1 (i:=i) om;rw[fm7 hdr] at hm;simp only[go_sem,d1,d2,hget,af6,af4,w1];refine aa3 fok13 (dx4 x (hi x hx)) ?_
  cases hb:av5 x with
  | true=>
   rw[hb,Bool.true_or] at hm;simp only[go_sem,hm]
   exact ab4 _
  | false=>
   rw[hb,zp] at hm;simp only[go_sem,w1];exact ⟨hlt,hm⟩
 have hi':i=inst.length:=om
 subst hi';have d1:¬ (inst.length:Int)<inst.length:=om
 rw[zr,List.any_nil] at hm;rw[hm,zp];simp only[go_sem,d1];refine ab3 noT (fun i fr t=>∃ n:Nat,fr=[(0,bb2 repos),(3,.int .i64 most),(9,.int .i64 n),(11,.int .i64 i)]/\n<=most/\by9 most repos inst.length=by9 most (repos.drop i) n) repos.length ⟨inst.length,rfl,om,rfl⟩ ?_;rintro i fr t hle2 ⟨n,rfl,hn,hm2⟩;by_cases hlt:i<repos.length
 ·obtain ⟨x,hx,hxi,hdr,hget,htk⟩:=ad6 repos i hlt;have d3:(i:Int)<repos.length:=om
  have d4:(0:Int)<=i:=om
  have w1:=ad1 (i:=i) om;have hxo:=hr x hx
  have w2:IntKind.i64.wrap ((n:Int)+x.packages.length)=((n+x.packages.length:Nat):Int):=by
   have:=hxo.1;rw[wrap64 om om]; omega
  rw[hdr,dj2] at hm2;by_cases q1:most<n+x.packages.length
  ·have e1:(most:Int)<((n+x.packages.length:Nat):Int):=om
   rw[if_pos q1] at hm2;simp only[go_sem,d3,d4,hget,bn1,an7.cs,w2,e1,hm2];exact ab4 _
  have e1:¬ (most:Int)<((n+x.packages.length:Nat):Int):=om
  rw[if_neg q1] at hm2;simp only[go_sem,d3,d4,hget,bn1,an7.cs,w2,e1];refine ab3 noT (fun j fr t=>fr=[(0,bb2 repos),(3,.int .i64 most),(9,.int .i64 (n+x.packages.length:Nat)),(11,.int .i64 i),(12,.int .i64 j)]/\x.packages.any av5=(x.packages.drop j).any av5) x.packages.length ⟨rfl,rfl⟩ ?_;rintro j fr t hlej ⟨rfl,hj⟩;by_cases hjl:j<x.packages.length
  ·obtain ⟨y,hy,hyi,hdr3,hget3,htk3⟩:=ad6 x.packages j hjl;have d5:(j:Int)<x.packages.length:=om
   have d6:(0:Int)<=j:=om
   have w3:=ad1 (i:=j) (by have:=hxo.1; omega);rw[fm7 hdr3] at hj;simp only[go_sem,d3,d4,d5,d6,hget,hget3,bn1,an7.cs,af6,af4,w3];refine aa3 fok13 (dx4 y (hxo.2 y hy)) ?_
   cases hb:av5 y with
   | true=>
    rw[hb,Bool.true_or] at hj;rw[if_pos hj] at hm2;simp only[go_sem,hm2]
    exact ab4 _
   | false=>
    rw[hb,zp] at hj;simp only[go_sem,w3];exact ⟨hjl,hj⟩
  ·have hj':j=x.packages.length:=om
   subst hj';have d5:¬ (x.packages.length:Int)<x.packages.length:=om
   rw[zr,List.any_nil] at hj;rw[if_neg (by rw[hj]; exact zu)] at hm2;simp only[go_sem,d3,d4,d5,hget,bn1,an7.cs,w1];exact ⟨hlt,n+x.packages.length,rfl,om,hm2⟩
 ·have hi':i=repos.length:=om
  subst hi';have d3:¬ (repos.length:Int)<repos.length:=om
  rw[zr] at hm2;simp only[go_sem,d3,hm2,by9];exact ab4 _
end Go.Id.Tryz
namespace Go.Id.Tryz
open Go Go.Id Go.Proofs Go.Shelf Go.Id.Md
open Go.Id.Md.ab7 (inS less)
theorem fd4 {s:Store}(x:Str):cu4 s 0 (.str x) (.str x):=.keep _ (.str _)
theorem hh6 {s:Store}(k:IntKind)(n:Int):cu4 s 0 (.int k n) (.int k n):=.keep _ (.int _ _)
def jj6 (name ver:Str):aa2:={ name:=name,evr:=⟨0,ver,[49]⟩,au7:=1,vendor:=[],provides:=[],requires:=[],conflicts:=[],aa8:=[],ac7:=[],ac4:=[],suggests:=[],af3:=[],files:=[] }
theorem dx5 (name ver:Str):PC Tryz.prog EE 14 [.str name,.str ver] (.agg (jj6 name ver).cs):=by
 refine ae6 hE fok14 (nZ rfl) (ah9 (.str _) (.str _)) ?_;simp only[ic14,go_sem];exact .jy7 (.cons (fd4 _) (.cons (hh6 _ _) (.cons (fd4 _) (.cons (fd4 _) (.cons (hh6 _ _) (.cons (fd4 _) (.cons .ch6 (.cons .ch6 (.cons .ch6 (.cons .ch6 (.cons .ch6 (.cons .ch6 (.cons .ch6 (.cons .ch6 (.cons .ch6 .nil)))))))))))))))
def at16 (s:Str):aa6:=.mk 1 ⟨s,0,⟨0,[],[]⟩⟩ []
theorem hh7 (s:Str):PC Tryz.prog EE 15 [.str s] (.agg (at16 s).cs):=by
 refine ae6 hE fok15 (nZ rfl) (ah3 (.str _)) ?_;simp only[ic15,go_sem];exact .jy7 (.cons (hh6 _ _) (.cons (fd4 _) (.cons (hh6 _ _) (.cons (hh6 _ _) (.cons (fd4 _) (.cons (fd4 _) (.cons .ch6 .nil)))))))
def jw5 (repos:List an7)(inst:List aa2):Pool:=match ce4 repos inst with
 | .inl p=>p
 | .inr _=>⟨[],0,[]⟩
def fm8 (d:Dep):Bool:=decide (d.name.length<100)&&decide (d.evr.ver.length<100)&&decide (d.evr.rel.length<100)
def iu1 (p:aa2):Bool:=decide (p.name.length<100)&&decide (p.vendor.length<100)&&decide (p.evr.ver.length<100)&&decide (p.evr.rel.length<100)&&decide (p.provides.length<100)&&p.provides.all fm8&&decide (p.aa8.length<100)&&p.aa8.all fm8 &&
 decide (p.files.length<100)&&p.files.all (fun s=>decide (s.length<100))&&p.rows.all fun x=>x.2.isEmpty
theorem im2 {p:aa2}(h:iu1 p=true):p.Fit/\p.Ok:=by
 unfold iu1 at h;simp only[zv,decide_eq_true_eq,List.all_eq_true] at h;obtain ⟨⟨⟨⟨⟨⟨⟨⟨⟨⟨h1,h2⟩,h3⟩,h4⟩,h5⟩,h6⟩,h7⟩,h8⟩,h9⟩,h10⟩,h11⟩:=h
 have hd:∀ d:Dep,fm8 d=true->d.fit:=fun d hd=>by
  unfold fm8 at hd;simp only[zv,decide_eq_true_eq] at hd;exact ⟨om,om,om⟩
 have hr:∀ x∈p.rows,x.2=[]:=fun x hx=>List.isEmpty_iff.1 (h11 x hx)
 exact ⟨⟨om,⟨om,om⟩,⟨om,fun d hx=>hd d (h6 d hx)⟩,⟨om,fun d hx=>hd d (h8 d hx)⟩,⟨om,fun x hx=>by have:=h10 x hx; omega⟩,fun x hx=>by rw[hr x hx]; exact ⟨by simp,fun r h=>by cases h⟩⟩,
  ⟨om,om,⟨om,om⟩,⟨om,fun d hx=>hd d (h6 d hx)⟩,⟨om,fun d hx=>hd d (h8 d hx)⟩,⟨om,fun x hx=>by have:=h10 x hx; omega⟩,fun x hx=>by rw[hr x hx]; exact ⟨by simp,fun r h=>by cases h⟩⟩⟩
end Go.Id.Tryz
namespace Go.Id.Tryz
open Go Go.Id Go.Proofs Go.Shelf Go.Id.Md
theorem kg5 {cs:List (List (List Int))}{i:Nat}(h:i<cs.length):(cs.map bkE).getD i []=[bx5 cs[i]]:=by simp[zx,h,bkE]
variable {av c1 c3 xv:IV} (ha:Bnd 0 av) (h1:Bnd 0 c1) (h3:Bnd 0 c3) (hx:Bnd 0 xv) (P:List aa2) (t:ah6) (cs:List (List (List Int)))
include ha h1 h3 hx
theorem cv4 (i:Nat)(hi:i<cs.length)(hn:cs.length<2^30)(hl:cs[i].length<2^30)(hq:∀ q∈cs[i],q.length<2^30):PC Tryz.prog EE 16 [bb9 av c1 c3 xv P t cs,.int .i64 (i:Int)] (bx5 cs[i]):=by
 refine ae6 hE fok16 (nZ rfl) (ah9 (bc7 ha h1 h3 hx P t cs) (.int _ _)) ?_;have hC:=dj3 cs[i] hl hq;have g:=kg5 hi;have hb:=bm8 cs[i];have d0:¬ (i:Int)<0:=om
 have d1:¬ (cs.length:Int)<=(i:Int):=om
 have d2:(0:Int)<=(i:Int):=om
 have d3:(i:Int)<cs.length:=om
 have qlf:(bx5 cs[i]).leaf=true:=rfl;have qcs:(bx5 cs[i]).cs=[bx5 cs[i]]:=rfl;unfold bb9;generalize bx5 cs[i]=Q at *;simp only[ic16,go_sem,am5,d0,d1,d2,d3,zi,g,qlf,qcs];refine aa3 fok28 (hC) ?_;simp only[go_sem];exact .keep _ hb
theorem gd5 (l:List Itm)(hl:l.length<=2147483648)(hc3:c3=ar9 l):PC Tryz.prog EE 17 [bb9 av c1 c3 xv P t cs] c3:=by
 refine ae6 hE fok17 (nZ rfl) (ah3 (bc7 ha h1 h3 hx P t cs)) ?_;have h:=dg8 l hl;have h:PC Tryz.prog EE 33 [ar9 l] (ar9 l):=h;rw[<- hc3] at h;have ivl:c3.leaf=true:=by rw[hc3]; rfl
 have ivc:c3.cs=[c3]:=by rw[hc3]; rfl
 unfold bb9;simp only[ic17,go_sem,am5,ivl,ivc];refine aa3 fok33 (h) ?_;simp only[go_sem];exact .keep _ h3
end Go.Id.Tryz
namespace Go.Id.Tryz
open Go Go.Id Go.Proofs Go.Shelf Go.Id.Md
theorem ha8 (L:List (List Int))(hL:L.length<2^40)(hq:∀ q∈L,q.length<2^40):PC Tryz.prog EE 18 [bx5 L,bx5 L] (.bool true):=by
 refine ae6 hE fok18 (nZ rfl) (ah9 (bm8 L) (bm8 L)) ?_;unfold bx5;simp only[ic18,go_sem];refine ab3 noT (fun i fr s=>fr=[(0,.aa4 (L.map clE)),(1,.aa4 (L.map clE)),(5,.int .i64 (i:Int))]) L.length rfl ?_;rintro i fr s hle rfl;by_cases hlt:i<L.length
 ·obtain ⟨q,hqm,_,hdr,hget,htk⟩:=ad6 L i hlt;have d1:(i:Int)<L.length:=om
  have d2:(0:Int)<=i:=om
  have w1:=ad1 (i:=i) om;have hql:=hq q hqm;have hcl:clE q=[.aa4 (q.map Md.ad9)]:=rfl;simp only[go_sem,d1,d2,hget,hcl];refine ab3 noT (fun k fr s=>fr=[(0,.aa4 (L.map clE)),(1,.aa4 (L.map clE)),(5,.int .i64 (i:Int)),(6,.int .i64 (k:Int))]) q.length rfl ?_;rintro k fr t hk rfl;by_cases hkl:k<q.length
  ·obtain ⟨x,hxm,_,hdr2,hget2,htk2⟩:=ad6 q k hkl;have d3:(k:Int)<q.length:=om
   have d4:(0:Int)<=k:=om
   have w2:=ad1 (i:=k) om;simp only[go_sem,d1,d2,d3,d4,hget,hcl,hget2,Md.ad9,w2];exact hkl
  ·have hk':k=q.length:=om
   subst hk';have d3:¬ (q.length:Int)<q.length:=om
   simp only[go_sem,d1,d2,d3,hget,hcl,w1];exact hlt
 ·have hi':i=L.length:=om
  subst hi';have d1:¬ (L.length:Int)<L.length:=om
  simp only[go_sem,d1];exact ab5 rfl
def hl8 (st:List Int)(n:Nat):List Int:=(List.range n).map fun (j:Nat)=>if (j:Int)∈st then 1 else -1
theorem dh8 {av c1 c3 xv:IV}(ha:Bnd 0 av)(h1:Bnd 0 c1)(h3:Bnd 0 c3)(hx:Bnd 0 xv)(P:List aa2)(t:ah6)(hP:P.length<=100)(ht:t.h=0)(hcl:t.cl=[])(cs:List (List (List Int)))(st:List Int)(hs:st.length<1000)(hst:∀ x∈st,0<=x/\x<P.length) :
  PC Tryz.prog EE 19 [bb9 av c1 c3 xv P t cs,.int .i64 (P.length:Int),.aa4 (st.map Md.ad9)] (.tuple [.aa4 ((hl8 st P.length).map Md.ad9),.bool true]):=by
 refine ae6 hE fok19 (nZ rfl) (bf1 (bc7 ha h1 h3 hx P t cs) (.int _ _) (ag8 st)) ?_;have hV:=hi8 ha h1 h3 hx P t cs om om;have hB:=fun σ=>iu3 (av:=av) (c1:=c1) (c3:=c3) (xv:=xv) P t cs (by rw[hcl]; decide) (by rw[hcl]; exact fun q hq=>by cases hq) σ
 rw[ht,Nat.add_zero] at hV;rw[hcl] at hB;have blf:(bb9 av c1 c3 xv P t cs).leaf=true:=rfl;have bcs:(bb9 av c1 c3 xv P t cs).cs=[bb9 av c1 c3 xv P t cs]:=rfl;generalize bb9 av c1 c3 xv P t cs=X at *;generalize P.length=n at *;have e0:¬ (n:Int)<n:=om
 have e1:¬ (2097152:Int)<n:=om
 simp only[ic19,go_sem,blf,bcs];refine aa3 fok7 (hV) ?_;simp only[go_sem,blf,bcs,e0];refine aa3 fok7 (hV) ?_;simp only[go_sem,blf,bcs,e1];refine aa3 fok7 (hV) ?_;simp only[fj4,ed8 _ (show n<=2147483648 by omega),go_sem];rw[eo9]
 refine ab3 noT (fun i fr s=>fr=[(0,X),(1,.int .i64 (n:Int)),(2,.aa4 (st.map Md.ad9)),(8,.slice 0 0 n 1),(9,.int .i64 (i:Int))]/\0<s.next/\∃ c,s.obj 0=zl (.row (cv2 c n))/\∀ j,j<n->c j=if j<i then -1 else 0) n
  ⟨rfl,zt _,fun _=>0,by simp only[go_sem],fun j _=>rfl⟩ ?_
 rintro i fr s hle ⟨rfl,hnx,c,ho,hc⟩;by_cases hlt:i<n
 ·have d1:(i:Int)<n:=om
  have d2:(0:Int)<=i:=om
  have w1:=ad1 (i:=i) om;have hpl:i+1<=(cv2 c n).length:=by rw[az2]; omega
  have hput:=cz6 c hlt (-1);simp only[go_sem,d1,d2,ho,zi,zm,zn,hpl,hput,w1];refine ⟨hlt,hnx,_,rfl,fun j hj=>?_⟩;by_cases e:j=i
  ·rw[if_pos e,if_pos om]
  ·rw[if_neg e,hc j hj];by_cases e2:j<i
   ·rw[if_pos e2,if_pos om]
   ·rw[if_neg e2,if_neg om]
 have hi':i=n:=om
 subst hi';simp only[go_sem,e0]
 refine ab3 noT (fun k fr s=>fr=[(0,X),(1,.int .i64 (i:Int)),(2,.aa4 (st.map Md.ad9)),(8,.slice 0 0 i 1),(10,.int .i64 (k:Int))]/\0<s.next/\∃ c,s.obj 0=zl (.row (cv2 c i))/\∀ j,j<i->c j=if (j:Int)∈st.take k then 1 else -1) st.length
  ⟨rfl,hnx,c,ho,fun j hj=>by rw[hc j hj,if_pos hj]; simp⟩ ?_
 clear hc ho hnx;clear c s;rintro k fr s hk ⟨rfl,hnx,c,ho,hc⟩;by_cases hkl:k<st.length
 ·obtain ⟨x,hxm,_,hdr,hget,htk⟩:=ad6 st k hkl;obtain ⟨x1,x2⟩:=hst x hxm;obtain ⟨m,rfl⟩:=Int.eq_ofNat_of_zero_le x1;have hm:m<i:=om
  have d1:(k:Int)<st.length:=om
  have d2:(0:Int)<=k:=om
  have d3:(0:Int)<=(m:Int):=om
  have d4:(m:Int)<i:=om
  have w1:=ad1 (i:=k) om;have hpl:m+1<=(cv2 c i).length:=by rw[az2]; omega
  have hput:=cz6 c hm 1;simp only[go_sem,d1,d2,d3,d4,hget,Md.ad9,ho,zi,zm,zn,hpl,hput,w1];refine ⟨hkl,hnx,_,rfl,fun j hj=>?_⟩;rw[htk];by_cases e:j=m
  ·rw[if_pos e,if_pos (by rw[e]; simp)]
  ·rw[if_neg e,hc j hj];congr 1;rw[List.mem_append,ze];exact propext ⟨.inl,fun h=>h.elim id fun h=>absurd om e⟩
 have hk':k=st.length:=om
 subst hk';have d1:¬ (st.length:Int)<st.length:=om
 rw[List.take_length] at hc;simp only[go_sem,d1,blf,bcs];refine ac5 fok27 (hB _) ?_;rintro gv u ⟨hkp,hg,hgi⟩;refine ⟨hkp.next,?_⟩;have ho2:u.obj 0=zl (.row (cv2 c i)):=by rw[hkp.obj 0 hnx]; exact ho
 have hgl:∀ σ:Store,cc5 0 σ gv=zl (.int .i64 0):=fun σ=>by
  have:=bx8 (s':=σ) hg;exact this
 simp only[go_sem];refine ab3 noT (fun q fr s=>(∃ rst:Frm,fr=(8,.slice 0 0 i 1)::(11,gv)::(12,.bool (decide (q=0)))::rst)/\s.obj 0=zl (.row (cv2 c i))) 1 ⟨⟨_,rfl⟩,ho2⟩ ?_;rintro q fr w hq ⟨⟨rst,rfl⟩,ho3⟩;by_cases hq0:q=0
 ·subst hq0;simp only[go_sem];refine ab3 noT (fun z fr s=>fr=[(8,.slice 0 0 i 1),(11,gv),(12,.bool false),(13,.int .i64 0)]/\s.obj 0=zl (.row (cv2 c i))) 0 ⟨rfl,ho3⟩ ?_;rintro z fr w2 hz ⟨rfl,ho4⟩;simp only[go_sem,hgl];exact ⟨⟨_,rfl⟩,ho4⟩
 ·have hq1:decide (q=0)=false:=decide_eq_false hq0;simp only[hq1,go_sem];refine ab3 noT (fun m fr s=>fr=[(8,.slice 0 0 i 1),(19,.int .i64 (m:Int))]/\s.obj 0=zl (.row (cv2 c i))) i ⟨rfl,ho3⟩ ?_;rintro m fr w2 hm ⟨rfl,ho4⟩;by_cases hml:m<i
  ·have e1:(m:Int)<i:=om
   have e2:(0:Int)<=m:=om
   have w1:=ad1 (i:=m) om;have hat:=jc3 c hml;have hcm:¬ c m=0:=by rw[hc m hml]; split<;>decide
   simp only[go_sem,e1,e2,ho4,zi,zm,zn,hat,hcm,w1];exact hml
  ·have e1:¬ (m:Int)<i:=om
   simp only[go_sem,e1];refine .by5 (.cons ?_ (.cons (ab4 _) .nil))
   have hzs:cv2 c i=(hl8 st i).map bo7:=by
    rw[fj5];unfold hl8;congr 1;exact zz fun j hj=>hc j (zw.1 hj)
   have hln:(hl8 st i).length=i:=by unfold hl8; simp
   have:=eg2 (zs:=hl8 st i) ho4 (by rw[hzs,hln,zy (by rw[List.length_map,hln]; exact zk _)]) (by rw[hln,az2]; exact zk _);rw[hln] at this;exact this
end Go.Id.Tryz
namespace Go.Id.Tryz
open Go Go.Id Go.Proofs Go.Shelf Go.Id.Md
def wkA:aa2:={ jj6 [97] [49] with requires:=[at16 [120]] }
def wkB:aa2:={ jj6 [98] [49] with provides:=[⟨[120],0,⟨0,[],[]⟩⟩] }
def wkR:List an7:=[⟨0,[wkB]⟩]
def wkI:List aa2:=[wkA]
def wkQ:Req:=⟨2,false,[],[],0⟩
def wkP:Pool:=jw5 wkR wkI
def wkM:ab7:=⟨wkP,wkQ⟩
theorem ha9:ce4 wkR wkI=.inl wkP:=by kernel_rfl
theorem is8:aj7 wkQ wkP.inst=0:=by kernel_rfl
theorem ju7:(at16 [120]).fit:=aa6.by6.2 ⟨by decide,by decide,⟨by show 1<2^62; decide,by show 0<2^62; decide,by show 0<2^62; decide⟩,by show 0<_; decide,fun r h=>(by cases h)⟩
theorem kg6:(at16 [120]).ok:=aa6.ga1.2 ⟨by decide,by decide,⟨by show 1<2^62; decide,by show 0<2^62; decide,by show 0<2^62; decide⟩,by show 0<_; decide,fun r h=>(by cases h)⟩
theorem ju8:wkA.Fit/\wkA.Ok:=by
 have hr:∀ x∈wkA.rows,x.2.length<100/\∀ r∈x.2,r=at16 [120]:=fun x hx2=>by
  simp only[aa2.rows,wkA,jj6,zo,zq,or_false] at hx2;rcases hx2 with rfl|rfl|rfl|rfl|rfl|rfl
  ·refine ⟨by decide,fun r hr=>ze.1 hr⟩
  all_goals exact ⟨by decide,fun r h=>by cases h⟩
 have n0:∀ {α:Type} {q:α->Prop},∀ d∈([]:List α),q d:=fun d h=>by cases h
 refine ⟨⟨by show 1<_; decide,⟨by show 1<2^62; decide,by show 1<2^62; decide⟩,⟨by show 0<_; decide,n0⟩,⟨by show 0<_; decide,n0⟩,⟨by show 0<_; decide,n0⟩,fun x hx2=>⟨by have:=(hr x hx2).1; omega,fun r h=>?_⟩⟩,⟨by show 1<_; decide,by show 0<2^62; decide,⟨by show 1<2^62; decide,by show 1<2^62; decide⟩,⟨by show 0<_; decide,n0⟩,⟨by show 0<_; decide,n0⟩,⟨by show 0<_; decide,n0⟩,fun x hx2=>⟨by have:=(hr x hx2).1; omega,fun r h=>?_⟩⟩⟩
 ·rw[(hr x hx2).2 r h];exact ⟨ju7,by show 1<2^31; decide⟩
 ·rw[(hr x hx2).2 r h];exact kg6
theorem ju9:je9 wkR wkI:=by
 have hB:wkB.Fit/\wkB.Ok:=im2 (by kernel_rfl);have hA:=ju8
 exact ⟨by decide,by decide,by decide,fun r hr=>by
   rw[ze.1 hr];exact ⟨by decide,fun p hp=>by rw[ze.1 hp]; exact hB.1⟩,fun p hp=>by rw[ze.1 hp]; exact hA.1,fun r hr=>by
   rw[ze.1 hr];exact ⟨by decide,fun p hp=>by rw[ze.1 hp]; exact hB.2⟩,fun p hp=>by rw[ze.1 hp]; exact hA.2⟩
theorem is9:er2 wkQ:=⟨by decide,by decide,fun j h=>by cases h⟩
theorem fl3:wkM.items=[⟨2,0,0⟩,⟨6,0,0⟩]:=by kernel_rfl
theorem ij7:ab7.rN wkM=([[[-1,2]],[[1]]],⟨0,[],[]⟩):=by kernel_rfl
theorem dw4:wkM.l.length=2:=by kernel_rfl
theorem je7:cb5 wkR wkI wkQ=.tuple [ab7.rV wkM,wkM.v,.ab9 (bc2 (fd7 wkR wkI)::.int .i64 wkP.inst::wkQ.cs),.bool true]:=by
 unfold cb5;rw[ha9];simp only[is8,if_true];rfl
theorem je8:dk9 (hl8 [0,1] 2) [[-1,2]]=true:=by kernel_rfl
theorem jv1:dk9 (hl8 [0] 2) [[-1,2]]=false:=by kernel_rfl
theorem ct6:PC Tryz.prog EE 5 [] (.bool true):=by
 have nA:=dx5 [97] [49];have nB:=dx5 [98] [49];have aT:=hh7 [120]
 have hm:=er9 wkR wkI wkQ ju9 is9 (fun p hp=>by
  rw[ha9] at hp;cases hp;have:=dw4;show wkM.l.length<=100;omega)
 rw[je7] at hm;have hA:=aok ju9 ha9 is9 is8;have hb1:=ag1 wkM;have hb2:=aq7 wkM;have hb3:=ax1 wkM.items;have hb4:=as2 (ad7 wkM.l)
 have hRV:ab7.rV wkM=bb9 wkM.v wkM.mv (ar9 wkM.items) (ad7 wkM.l).v wkM.l ⟨0,[],[]⟩ [[[-1,2]],[[1]]]:=by
  unfold ab7.rV;rw[ij7]
 have hC0:=cv4 hb1 hb2 hb3 hb4 wkM.l ⟨0,[],[]⟩ [[[-1,2]],[[1]]] 0 (by decide) (by decide) (by decide) (by decide);have hC1:=cv4 hb1 hb2 hb3 hb4 wkM.l ⟨0,[],[]⟩ [[[-1,2]],[[1]]] 1 (by decide) (by decide) (by decide) (by decide);have hIt:=gd5 hb1 hb2 hb3 hb4 wkM.l ⟨0,[],[]⟩ [[[-1,2]],[[1]]] wkM.items (by rw[fl3]; decide) rfl;have hV1:=dh8 hb1 hb2 hb3 hb4 wkM.l ⟨0,[],[]⟩ (by rw[dw4]; decide) rfl rfl [[[-1,2]],[[1]]] [0,1] (by decide) (by rw[dw4]; decide);have hV2:=dh8 hb1 hb2 hb3 hb4 wkM.l ⟨0,[],[]⟩ (by rw[dw4]; decide) rfl rfl [[[-1,2]],[[1]]] [0] (by decide) (by rw[dw4]; decide);have hbR:=bc7 hb1 hb2 hb3 hb4 wkM.l ⟨0,[],[]⟩ [[[-1,2]],[[1]]];rw[<- hRV] at hC0 hC1 hIt hV1 hV2 hbR;rw[dw4] at hV1 hV2;rw[fl3] at hIt;have hS:=ha8 [[1]] (by decide) (by decide);have hH1:=dj4 (hl8 [0,1] 2) (by decide) (by decide) [[-1,2]] (by decide) (by decide);have hH2:=dj4 (hl8 [0] 2) (by decide) (by decide) [[-1,2]] (by decide) (by decide);rw[je8] at hH1;rw[jv1] at hH2;have cA:(jj6 [97] [49]).cs=[.str [97],.int .i64 0,.str [49],.str [49],.int .u8 1,.str [],.aa4 [],.aa4 [],.aa4 [],.aa4 [],.aa4 [],.aa4 [],.aa4 [],.aa4 [],.aa4 []]:=rfl;have cB:(jj6 [98] [49]).cs=[.str [98],.int .i64 0,.str [49],.str [49],.int .u8 1,.str [],.aa4 [],.aa4 [],.aa4 [],.aa4 [],.aa4 [],.aa4 [],.aa4 [],.aa4 [],.aa4 []]:=rfl;have cT:(at16 [120]).cs=[.int .u8 1,.str [120],.int .u8 0,.int .i64 0,.str [],.str [],.aa4 []]:=rfl;rw[cA] at nA;rw[cB] at nB;rw[cT] at aT
 have hm2:PC Tryz.prog EE 6 [.aa4 [[.int .i64 0,.aa4 [[.str [98],.int .i64 0,.str [49],.str [49],.int .u8 1,.str [],.aa4 [[.str [120],.int .u8 0,.int .i64 0,.str [],.str []]],.aa4 [],.aa4 [],.aa4 [],.aa4 [],.aa4 [],.aa4 [],.aa4 [],.aa4 []]]]],
   .aa4 [[.str [97],.int .i64 0,.str [49],.str [49],.int .u8 1,.str [],.aa4 [],.aa4 [[.int .u8 1,.str [120],.int .u8 0,.int .i64 0,.str [],.str [],.aa4 []]],.aa4 [],.aa4 [],.aa4 [],.aa4 [],.aa4 [],.aa4 [],.aa4 []]],
   .agg [.int .u8 2,.bool false,.aa1,.aa1,.int .i64 0]] (.tuple [ab7.rV wkM,wkM.v,.ab9 (bc2 (fd7 wkR wkI)::.int .i64 wkP.inst::wkQ.cs),.bool true]):=iy9 (args':=[bb2 wkR,bc2 wkI,.agg wkQ.cs]) (by kernel_rfl) hm
 have hnl:∀ d:TypeId,cb6 (.pointer d) (ab7.rV wkM)=zl false:=fun _=>rfl
 generalize wkM.v=AV at *;generalize ab7.rV wkM=RV at *;generalize hTV:(IV.ab9 (bc2 (fd7 wkR wkI)::.int .i64 wkP.inst::wkQ.cs))=TV at *;refine ae6 hE fok5 (nZ rfl) (fun a h=>by cases h) ?_;simp only[ic5,go_sem];refine aa3 fok14 (nA) ?_;simp only[go_sem];refine aa3 fok14 (nB) ?_;simp only[go_sem];refine aa3 fok15 (aT) ?_;simp only[go_sem];refine aa3 fok6 (hm2) ?_;simp only[go_sem,hnl];refine aa3 fok16 (hC0) ?_;simp only[go_sem];refine aa3 fok17 (hIt) ?_;simp only[go_sem,ar9,bx5,clE,za,zh,List.getElem_cons_zero,Md.ad9];refine aa3 fok16 (hC1) ?_;simp only[go_sem];refine aa3 fok18 (hS) ?_;simp only[go_sem]
 refine ac5 fok19 (dt9 (S:=fun _=>false) (args':=[RV,.int .i64 2,.aa4 (([0,1]:List Int).map Md.ad9)]) rfl (fun k hk=>by
  match k,hk with
  | 0,_=>exact .keep _ (hbR.weak fun _ h=>absurd h (Nat.not_lt_zero _))
  | 1,_=>exact .keep _ (.int _ _)
  | 2,_=>exact ch8.frz (lo:=0) (zs:=[0,1]) (.inr ⟨_,[.int .i64 0,.int .i64 1],Nat.zero_le _,zt _,rfl,by simp only[aa5,if_true],rfl,zk _⟩) (fun _ _=>zu)) (em3 hV1)) ?_
 rintro v s ⟨rfl,rfl⟩;refine ⟨zk _,?_⟩;simp only[go_sem]
 refine ac5 fok19 (dt9 (S:=fun _=>false) (args':=[RV,.int .i64 2,.aa4 (([0]:List Int).map Md.ad9)]) rfl (fun k hk=>by
  match k,hk with
  | 0,_=>exact .keep _ (hbR.weak fun _ h=>absurd h (Nat.not_lt_zero _))
  | 1,_=>exact .keep _ (.int _ _)
  | 2,_=>exact ch8.frz (lo:=0) (zs:=[0]) (.inr ⟨_,[.int .i64 0],Nat.zero_le _,zt _,rfl,by simp only[aa5,if_true],rfl,zk _⟩) (fun _ _=>zu)) (em3 hV2)) ?_
 rintro v s ⟨rfl,rfl⟩;refine ⟨zk _,?_⟩;simp only[go_sem];refine aa3 fok8 (hH1) ?_;simp only[go_sem];refine aa3 fok8 (hH2) ?_;simp only[go_sem];exact ab5 rfl
end Go.Id.Tryz
namespace Go.Id.Tryz
open Go Go.Id Go.Proofs Go.Shelf Go.Id.Md
theorem ij8 {most:Nat}:∀ {rs:List an7} {n:Nat},n<=most->by9 most rs n=false->n+am6 rs<=most:=by
 intro rs
 induction rs with
 | nil=>intro n h _; simpa [am6] using h
 | cons r rs ih=>
  intro n h hw;rw[dj2] at hw;split at hw
  ·cases hw
  ·split at hw
   ·cases hw
   ·have:=ih (n:=n+r.packages.length) om hw;have e:am6 (r::rs)=r.packages.length+am6 rs:=by simp[am6]
    rw[e]; omega
theorem ij9 {repos:List an7}{inst:List aa2}{r:Req}{most:Nat}(h:bh5 repos inst r most=false){p:Pool}(hn:ce4 repos inst=.inl p):(ac3 p).length<=most:=by
 unfold bh5 at h;simp only[Bool.or_eq_false_iff,decide_eq_false_iff_not] at h;have:=ij8 om h.2.2.2.2.2;rw[ce9 hn,z0,List.length_flatMap];unfold am6 at this;exact this
theorem gd6 (repos:List an7)(inst:List aa2)(r:Req):cb5 repos inst r=dx7\/∃ p,ce4 repos inst=.inl p/\aj7 r p.inst=0/\cb5 repos inst r=.tuple [ab7.rV ⟨p,r⟩,(ab7.mk p r).v,.ab9 (bc2 (fd7 repos inst)::.int .i64 p.inst::r.cs),.bool true]:=by
 unfold cb5
 cases hn:ce4 repos inst with
 | inr e=>exact .inl rfl
 | inl p=>
  by_cases he:aj7 r p.inst=0
  ·exact .inr ⟨p,rfl,he,if_pos he⟩
  ·exact .inl (if_neg he)
theorem eg1 (repos:List an7)(inst:List aa2)(r:Req)(st:List Bool)(hI:je9 repos inst)(hR:er2 r)(hs:st.length<2^30) :
  PC Tryz.prog EE 3 [bb2 repos,bc2 inst,.agg r.cs,bk8 st] (.bool true):=by
 refine ae6 hE fok3 (nZ rfl) (iz5 (bs2 repos) (au2 inst) (.agg _ (be5 r)) (er4 st)) ?_;have hW:=hh5 repos inst r 20 (by have:=hI.r1; omega) (by have:=hI.i1; omega) (by decide) hI.ro hI.po;have rl:r.cs.length=5:=rfl;have bl:∀ σ:Store,cc5 0 σ (bk8 st)=zl (.int .i64 st.length):=fun σ=>by unfold bk8; simp only[go_sem]
 simp only[ic3,go_sem,ag2,rl,bc6];refine aa3 fok4 (hW) ?_
 cases hwd:bh5 repos inst r 20 with
 | true=>
  simp only[go_sem];refine aa3 fok5 (ct6) ?_;simp only[go_sem]
  exact ab5 rfl
 | false=>
 by_cases hbig:1000<st.length
 ·have c1:(1000:Int)<st.length:=om
  simp only[go_sem,bl,c1];refine aa3 fok5 (ct6) ?_;simp only[go_sem];exact ab5 rfl
 have c1:¬ (1000:Int)<st.length:=om
 have hfew:=fun p hn=>ij9 hwd (p:=p) hn
 have hM:=er9 repos inst r hI hR fun p hn=>by have:=hfew p hn; omega
 simp only[go_sem,bl,c1];refine aa3 fok5 (ct6) ?_;simp only[go_sem,ag2,rl,bc6];refine aa3 fok6 (hM) ?_;rcases gd6 repos inst r with h0|⟨p,hn,he,h0⟩
 ·rw[h0];simp only[dx7,go_sem];exact ab5 rfl
 rw[h0];have hA:=aok hI hn hR he;have hl20:=hfew p hn;obtain ⟨o1,o2,o3,o4⟩:=fn4 hI hn hR he om;obtain ⟨a,ha⟩:∃ a,a=ab7.mk p r:=⟨_,rfl⟩;have hl:a.l.length<=20:=by rw[ha]; exact hl20
 rw[<- ha] at hA o1 o2 o3 o4 ⊢;clear ha hM;have hin:∀ x∈a.items,a.Has x:=fun x hx=>a.df3.1 hx
 have h00:(⟨0,[],[]⟩:ah6).OK a.l.length:=⟨fun _ h=>(by cases h),fun _ h=>(by cases h),.nil⟩;obtain ⟨⟨_,t2⟩,_,t3,_⟩:=ab7.bw9 o1 a.items hin _ h00;have tf:=ab7.eo8 o1 a.items hin ⟨0,[],[]⟩ (zk _);have trg:=ab7.ie4 o1 a.items hin _ h00;obtain ⟨tw1,tw2⟩:=ab7.gu4 o1 a.items hin ⟨0,[],[]⟩ fun q hq=>by cases hq
 have tl:=a.eo7 a.items ⟨0,[],[]⟩;have hgood:=fun n hn=>Go.Id.Md.gb8 (a:=a) o1 st (n:=n) hn
 have hRV:ab7.rV a=bb9 a.v a.mv (ar9 a.items) (ad7 a.l).v a.l (a.ai5 a.items ⟨0,[],[]⟩).2 (a.ai5 a.items ⟨0,[],[]⟩).1:=rfl;have t2':(a.ai5 a.items ⟨0,[],[]⟩).2.h<=480000:=by have:(⟨0,[],[]⟩:ah6).h=0:=rfl; omega
 clear t2;generalize a.ai5 a.items ⟨0,[],[]⟩=w at *;unfold ah6.few at tf;have b1:=ag1 a;have b2:=aq7 a;have b3:=ax1 a.items;have b4:=as2 (ad7 a.l);have hV:=hi8 b1 b2 b3 b4 a.l w.2 w.1 om om;have hAll:=jx5 b1 b2 b3 b4 a.l w.2 w.1 om (fun q hq=>by have:=tw2 q hq; omega) om (fun q hq=>⟨by have:=(tw1 q hq).1; omega,fun y hy=>by have:=(tw1 q hq).2 y hy; omega⟩);have hMo:=gf6 b1 b2 b3 b4 a.l w.2 w.1;have hSt:=gf7 a hA b2 b3 b4 a.l w.2 w.1 st om;have hG:=ig7 a hA (df8 st a.l.length) (by have:=aw6 (fun n=>st.getD n false) (min st.length a.l.length); unfold df8; omega) om;rw[<- hRV] at hV hAll hMo hSt;have rlf:(ab7.rV a).leaf=true:=rfl;have rcs:(ab7.rV a).cs=[ab7.rV a]:=rfl;have mlf:a.mv.leaf=true:=rfl;have mcs':a.mv.cs=[a.mv]:=rfl;have bbR:Bnd 0 (ab7.rV a):=bc7 b1 b2 b3 b4 _ _ _;obtain ⟨n,hnn⟩:∃ n,n=a.l.length+w.2.h:=⟨_,rfl⟩;have hgood:=hgood n hnn;rw[<- hnn] at hV;have e0:¬ (n:Int)<0:=om
 have e1:¬ (2097152:Int)<n:=om
 generalize ab7.rV a=RV at *;generalize a.mv=MV at *;simp only[go_sem,rlf,rcs];refine aa3 fok7 (hV) ?_;simp only[go_sem,rlf,rcs,e0];refine aa3 fok7 (hV) ?_;simp only[go_sem,rlf,rcs,e1];refine aa3 fok7 (hV) ?_;simp only[fj4,ed8 _ (show n<=2147483648 by omega),go_sem];rw[eo9];have bv:bk8 st=.aa4 (st.map ca5):=rfl;rw[bv] at hSt ⊢
 refine ab3 noT (fun i fr s=>fr=[(3,.aa4 (st.map ca5)),(9,RV),(13,.slice 0 0 n 1),(14,.int .i64 (i:Int))]/\0<s.next/\∃ c,s.obj 0=zl (.row (cv2 c n))/\∀ j,j<n->c j=if j<i then (if st.getD j false then 1 else -1) else 0) n
  ⟨rfl,zt _,fun _=>0,by simp only[go_sem],fun j _=>rfl⟩ ?_
 rintro i fr s hle ⟨rfl,hnx,c,ho,hc⟩;by_cases hlt:i<n
 ·have d1:(i:Int)<n:=om
  have d2:(0:Int)<=i:=om
  have w1:=ad1 (i:=i) om;have hpl:∀ c,i+1<=(cv2 c n).length:=fun c=>by rw[az2]; omega
  have hput:=cz6 c hlt (-1);have hput2:=cz6 (fun x=>if x=i then -1 else c x) hlt 1
  have hno:∀ j,j<n->st.getD i false=false->(if j=i then -1 else c j)=if j<i+1 then (if st.getD j false then 1 else -1) else 0:=fun j hj hb=>by
   by_cases e:j=i
   ·rw[if_pos e,if_pos (show j<i+1 by omega),e,hb]; rfl
   ·rw[if_neg e,hc j hj];by_cases e2:j<i
    ·rw[if_pos e2,if_pos (show j<i+1 by omega)]
    ·rw[if_neg e2,if_neg (show ¬ j<i+1 by omega)]
  by_cases hsl:i<st.length
  ·have d3:(i:Int)<st.length:=om
   have g1:=ch1 (st:=st) hsl
   cases hb:st.getD i false with
   | false=>
    rw[hb] at g1;simp only[go_sem,d1,d2,d3,ho,g1,zi,zm,zn,hpl,hput,w1]
    exact ⟨hlt,hnx,_,rfl,fun j hj=>hno j hj hb⟩
   | true=>
    rw[hb] at g1;simp only[go_sem,d1,d2,d3,ho,g1,zi,zm,zn,hpl,hput,hput2,w1];refine ⟨hlt,hnx,_,rfl,fun j hj=>?_⟩;by_cases e:j=i
    ·rw[if_pos e,if_pos (show j<i+1 by omega),e,hb]; rfl
    ·rw[if_neg e,if_neg e,hc j hj];by_cases e2:j<i
     ·rw[if_pos e2,if_pos (show j<i+1 by omega)]
     ·rw[if_neg e2,if_neg (show ¬ j<i+1 by omega)]
  ·have d3:¬ (i:Int)<st.length:=om
   have hb:st.getD i false=false:=by rw[zx,List.getElem?_eq_none om]; rfl
   simp only[go_sem,d1,d2,d3,ho,zi,zm,zn,hpl,hput,w1];exact ⟨hlt,hnx,_,rfl,fun j hj=>hno j hj hb⟩
 have hi':i=n:=om
 subst hi';have d1:¬ (i:Int)<i:=om
 have hzs:cv2 c i=(ca7 st i).map bo7:=by
  rw[fj5];unfold ca7;congr 1;exact zz fun j hj=>by rw[hc j (zw.1 hj),if_pos (zw.1 hj)]
 have hln:=df9 st i
 have hH:=dj4 (ca7 st i) om (fun y hy=>by
  unfold ca7 at hy;obtain ⟨j,_,rfl⟩:=List.mem_map.1 hy;split<;>decide) (w.2.cl++w.1.flatten) (by
  rw[z0];have:=ch4 (cs:=w.1) (m:=1000) fun q hq=>by have:=(tw1 q hq).1; omega
  omega) (fun q hq=>by
  have hrg:q.length<=101/\∀ x∈q,RgN (a.l.length+w.2.h) x:=by
   rcases List.mem_append.1 hq with hq|hq
   ·exact ⟨tw2 q hq,t3.cl q hq⟩
   ·obtain ⟨y,hy,hqy⟩:=List.mem_flatten.1 hq;exact ⟨(tw1 y hy).2 q hqy,trg y hy q hqy⟩
  exact ⟨om,fun x hx=>by have:=(hrg.2 x hx).2; omega⟩)
 simp only[go_sem,d1,rlf,rcs];refine aa3 fok9 (hAll) ?_;simp only[go_sem]
 refine ac5 fok8 (cq7 (args':=[.aa4 ((ca7 st i).map Md.ad9),bx5 (w.2.cl++w.1.flatten)]) hE rfl (fun k hk=>by
  match k,hk with
  | 0,_=>
   have:=eg2 (zs:=ca7 st i) ho (by rw[hzs,hln,zy (by rw[List.length_map,hln]; exact zk _)]) (by rw[hln,az2]; exact zk _);rw[hln] at this
   exact this
  | 1,_=>exact .keep _ (bm8 _)) (by simp[IV.plain]) hH) ?_
 rintro v u ⟨rfl,rfl⟩;refine ⟨zk _,?_⟩
 cases hh:dk9 (ca7 st i) (w.2.cl++w.1.flatten) with
 | false=>
  simp only[go_sem]
  exact ab5 rfl
 | true=>
  rw[hgood hh] at hG;simp only[go_sem,rlf,rcs];refine aa3 fok10 (hMo) ?_;simp only[go_sem,rlf,rcs];refine aa3 fok12 (hSt) ?_;simp only[go_sem,mlf,mcs'];refine aa3 fok11 (hG) ?_;simp only[go_sem];exact ab5 rfl
end Go.Id.Tryz
namespace Go.Id.Tryz
open Go Go.Id Go.Proofs Go.Id.Md
end Go.Id.Tryz
namespace Go.Id.Tryz
open Go Go.Id Go.Proofs Go.Id.Md
variable {H:Type} {enc:TypeId×Value->H} {w:World} {base:Nat} {sp:Nat->Bool} {held:Bool}
abbrev Rd (enc:TypeId×Value->H)(w:World)(base:Nat)(sp:Nat->Bool)(held:Bool):=Rdg enc Tryz.prog w base sp held
theorem gx4 {n:Nat}{d:DataW H}(h:Rd enc w base sp held n 48 d)(hw:WT Tryz.prog 48 d):∃ e:EVR,e.fit/\∀ m,n<=m->dv Tryz.prog m 48 d=zl e.cs:=by
 obtain ⟨n',ds,rfl,rfl,hl,hf⟩:=aw4 Tryz.underlying48 h hw
 match ds,hl with
 | [d0,d1,d2],_=>
  obtain ⟨r0,w0⟩:=hf 0 _ d0 rfl rfl;obtain ⟨r1,w1⟩:=hf 1 _ d1 rfl rfl;obtain ⟨r2,w2⟩:=hf 2 _ d2 rfl rfl;obtain ⟨z,_,_,e0⟩:=bq7 Tryz.underlying3 r0;obtain ⟨s1,l1,e1⟩:=de1 Tryz.underlying9 r1 w1;obtain ⟨s2,l2,e2⟩:=de1 Tryz.underlying9 r2 w2;refine ⟨⟨z,s1,s2⟩,⟨l1,l2⟩,fun m hm=>?_⟩
  cases m with
  | zero=>omega
  | succ m=>
   have c3:Tryz.prog.cellsOf 3=1:=by kernel_rfl
   have c9:Tryz.prog.cellsOf 9=1:=by kernel_rfl
   have ct:Tryz.prog.cellsOf 48=3:=by kernel_rfl
   simp only[dv,Tryz.underlying48,za,zh,dvF,e0 m om,e1 m om,e2 m om,zb,zd,c3,c9,ct,zc,zf,zg,zj,↓reduceIte];rfl
theorem jt8 {z:Int}(h:(Lit.int .u8 z).wf=true):0<=z/\z<256:=by
 simp only[Lit.wf,zv,decide_eq_true_eq] at h;have e1:IntKind.u8.min=0:=rfl;have e2:IntKind.u8.max=255:=rfl;omega
theorem jd6:Tryz.prog.cellsOf 3=1:=by kernel_rfl
theorem jd7:Tryz.prog.cellsOf 5=1:=by kernel_rfl
theorem ih9:Tryz.prog.cellsOf 9=1:=by kernel_rfl
theorem jd8:Tryz.prog.cellsOf 48=3:=by kernel_rfl
theorem gx5:Tryz.prog.cellsOf 58=5:=by kernel_rfl
theorem gx6:Tryz.prog.cellsOf 60=7:=by kernel_rfl
theorem jt9:Tryz.prog.cellsOf 53=15:=by kernel_rfl
theorem is5:Tryz.prog.cellsOf 55=2:=by kernel_rfl
theorem ju1:Tryz.prog.cellsOf 49=1:=by kernel_rfl
theorem fk4:Tryz.prog.cellsOf 50=1:=by kernel_rfl
theorem ju2:Tryz.prog.cellsOf 51=1:=by kernel_rfl
theorem ju3:Tryz.prog.cellsOf 23=1:=by kernel_rfl
theorem is6 {n:Nat}{d:DataW H}(h:Rd enc w base sp held n 58 d)(hw:WT Tryz.prog 58 d):∃ e:Dep,e.fit/\∀ m,n<=m->dv Tryz.prog m 58 d=zl e.cs:=by
 obtain ⟨n',ds,rfl,rfl,hl,hf⟩:=aw4 Tryz.underlying58 h hw
 match ds,hl with
 | [d0,d1,d2],_=>
  obtain ⟨r0,w0⟩:=hf 0 _ d0 rfl rfl;obtain ⟨r1,w1⟩:=hf 1 _ d1 rfl rfl;obtain ⟨r2,w2⟩:=hf 2 _ d2 rfl rfl;obtain ⟨s0,l0,e0⟩:=de1 Tryz.underlying9 r0 w0;obtain ⟨z,_,_,e1⟩:=bq7 Tryz.underlying5 r1;obtain ⟨e,l2,e2⟩:=gx4 r2 w2;refine ⟨⟨s0,z,e⟩,⟨l0,l2⟩,fun m hm=>?_⟩
  cases m with
  | zero=>omega
  | succ m=>
   simp only[dv,Tryz.underlying58,za,zh,dvF,e0 m om,e1 m om,e2 m om,EVR.cs,zb,zd,ih9,jd7,jd8,gx5,zc,zf,zg,zj,↓reduceIte];rfl
theorem jd9:∀ (n:Nat) (d:DataW H),Rd enc w base sp held n 60 d->WT Tryz.prog 60 d->∃ r:aa6,r.ok/\∀ m,n<=m->dv Tryz.prog m 60 d=zl r.cs:=by
 intro n
 induction n using Nat.strongRecOn with
 | ind n ih=>
  intro d h hw;obtain ⟨n',ds,rfl,rfl,hl,hf⟩:=aw4 Tryz.underlying60 h hw
  match ds,hl with
  | [d0,d1,d2],_=>
   obtain ⟨r0,w0⟩:=hf 0 _ d0 rfl rfl;obtain ⟨r1,w1⟩:=hf 1 _ d1 rfl rfl;obtain ⟨r2,w2⟩:=hf 2 _ d2 rfl rfl;obtain ⟨z,_,hz,e0⟩:=bq7 Tryz.underlying5 r0;obtain ⟨e,l1,e1⟩:=is6 r1 w1;obtain ⟨l,k1,k2,e2⟩:=bb7 aa6.cs aa6.ok Tryz.underlying50 gx6 (by decide) (by decide +kernel) (fun r=>by rw[aa6.ar1]; rfl) (fun m d' hm hr hw'=>ih m om d' hr hw') r2 w2;have hz':=jt8 hz;refine ⟨.mk z e l,aa6.ga1.2 ⟨hz'.1,hz'.2,l1,k1,k2⟩,fun m hm=>?_⟩
   cases m with
   | zero=>omega
   | succ m=>
    simp only[dv,Tryz.underlying60,za,zh,dvF,e0 m om,e1 m om,e2 m om,Dep.cs,zb,zd,fk4,jd7,gx5,gx6,zc,zf,zg,zj,↓reduceIte];rw[aa6.ar1];rfl
theorem gx7 {n:Nat}{d:DataW H}(h:Rd enc w base sp held n 49 d)(hw:WT Tryz.prog 49 d):∃ l:List Dep,l.length<2^62/\(∀ a∈l,a.fit)/\∀ m,n<=m->dv Tryz.prog m 49 d=zl [deps l]:=
 bb7 Dep.cs Dep.fit Tryz.underlying49 gx5 (by decide) (by decide +kernel) (fun _=>rfl) (fun _ _ _ hr hw'=>is6 hr hw') h hw
theorem bk4 {n:Nat}{d:DataW H}(h:Rd enc w base sp held n 50 d)(hw:WT Tryz.prog 50 d):∃ l:List aa6,l.length<2^62/\(∀ a∈l,a.ok)/\∀ m,n<=m->dv Tryz.prog m 50 d=zl [aj6 l]:=
 bb7 aa6.cs aa6.ok Tryz.underlying50 gx6 (by decide) (by decide +kernel) (fun r=>by rw[aa6.ar1]; rfl) (fun m d' _ hr hw'=>jd9 m d' hr hw') h hw
theorem je1 {n:Nat}{d:DataW H}(h:Rd enc w base sp held n 51 d)(hw:WT Tryz.prog 51 d):∃ l:List Str,l.length<2^62/\(∀ a∈l,a.length<2^62)/\∀ m,n<=m->dv Tryz.prog m 51 d=zl [strs l]:=
 bb7 cb9 (fun s:Str=>s.length<2^62) Tryz.underlying51 ih9 (by decide) (by decide +kernel) (fun _=>rfl) (fun _ _ _ hr hw'=>de1 Tryz.underlying9 hr hw') h hw
theorem ju4 {n:Nat}{d:DataW H}(h:Rd enc w base sp held n 53 d)(hw:WT Tryz.prog 53 d):∃ p:aa2,p.Ok/\∀ m,n<=m->dv Tryz.prog m 53 d=zl p.cs:=by
 obtain ⟨n',ds,rfl,rfl,hl,hf⟩:=aw4 Tryz.underlying53 h hw
 match ds,hl with
 | [d0,d1,d2,d3,d4,d5,d6,d7,d8,d9,d10,d11,d12],_=>
  obtain ⟨r0,w0⟩:=hf 0 _ d0 rfl rfl;obtain ⟨r1,w1⟩:=hf 1 _ d1 rfl rfl;obtain ⟨r2,w2⟩:=hf 2 _ d2 rfl rfl;obtain ⟨r3,w3⟩:=hf 3 _ d3 rfl rfl;obtain ⟨r4,w4⟩:=hf 4 _ d4 rfl rfl;obtain ⟨r5,w5⟩:=hf 5 _ d5 rfl rfl;obtain ⟨r6,w6⟩:=hf 6 _ d6 rfl rfl;obtain ⟨r7,w7⟩:=hf 7 _ d7 rfl rfl;obtain ⟨r8,w8⟩:=hf 8 _ d8 rfl rfl;obtain ⟨r9,w9⟩:=hf 9 _ d9 rfl rfl;obtain ⟨r10,w10⟩:=hf 10 _ d10 rfl rfl;obtain ⟨r11,w11⟩:=hf 11 _ d11 rfl rfl;obtain ⟨r12,w12⟩:=hf 12 _ d12 rfl rfl;obtain ⟨x0,l0,e0⟩:=de1 Tryz.underlying9 r0 w0;obtain ⟨x1,l1,e1⟩:=gx4 r1 w1;obtain ⟨x2,_,_,e2⟩:=bq7 Tryz.underlying5 r2;obtain ⟨x3,l3,e3⟩:=de1 Tryz.underlying9 r3 w3;obtain ⟨x4,l4,k4,e4⟩:=gx7 r4 w4;obtain ⟨x5,l5,k5,e5⟩:=bk4 r5 w5;obtain ⟨x6,l6,k6,e6⟩:=bk4 r6 w6;obtain ⟨x7,l7,k7,e7⟩:=gx7 r7 w7;obtain ⟨x8,l8,k8,e8⟩:=bk4 r8 w8;obtain ⟨x9,l9,k9,e9⟩:=bk4 r9 w9;obtain ⟨x10,l10,k10,e10⟩:=bk4 r10 w10;obtain ⟨x11,l11,k11,e11⟩:=bk4 r11 w11;obtain ⟨x12,l12,k12,e12⟩:=je1 r12 w12;refine ⟨⟨x0,x1,x2,x3,x4,x5,x6,x7,x8,x9,x10,x11,x12⟩,⟨l0,l3,l1,⟨l4,k4⟩,⟨l7,k7⟩,⟨l12,k12⟩,?_⟩,fun m hm=>?_⟩
  ·intro x hx;simp only[aa2.rows,zo,zq,or_false] at hx;rcases hx with rfl|rfl|rfl|rfl|rfl|rfl
   ·exact ⟨l5,k5⟩
   ·exact ⟨l6,k6⟩
   ·exact ⟨l8,k8⟩
   ·exact ⟨l9,k9⟩
   ·exact ⟨l10,k10⟩
   ·exact ⟨l11,k11⟩
  cases m with
  | zero=>omega
  | succ m=>
   simp only[dv,Tryz.underlying53,za,zh,dvF,e0 m om,e1 m om,e2 m om,e3 m om,e4 m om,e5 m om,e6 m om,e7 m om,e8 m om,e9 m om,e10 m om,e11 m om,e12 m om,EVR.cs,zb,zd,ih9,jd7,jd8,ju1,fk4,ju2,jt9,zc,zf,zg,zj,↓reduceIte];rfl
theorem gx8 {n:Nat}{d:DataW H}(h:Rd enc w base sp held n 23 d)(hw:WT Tryz.prog 23 d):∃ l:List aa2,l.length<2^62/\(∀ a∈l,a.Ok)/\∀ m,n<=m->dv Tryz.prog m 23 d=zl [.aa4 (l.map aa2.cs)]:=
 bb7 aa2.cs aa2.Ok Tryz.underlying23 jt9 (by decide) (by decide +kernel) (fun _=>rfl) (fun _ _ _ hr hw'=>ju4 hr hw') h hw
theorem je2 {n:Nat}{d:DataW H}(h:Rd enc w base sp held n 55 d)(hw:WT Tryz.prog 55 d):∃ r:an7,an7.Ok r/\∀ m,n<=m->dv Tryz.prog m 55 d=zl r.cs:=by
 obtain ⟨n',ds,rfl,rfl,hl,hf⟩:=aw4 Tryz.underlying55 h hw
 match ds,hl with
 | [d0,d1],_=>
  obtain ⟨r0,w0⟩:=hf 0 _ d0 rfl rfl;obtain ⟨r1,w1⟩:=hf 1 _ d1 rfl rfl;obtain ⟨z,_,_,e0⟩:=bq7 Tryz.underlying3 r0;obtain ⟨l,k1,k2,e1⟩:=gx8 r1 w1;refine ⟨⟨z,l⟩,⟨k1,k2⟩,fun m hm=>?_⟩
  cases m with
  | zero=>omega
  | succ m=>
   simp only[dv,Tryz.underlying55,za,zh,dvF,e0 m om,e1 m om,zb,zd,jd6,ju3,is5,zc,zf,zg,zj,↓reduceIte];rfl
theorem ii1 {n:Nat}{d:DataW H}(h:Rd enc w base sp held n 22 d)(hw:WT Tryz.prog 22 d):∃ l:List an7,l.length<2^62/\(∀ a∈l,an7.Ok a)/\∀ m,n<=m->dv Tryz.prog m 22 d=zl [.aa4 (l.map an7.cs)]:=
 bb7 an7.cs an7.Ok Tryz.underlying22 is5 (by decide) (by decide +kernel) (fun _=>rfl) (fun _ _ _ hr hw'=>je2 hr hw') h hw
end Go.Id.Tryz
namespace Go.Id
open Go Go.Id
mutual
def isz:IV->Nat
 | .str s=>s.length+1
 | .aa4 es=>cv8 es+1
 | _=>1
def be8:List IV->Nat
 | []=>0
 | c::cs=>isz c+be8 cs
def cv8:List (List IV)->Nat
 | []=>0
 | e::es=>be8 e+cv8 es
end
theorem fd8 (a b:List IV):be8 (a++b)=be8 a+be8 b:=by
 induction a with
 | nil=>simp[be8]
 | cons x a ih=>simp only[zc,be8,ih]; omega
theorem bx9 {α:Type}(f:α->List IV):∀ (l:List α),∀ a∈l,be8 (f a)<=cv8 (l.map f):=by
 intro l
 induction l with
 | nil=>intro a h; cases h
 | cons x l ih=>
  intro a h;simp only[za,cv8];rcases zo.1 h with rfl|h
  ·omega
  ·have:=ih a h; omega
theorem au3 {α:Type}(f:α->List IV)(hf:∀ a,1<=be8 (f a)):∀ (l:List α),l.length<=cv8 (l.map f):=by
 intro l
 induction l with
 | nil=>simp
 | cons x l ih=>
  simp only[za,cv8,zb];have:=hf x;omega
namespace Md
theorem Dep.szs (d:Dep):be8 d.cs=d.name.length+d.evr.ver.length+d.evr.rel.length+5:=by
 simp only[Dep.cs,be8,isz]; omega
theorem aa6.szs (r:aa6):be8 r.cs=r.dep.name.length+r.dep.evr.ver.length+r.dep.evr.rel.length+cv8 (r.args.map aa6.cs)+7:=by
 rw[aa6.ar1]; simp only[be8,isz]; omega
theorem aa2.szs (p:aa2):be8 p.cs=p.name.length+p.evr.ver.length+p.evr.rel.length+p.vendor.length+cv8 (p.provides.map Dep.cs)+cv8 (p.requires.map aa6.cs)+cv8 (p.conflicts.map aa6.cs)+cv8 (p.aa8.map Dep.cs)+cv8 (p.ac7.map aa6.cs)+cv8 (p.ac4.map aa6.cs)+cv8 (p.suggests.map aa6.cs)+cv8 (p.af3.map aa6.cs)+cv8 (p.files.map cb9)+15:=by
 simp only[aa2.cs,be8,isz]; omega
theorem an7.szs (r:an7):be8 r.cs=cv8 (r.packages.map aa2.cs)+2:=by
 simp only[an7.cs,be8,isz]; omega
theorem gf9 (r:aa6):r.count<=be8 r.cs:=by
 induction r using aa6.ind with
 | h k d xs ih=>
  rw[aa6.szs]
  have:∀ ys:List aa6,(∀ y∈ys,y∈xs)->aa6.counts ys<=cv8 (ys.map aa6.cs):=by
   intro ys
   induction ys with
   | nil=>intro _; simp[aa6.counts]
   | cons y ys ih2=>
    intro h;have h1:=ih y (h y (List.mem_cons_self ..));have h2:=ih2 fun z hz=>h z (List.mem_cons_of_mem _ hz)
    simp only[aa6.counts,za,cv8];omega
  have:=this xs fun y h=>h
  simp only[aa6.count,aa6.args];omega
theorem in9 (r:aa6):r.ok->be8 r.cs<2^31->r.fit:=by
 induction r using aa6.ind with
 | h k d xs ih=>
  intro ho hs;obtain ⟨a,b,c,e,f⟩:=aa6.ga1.1 ho;rw[aa6.szs] at hs;simp only[aa6.args] at hs;have hl:=au3 aa6.cs (fun r=>by rw[aa6.szs]; omega) xs;refine aa6.by6.2 ⟨a,b,c,om,fun r hr=>ih r hr (f r hr) ?_⟩;have:=bx9 aa6.cs xs r hr;omega
theorem hj7 {p:aa2}(h:p.Ok)(hs:be8 p.cs<2^31):p.Fit:=by
 rw[aa2.szs] at hs;have l1:=au3 Dep.cs (fun r=>by rw[Dep.szs]; omega) p.provides;have l2:=au3 Dep.cs (fun r=>by rw[Dep.szs]; omega) p.aa8;have l3:=au3 cb9 (fun r=>by simp only[cb9,be8,isz]; omega) p.files
 have hr:∀ x∈p.rows,cv8 (x.2.map aa6.cs)<2^31:=by
  intro x hx;simp only[aa2.rows,zo,zq,or_false] at hx;rcases hx with rfl|rfl|rfl|rfl|rfl|rfl<;>simp only[]<;>omega
 exact {
  name:=h.name
  evr:=h.evr
  au1:=⟨om,h.au1.2⟩
  obs:=⟨om,h.obs.2⟩
  files:=⟨om,h.files.2⟩
  rich:=fun x hx=>by
   have h1:=hr x hx;have h2:=au3 aa6.cs (fun r=>by rw[aa6.szs]; omega) x.2;refine ⟨om,fun r hr'=>?_⟩;have h3:=bx9 aa6.cs x.2 r hr';have h4:=gf9 r;exact ⟨in9 r ((h.rich x hx).2 r hr') om,om⟩ }
theorem hj8 (repos:List an7):am6 repos<=cv8 (repos.map an7.cs):=by
 induction repos with
 | nil=>simp[am6]
 | cons r rs ih=>
  have h2:=au3 aa2.cs (fun r=>by rw[aa2.szs]; omega) r.packages;have h3:=an7.szs r;simp only[am6,za,List.sum_cons,cv8] at ih ⊢;omega
end Md
end Go.Id
namespace Go.Id.Tryz
open Go Go.Id Go.Proofs Go.Id.Md
open Go.Proofs.YtiplpeflonpcmaaGreatDoor
variable {H:Type} {enc:TypeId×Value->H} {w:World} {base:Nat} {sp:Nat->Bool} {held:Bool}
theorem in4 (d:DataW H):1<=Rows.uptoBulk d:=by
 cases d with
 | lit l=>cases l<;>simp[Rows.uptoBulk]
 | _=>simp[Rows.uptoBulk]
theorem in5 {r:DataW H->Option (List IV)}{c:Nat}(hr:∀ d cs,r d=zl cs->be8 cs<=Rows.uptoBulk d):∀ (ds:List (DataW H)) es,dvS r c ds=zl es->cv8 es<=Rows.uptoBulkAll ds:=by
 intro ds
 induction ds with
 | nil=>intro es h; cases h; simp[cv8]
 | cons d ds ih=>
  intro es h;simp only[dvS] at h;split at h
  ·rename_i a ha;split at h
   ·split at h
    ·rename_i b hb;cases h;have h1:=hr d a ha;have h2:=ih b hb;simp only[cv8,Rows.uptoBulkAll];omega
    ·cases h
   ·cases h
  ·cases h
theorem fn5 {r:TypeId->DataW H->Option (List IV)}{P:Program}(hr:∀ t d cs,r t d=zl cs->be8 cs<=Rows.uptoBulk d):∀ (fs:List (TypeId×Nat)) (ds:List (DataW H)) (off:Nat) es,dvF r P fs ds off=zl es->be8 es<=Rows.uptoBulkAll ds:=by
 intro fs
 induction fs with
 | nil=>
  intro ds off es h
  cases ds with
  | nil=>cases h; simp[be8]
  | cons d ds=>simp[dvF] at h
 | cons f fs ih=>
  intro ds off es h
  cases ds with
  | nil=>simp[dvF] at h
  | cons d ds=>
   simp only[dvF] at h;split at h
   ·split at h
    ·rename_i a ha;split at h
     ·split at h
      ·rename_i b hb;cases h;have h1:=hr _ d a ha;have h2:=ih ds _ b hb;simp only[fd8,Rows.uptoBulkAll];omega
      ·cases h
     ·cases h
    ·cases h
   ·cases h
theorem eh5 {P:Program}:∀ (m:Nat) (t:TypeId) (d:DataW H) cs,dv P m t d=zl cs->be8 cs<=Rows.uptoBulk d:=by
 intro m
 induction m with
 | zero=>intro t d cs h; simp[dv] at h
 | succ m ih=>
  intro t d cs h;have h1:=in4 d;simp only[dv] at h;split at h
  ·cases h; simpa [be8,isz] using h1
  ·cases h; simpa [be8,isz] using h1
  ·cases h; simp[be8,isz,Rows.uptoBulk]
  ·cases h; simpa [be8,isz] using h1
  ·split at h
   ·cases h; simpa [be8,isz] using h1
   ·cases h
  ·cases h; simpa [be8,isz,cv8] using h1
  ·split at h
   ·cases h
   ·split at h
    ·rename_i es he;cases h;have:=in5 (ih _) _ _ he;simp only[be8,isz,Rows.uptoBulk];omega
    ·cases h
  ·split at h
   ·rename_i ivs he;split at h
    ·cases h;have:=fn5 (fun t d cs=>ih t d cs) _ _ _ _ he;simp only[Rows.uptoBulk];omega
    ·cases h
   ·cases h
  ·split at h
   ·rename_i ivs he;split at h
    ·cases h;have:=fn5 (fun t d cs=>ih t d cs) _ _ _ _ he;simp only[Rows.uptoBulk];omega
    ·cases h
   ·cases h
  ·split at h
   ·split at h
    ·cases h; simpa [be8,isz] using h1
    ·cases h
   ·cases h
  ·cases h
theorem kh7 {repos:List an7}{inst:List aa2}(h1:∀ r∈repos,an7.Ok r)(h2:∀ p∈inst,p.Ok)(b1:be8 [IV.aa4 (repos.map an7.cs)]<=1048576)(b2:be8 [IV.aa4 (inst.map aa2.cs)]<=1048576):je9 repos inst:=by
 simp only[be8,isz] at b1 b2;have l1:=au3 an7.cs (fun r=>by rw[an7.szs]; omega) repos;have l2:=au3 aa2.cs (fun r=>by rw[aa2.szs]; omega) inst;have l3:=hj8 repos;refine ⟨om,om,om,fun r hr=>?_,fun p hp=>?_,h1,h2⟩
 ·have m1:=bx9 an7.cs repos r hr;rw[an7.szs] at m1;have l4:=au3 aa2.cs (fun r=>by rw[aa2.szs]; omega) r.packages;refine ⟨om,fun p hp=>hj7 ((h1 r hr).2 p hp) ?_⟩;have:=bx9 aa2.cs r.packages p hp;omega
 ·have:=bx9 aa2.cs inst p hp;exact hj7 (h2 p hp) om
end Go.Id.Tryz
namespace Go.Id.Tryz
open Go Go.Id Go.Proofs Go.Id.Md
variable {H:Type} {enc:TypeId×Value->H} {w:World} {base:Nat} {sp:Nat->Bool} {held:Bool}
theorem hj6 {n:Nat}{t:TypeId}{d:DataW H}(hu:Tryz.prog.underlying t=zl .bool)(h:Rd enc w base sp held n t d):∃ b,d=.lit (.bool b)/\∀ m,n<=m->dv Tryz.prog m t d=zl [.bool b]:=by
 obtain ⟨cs,ps,h⟩:=h;have hn:n≠0:=fun e=>by subst e; simp[DataW.trod] at h
 obtain ⟨b,rfl,hx⟩:=DataW.trod_bool hu h;cases hx;refine ⟨b,rfl,fun m hm=>?_⟩
 cases m with
 | zero=>omega
 | succ m=>simp only[dv,hu]
theorem jx7:Tryz.prog.cellsOf 106=6:=by kernel_rfl
theorem iu5:Tryz.prog.cellsOf 111=2:=by kernel_rfl
theorem kh8:Tryz.prog.cellsOf 27=5:=by kernel_rfl
theorem iu6:Tryz.prog.cellsOf 4=1:=by kernel_rfl
theorem jx8:Tryz.prog.cellsOf 24=1:=by kernel_rfl
theorem jh5:Tryz.prog.cellsOf 25=1:=by kernel_rfl
theorem jh6 {n:Nat}{d:DataW H}(h:Rd enc w base sp held n 58 d)(hw:WT Tryz.prog 58 d):∃ e:Dep,(0<=e.op/\e.op<256)/\∀ m,n<=m->dv Tryz.prog m 58 d=zl e.cs:=by
 obtain ⟨n',ds,rfl,rfl,hl,hf⟩:=aw4 Tryz.underlying58 h hw
 match ds,hl with
 | [d0,d1,d2],_=>
  obtain ⟨r0,w0⟩:=hf 0 _ d0 rfl rfl;obtain ⟨r1,w1⟩:=hf 1 _ d1 rfl rfl;obtain ⟨r2,w2⟩:=hf 2 _ d2 rfl rfl;obtain ⟨s0,l0,e0⟩:=de1 Tryz.underlying9 r0 w0;obtain ⟨z,_,hz,e1⟩:=bq7 Tryz.underlying5 r1;obtain ⟨e,l2,e2⟩:=gx4 r2 w2;refine ⟨⟨s0,z,e⟩,jt8 hz,fun m hm=>?_⟩
  cases m with
  | zero=>omega
  | succ m=>
   simp only[dv,Tryz.underlying58,za,zh,dvF,e0 m om,e1 m om,e2 m om,EVR.cs,zb,zd,ih9,jd7,jd8,gx5,zc,zf,zg,zj,↓reduceIte];rfl
theorem jx9 {n:Nat}{d:DataW H}(h:Rd enc w base sp held n 106 d)(hw:WT Tryz.prog 106 d):∃ j:Job,(0<=j.dep.op/\j.dep.op<256)/\∀ m,n<=m->dv Tryz.prog m 106 d=zl j.cs:=by
 obtain ⟨n',ds,rfl,rfl,hl,hf⟩:=aw4 Tryz.underlying106 h hw
 match ds,hl with
 | [d0,d1],_=>
  obtain ⟨r0,w0⟩:=hf 0 _ d0 rfl rfl;obtain ⟨r1,w1⟩:=hf 1 _ d1 rfl rfl;obtain ⟨z,_,hz,e0⟩:=bq7 Tryz.underlying5 r0;obtain ⟨e,l1,e1⟩:=jh6 r1 w1;refine ⟨⟨z,e⟩,l1,fun m hm=>?_⟩
  cases m with
  | zero=>omega
  | succ m=>
   simp only[dv,Tryz.underlying106,za,zh,dvF,e0 m om,e1 m om,Dep.cs,zb,zd,jd7,gx5,jx7,zc,zf,zg,zj,↓reduceIte];rfl
theorem jh7 {n:Nat}{d:DataW H}(h:Rd enc w base sp held n 111 d)(hw:WT Tryz.prog 111 d):∃ e:bd9,True/\∀ m,n<=m->dv Tryz.prog m 111 d=zl e.cs:=by
 obtain ⟨n',ds,rfl,rfl,hl,hf⟩:=aw4 Tryz.underlying111 h hw
 match ds,hl with
 | [d0,d1],_=>
  obtain ⟨r0,w0⟩:=hf 0 _ d0 rfl rfl;obtain ⟨r1,w1⟩:=hf 1 _ d1 rfl rfl;obtain ⟨z,_,hz,e0⟩:=bq7 Tryz.underlying5 r0;obtain ⟨y,_,hy,e1⟩:=bq7 Tryz.underlying3 r1;refine ⟨⟨z,y⟩,trivial,fun m hm=>?_⟩
  cases m with
  | zero=>omega
  | succ m=>
   simp only[dv,Tryz.underlying111,za,zh,dvF,e0 m om,e1 m om,zb,zd,jd7,jd6,iu5,zc,zf,zg,zj,↓reduceIte];rfl
theorem jh8 {n:Nat}{d:DataW H}(h:Rd enc w base sp held n 24 d)(hw:WT Tryz.prog 24 d):∃ l:List Job,l.length<2^62/\(∀ j∈l,0<=j.dep.op/\j.dep.op<256)/\∀ m,n<=m->dv Tryz.prog m 24 d=zl [be1 l]:=
 bb7 Job.cs (fun j=>0<=j.dep.op/\j.dep.op<256) Tryz.underlying24 jx7 (by decide) (by decide +kernel) (fun _=>rfl) (fun _ _ _ hr hw'=>jx9 hr hw') h hw
theorem in6 {n:Nat}{d:DataW H}(h:Rd enc w base sp held n 25 d)(hw:WT Tryz.prog 25 d):∃ l:List bd9,l.length<2^62/\(∀ j∈l,True)/\∀ m,n<=m->dv Tryz.prog m 25 d=zl [av7 l]:=
 bb7 bd9.cs (fun _=>True) Tryz.underlying25 iu5 (by decide) (by decide +kernel) (fun _=>rfl) (fun _ _ _ hr hw'=>jh7 hr hw') h hw
theorem jy1 {n:Nat}{d:DataW H}(h:Rd enc w base sp held n 27 d)(hw:WT Tryz.prog 27 d):∃ r:Req,(∀ j∈r.ag6,0<=j.dep.op/\j.dep.op<256)/\∀ m,n<=m->dv Tryz.prog m 27 d=zl r.cs:=by
 obtain ⟨n',ds,rfl,rfl,hl,hf⟩:=aw4 Tryz.underlying27 h hw
 match ds,hl with
 | [d0,d1,d2,d3,d4],_=>
  obtain ⟨r0,w0⟩:=hf 0 _ d0 rfl rfl;obtain ⟨r1,w1⟩:=hf 1 _ d1 rfl rfl;obtain ⟨r2,w2⟩:=hf 2 _ d2 rfl rfl;obtain ⟨r3,w3⟩:=hf 3 _ d3 rfl rfl;obtain ⟨r4,w4⟩:=hf 4 _ d4 rfl rfl;obtain ⟨x0,_,_,e0⟩:=bq7 Tryz.underlying5 r0;obtain ⟨x1,_,e1⟩:=hj6 Tryz.underlying4 r1;obtain ⟨x2,_,k2,e2⟩:=jh8 r2 w2;obtain ⟨x3,_,_,e3⟩:=in6 r3 w3;obtain ⟨x4,_,_,e4⟩:=bq7 Tryz.underlying3 r4;refine ⟨⟨x0,x1,x2,x3,x4⟩,k2,fun m hm=>?_⟩
  cases m with
  | zero=>omega
  | succ m=>
   simp only[dv,Tryz.underlying27,za,zh,dvF,e0 m om,e1 m om,e2 m om,e3 m om,e4 m om,zb,zd,jd7,iu6,jx8,jh5,jd6,kh8,zc,zf,zg,zj,↓reduceIte];rfl
theorem jy2 {r:Req}(h:∀ j∈r.ag6,0<=j.dep.op/\j.dep.op<256)(b:be8 r.cs<=1048576):er2 r:=by
 have hs:∀ j:Job,be8 j.cs=j.dep.name.length+j.dep.evr.ver.length+j.dep.evr.rel.length+6:=fun j=>by
  simp only[Job.cs,be8,isz]; omega
 have he:∀ e:bd9,1<=be8 e.cs:=fun e=>by simp only[bd9.cs,be8,isz]; omega
 simp only[Req.cs,be8,isz] at b;have l1:=au3 Job.cs (fun j=>by rw[hs]; omega) r.ag6;have l2:=au3 bd9.cs he r.ai1;refine ⟨om,om,fun j hj=>?_⟩;have l3:=bx9 Job.cs r.ag6 j hj;rw[hs] at l3;exact ⟨⟨(h j hj).1,(h j hj).2,om,om⟩,om⟩
end Go.Id.Tryz
namespace Go.Id.Tryz
open Go Go.Id Go.Proofs Go.Id.Md
variable {H:Type} {enc:TypeId×Value->H} {w:World} {base:Nat} {sp:Nat->Bool} {held:Bool}
theorem in7 {n:Nat}{d:DataW H}(h:Rd enc w base sp held n 28 d)(hw:WT Tryz.prog 28 d):∃ l:List Bool,l.length<2^62/\(∀ j∈l,True)/\∀ m,n<=m->dv Tryz.prog m 28 d=zl [bk8 l]:=
 bb7 ca5 (fun _=>True) Tryz.underlying28 iu6 (by decide) (by decide +kernel) (fun _=>rfl) (fun _ _ _ hr hw'=>by
  obtain ⟨b,_,e⟩:=hj6 Tryz.underlying4 hr;exact ⟨b,trivial,e⟩) h hw
theorem in8 {l:List Bool}(b:be8 [bk8 l]<=1048576):l.length<2^30:=by
 unfold bk8 at b;simp only[be8,isz] at b;have:=au3 ca5 (fun z=>by simp only[ca5,be8,isz]; omega) l;omega
end Go.Id.Tryz
