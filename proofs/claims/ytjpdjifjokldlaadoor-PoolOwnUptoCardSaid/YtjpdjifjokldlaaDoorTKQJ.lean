/- What is handed in fits. Conditions: sizes that fit. -/
import Derived.Test.YtjpdjifjokldlaaDoorTKHA
import Derived.Test.YtjpdjifjokldlaaDoorMq
import Derived.Test.YtjpdjifjokldlaaDoorTKHG
import Derived.Test.YtjpdjifjokldlaaDoorTKPI
import Derived.Test.YtjpdjifjokldlaaDoorFwTf
import Derived.Test.YtjpdjifjokldlaaDoorTKPB
import Derived.Test.YtjpdjifjokldlaaDoorFwZb
import Derived.Test.YtjpdjifjokldlaaDoorRows
set_option linter.all false
namespace Go.Id.Tryd
open Go Go.Id Go.Proofs Go.Id.Md
structure ij9 (repos:List aj7) (inst:List aa3):Prop where
 r1:repos.length<2^20
 i1:inst.length<2^20
 s1:ai3 repos<2^40
 rf:∀ r∈repos,aj7.Fit r
 pf:∀ p∈inst,p.Fit
 ro:∀ r∈repos,aj7.Ok r
 po:∀ p∈inst,p.Ok
def cx9 (x:Nat×Bool):IV:=.tuple [.int .i64 x.1,.bool x.2]
theorem az5 {s:Store}(n:Nat)(b:Bool):bm9 s 0 (.tuple [.int .i64 n,.bool b]) (cx9 (n,b)):=.bm2 (.cons (ac8 _ _) (.cons (ab8 _) .nil))
theorem en1 (r:aa8)(rs:List aa8)(deep n:Nat):bz8 (r::rs) deep n=if big r.dep=true then (0,true) else
  if (bn7 r (deep+1)).2=true∨2000<n+1+(bn7 r (deep+1)).1 then (0,true) else bz8 rs deep (n+1+(bn7 r (deep+1)).1):=by
 simp only[bz8]
theorem gn8 (r:aa8):∀ deep:Nat,deep≤21→r.ok→PC Tryd.prog EE 29 [ab7 r.args,.int .i64 deep] (cx9 (bn7 r deep)):=by
 induction r using aa8.ind with
 | h k d xs ih=>
  intro deep hdeep hok;obtain ⟨o1,o2,o3,o4,o5⟩:=aa8.fe3.1 hok;refine bz1 hE fok29 (nZ rfl) (bb9 (ad2 _) (.int _ _)) ?_;by_cases b1:20<deep
  ·have c1:(20:Int)<deep:=by omega
   simp only[ic29,go_sem,aa8.args,bn7,c1,b1,true_or];exact az5 0 true
  have c1:¬ (20:Int)<deep:=by omega
  by_cases b2:100<xs.length
  ·have c2:(100:Int)<xs.length:=by omega
   simp only[ic29,go_sem,aa8.args,bn7,c1,c2,b1,b2,or_true];exact az5 0 true
  have c2:¬ (100:Int)<xs.length:=by omega
  simp only[ic29,go_sem,aa8.args,bn7,c1,c2,b1,b2,or_self];refine ac9 noT (fun i fr s=>∃ n:Nat,fr=[(0,ab7 xs),(1,.int .i64 deep),(6,.int .i64 n),(7,.int .i64 i)]∧n≤2000∧bz8 xs deep 0=bz8 (xs.drop i) deep n) xs.length ⟨0,rfl,by omega,rfl⟩ ?_;rintro i fr s hi ⟨n,rfl,hn,hm⟩;by_cases hlt:i<xs.length
  ·obtain ⟨x,hx,hxi,hdr,hget,htk⟩:=ae9 xs i hlt;have c3:(i:Int)<xs.length:=by omega
   have c4:(0:Int)≤i:=by omega
   have w1:=ag4 (i:=i) (by omega);have w2:=ag4 (i:=deep) (by omega);have w3:=ag4 (i:=n) (by omega);rw[hdr,en1] at hm;obtain ⟨k',d',ys⟩:=x;rw[show (aa8.mk k' d' ys).dep=d' from rfl] at hm;obtain ⟨x1,x2,x3,x4,x5⟩:=aa8.fe3.1 (o5 _ hx);have hA:=ih _ hx (deep+1) (by omega) (o5 _ hx)
   have hsz:IntKind.i64.wrap ((d'.name.length:Int)+d'.evr.ver.length)=((d'.name.length+d'.evr.ver.length:Nat):Int):=by
    have:=x3.1; have:=x3.2.1;rw[wrap64 (by omega) (by omega)]; omega
   simp only[go_sem,c3,c4,hget,aa8.aq1,aa8.kind,aa8.dep,aa8.args,hsz,az1] at hA ⊢;have hbig:big d'=(decide (500<d'.name.length+d'.evr.ver.length)||decide (500<d'.evr.rel.length)):=rfl;by_cases q1:500<d'.name.length+d'.evr.ver.length
   ·have e1:(500:Int)<((d'.name.length+d'.evr.ver.length:Nat):Int):=by omega
    have hb:big d'=true:=by rw[hbig]; simp[q1]
    rw[if_pos hb] at hm;simp only[go_sem,e1,hm];exact az5 0 true
   have e1:¬ (500:Int)<((d'.name.length+d'.evr.ver.length:Nat):Int):=by omega
   by_cases q2:500<d'.evr.rel.length
   ·have e2:(500:Int)<d'.evr.rel.length:=by omega
    have hb:big d'=true:=by rw[hbig]; simp[q2]
    rw[if_pos hb] at hm;simp only[go_sem,c3,c4,hget,aa8.aq1,aa8.kind,aa8.dep,aa8.args,e1,e2,hm];exact az5 0 true
   have e2:¬ (500:Int)<d'.evr.rel.length:=by omega
   have hb:¬ big d'=true:=by rw[hbig]; simp[q1,q2]
   rw[if_neg hb] at hm;simp only[go_sem,c3,c4,hget,aa8.aq1,aa8.kind,aa8.dep,aa8.args,e1,e2,w2];refine ac2 fok29 hA ?_;have hkl:(bn7 (.mk k' d' ys) (deep+1)).1≤2000:=by rw[cr6]; exact dv5 _ _
   generalize bn7 (.mk k' d' ys) (deep+1)=ka at *
   have w4:IntKind.i64.wrap (((n+1:Nat):Int)+ka.1)=((n+1+ka.1:Nat):Int):=by
    rw[wrap64 (by omega) (by omega)]; omega
   cases hk2:ka.2 with
   | true=>
    rw[if_pos (.inl hk2)] at hm;simp only[go_sem,cx9,hk2,w3,w4,hm]
    exact az5 0 true
   | false=>
    by_cases q3:2000<n+1+ka.1
    ·have e3:(2000:Int)<((n+1+ka.1:Nat):Int):=by omega
     rw[if_pos (.inr q3)] at hm;simp only[go_sem,cx9,hk2,w3,w4,e3,hm];exact az5 0 true
    ·have e3:¬ (2000:Int)<((n+1+ka.1:Nat):Int):=by omega
     rw[if_neg (by rw[hk2]; simp; omega)] at hm;simp only[go_sem,cx9,hk2,w1,w3,w4,e3];exact ⟨hlt,n+1+ka.1,rfl,by omega,hm⟩
  ·have hi':i=xs.length:=by omega
   subst hi';have c3:¬ (xs.length:Int)<xs.length:=by omega
   rw[List.drop_length] at hm;simp only[go_sem,c3,hm,bz8];exact az5 n false
theorem fu7 (l:List aa8)(h1:l.length<2^62)(h2:∀ r∈l,r.ok):PC Tryd.prog EE 29 [ab7 l,.int .i64 0] (cx9 (bz9 l 0)):=by
 have h:=gn8 (.mk 1 fd5 l) 0 (by omega) (aa8.fe3.2 ⟨by omega,by omega,⟨by decide,by decide,by decide⟩,h1,h2⟩);rw[cr6] at h;exact h
def lC (l:List aa8):List IV:=[ab7 l]
theorem dp8 {p:aa3}{l:List aa8}(h:l∈bb7 p):∃ x∈p.rows,x.2=l:=by
 simp only[bb7,List.mem_cons,List.not_mem_nil,or_false] at h;rcases h with rfl|rfl|rfl|rfl|rfl|rfl<;>simp[aa3.rows]
theorem dp9 (l:List aa8)(ls:List (List aa8))(n:Nat):bn8 (l::ls) n=if (bz9 l 0).2=true∨2000<n+(bz9 l 0).1 then true else bn8 ls (n+(bz9 l 0).1):=by simp only[bn8]
theorem by7 (p:aa3)(ho:p.Ok):PC Tryd.prog EE 12 [.agg p.cs] (.bool (am7 p)):=by
 refine bz1 hE fok12 (nZ rfl) (am2 (cb5 p)) ?_;by_cases b1:100<p.provides.length
 ·have c1:(100:Int)<p.provides.length:=by omega
  simp only[ic12,go_sem,ad9,aa3.cs,c1,am7,b1];exact ab8 _
 have c1:¬ (100:Int)<p.provides.length:=by omega
 by_cases b2:100<p.ab9.length
 ·have c2:(100:Int)<p.ab9.length:=by omega
  simp only[ic12,go_sem,ad9,aa3.cs,c1,c2,am7,b1,b2];exact ab8 _
 have c2:¬ (100:Int)<p.ab9.length:=by omega
 by_cases b3:100<p.files.length
 ·have c3:(100:Int)<p.files.length:=by omega
  simp only[ic12,go_sem,ad9,aa3.cs,c1,c2,c3,am7,b1,b2,b3];exact ab8 _
 have c3:¬ (100:Int)<p.files.length:=by omega
 by_cases b4:1000<p.name.length
 ·have c4:(1000:Int)<p.name.length:=by omega
  simp only[ic12,go_sem,ad9,aa3.cs,c1,c2,c3,c4,am7,b1,b2,b3,b4];exact ab8 _
 have c4:¬ (1000:Int)<p.name.length:=by omega
 by_cases b5:1000<p.vendor.length
 ·have c5:(1000:Int)<p.vendor.length:=by omega
  simp only[ic12,go_sem,ad9,aa3.cs,c1,c2,c3,c4,c5,am7,b1,b2,b3,b4,b5];exact ab8 _
 have c5:¬ (1000:Int)<p.vendor.length:=by omega
 by_cases b6:1000<p.evr.ver.length
 ·have c6:(1000:Int)<p.evr.ver.length:=by omega
  simp only[ic12,go_sem,ad9,aa3.cs,c1,c2,c3,c4,c5,c6,am7,b1,b2,b3,b4,b5,b6];exact ab8 _
 have c6:¬ (1000:Int)<p.evr.ver.length:=by omega
 by_cases b7:1000<p.evr.rel.length
 ·have c7:(1000:Int)<p.evr.rel.length:=by omega
  simp only[ic12,go_sem,ad9,aa3.cs,c1,c2,c3,c4,c5,c6,c7,am7,b1,b2,b3,b4,b5,b6,b7];exact ab8 _
 have c7:¬ (1000:Int)<p.evr.rel.length:=by omega
 have hM:am7 p=bn8 (bb7 p) 0:=by simp only[am7,b1,b2,b3,b4,b5,b6,b7,decide_false,Bool.false_or]
 rw[hM];simp only[ic12,go_sem,ad9,aa3.cs,c1,c2,c3,c4,c5,c6,c7];refine ac9 noT (fun i fr s=>∃ n:Nat,fr=[(3,.int .i64 n),(62,.aa4 ((bb7 p).map lC)),(63,.int .i64 6),(64,.int .i64 i)]∧n≤2000∧bn8 (bb7 p) 0=bn8 ((bb7 p).drop i) n) 6 ⟨0,rfl,by omega,rfl⟩ ?_;rintro i fr s hi ⟨n,rfl,hn,hm⟩;by_cases hlt:i<6
 ·obtain ⟨l,hl,hli,hdr,hget,htk⟩:=ae9 (bb7 p) i hlt;have d1:(i:Int)<6:=by omega
  have d2:(0:Int)≤i:=by omega
  have d3:(i:Int)<((bb7 p).length:Nat):=by simp only[bb7,List.length_cons,List.length_nil]; omega
  have w1:=ag4 (i:=i) (by omega);rw[hdr,dp9] at hm;obtain ⟨x,hx,rfl⟩:=dp8 hl;have hok:=ho.au3 x hx;simp only[go_sem,d1,d2,d3,hget,lC];refine ac2 fok29 (fu7 x.2 hok.1 hok.2) ?_;have hle:=dv5 x.2 0;generalize bz9 x.2 0=ka at *
  have w4:IntKind.i64.wrap ((n:Int)+ka.1)=((n+ka.1:Nat):Int):=by
   rw[wrap64 (by omega) (by omega)]; omega
  cases hk2:ka.2 with
  | true=>
   rw[if_pos (.inl hk2)] at hm;simp only[go_sem,cx9,hk2,w4,hm]
   exact ab8 _
  | false=>
   by_cases q3:2000<n+ka.1
   ·have e3:(2000:Int)<((n+ka.1:Nat):Int):=by omega
    rw[if_pos (.inr q3)] at hm;simp only[go_sem,cx9,hk2,w4,e3,hm];exact ab8 _
   ·have e3:¬ (2000:Int)<((n+ka.1:Nat):Int):=by omega
    rw[if_neg (by rw[hk2]; simp; omega)] at hm;simp only[go_sem,cx9,hk2,w1,w4,e3];exact ⟨hlt,n+ka.1,rfl,by omega,hm⟩
 ·have hi':i=6:=by omega
  subst hi';have e6:(bb7 p).drop 6=[]:=rfl;rw[e6] at hm;simp only[go_sem,hm,bn8];exact ab8 _
theorem dw3 {α:Type}{q:α→Bool}{l:List α}{i:Nat}{a:α}(h:l.drop i=a::l.drop (i+1)):(l.drop i).any q=(q a||(l.drop (i+1)).any q):=by rw[h]; simp
theorem en2 (r:aj7)(rs:List aj7)(n:Nat):cx6 (r::rs) n=if 80<n+r.packages.length then true else if r.packages.any am7=true then true else cx6 rs (n+r.packages.length):=by simp only[cx6]
theorem gn9 (repos:List aj7)(inst:List aa3)(h1:repos.length<2^62)(h2:inst.length<2^62)(hr:∀ r∈repos,aj7.Ok r)(hi:∀ p∈inst,p.Ok):PC Tryd.prog EE 4 [aq4 repos,aw4 inst] (.bool (el8 repos inst)):=by
 refine bz1 hE fok4 (nZ rfl) (bb9 (cf9 _) (cz4 _)) ?_;by_cases b1:30<repos.length
 ·have c1:(30:Int)<repos.length:=by omega
  simp only[ic4,go_sem,c1,el8,b1];exact ab8 _
 have c1:¬ (30:Int)<repos.length:=by omega
 by_cases b2:40<inst.length
 ·have c2:(40:Int)<inst.length:=by omega
  simp only[ic4,go_sem,c1,c2,el8,b1,b2];exact ab8 _
 have c2:¬ (40:Int)<inst.length:=by omega
 have hM:el8 repos inst=(inst.any am7||cx6 repos inst.length):=by simp only[el8,b1,b2,decide_false,Bool.false_or]
 rw[hM];simp only[ic4,go_sem,c1,c2];refine ac9 noT (fun i fr s=>fr=[(0,aq4 repos),(1,aw4 inst),(5,.int .i64 inst.length),(6,.int .i64 i)]∧inst.any am7=(inst.drop i).any am7) inst.length ⟨rfl,rfl⟩ ?_;rintro i fr s hle ⟨rfl,hm⟩;by_cases hlt:i<inst.length
 ·obtain ⟨x,hx,hxi,hdr,hget,htk⟩:=ae9 inst i hlt;have d1:(i:Int)<inst.length:=by omega
  have d2:(0:Int)≤i:=by omega
  have w1:=ag4 (i:=i) (by omega);rw[dw3 hdr] at hm;simp only[go_sem,d1,d2,hget,ak2,ak4,w1];refine ac2 fok12 (by7 x (hi x hx)) ?_
  cases hb:am7 x with
  | true=>
   rw[hb,Bool.true_or] at hm;simp only[go_sem,hm]
   exact ab8 _
  | false=>
   rw[hb,Bool.false_or] at hm;simp only[go_sem,w1];exact ⟨hlt,hm⟩
 have hi':i=inst.length:=by omega
 subst hi';have d1:¬ (inst.length:Int)<inst.length:=by omega
 rw[List.drop_length,List.any_nil] at hm;rw[hm,Bool.false_or];simp only[go_sem,d1];refine ac9 noT (fun i fr t=>∃ n:Nat,fr=[(0,aq4 repos),(5,.int .i64 n),(7,.int .i64 i)]∧n≤80∧cx6 repos inst.length=cx6 (repos.drop i) n) repos.length ⟨inst.length,rfl,by omega,rfl⟩ ?_;rintro i fr t hle2 ⟨n,rfl,hn,hm2⟩;by_cases hlt:i<repos.length
 ·obtain ⟨x,hx,hxi,hdr,hget,htk⟩:=ae9 repos i hlt;have d3:(i:Int)<repos.length:=by omega
  have d4:(0:Int)≤i:=by omega
  have w1:=ag4 (i:=i) (by omega);have hxo:=hr x hx
  have w2:IntKind.i64.wrap ((n:Int)+x.packages.length)=((n+x.packages.length:Nat):Int):=by
   have:=hxo.1;rw[wrap64 (by omega) (by omega)]; omega
  rw[hdr,en2] at hm2;by_cases q1:80<n+x.packages.length
  ·have e1:(80:Int)<((n+x.packages.length:Nat):Int):=by omega
   rw[if_pos q1] at hm2;simp only[go_sem,d3,d4,hget,av8,aj7.cs,w2,e1,hm2];exact ab8 _
  have e1:¬ (80:Int)<((n+x.packages.length:Nat):Int):=by omega
  rw[if_neg q1] at hm2;simp only[go_sem,d3,d4,hget,av8,aj7.cs,w2,e1];refine ac9 noT (fun j fr t=>fr=[(0,aq4 repos),(5,.int .i64 (n+x.packages.length:Nat)),(7,.int .i64 i),(8,.int .i64 j)]∧x.packages.any am7=(x.packages.drop j).any am7) x.packages.length ⟨rfl,rfl⟩ ?_;rintro j fr t hlej ⟨rfl,hj⟩;by_cases hjl:j<x.packages.length
  ·obtain ⟨y,hy,hyi,hdr3,hget3,htk3⟩:=ae9 x.packages j hjl;have d5:(j:Int)<x.packages.length:=by omega
   have d6:(0:Int)≤j:=by omega
   have w3:=ag4 (i:=j) (by have:=hxo.1; omega);rw[dw3 hdr3] at hj;simp only[go_sem,d3,d4,d5,d6,hget,hget3,av8,aj7.cs,ak2,ak4,w3];refine ac2 fok12 (by7 y (hxo.2 y hy)) ?_
   cases hb:am7 y with
   | true=>
    rw[hb,Bool.true_or] at hj;rw[if_pos hj] at hm2;simp only[go_sem,hm2]
    exact ab8 _
   | false=>
    rw[hb,Bool.false_or] at hj;simp only[go_sem,w3];exact ⟨hjl,hj⟩
  ·have hj':j=x.packages.length:=by omega
   subst hj';have d5:¬ (x.packages.length:Int)<x.packages.length:=by omega
   rw[List.drop_length,List.any_nil] at hj;rw[if_neg (by rw[hj]; exact Bool.false_ne_true)] at hm2;simp only[go_sem,d3,d4,d5,hget,av8,aj7.cs,w1];exact ⟨hlt,n+x.packages.length,rfl,by omega,hm2⟩
 ·have hi':i=repos.length:=by omega
  subst hi';have d3:¬ (repos.length:Int)<repos.length:=by omega
  rw[List.drop_length] at hm2;simp only[go_sem,d3,hm2,cx6];exact ab8 _
open Go Go.Id Go.Proofs Go.Shelf Go.Id.Md
set_option maxRecDepth 100000
set_option maxHeartbeats 1000000
theorem en3 (repos:List aj7)(inst:List aa3)(hI:ij9 repos inst):PC Tryd.prog EE 3 [aq4 repos,aw4 inst] (.bool true):=by
 refine ht9 hE fok3 (nZ rfl) (bb9 (cf9 repos) (cz4 inst)) ?_;have hwide:=gn9 repos inst (by have:=hI.r1; omega) (by have:=hI.i1; omega) hI.ro hI.po;simp only[ic3];refine ab1 (ab3 ?_);simp only[go_sem];refine ab1 (ab1 (ab3 ?_));simp only[go_sem]
 first|refine ac2 fok4 (hwide) ?_|refine af2 (hwide) ?_
 generalize el8 repos inst=wd at *
 cases wd with
 | true=>
  simp only[go_sem];refine ab3 ?_;simp only[go_sem]
  first|refine ac2 fok5 (cb7) ?_|refine af2 (cb7) ?_
  simp only[go_sem]
  exact ab8 _
 | false=>
 simp only[go_sem]
 first|refine ac2 fok5 (cb7) ?_|refine af2 (cb7) ?_
 simp only[go_sem];refine ab3 ?_;simp only[go_sem];clear hwide;refine ab1 (ab3 ?_);simp only[go_sem];refine ab1 (ab3 ?_);simp only[go_sem];refine ab1 (ab1 (ab3 ?_));simp only[go_sem];refine af3 (an2 (fun i fr s=>∃ iv kv es,fr=[(0,aq4 repos),(1,aw4 inst),(5,iv),(6,kv),(7,.int .i64 i)]∧BI s iv kv es (inst.take i)∧es.map (·.1)=inst.take i) inst.length ⟨.aa1,.aa1,[],rfl,⟨⟨.inl ⟨rfl,rfl⟩,fun e he=>(by cases he),fun e he=>(by cases he)⟩,.inl ⟨rfl,rfl⟩,fun i ⟨_,_,h⟩=>(by cases h),fun i ⟨_,_,h⟩=>(by cases h)⟩,rfl⟩ ?_)
 ·rintro i fr s hle ⟨iv,kv,es,rfl,hb,hes⟩;by_cases hlt:i<inst.length
  ·obtain ⟨a,ha,_,hdr,hget,htk⟩:=ae9 inst i hlt;have c1:(i:Int)<inst.length:=by omega
   have c2:(0:Int)≤i:=by omega
   have w1:=ag4 (i:=i) (by have:=hI.i1; omega);have hfa:=hI.pf a ha;have hel:es.length=i:=by have:=congrArg List.length hes; rw[List.length_map,List.length_take] at this; omega
   refine ab1 (ab1 (ab3 ?_));simp only[go_sem,c1];refine ab3 ?_;simp only[go_sem];refine ab1 (af3 (ab1 (ab3 ?_)));simp only[go_sem,c1,c2,hget,ak2,ak4,ad9];refine ae3 fok6 (dx4 a hfa _) ?_;rintro v s1 ⟨v6,v7,rfl,hk1,⟨g6,l6⟩,g7,l7⟩;refine ⟨hk1.next,?_⟩;have hcl:(cellsE (a,v6,v7)).length=15:=rfl;have hct:(cellsE (a,v6,v7)).take 15=cellsE (a,v6,v7):=rfl
   have hlf:(cellsE (a,v6,v7)).all IV.leaf=true:=by
    have l1:=(av7 g6).1;have l2:=(ad8 g7).1;simp only[cellsE,an6,List.all_cons,l1,l2,List.all_nil,Bool.and_true,Bool.and_self];rfl
   simp only[go_sem,hcl,hct,hlf];obtain ⟨ha1,hb1⟩:=hb.hg9 a v6 v7 s.next (s.next+1) (fun i hi=>hk1.obj i (Nat.lt_succ_of_lt hi)) ⟨Nat.le_refl _,Nat.lt_succ_self _⟩ hk1.next g6 l6 g7 l7 (by have:=hI.i1; omega);rw[ha1];clear ha1;generalize (an4 iv s1).put s.next _=T1 at *;generalize IV.slice s.next 0 (es.length+1) 15=iv1 at *;simp only[go_sem];refine ab3 ?_;simp only[go_sem,c1,c2,hget,ak2,ak4,ad9]
   first|refine ac2 fok6 ((di5 a hfa)) ?_|refine af2 ((di5 a hfa)) ?_
   simp only[go_sem,ak2,ak4,ad9];obtain ⟨ha2,hb3⟩:=hb1.ie4 (t:=⟨T1.next+1,T1.obj⟩) a T1.next (fun _ _=>rfl) (Nat.le_refl _) (Nat.lt_succ_self _) (by rw[List.length_take]; have:=hI.i1; omega);rw[ha2];clear ha2;simp only[go_sem];refine ab3 ?_;simp only[go_sem,w1];refine ⟨hlt,iv1,_,es++[(a,v6,v7)],rfl,?_,?_⟩
   ·rw[htk]; exact hb3
   ·rw[List.map_append,hes,htk]; rfl
  ·have hi:i=inst.length:=by omega
   subst hi;have c1:¬ (inst.length:Int)<inst.length:=by omega
   refine ab1 (ab1 (ab3 ?_));simp only[go_sem,c1];refine ab3 ?_;simp only[go_sem];rw[List.take_length] at hb hes;have hN:=eo3 repos es hI.r1 (by have h1:=congrArg List.length hes; have:=hI.i1; rw[List.length_map] at h1; omega) hI.s1 hI.rf (fun e he=>hI.pf _ (hes▸List.mem_map.2 ⟨e,he,rfl⟩)) s iv hb.inv;rw[hes] at hN;refine ab1 (ab3 ?_);simp only[go_sem];refine ae3 fok7 hN ?_;rintro v s' ⟨rfl,rfl⟩;refine ⟨Nat.le_refl _,?_⟩
   cases hn:bz7 repos inst with
   | inr e=>
    have he:¬ e=0:=by rcases ft8 hn with rfl|rfl<;>decide
    simp only[gr7,go_sem,he];refine ab1 (ab1 (ab3 ?_));simp only[go_sem,he];refine ab3 ?_;simp only[go_sem]
    exact ab8 _
   | inl p=>
   have vcs:p.v.cs=[p.v]:=rfl;have vlf:p.v.leaf=true:=rfl;simp only[gr7,go_sem,vcs,vlf];refine ab1 (ab1 (ab3 ?_));simp only[go_sem];refine ab3 ?_;simp only[go_sem];refine fb8 (S:=fun j=>!isI kv j) (fr':=[(5,iv),(6,aw4 inst),(8,p.v),(60,.bool false)]) (fun k=>?_) ?_
   ·by_cases hk:k=6
    ·subst hk;refine .inr (hb.kr.frz (fun x hx=>?_) (fun id hv=>?_) fun x hx c hc=>?_)
     ·obtain ⟨y,_,rfl⟩:=List.mem_map.1 hx; rfl
     ·rw[hv]; simp[isI]
     ·obtain ⟨y,_,rfl⟩:=List.mem_map.1 hx;exact (bx8 y c hc).weak fun _ h=>absurd h (Nat.not_lt_zero _)
    ·left;have e:(k==6)=false:=by simpa using hk
     simp only[Frm.get,List.lookup,e]
     try rfl
   have hw:WI (Store.kills s' (fun j=>!isI kv j)) iv es :=hb.kills;generalize Store.kills s' _=u at *;clear hb hN;refine ab1 (ab1 (ab3 ?_));simp only[go_sem];refine af3 (an2 (fun i fr s=>fr=[(5,iv),(6,aw4 inst),(8,p.v),(10,.int .i64 i)]∧WI s iv es) es.length ⟨rfl,hw⟩ ?_);have hel:es.length=inst.length:=by rw[← hes,List.length_map]
   rintro i fr s hle ⟨rfl,hw⟩;by_cases hlt:i<es.length
   ·have c1:(i:Int)<es.length:=by omega
    have c2:(0:Int)≤i:=by omega
    have w1:=ag4 (i:=i) (by have:=hI.i1; omega);have hln:=hw.len;obtain ⟨id,cs,rfl,ho,hcl,e6,e7⟩:=hw.at hlt;have d0:i*15+6<cs.length:=by omega
    refine ab1 (ab1 (ab3 ?_));simp only[go_sem,hln,c1];refine ab3 ?_;simp only[go_sem];refine ab1 (af3 (ab1 (ab1 (ab3 ?_))));simp only[go_sem];refine af3 (an2 (fun k fr s=>fr=[(5,.slice id 0 es.length 15),(6,aw4 inst),(8,p.v),(10,.int .i64 i),(11,.int .i64 k)]∧WI s (.slice id 0 es.length 15) es) es[i].1.provides.length ⟨rfl,hw⟩ ?_);clear hw hln ho hcl e6 e7 d0;rintro k fr s hle ⟨rfl,hw⟩;obtain ⟨_,cs,hiv,ho,hcl,e6,e7⟩:=hw.at hlt;cases hiv;have wr:=(hw.ws _ (List.getElem_mem hlt)).1;have hl6:=wr.len;refine ab1 (ab1 (ab3 ?_));simp only[go_sem,c1,c2,ho,Nat.zero_add,Int.toNat_natCast,e6,hl6];by_cases hkl:k<es[i].1.provides.length
    ·obtain ⟨id2,cs2,hv6,ho2,hcl2⟩:=wr.at hkl;have c3:(k:Int)<es[i].1.provides.length:=by omega
     have c4:(0:Int)≤k:=by omega
     have w2:=ag4 (i:=k) (by have:=(hI.pf _ (hes▸List.mem_map.2 ⟨_,List.getElem_mem hlt,rfl⟩)).aw3.1; omega);have nm:eo8 id2 es:=⟨_,List.getElem_mem hlt,.inl ⟨_,_,hv6⟩⟩;have d2:k*5<cs2.length:=by omega
     rw[hv6] at e6;refine ab3 ?_;simp only[go_sem,c3];refine ab1 (af3 (ab3 ?_));simp only[go_sem,c1,c2,c3,c4,ho,Nat.zero_add,Int.toNat_natCast,e6,ho2,d2];refine ⟨by omega,ab3 ?_⟩;simp only[go_sem,w2];exact ⟨hkl,hw.put nm ho2 (ad6 (by simp only[List.length_singleton]; omega))⟩
    have hk:k=es[i].1.provides.length:=by omega
    have c3:¬ (k:Int)<es[i].1.provides.length:=by omega
    refine ab3 ?_;simp only[go_sem,c3];clear wr hl6 hkl hk c3 hle e6 e7 ho hcl;refine ab1 (ab1 (ab3 ?_));simp only[go_sem];refine af3 (an2 (fun k fr s=>fr=[(5,.slice id 0 es.length 15),(6,aw4 inst),(8,p.v),(10,.int .i64 i),(12,.int .i64 k)]∧WI s (.slice id 0 es.length 15) es) es[i].1.requires.length ⟨rfl,hw⟩ ?_);clear hw;rintro k fr s hle ⟨rfl,hw⟩;obtain ⟨_,cs,hiv,ho,hcl,e6,e7⟩:=hw.at hlt;cases hiv;have wr:=(hw.ws _ (List.getElem_mem hlt)).2;have hl7:=wr.len;refine ab1 (ab1 (ab3 ?_));simp only[go_sem,c1,c2,ho,Nat.zero_add,Int.toNat_natCast,e7,hl7];by_cases hkl:k<es[i].1.requires.length
    ·obtain ⟨id2,cs2,hv7,ho2,hcl2⟩:=wr.at hkl;have c3:(k:Int)<es[i].1.requires.length:=by omega
     have c4:(0:Int)≤k:=by omega
     have h9:es[i].1.requires.length<2^31:=((hI.pf _ (hes▸List.mem_map.2 ⟨_,List.getElem_mem hlt,rfl⟩)).au3 (1,es[i].1.requires) (by simp[aa3.rows])).1;have w2:=ag4 (i:=k) (by omega);have nm:eo8 id2 es:=⟨_,List.getElem_mem hlt,.inr ⟨_,_,hv7⟩⟩;have d2:k*7<cs2.length:=by omega
     rw[hv7] at e7;refine ab3 ?_;simp only[go_sem,c3];refine ab1 (af3 (ab3 ?_));simp only[go_sem,c1,c2,c3,c4,ho,Nat.zero_add,Int.toNat_natCast,e7,ho2,d2];refine ⟨by omega,ab3 ?_⟩;simp only[go_sem,w2];exact ⟨hkl,hw.put nm ho2 (ad6 (by simp only[List.length_singleton]; omega))⟩
    have hk:k=es[i].1.requires.length:=by omega
    have c3:¬ (k:Int)<es[i].1.requires.length:=by omega
    have d3:i*15<cs.length:=by omega
    refine ab3 ?_;simp only[go_sem,c3];refine ab3 ?_;simp only[go_sem,c1,c2,ho,Nat.zero_add,Int.toNat_natCast,d3];refine ⟨by omega,ab3 ?_⟩;simp only[go_sem,w1];exact ⟨hlt,hw.iq4 ho hlt _⟩
   have hi:i=es.length:=by omega
   have c1:¬ (i:Int)<es.length:=by omega
   have hln:=hw.len;refine ab1 (ab1 (ab3 ?_));simp only[go_sem,hln,c1];refine ab3 ?_;simp only[go_sem];clear hw hln c1 hi hlt hle hel;refine ab1 (ab1 (ab3 ?_));simp only[go_sem];refine af3 (an2 (fun r fr s=>fr=[(6,aw4 inst),(8,p.v),(13,.int .i64 r)]) 2 rfl ?_);rintro r fr s hle rfl;by_cases hr2:r<2
   case neg=>
    have c1:¬ (r:Int)<2:=by omega
    refine ab1 (ab1 (ab3 ?_));simp only[go_sem,c1];refine ab3 ?_;simp only[go_sem];refine ab1 (ab3 ?_);simp only[go_sem];refine ab3 ?_;simp only[go_sem];exact ab8 _
   have c0:(r:Int)<2:=by omega
   have w0:=ag4 (i:=r) (by omega);refine ab1 (ab1 (ab3 ?_));simp only[go_sem,c0];refine ab3 ?_;simp only[go_sem];refine ab1 (af3 (ab1 (ab1 (ab3 ?_))));simp only[go_sem];refine af3 (an2 (fun i fr s=>fr=[(6,aw4 inst),(8,p.v),(13,.int .i64 r),(14,.int .i64 i)]) inst.length rfl ?_);clear hle;rintro i fr s hle rfl;by_cases hlt:i<inst.length
   ·obtain ⟨q,hq,hqi,hdr,hget,htk⟩:=ae9 inst i hlt;have c1:(i:Int)<inst.length:=by omega
    have c2:(0:Int)≤i:=by omega
    have w1:=ag4 (i:=i) (by have:=hI.i1; omega);have hqf:=hI.pf q hq;have hpk:=dh2 hn
    obtain ⟨hir,hiq⟩:∃ h:i<p.rows.length,p.rows[i].pkg=q:=by
     have h1:(at6 p)[i]? = some q:=by rw[hpk,List.getElem?_append_left hlt]; exact hqi
     rw[at6,List.getElem?_map] at h1
     cases h2:p.rows[i]? with
     | none=>rw[h2] at h1; cases h1
     | some r=>
      obtain ⟨h3,h4⟩:=List.getElem?_eq_some_iff.1 h2;rw[h2] at h1;exact ⟨h3,by rw[h4]; exact Option.some.inj h1⟩
    have hpo:=fun σ=>cz8 p i hir (hiq▸hqf) σ
    rw[hiq] at hpo;refine ab1 (ab1 (ab3 ?_));simp only[go_sem,ak2,c1];refine ab3 ?_;simp only[go_sem];refine ab1 (af3 (ab1 (ab3 ?_)));simp only[go_sem];refine ae3 fok8 (hpo _) ?_;rintro v s1 ⟨v6,v7,v8,v9,v10,v11,v12,v13,v14,rfl,hn1,h9⟩;refine ⟨hn1,?_⟩;have hlf:=h9.leaf;have hcl:(an6 q v6 v7 v8 v9 v10 v11 v12 v13 v14).length=15:=rfl;have hct:(an6 q v6 v7 v8 v9 v10 v11 v12 v13 v14).take 15=an6 q v6 v7 v8 v9 v10 v11 v12 v13 v14:=rfl;simp only[go_sem,hlf,hcl,hct];generalize hT:Store.put (Store.put s1 s.next _) s.next _=T;have hbx:T.obj s.next=some (.cells (an6 q v6 v7 v8 v9 v10 v11 v12 v13 v14)):=by rw[← hT]; simp only[aa2,if_true]
    have nT:T.next=s1.next:=by rw[← hT]; rfl
    have h9:=h9.mono (t:=T) (lo':=s.next+1) (Nat.le_of_eq nT.symm) (fun j hj=>by
     have hj:s.next+1≤j:=hj;have e:¬ j=s.next:=by omega
     rw[← hT]; simp only[aa2,e,if_false]) (Nat.le_refl _)
    clear hT
    have hsm:∀ s,bm9 s 0 (.agg (an6 q v6 v7 v8 v9 v10 v11 v12 v13 v14)) (.agg q.cs)→C Tryd.prog EE 9 [.agg (an6 q v6 v7 v8 v9 v10 v11 v12 v13 v14),.agg q.cs] s (gb6 (.bool true) s):=fun s hf=>by
     have h:=eo2 q q hqf hqf;rw[dg7] at h;refine cw3 (args':=[.agg q.cs,.agg q.cs]) hE rfl (fun i hi=>?_) (by simp[IV.plain]) h
     match i,hi with
     | 0,_=>exact hf
     | 1,_=>exact .keep _ (cb5 q)
    refine ab1 (ab1 (ab3 ?_));simp only[go_sem,hbx,hlf,hcl,hct,c1,c2,hget,ak2,ak4,ad9];have h9:=h9.mono (t:=⟨T.next+11,T.obj⟩) (lo':=s.next+1) (Nat.le_add_right _ _) (fun _ _=>rfl) (Nat.le_refl _);refine ae3 fok9 (hsm _ h9.frz) ?_;rintro v s2 ⟨rfl,rfl⟩;refine ⟨Nat.le_refl _,?_⟩;simp only[go_sem];refine ab3 ?_;simp only[go_sem];have hB:BX ⟨T.next+11,T.obj⟩ s.next q (an6 q v6 v7 v8 v9 v10 v11 v12 v13 v14) v6 v7 v14:=⟨hbx,dw2 h9.g6.1 (fun _=>rfl),dw2 h9.g7.1 (fun x=>ac1 x),dw2 h9.g14.1 (fun _=>rfl)⟩;clear hsm h9 hbx;generalize Store.mk _ T.obj=T2 at *;have e6:((an6 q v6 v7 v8 v9 v10 v11 v12 v13 v14).drop 6).head? = some v6:=rfl;have e7:((an6 q v6 v7 v8 v9 v10 v11 v12 v13 v14).drop 7).head? = some v7:=rfl;have e14:((an6 q v6 v7 v8 v9 v10 v11 v12 v13 v14).drop 14).head? = some v14:=rfl;generalize an6 q v6 v7 v8 v9 v10 v11 v12 v13 v14=bc at *;refine ab1 (ab1 (ab3 ?_));simp only[go_sem];refine af3 (an2 (fun k fr t=>fr=[(6,aw4 inst),(8,p.v),(13,.int .i64 r),(14,.int .i64 i),(15,.ptr s.next 0),(17,.int .i64 k)]∧BX t s.next q bc v6 v7 v14) q.provides.length ⟨rfl,hB⟩ ?_);clear hB;rintro k fr t hle ⟨rfl,hB⟩;have hbo:=hB.box;have hl6:=hB.w6.len;refine ab1 (ab1 (ab3 ?_));simp only[go_sem,hbo,e6,hl6];by_cases hkl:k<q.provides.length
    ·obtain ⟨id2,cs2,hv6,ho2,hcl2⟩:=hB.w6.at hkl;have c3:(k:Int)<q.provides.length:=by omega
     have c4:(0:Int)≤k:=by omega
     have w2:=ag4 (i:=k) (by have:=hqf.aw3.1; omega);have d2:k*5<cs2.length:=by omega
     rw[hv6] at e6;refine ab3 ?_;simp only[go_sem,c3];refine ab1 (af3 (ab3 ?_));simp only[go_sem,hbo,c3,c4,Nat.zero_add,Int.toNat_natCast,e6,ho2,d2];refine ⟨by omega,ab3 ?_⟩;simp only[go_sem,w2];exact ⟨hkl,hB.put ho2 (ad6 (by simp only[List.length_singleton]; omega))⟩
    have hk:k=q.provides.length:=by omega
    have c3:¬ (k:Int)<q.provides.length:=by omega
    refine ab3 ?_;simp only[go_sem,c3];clear hl6 hkl hk c3 hle hbo;refine ab1 (ab1 (ab3 ?_));simp only[go_sem];refine af3 (an2 (fun k fr t=>fr=[(6,aw4 inst),(8,p.v),(13,.int .i64 r),(14,.int .i64 i),(15,.ptr s.next 0),(18,.int .i64 k)]∧BX t s.next q bc v6 v7 v14) q.requires.length ⟨rfl,hB⟩ ?_);clear hB;rintro k fr t hle ⟨rfl,hB⟩;have hbo:=hB.box;have hl7:=hB.w7.len;refine ab1 (ab1 (ab3 ?_));simp only[go_sem,hbo,e7,hl7];by_cases hkl:k<q.requires.length
    ·obtain ⟨id2,cs2,hv7,ho2,hcl2⟩:=hB.w7.at hkl;have c3:(k:Int)<q.requires.length:=by omega
     have c4:(0:Int)≤k:=by omega
     have h8:q.requires.length<2^31:=(hqf.au3 (1,q.requires) (by simp[aa3.rows])).1;have w2:=ag4 (i:=k) (by omega);have d2:k*7<cs2.length:=by omega
     rw[hv7] at e7;refine ab3 ?_;simp only[go_sem,c3];refine ab1 (af3 (ab3 ?_));simp only[go_sem,hbo,c3,c4,Nat.zero_add,Int.toNat_natCast,e7,ho2,d2];refine ⟨by omega,ab3 ?_⟩;simp only[go_sem,w2];exact ⟨hkl,hB.put ho2 (ad6 (by simp only[List.length_singleton]; omega))⟩
    have hk:k=q.requires.length:=by omega
    have c3:¬ (k:Int)<q.requires.length:=by omega
    refine ab3 ?_;simp only[go_sem,c3];clear hl7 hkl hk c3 hle hbo;refine ab1 (ab1 (ab3 ?_));simp only[go_sem];refine af3 (an2 (fun k fr t=>fr=[(6,aw4 inst),(8,p.v),(13,.int .i64 r),(14,.int .i64 i),(15,.ptr s.next 0),(19,.int .i64 k)]∧BX t s.next q bc v6 v7 v14) q.files.length ⟨rfl,hB⟩ ?_);clear hB;rintro k fr t hle ⟨rfl,hB⟩;have hbo:=hB.box;have hl14:=hB.w14.len;refine ab1 (ab1 (ab3 ?_));simp only[go_sem,hbo,e14,hl14];by_cases hkl:k<q.files.length
    ·obtain ⟨id2,cs2,hv14,ho2,hcl2⟩:=hB.w14.at hkl;have c3:(k:Int)<q.files.length:=by omega
     have c4:(0:Int)≤k:=by omega
     have w2:=ag4 (i:=k) (by have:=hqf.files.1; omega);have d2:k*1<cs2.length:=by omega
     rw[hv14] at e14;refine ab3 ?_;simp only[go_sem,c3];refine ab1 (af3 (ab3 ?_));simp only[go_sem,hbo,c3,c4,Nat.zero_add,Int.toNat_natCast,e14,ho2,d2];refine ⟨by omega,ab3 ?_⟩;simp only[go_sem,w2];exact ⟨hkl,hB.put ho2 (ad6 (by simp only[List.length_singleton]; omega))⟩
    have hk:k=q.files.length:=by omega
    have c3:¬ (k:Int)<q.files.length:=by omega
    refine ab3 ?_;simp only[go_sem,c3];clear hl14 hkl hk c3 hle hbo hB;have hnm:=fd9 hn;have hlk:af7 p.nm q.name=numsOf (fun x=>decide (x.name=q.name)) (at6 p):=hnm.look q.name;have hnl:=em1 (fun x=>decide (x.name=q.name)) (at6 p);have hpl:=dv6 hn;have hpl2:(at6 p).length=p.rows.length:=by simp[at6]
    obtain ⟨z,zs,hz,hz0⟩:∃ z zs,af7 p.nm q.name=z::zs∧(0:Int)≤z:=by
     have hmem:(i:Int)∈numsOf (fun x=>decide (x.name=q.name)) (at6 p):=bx2.2 ⟨i,rfl,by rw[hpl2]; exact hir,by
      have:(at6 p).getD i default=q:=by rw[List.getD_eq_getElem?_getD,hpk,List.getElem?_append_left hlt,hqi]; rfl
      rw[this]; simp⟩
     rw[hlk]
     cases hl:numsOf (fun x=>decide (x.name=q.name)) (at6 p) with
     | nil=>rw[hl] at hmem; cases hmem
     | cons z zs=>
      obtain ⟨m,hm,_⟩:=bx2.1 (hl▸List.mem_cons_self ..:z∈numsOf (fun x=>decide (x.name=q.name)) (at6 p));exact ⟨z,zs,rfl,by omega⟩
    have hno:=fun σ=>dp6 p q.name (by rw[hz]; simp) (by rw[hlk]; omega) σ
    rw[hz] at hno;have hqn:q.cs.head? = some (.str q.name):=rfl;refine ab1 (ab3 ?_);simp only[go_sem,c1,c2,hget,ak2,hqn];refine ae3 fok10 (hno _) ?_;rintro v t2 ⟨hn2,hg⟩;refine ⟨hn2,?_⟩;rcases hg with ⟨_,h0⟩|⟨id,rfl,ho,_⟩
    ·cases h0
    have ho:t2.obj id=some (.row (.int .i64 z::(zs.map Md.ar1).flatten)):=ho;have hzn:((z::zs).map Md.ar1).length=zs.length+1:=by simp
    rw[hzn];have z1:¬ ((zs.length+1:Nat):Int)=0:=by omega
    have z2:(0:Int)<((zs.length+1:Nat):Int):=by omega
    have z3:¬ z<0:=by omega
    simp only[go_sem];refine ab1 (ab1 (ab3 ?_));simp only[go_sem,z1,z2,z3,ho];refine ab3 ?_;simp only[go_sem];refine ab3 ?_;simp only[go_sem,z2,ho];refine ab3 ?_;simp only[go_sem,w1];exact hlt
   have hi:i=inst.length:=by omega
   subst hi;have c1:¬ (inst.length:Int)<inst.length:=by omega
   refine ab1 (ab1 (ab3 ?_));simp only[go_sem,c1];refine ab3 ?_;simp only[go_sem];have hnm:=fd9 hn;have hpl:=dv6 hn;refine ab1 (ab3 ?_);simp only[go_sem];refine ae3 fok11 (dp7 p (by have h1:=hnm.len; rw[List.length_map] at h1; omega) _) ?_;rintro v t2 ⟨hn2,l,hg,hll⟩;refine ⟨hn2,?_⟩;have hw:=dw2 hg (fun _=>rfl);have hvl:=ad8 hg;clear hg;simp only[go_sem,hvl.1,hvl.2];refine ab1 (ab3 ?_);simp only[go_sem];refine af3 (an2 (fun k fr t=>fr=[(6,aw4 inst),(8,p.v),(13,.int .i64 r),(21,v),(22,.int .i64 k)]∧WR t 1 v l.length) l.length ⟨rfl,hw⟩ ?_);clear hw;rintro k fr t hle ⟨rfl,hw⟩;have hl0:=hw.len;refine ab1 (ab1 (ab3 ?_));simp only[go_sem,hl0];by_cases hkl:k<l.length
   ·obtain ⟨id2,cs2,rfl,ho2,hcl2⟩:=hw.at hkl;have c3:(k:Int)<l.length:=by omega
    have c4:(0:Int)≤k:=by omega
    have w2:=ag4 (i:=k) (by have h1:=hnm.len; rw[List.length_map] at h1; omega);have d2:k*1<cs2.length:=by omega
    refine ab3 ?_;simp only[go_sem,c3];refine ab1 (af3 (ab3 ?_));simp only[go_sem,c3,c4,Nat.zero_add,Int.toNat_natCast,ho2,d2];refine ⟨by omega,ab3 ?_⟩;simp only[go_sem,w2];exact ⟨hkl,hw.put ho2 (ad6 (by simp only[List.length_singleton]; omega))⟩
   have c3:¬ (k:Int)<l.length:=by omega
   refine ab3 ?_;simp only[go_sem,c3];refine ab3 ?_;simp only[go_sem,w0];exact hr2
end Go.Id.Tryd
set_option linter.all false
namespace Go.Id.Tryd
open Go Go.Id Go.Proofs Go.Id.Md
set_option maxRecDepth 100000
def mP (name:Str)(aw3 obs:List Dep)(files:List Str):aa3:={ name:=name,evr:=⟨0,[49],[49]⟩,dg5:=1,vendor:=[],provides:=aw3,requires:=[],conflicts:=[],ab9:=obs,aa7:=[],aa5:=[],suggests:=[],ab2:=[],files:=files }
def dP (name:Str)(op:Int)(ver:Str):Dep:=⟨name,op,⟨0,ver,[]⟩⟩
def cP (name:Str)(aw3 obs files:IV):List IV:=[.str name,.int .i64 0,.str [49],.str [49],.int .u8 1,.str [],aw3,.aa1,.aa1,obs,.aa1,.aa1,.aa1,.aa1,files]
def mA:aa3:=mP [97] [] [] []
def mB:aa3:=mP [98] [dP [97] 2 [50]] [dP [97] 1 [50]] []
def mC:aa3:=mP [99] [] [] [[47,102]]
def mT:aa3:=mP [97] [dP [97] 2 [51],dP [97] 2 [52],dP [97] 0 []] [dP [97] 0 [],dP [98] 0 [],dP [98] 1 [57]] []
def mD:aa3:=mP [98] [] [] []
def cA:List IV:=cP [97] .aa1 .aa1 .aa1
def cB:List IV:=cP [98] (deps [dP [97] 2 [50]]) (deps [dP [97] 1 [50]]) .aa1
def cC:List IV:=cP [99] .aa1 .aa1 (strs [[47,102]])
def cT:List IV:=cP [97] (deps [dP [97] 2 [51],dP [97] 2 [52],dP [97] 0 []]) (deps [dP [97] 0 [],dP [98] 0 [],dP [98] 1 [57]]) .aa1
def cD:List IV:=cP [98] .aa1 .aa1 .aa1
theorem hl8 {name:Str}{aw3 obs:List Dep}{files:List Str}(h1:name.length<100)(h2:aw3.length<100)(h3:obs.length<100)(h4:files.length<100)(h5:(aw3++obs).all (fun d=>decide (d.name.length<100)&&decide (d.evr.ver.length<100)&&decide (d.evr.rel.length<100))=true)(h6:files.all (fun s=>decide (s.length<100))=true):(mP name aw3 obs files).Fit:=by
 have hd:∀ d∈aw3++obs,d.fit:=fun d hd=>by
  have:=List.all_eq_true.1 h5 d hd;simp only[Bool.and_eq_true,decide_eq_true_eq] at this;exact ⟨by omega,by show d.evr.ver.length<_; omega,by show d.evr.rel.length<_; omega⟩
 refine ⟨by show name.length<_; omega,⟨by show ([49]:Str).length<2^62; decide,by show ([49]:Str).length<2^62; decide⟩,⟨by show aw3.length<_; omega,fun d h=>hd d (List.mem_append_left _ h)⟩,⟨by show obs.length<_; omega,fun d h=>hd d (List.mem_append_right _ h)⟩,⟨by show files.length<_; omega,fun s h=>by have:=List.all_eq_true.1 h6 s h; simp only[decide_eq_true_eq] at this; omega⟩,fun x hx=>?_⟩;simp only[aa3.rows,mP,List.mem_cons,List.not_mem_nil,or_false] at hx;rcases hx with rfl|rfl|rfl|rfl|rfl|rfl<;>exact ⟨by decide,fun r h=>by cases h⟩
theorem cz9:∀ p∈[mA,mB,mC,mT,mD],p.Fit:=by
 intro p hp;simp only[List.mem_cons,List.not_mem_nil,or_false] at hp;rcases hp with rfl|rfl|rfl|rfl|rfl<;>exact hl8 (by decide) (by decide) (by decide) (by decide) (by decide) (by decide)
def p1M:Pool:=⟨rowsOf [mA,mB,mC] (-1) 1025,3,[([97],[0]),([98],[1]),([99],[2])]⟩
def p2M:Pool:=⟨rowsOf [mB,mC] (-1) 1025++rowsOf [mA] 0 0++rowsOf [mT,mD] 1 0,2,[([98],[0,4]),([99],[1]),([97],[2,3])]⟩
theorem iq6:gr7 (bz7 [] [mA,mB,mC])=.tuple [p1M.v,.int .i64 0]:=by kernel_rfl
theorem iq7:gr7 (bz7 [⟨0,[mA]⟩,⟨0,[mT,mD]⟩] [mB,mC])=.tuple [p2M.v,.int .i64 0]:=by kernel_rfl
def a1:List IV:=[.aa1,.aa4 [cA,cB,cC]]
def a2:List IV:=[.aa4 [[.int .i64 0,.aa4 [cA]],[.int .i64 0,.aa4 [cT,cD]]],.aa4 [cB,cC]]
theorem e1:PC Tryd.prog EE 7 a1 (.tuple [p1M.v,.int .i64 0]):=by
 rw[← iq6];refine hc7 (args':=[aq4 [],aw4 [mA,mB,mC]]) (by kernel_rfl) (cs8 [] [mA,mB,mC] (by decide) (by decide) (by decide) (fun r h=>by cases h) fun p hp=>cz9 p ?_);simp only[List.mem_cons,List.not_mem_nil,or_false] at hp ⊢;rcases hp with h|h|h<;>simp[h]
theorem e2:PC Tryd.prog EE 7 a2 (.tuple [p2M.v,.int .i64 0]):=by
 rw[← iq7];refine hc7 (args':=[aq4 [⟨0,[mA]⟩,⟨0,[mT,mD]⟩],aw4 [mB,mC]]) (by kernel_rfl) (cs8 _ _ (by decide) (by decide) (by decide) (fun r hr=>?_) fun p hp=>cz9 p ?_)
 ·simp only[List.mem_cons,List.not_mem_nil,or_false] at hr;rcases hr with rfl|rfl
  ·exact ⟨by decide,fun p hp=>cz9 p (by simp only[List.mem_cons,List.not_mem_nil,or_false] at hp ⊢; simp[hp])⟩
  ·exact ⟨by decide,fun p hp=>cz9 p (by simp only[List.mem_cons,List.not_mem_nil,or_false] at hp ⊢; rcases hp with h|h<;>simp[h])⟩
 ·simp only[List.mem_cons,List.not_mem_nil,or_false] at hp ⊢;rcases hp with h|h<;>simp[h]
end Go.Id.Tryd
set_option linter.all false
namespace Go.Id.Tryd
open Go Go.Id Go.Proofs Go.Id.Md
set_option maxRecDepth 100000
variable {H:Type} {enc:TypeId×Value→H} {w:World} {base:Nat} {sp:Nat→Bool} {held:Bool}
abbrev Rd (enc:TypeId×Value→H)(w:World)(base:Nat)(sp:Nat→Bool)(held:Bool):=Rdg enc Tryd.prog w base sp held
theorem gd8 {n:Nat}{d:DataW H}(h:Rd enc w base sp held n 27 d)(hw:WT Tryd.prog 27 d):∃ e:EVR,e.fit∧∀ m,n≤m→dv Tryd.prog m 27 d=some e.cs:=by
 obtain ⟨n',ds,rfl,rfl,hl,hf⟩:=bb4 Tryd.underlying27 h hw
 match ds,hl with
 | [d0,d1,d2],_=>
  obtain ⟨r0,w0⟩:=hf 0 _ d0 rfl rfl;obtain ⟨r1,w1⟩:=hf 1 _ d1 rfl rfl;obtain ⟨r2,w2⟩:=hf 2 _ d2 rfl rfl;obtain ⟨z,_,_,e0⟩:=dg4 Tryd.underlying3 r0;obtain ⟨s1,l1,e1⟩:=cr4 Tryd.underlying9 r1 w1;obtain ⟨s2,l2,e2⟩:=cr4 Tryd.underlying9 r2 w2;refine ⟨⟨z,s1,s2⟩,⟨l1,l2⟩,fun m hm=>?_⟩
  cases m with
  | zero=>omega
  | succ m=>
   have c3:Tryd.prog.cellsOf 3=1:=by kernel_rfl
   have c9:Tryd.prog.cellsOf 9=1:=by kernel_rfl
   have ct:Tryd.prog.cellsOf 27=3:=by kernel_rfl
   simp only[dv,Tryd.underlying27,List.map_cons,List.map_nil,dvF,e0 m (by omega),e1 m (by omega),e2 m (by omega),List.length_cons,List.length_nil,c3,c9,ct,List.cons_append,List.nil_append,List.append_nil,Nat.reduceAdd,↓reduceIte];rfl
theorem if1 {z:Int}(h:(Lit.int .u8 z).wf=true):0≤z∧z<256:=by
 simp only[Lit.wf,Bool.and_eq_true,decide_eq_true_eq] at h;have e1:IntKind.u8.min=0:=rfl;have e2:IntKind.u8.max=255:=rfl;omega
theorem if2:Tryd.prog.cellsOf 3=1:=by kernel_rfl
theorem if3:Tryd.prog.cellsOf 5=1:=by kernel_rfl
theorem gp4:Tryd.prog.cellsOf 9=1:=by kernel_rfl
theorem hj8:Tryd.prog.cellsOf 27=3:=by kernel_rfl
theorem gp5:Tryd.prog.cellsOf 39=5:=by kernel_rfl
theorem fh9:Tryd.prog.cellsOf 41=7:=by kernel_rfl
theorem hj9:Tryd.prog.cellsOf 32=15:=by kernel_rfl
theorem gd9:Tryd.prog.cellsOf 50=2:=by kernel_rfl
theorem hk6:Tryd.prog.cellsOf 28=1:=by kernel_rfl
theorem dx5:Tryd.prog.cellsOf 29=1:=by kernel_rfl
theorem hk7:Tryd.prog.cellsOf 30=1:=by kernel_rfl
theorem hk8:Tryd.prog.cellsOf 23=1:=by kernel_rfl
theorem ge1 {n:Nat}{d:DataW H}(h:Rd enc w base sp held n 39 d)(hw:WT Tryd.prog 39 d):∃ e:Dep,e.fit∧∀ m,n≤m→dv Tryd.prog m 39 d=some e.cs:=by
 obtain ⟨n',ds,rfl,rfl,hl,hf⟩:=bb4 Tryd.underlying39 h hw
 match ds,hl with
 | [d0,d1,d2],_=>
  obtain ⟨r0,w0⟩:=hf 0 _ d0 rfl rfl;obtain ⟨r1,w1⟩:=hf 1 _ d1 rfl rfl;obtain ⟨r2,w2⟩:=hf 2 _ d2 rfl rfl;obtain ⟨s0,l0,e0⟩:=cr4 Tryd.underlying9 r0 w0;obtain ⟨z,_,_,e1⟩:=dg4 Tryd.underlying5 r1;obtain ⟨e,l2,e2⟩:=gd8 r2 w2;refine ⟨⟨s0,z,e⟩,⟨l0,l2⟩,fun m hm=>?_⟩
  cases m with
  | zero=>omega
  | succ m=>
   simp only[dv,Tryd.underlying39,List.map_cons,List.map_nil,dvF,e0 m (by omega),e1 m (by omega),e2 m (by omega),EVR.cs,List.length_cons,List.length_nil,gp4,if3,hj8,gp5,List.cons_append,List.nil_append,List.append_nil,Nat.reduceAdd,↓reduceIte];rfl
theorem gp6:∀ (n:Nat) (d:DataW H),Rd enc w base sp held n 41 d→WT Tryd.prog 41 d→∃ r:aa8,r.ok∧∀ m,n≤m→dv Tryd.prog m 41 d=some r.cs:=by
 intro n
 induction n using Nat.strongRecOn with
 | ind n ih=>
  intro d h hw;obtain ⟨n',ds,rfl,rfl,hl,hf⟩:=bb4 Tryd.underlying41 h hw
  match ds,hl with
  | [d0,d1,d2],_=>
   obtain ⟨r0,w0⟩:=hf 0 _ d0 rfl rfl;obtain ⟨r1,w1⟩:=hf 1 _ d1 rfl rfl;obtain ⟨r2,w2⟩:=hf 2 _ d2 rfl rfl;obtain ⟨z,_,hz,e0⟩:=dg4 Tryd.underlying5 r0;obtain ⟨e,l1,e1⟩:=ge1 r1 w1;obtain ⟨l,k1,k2,e2⟩:=bf9 aa8.cs aa8.ok Tryd.underlying29 fh9 (by decide) (by decide +kernel) (fun r=>by rw[aa8.aq1]; rfl) (fun m d' hm hr hw'=>ih m (by omega) d' hr hw') r2 w2;have hz':=if1 hz;refine ⟨.mk z e l,aa8.fe3.2 ⟨hz'.1,hz'.2,l1,k1,k2⟩,fun m hm=>?_⟩
   cases m with
   | zero=>omega
   | succ m=>
    simp only[dv,Tryd.underlying41,List.map_cons,List.map_nil,dvF,e0 m (by omega),e1 m (by omega),e2 m (by omega),Dep.cs,List.length_cons,List.length_nil,dx5,if3,gp5,fh9,List.cons_append,List.nil_append,List.append_nil,Nat.reduceAdd,↓reduceIte];rw[aa8.aq1];rfl
theorem fi1 {n:Nat}{d:DataW H}(h:Rd enc w base sp held n 28 d)(hw:WT Tryd.prog 28 d):∃ l:List Dep,l.length<2^62∧(∀ a∈l,a.fit)∧∀ m,n≤m→dv Tryd.prog m 28 d=some [deps l]:=
 bf9 Dep.cs Dep.fit Tryd.underlying28 gp5 (by decide) (by decide +kernel) (fun _=>rfl) (fun _ _ _ hr hw'=>ge1 hr hw') h hw
theorem ay2 {n:Nat}{d:DataW H}(h:Rd enc w base sp held n 29 d)(hw:WT Tryd.prog 29 d):∃ l:List aa8,l.length<2^62∧(∀ a∈l,a.ok)∧∀ m,n≤m→dv Tryd.prog m 29 d=some [ab7 l]:=
 bf9 aa8.cs aa8.ok Tryd.underlying29 fh9 (by decide) (by decide +kernel) (fun r=>by rw[aa8.aq1]; rfl) (fun m d' _ hr hw'=>gp6 m d' hr hw') h hw
theorem gp7 {n:Nat}{d:DataW H}(h:Rd enc w base sp held n 30 d)(hw:WT Tryd.prog 30 d):∃ l:List Str,l.length<2^62∧(∀ a∈l,a.length<2^62)∧∀ m,n≤m→dv Tryd.prog m 30 d=some [strs l]:=
 bf9 ap4 (fun s:Str=>s.length<2^62) Tryd.underlying30 gp4 (by decide) (by decide +kernel) (fun _=>rfl) (fun _ _ _ hr hw'=>cr4 Tryd.underlying9 hr hw') h hw
theorem hk9 {n:Nat}{d:DataW H}(h:Rd enc w base sp held n 32 d)(hw:WT Tryd.prog 32 d):∃ p:aa3,p.Ok∧∀ m,n≤m→dv Tryd.prog m 32 d=some p.cs:=by
 obtain ⟨n',ds,rfl,rfl,hl,hf⟩:=bb4 Tryd.underlying32 h hw
 match ds,hl with
 | [d0,d1,d2,d3,d4,d5,d6,d7,d8,d9,d10,d11,d12],_=>
  obtain ⟨r0,w0⟩:=hf 0 _ d0 rfl rfl;obtain ⟨r1,w1⟩:=hf 1 _ d1 rfl rfl;obtain ⟨r2,w2⟩:=hf 2 _ d2 rfl rfl;obtain ⟨r3,w3⟩:=hf 3 _ d3 rfl rfl;obtain ⟨r4,w4⟩:=hf 4 _ d4 rfl rfl;obtain ⟨r5,w5⟩:=hf 5 _ d5 rfl rfl;obtain ⟨r6,w6⟩:=hf 6 _ d6 rfl rfl;obtain ⟨r7,w7⟩:=hf 7 _ d7 rfl rfl;obtain ⟨r8,w8⟩:=hf 8 _ d8 rfl rfl;obtain ⟨r9,w9⟩:=hf 9 _ d9 rfl rfl;obtain ⟨r10,w10⟩:=hf 10 _ d10 rfl rfl;obtain ⟨r11,w11⟩:=hf 11 _ d11 rfl rfl;obtain ⟨r12,w12⟩:=hf 12 _ d12 rfl rfl;obtain ⟨x0,l0,e0⟩:=cr4 Tryd.underlying9 r0 w0;obtain ⟨x1,l1,e1⟩:=gd8 r1 w1;obtain ⟨x2,_,_,e2⟩:=dg4 Tryd.underlying5 r2;obtain ⟨x3,l3,e3⟩:=cr4 Tryd.underlying9 r3 w3;obtain ⟨x4,l4,k4,e4⟩:=fi1 r4 w4;obtain ⟨x5,l5,k5,e5⟩:=ay2 r5 w5;obtain ⟨x6,l6,k6,e6⟩:=ay2 r6 w6;obtain ⟨x7,l7,k7,e7⟩:=fi1 r7 w7;obtain ⟨x8,l8,k8,e8⟩:=ay2 r8 w8;obtain ⟨x9,l9,k9,e9⟩:=ay2 r9 w9;obtain ⟨x10,l10,k10,e10⟩:=ay2 r10 w10;obtain ⟨x11,l11,k11,e11⟩:=ay2 r11 w11;obtain ⟨x12,l12,k12,e12⟩:=gp7 r12 w12;refine ⟨⟨x0,x1,x2,x3,x4,x5,x6,x7,x8,x9,x10,x11,x12⟩,⟨l0,l3,l1,⟨l4,k4⟩,⟨l7,k7⟩,⟨l12,k12⟩,?_⟩,fun m hm=>?_⟩
  ·intro x hx;simp only[aa3.rows,List.mem_cons,List.not_mem_nil,or_false] at hx;rcases hx with rfl|rfl|rfl|rfl|rfl|rfl
   ·exact ⟨l5,k5⟩
   ·exact ⟨l6,k6⟩
   ·exact ⟨l8,k8⟩
   ·exact ⟨l9,k9⟩
   ·exact ⟨l10,k10⟩
   ·exact ⟨l11,k11⟩
  cases m with
  | zero=>omega
  | succ m=>
   simp only[dv,Tryd.underlying32,List.map_cons,List.map_nil,dvF,e0 m (by omega),e1 m (by omega),e2 m (by omega),e3 m (by omega),e4 m (by omega),e5 m (by omega),e6 m (by omega),e7 m (by omega),e8 m (by omega),e9 m (by omega),e10 m (by omega),e11 m (by omega),e12 m (by omega),EVR.cs,List.length_cons,List.length_nil,gp4,if3,hj8,hk6,dx5,hk7,hj9,List.cons_append,List.nil_append,List.append_nil,Nat.reduceAdd,↓reduceIte];rfl
theorem fi2 {n:Nat}{d:DataW H}(h:Rd enc w base sp held n 23 d)(hw:WT Tryd.prog 23 d):∃ l:List aa3,l.length<2^62∧(∀ a∈l,a.Ok)∧∀ m,n≤m→dv Tryd.prog m 23 d=some [.aa4 (l.map aa3.cs)]:=
 bf9 aa3.cs aa3.Ok Tryd.underlying23 hj9 (by decide) (by decide +kernel) (fun _=>rfl) (fun _ _ _ hr hw'=>hk9 hr hw') h hw
theorem gp8 {n:Nat}{d:DataW H}(h:Rd enc w base sp held n 50 d)(hw:WT Tryd.prog 50 d):∃ r:aj7,aj7.Ok r∧∀ m,n≤m→dv Tryd.prog m 50 d=some r.cs:=by
 obtain ⟨n',ds,rfl,rfl,hl,hf⟩:=bb4 Tryd.underlying50 h hw
 match ds,hl with
 | [d0,d1],_=>
  obtain ⟨r0,w0⟩:=hf 0 _ d0 rfl rfl;obtain ⟨r1,w1⟩:=hf 1 _ d1 rfl rfl;obtain ⟨z,_,_,e0⟩:=dg4 Tryd.underlying3 r0;obtain ⟨l,k1,k2,e1⟩:=fi2 r1 w1;refine ⟨⟨z,l⟩,⟨k1,k2⟩,fun m hm=>?_⟩
  cases m with
  | zero=>omega
  | succ m=>
   simp only[dv,Tryd.underlying50,List.map_cons,List.map_nil,dvF,e0 m (by omega),e1 m (by omega),List.length_cons,List.length_nil,if2,hk8,gd9,List.cons_append,List.nil_append,List.append_nil,Nat.reduceAdd,↓reduceIte];rfl
theorem fw7 {n:Nat}{d:DataW H}(h:Rd enc w base sp held n 22 d)(hw:WT Tryd.prog 22 d):∃ l:List aj7,l.length<2^62∧(∀ a∈l,aj7.Ok a)∧∀ m,n≤m→dv Tryd.prog m 22 d=some [.aa4 (l.map aj7.cs)]:=
 bf9 aj7.cs aj7.Ok Tryd.underlying22 gd9 (by decide) (by decide +kernel) (fun _=>rfl) (fun _ _ _ hr hw'=>gp8 hr hw') h hw
end Go.Id.Tryd
set_option linter.all false
namespace Go.Id
open Go Go.Id
mutual
def isz:IV→Nat
 | .str s=>s.length+1
 | .aa4 es=>by8 es+1
 | _=>1
def ba2:List IV→Nat
 | []=>0
 | c::cs=>isz c+ba2 cs
def by8:List (List IV)→Nat
 | []=>0
 | e::es=>ba2 e+by8 es
end
theorem dr3 (a b:List IV):ba2 (a++b)=ba2 a+ba2 b:=by
 induction a with
 | nil=>simp[ba2]
 | cons x a ih=>simp only[List.cons_append,ba2,ih]; omega
theorem bp1 {α:Type}(f:α→List IV):∀ (l:List α),∀ a∈l,ba2 (f a)≤by8 (l.map f):=by
 intro l
 induction l with
 | nil=>intro a h; cases h
 | cons x l ih=>
  intro a h;simp only[List.map_cons,by8];rcases List.mem_cons.1 h with rfl|h
  ·omega
  ·have:=ih a h; omega
theorem ar9 {α:Type}(f:α→List IV)(hf:∀ a,1≤ba2 (f a)):∀ (l:List α),l.length≤by8 (l.map f):=by
 intro l
 induction l with
 | nil=>simp
 | cons x l ih=>
  simp only[List.map_cons,by8,List.length_cons];have:=hf x;omega
namespace Md
theorem Dep.szs (d:Dep):ba2 d.cs=d.name.length+d.evr.ver.length+d.evr.rel.length+5:=by
 simp only[Dep.cs,ba2,isz]; omega
theorem aa8.szs (r:aa8):ba2 r.cs=r.dep.name.length+r.dep.evr.ver.length+r.dep.evr.rel.length+by8 (r.args.map aa8.cs)+7:=by
 rw[aa8.aq1]; simp only[ba2,isz]; omega
theorem aa3.szs (p:aa3):ba2 p.cs=p.name.length+p.evr.ver.length+p.evr.rel.length+p.vendor.length+by8 (p.provides.map Dep.cs)+by8 (p.requires.map aa8.cs)+by8 (p.conflicts.map aa8.cs)+by8 (p.ab9.map Dep.cs)+by8 (p.aa7.map aa8.cs)+by8 (p.aa5.map aa8.cs)+by8 (p.suggests.map aa8.cs)+by8 (p.ab2.map aa8.cs)+by8 (p.files.map ap4)+15:=by
 simp only[aa3.cs,ba2,isz]; omega
theorem aj7.szs (r:aj7):ba2 r.cs=by8 (r.packages.map aa3.cs)+2:=by
 simp only[aj7.cs,ba2,isz]; omega
theorem eo4 (r:aa8):r.count≤ba2 r.cs:=by
 induction r using aa8.ind with
 | h k d xs ih=>
  rw[aa8.szs]
  have:∀ ys:List aa8,(∀ y∈ys,y∈xs)→aa8.counts ys≤by8 (ys.map aa8.cs):=by
   intro ys
   induction ys with
   | nil=>intro _; simp[aa8.counts]
   | cons y ys ih2=>
    intro h;have h1:=ih y (h y (List.mem_cons_self ..));have h2:=ih2 fun z hz=>h z (List.mem_cons_of_mem _ hz)
    simp only[aa8.counts,List.map_cons,by8];omega
  have:=this xs fun y h=>h
  simp only[aa8.count,aa8.args];omega
theorem fx5 (r:aa8):r.ok→ba2 r.cs<2^31→r.fit:=by
 induction r using aa8.ind with
 | h k d xs ih=>
  intro ho hs;obtain ⟨a,b,c,e,f⟩:=aa8.fe3.1 ho;rw[aa8.szs] at hs;simp only[aa8.args] at hs;have hl:=ar9 aa8.cs (fun r=>by rw[aa8.szs]; omega) xs;refine aa8.bn3.2 ⟨a,b,c,by omega,fun r hr=>ih r hr (f r hr) ?_⟩;have:=bp1 aa8.cs xs r hr;omega
theorem fi7 {p:aa3}(h:p.Ok)(hs:ba2 p.cs<2^31):p.Fit:=by
 rw[aa3.szs] at hs;have l1:=ar9 Dep.cs (fun r=>by rw[Dep.szs]; omega) p.provides;have l2:=ar9 Dep.cs (fun r=>by rw[Dep.szs]; omega) p.ab9;have l3:=ar9 ap4 (fun r=>by simp only[ap4,ba2,isz]; omega) p.files
 have hr:∀ x∈p.rows,by8 (x.2.map aa8.cs)<2^31:=by
  intro x hx;simp only[aa3.rows,List.mem_cons,List.not_mem_nil,or_false] at hx;rcases hx with rfl|rfl|rfl|rfl|rfl|rfl<;>simp only[]<;>omega
 exact {
  name:=h.name
  evr:=h.evr
  aw3:=⟨by omega,h.aw3.2⟩
  obs:=⟨by omega,h.obs.2⟩
  files:=⟨by omega,h.files.2⟩
  au3:=fun x hx=>by
   have h1:=hr x hx;have h2:=ar9 aa8.cs (fun r=>by rw[aa8.szs]; omega) x.2;refine ⟨by omega,fun r hr'=>?_⟩;have h3:=bp1 aa8.cs x.2 r hr';have h4:=eo4 r;exact ⟨fx5 r ((h.au3 x hx).2 r hr') (by omega),by omega⟩ }
theorem fi8 (repos:List aj7):ai3 repos≤by8 (repos.map aj7.cs):=by
 induction repos with
 | nil=>simp[ai3]
 | cons r rs ih=>
  have h2:=ar9 aa3.cs (fun r=>by rw[aa3.szs]; omega) r.packages;have h3:=aj7.szs r;simp only[ai3,List.map_cons,List.sum_cons,by8] at ih ⊢;omega
end Md
end Go.Id
set_option linter.all false
namespace Go.Id.Tryd
open Go Go.Id Go.Proofs Go.Id.Md
open Go.Proofs.YtjpdjifjokldlaaDoor
set_option maxRecDepth 100000
variable {H:Type} {enc:TypeId×Value→H} {w:World} {base:Nat} {sp:Nat→Bool} {held:Bool}
theorem fw8 (d:DataW H):1≤Rows.uptoBulk d:=by
 cases d with
 | lit l=>cases l<;>simp[Rows.uptoBulk]
 | _=>simp[Rows.uptoBulk]
theorem fw9 {r:DataW H→Option (List IV)}{c:Nat}(hr:∀ d cs,r d=some cs→ba2 cs≤Rows.uptoBulk d):∀ (ds:List (DataW H)) es,dvS r c ds=some es→by8 es≤Rows.uptoBulkAll ds:=by
 intro ds
 induction ds with
 | nil=>intro es h; cases h; simp[by8]
 | cons d ds ih=>
  intro es h;simp only[dvS] at h;split at h
  ·rename_i a ha;split at h
   ·split at h
    ·rename_i b hb;cases h;have h1:=hr d a ha;have h2:=ih b hb;simp only[by8,Rows.uptoBulkAll];omega
    ·cases h
   ·cases h
  ·cases h
theorem dx6 {r:TypeId→DataW H→Option (List IV)}{P:Program}(hr:∀ t d cs,r t d=some cs→ba2 cs≤Rows.uptoBulk d):∀ (fs:List (TypeId×Nat)) (ds:List (DataW H)) (off:Nat) es,dvF r P fs ds off=some es→ba2 es≤Rows.uptoBulkAll ds:=by
 intro fs
 induction fs with
 | nil=>
  intro ds off es h
  cases ds with
  | nil=>cases h; simp[ba2]
  | cons d ds=>simp[dvF] at h
 | cons f fs ih=>
  intro ds off es h
  cases ds with
  | nil=>simp[dvF] at h
  | cons d ds=>
   simp only[dvF] at h;split at h
   ·split at h
    ·rename_i a ha;split at h
     ·split at h
      ·rename_i b hb;cases h;have h1:=hr _ d a ha;have h2:=ih ds _ b hb;simp only[dr3,Rows.uptoBulkAll];omega
      ·cases h
     ·cases h
    ·cases h
   ·cases h
theorem fi3 {P:Program}:∀ (m:Nat) (t:TypeId) (d:DataW H) cs,dv P m t d=some cs→ba2 cs≤Rows.uptoBulk d:=by
 intro m
 induction m with
 | zero=>intro t d cs h; simp[dv] at h
 | succ m ih=>
  intro t d cs h;have h1:=fw8 d;simp only[dv] at h;split at h
  ·cases h; simpa [ba2,isz] using h1
  ·cases h; simpa [ba2,isz] using h1
  ·cases h; simp[ba2,isz,Rows.uptoBulk]
  ·cases h; simpa [ba2,isz] using h1
  ·split at h
   ·cases h; simpa [ba2,isz] using h1
   ·cases h
  ·cases h; simpa [ba2,isz,by8] using h1
  ·split at h
   ·cases h
   ·split at h
    ·rename_i es he;cases h;have:=fw9 (ih _) _ _ he;simp only[ba2,isz,Rows.uptoBulk];omega
    ·cases h
  ·split at h
   ·rename_i ivs he;split at h
    ·cases h;have:=dx6 (fun t d cs=>ih t d cs) _ _ _ _ he;simp only[Rows.uptoBulk];omega
    ·cases h
   ·cases h
  ·split at h
   ·rename_i ivs he;split at h
    ·cases h;have:=dx6 (fun t d cs=>ih t d cs) _ _ _ _ he;simp only[Rows.uptoBulk];omega
    ·cases h
   ·cases h
  ·split at h
   ·split at h
    ·cases h; simpa [ba2,isz] using h1
    ·cases h
   ·cases h
  ·cases h
theorem if4 {repos:List aj7}{inst:List aa3}(h1:∀ r∈repos,aj7.Ok r)(h2:∀ p∈inst,p.Ok)(b1:ba2 [IV.aa4 (repos.map aj7.cs)]≤1048576)(b2:ba2 [IV.aa4 (inst.map aa3.cs)]≤1048576):ij9 repos inst:=by
 simp only[ba2,isz] at b1 b2;have l1:=ar9 aj7.cs (fun r=>by rw[aj7.szs]; omega) repos;have l2:=ar9 aa3.cs (fun r=>by rw[aa3.szs]; omega) inst;have l3:=fi8 repos;refine ⟨by omega,by omega,by omega,fun r hr=>?_,fun p hp=>?_,h1,h2⟩
 ·have m1:=bp1 aj7.cs repos r hr;rw[aj7.szs] at m1;have l4:=ar9 aa3.cs (fun r=>by rw[aa3.szs]; omega) r.packages;refine ⟨by omega,fun p hp=>fi7 ((h1 r hr).2 p hp) ?_⟩;have:=bp1 aa3.cs r.packages p hp;omega
 ·have:=bp1 aa3.cs inst p hp;exact fi7 (h2 p hp) (by omega)
end Go.Id.Tryd
