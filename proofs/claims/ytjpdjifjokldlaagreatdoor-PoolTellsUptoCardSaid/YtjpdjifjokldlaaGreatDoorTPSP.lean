/- What the statements of pools go over; the examples. Conditions: none. -/
import Derived.Test.YtjpdjifjokldlaaGreatDoorTp
import Derived.Test.YtjpdjifjokldlaaGreatDoorMv
import Derived.Test.YtjpdjifjokldlaaGreatDoorTPKC
import Derived.Test.YtjpdjifjokldlaaGreatDoorTPNC
import Derived.Test.YtjpdjifjokldlaaGreatDoorTPPB
import Derived.Test.YtjpdjifjokldlaaGreatDoorFwZb
import Derived.Test.YtjpdjifjokldlaaGreatDoorRows
import Derived.Test.YtjpdjifjokldlaaGreatDoorTPSJ
set_option linter.all false
namespace Go.Id.Tryz
open Go Go.Id Go.Proofs Go.Id.Md
def dh1 (x:Nat×Bool):IV:=.tuple [.int .i64 x.1,.bool x.2]
theorem bc4 {s:Store}(n:Nat)(b:Bool):dh8 s 0 (.tuple [.int .i64 n,.bool b]) (dh1 (n,b)):=.ci1 (.cons (ac4 _ _) (.cons (ab1 _) .nil))
theorem fb6 (r:aa9)(rs:List aa9)(deep n:Nat):cc5 (r::rs) deep n=if big r.dep=true then (0,true) else
  if (bq9 r (deep+1)).2=true\/2000<n+1+(bq9 r (deep+1)).1 then (0,true) else cc5 rs deep (n+1+(bq9 r (deep+1)).1):=by
 simp only[cc5]
theorem ho9 (r:aa9):∀ deep:Nat,deep<=21->r.ok->PC Tryz.prog EE 37 [ag6 r.args,.int .i64 deep] (dh1 (bq9 r deep)):=by
 induction r using aa9.ind with
 | h k d xs ih=>
  intro deep hdeep hok;obtain ⟨o1,o2,o3,o4,o5⟩:=aa9.fq6.1 hok;refine aj6 hE fok37 (nZ rfl) (ah5 (af8 _) (.int _ _)) ?_;by_cases b1:20<deep
  ·have c1:(20:Int)<deep:=by omega
   simp only[ic37,go_sem,aa9.args,bq9,c1,b1,true_or];exact bc4 0 true
  have c1:¬ (20:Int)<deep:=by omega
  by_cases b2:100<xs.length
  ·have c2:(100:Int)<xs.length:=by omega
   simp only[ic37,go_sem,aa9.args,bq9,c1,c2,b1,b2,or_true];exact bc4 0 true
  have c2:¬ (100:Int)<xs.length:=by omega
  simp only[ic37,go_sem,aa9.args,bq9,c1,c2,b1,b2,or_self];refine ac2 noT (fun i fr s=>∃ n:Nat,fr=[(0,ag6 xs),(1,.int .i64 deep),(6,.int .i64 n),(7,.int .i64 i)]/\n<=2000/\cc5 xs deep 0=cc5 (xs.drop i) deep n) xs.length ⟨0,rfl,by omega,rfl⟩ ?_;rintro i fr s hi ⟨n,rfl,hn,hm⟩;by_cases hlt:i<xs.length
  ·obtain ⟨x,hx,hxi,hdr,hget,htk⟩:=ad2 xs i hlt;have c3:(i:Int)<xs.length:=by omega
   have c4:(0:Int)<=i:=by omega
   have w1:=af6 (i:=i) (by omega);have w2:=af6 (i:=deep) (by omega);have w3:=af6 (i:=n) (by omega);rw[hdr,fb6] at hm;obtain ⟨k',d',ys⟩:=x;rw[show (aa9.mk k' d' ys).dep=d' from rfl] at hm;obtain ⟨x1,x2,x3,x4,x5⟩:=aa9.fq6.1 (o5 _ hx);have hA:=ih _ hx (deep+1) (by omega) (o5 _ hx)
   have hsz:IntKind.i64.wrap ((d'.name.length:Int)+d'.evr.ver.length)=((d'.name.length+d'.evr.ver.length:Nat):Int):=by
    have:=x3.1; have:=x3.2.1;rw[wrap64 (by omega) (by omega)]; omega
   simp only[go_sem,c3,c4,hget,aa9.an4,aa9.kind,aa9.dep,aa9.args,hsz,bb6] at hA ⊢;have hbig:big d'=(decide (500<d'.name.length+d'.evr.ver.length)||decide (500<d'.evr.rel.length)):=rfl;by_cases q1:500<d'.name.length+d'.evr.ver.length
   ·have e1:(500:Int)<((d'.name.length+d'.evr.ver.length:Nat):Int):=by omega
    have hb:big d'=true:=by rw[hbig]; simp[q1]
    rw[if_pos hb] at hm;simp only[go_sem,e1,hm];exact bc4 0 true
   have e1:¬ (500:Int)<((d'.name.length+d'.evr.ver.length:Nat):Int):=by omega
   by_cases q2:500<d'.evr.rel.length
   ·have e2:(500:Int)<d'.evr.rel.length:=by omega
    have hb:big d'=true:=by rw[hbig]; simp[q2]
    rw[if_pos hb] at hm;simp only[go_sem,c3,c4,hget,aa9.an4,aa9.kind,aa9.dep,aa9.args,e1,e2,hm];exact bc4 0 true
   have e2:¬ (500:Int)<d'.evr.rel.length:=by omega
   have hb:¬ big d'=true:=by rw[hbig]; simp[q1,q2]
   rw[if_neg hb] at hm;simp only[go_sem,c3,c4,hget,aa9.an4,aa9.kind,aa9.dep,aa9.args,e1,e2,w2];refine aa4 fok37 hA ?_;have hkl:(bq9 (.mk k' d' ys) (deep+1)).1<=2000:=by rw[cy4]; exact ee7 _ _
   generalize bq9 (.mk k' d' ys) (deep+1)=ka at *
   have w4:IntKind.i64.wrap (((n+1:Nat):Int)+ka.1)=((n+1+ka.1:Nat):Int):=by
    rw[wrap64 (by omega) (by omega)]; omega
   cases hk2:ka.2 with
   | true=>
    rw[if_pos (.inl hk2)] at hm;simp only[go_sem,dh1,hk2,w3,w4,hm]
    exact bc4 0 true
   | false=>
    by_cases q3:2000<n+1+ka.1
    ·have e3:(2000:Int)<((n+1+ka.1:Nat):Int):=by omega
     rw[if_pos (.inr q3)] at hm;simp only[go_sem,dh1,hk2,w3,w4,e3,hm];exact bc4 0 true
    ·have e3:¬ (2000:Int)<((n+1+ka.1:Nat):Int):=by omega
     rw[if_neg (by rw[hk2]; simp; omega)] at hm;simp only[go_sem,dh1,hk2,w1,w3,w4,e3];exact ⟨hlt,n+1+ka.1,rfl,by omega,hm⟩
  ·have hi':i=xs.length:=by omega
   subst hi';have c3:¬ (xs.length:Int)<xs.length:=by omega
   rw[List.drop_length] at hm;simp only[go_sem,c3,hm,cc5];exact bc4 n false
theorem gn7 (l:List aa9)(h1:l.length<2^62)(h2:∀ r∈l,r.ok):PC Tryz.prog EE 37 [ag6 l,.int .i64 0] (dh1 (cc6 l 0)):=by
 have h:=ho9 (.mk 1 cj5 l) 0 (by omega) (aa9.fq6.2 ⟨by omega,by omega,⟨by decide,by decide,by decide⟩,h1,h2⟩);rw[cy4] at h;exact h
def lC (l:List aa9):List IV:=[ag6 l]
theorem ea2 {p:aa2}{l:List aa9}(h:l∈bf3 p):∃ x∈p.rows,x.2=l:=by
 simp only[bf3,List.mem_cons,List.not_mem_nil,or_false] at h;rcases h with rfl|rfl|rfl|rfl|rfl|rfl<;>simp[aa2.rows]
theorem ea3 (l:List aa9)(ls:List (List aa9))(n:Nat):br1 (l::ls) n=if (cc6 l 0).2=true\/2000<n+(cc6 l 0).1 then true else br1 ls (n+(cc6 l 0).1):=by simp only[br1]
theorem cb3 (p:aa2)(ho:p.Ok):PC Tryz.prog EE 23 [.agg p.cs] (.bool (ao8 p)):=by
 refine aj6 hE fok23 (nZ rfl) (af7 (al2 p)) ?_;by_cases b1:100<p.provides.length
 ·have c1:(100:Int)<p.provides.length:=by omega
  simp only[ic23,go_sem,ad9,aa2.cs,c1,ao8,b1];exact ab1 _
 have c1:¬ (100:Int)<p.provides.length:=by omega
 by_cases b2:100<p.ab2.length
 ·have c2:(100:Int)<p.ab2.length:=by omega
  simp only[ic23,go_sem,ad9,aa2.cs,c1,c2,ao8,b1,b2];exact ab1 _
 have c2:¬ (100:Int)<p.ab2.length:=by omega
 by_cases b3:100<p.files.length
 ·have c3:(100:Int)<p.files.length:=by omega
  simp only[ic23,go_sem,ad9,aa2.cs,c1,c2,c3,ao8,b1,b2,b3];exact ab1 _
 have c3:¬ (100:Int)<p.files.length:=by omega
 by_cases b4:1000<p.name.length
 ·have c4:(1000:Int)<p.name.length:=by omega
  simp only[ic23,go_sem,ad9,aa2.cs,c1,c2,c3,c4,ao8,b1,b2,b3,b4];exact ab1 _
 have c4:¬ (1000:Int)<p.name.length:=by omega
 by_cases b5:1000<p.vendor.length
 ·have c5:(1000:Int)<p.vendor.length:=by omega
  simp only[ic23,go_sem,ad9,aa2.cs,c1,c2,c3,c4,c5,ao8,b1,b2,b3,b4,b5];exact ab1 _
 have c5:¬ (1000:Int)<p.vendor.length:=by omega
 by_cases b6:1000<p.evr.ver.length
 ·have c6:(1000:Int)<p.evr.ver.length:=by omega
  simp only[ic23,go_sem,ad9,aa2.cs,c1,c2,c3,c4,c5,c6,ao8,b1,b2,b3,b4,b5,b6];exact ab1 _
 have c6:¬ (1000:Int)<p.evr.ver.length:=by omega
 by_cases b7:1000<p.evr.rel.length
 ·have c7:(1000:Int)<p.evr.rel.length:=by omega
  simp only[ic23,go_sem,ad9,aa2.cs,c1,c2,c3,c4,c5,c6,c7,ao8,b1,b2,b3,b4,b5,b6,b7];exact ab1 _
 have c7:¬ (1000:Int)<p.evr.rel.length:=by omega
 have hM:ao8 p=br1 (bf3 p) 0:=by simp only[ao8,b1,b2,b3,b4,b5,b6,b7,decide_false,Bool.false_or]
 rw[hM];simp only[ic23,go_sem,ad9,aa2.cs,c1,c2,c3,c4,c5,c6,c7];refine ac2 noT (fun i fr s=>∃ n:Nat,fr=[(3,.int .i64 n),(62,.aa3 ((bf3 p).map lC)),(63,.int .i64 6),(64,.int .i64 i)]/\n<=2000/\br1 (bf3 p) 0=br1 ((bf3 p).drop i) n) 6 ⟨0,rfl,by omega,rfl⟩ ?_;rintro i fr s hi ⟨n,rfl,hn,hm⟩;by_cases hlt:i<6
 ·obtain ⟨l,hl,hli,hdr,hget,htk⟩:=ad2 (bf3 p) i hlt;have d1:(i:Int)<6:=by omega
  have d2:(0:Int)<=i:=by omega
  have d3:(i:Int)<((bf3 p).length:Nat):=by simp only[bf3,List.length_cons,List.length_nil]; omega
  have w1:=af6 (i:=i) (by omega);rw[hdr,ea3] at hm;obtain ⟨x,hx,rfl⟩:=ea2 hl;have hok:=ho.ay5 x hx;simp only[go_sem,d1,d2,d3,hget,lC];refine aa4 fok37 (gn7 x.2 hok.1 hok.2) ?_;have hle:=ee7 x.2 0;generalize cc6 x.2 0=ka at *
  have w4:IntKind.i64.wrap ((n:Int)+ka.1)=((n+ka.1:Nat):Int):=by
   rw[wrap64 (by omega) (by omega)]; omega
  cases hk2:ka.2 with
  | true=>
   rw[if_pos (.inl hk2)] at hm;simp only[go_sem,dh1,hk2,w4,hm]
   exact ab1 _
  | false=>
   by_cases q3:2000<n+ka.1
   ·have e3:(2000:Int)<((n+ka.1:Nat):Int):=by omega
    rw[if_pos (.inr q3)] at hm;simp only[go_sem,dh1,hk2,w4,e3,hm];exact ab1 _
   ·have e3:¬ (2000:Int)<((n+ka.1:Nat):Int):=by omega
    rw[if_neg (by rw[hk2]; simp; omega)] at hm;simp only[go_sem,dh1,hk2,w1,w4,e3];exact ⟨hlt,n+ka.1,rfl,by omega,hm⟩
 ·have hi':i=6:=by omega
  subst hi';have e6:(bf3 p).drop 6=[]:=rfl;rw[e6] at hm;simp only[go_sem,hm,br1];exact ab1 _
theorem ei6 {α:Type}{q:α->Bool}{l:List α}{i:Nat}{a:α}(h:l.drop i=a::l.drop (i+1)):(l.drop i).any q=(q a||(l.drop (i+1)).any q):=by rw[h]; simp
theorem fb7 (r:ak1)(rs:List ak1)(n:Nat):de3 (r::rs) n=if 80<n+r.packages.length then true else if r.packages.any ao8=true then true else de3 rs (n+r.packages.length):=by simp only[de3]
theorem hp4 (repos:List ak1)(inst:List aa2)(h1:repos.length<2^62)(h2:inst.length<2^62)(hr:∀ r∈repos,ak1.Ok r)(hi:∀ p∈inst,p.Ok):PC Tryz.prog EE 4 [aq4 repos,ay8 inst] (.bool (ey3 repos inst)):=by
 refine aj6 hE fok4 (nZ rfl) (ah5 (cl9 _) (cf3 _)) ?_;by_cases b1:30<repos.length
 ·have c1:(30:Int)<repos.length:=by omega
  simp only[ic4,go_sem,c1,ey3,b1];exact ab1 _
 have c1:¬ (30:Int)<repos.length:=by omega
 by_cases b2:40<inst.length
 ·have c2:(40:Int)<inst.length:=by omega
  simp only[ic4,go_sem,c1,c2,ey3,b1,b2];exact ab1 _
 have c2:¬ (40:Int)<inst.length:=by omega
 have hM:ey3 repos inst=(inst.any ao8||de3 repos inst.length):=by simp only[ey3,b1,b2,decide_false,Bool.false_or]
 rw[hM];simp only[ic4,go_sem,c1,c2];refine ac2 noT (fun i fr s=>fr=[(0,aq4 repos),(1,ay8 inst),(5,.int .i64 inst.length),(6,.int .i64 i)]/\inst.any ao8=(inst.drop i).any ao8) inst.length ⟨rfl,rfl⟩ ?_;rintro i fr s hle ⟨rfl,hm⟩;by_cases hlt:i<inst.length
 ·obtain ⟨x,hx,hxi,hdr,hget,htk⟩:=ad2 inst i hlt;have d1:(i:Int)<inst.length:=by omega
  have d2:(0:Int)<=i:=by omega
  have w1:=af6 (i:=i) (by omega);rw[ei6 hdr] at hm;simp only[go_sem,d1,d2,hget,ao3,am6,w1];refine aa4 fok23 (cb3 x (hi x hx)) ?_
  cases hb:ao8 x with
  | true=>
   rw[hb,Bool.true_or] at hm;simp only[go_sem,hm]
   exact ab1 _
  | false=>
   rw[hb,Bool.false_or] at hm;simp only[go_sem,w1];exact ⟨hlt,hm⟩
 have hi':i=inst.length:=by omega
 subst hi';have d1:¬ (inst.length:Int)<inst.length:=by omega
 rw[List.drop_length,List.any_nil] at hm;rw[hm,Bool.false_or];simp only[go_sem,d1];refine ac2 noT (fun i fr t=>∃ n:Nat,fr=[(0,aq4 repos),(5,.int .i64 n),(7,.int .i64 i)]/\n<=80/\de3 repos inst.length=de3 (repos.drop i) n) repos.length ⟨inst.length,rfl,by omega,rfl⟩ ?_;rintro i fr t hle2 ⟨n,rfl,hn,hm2⟩;by_cases hlt:i<repos.length
 ·obtain ⟨x,hx,hxi,hdr,hget,htk⟩:=ad2 repos i hlt;have d3:(i:Int)<repos.length:=by omega
  have d4:(0:Int)<=i:=by omega
  have w1:=af6 (i:=i) (by omega);have hxo:=hr x hx
  have w2:IntKind.i64.wrap ((n:Int)+x.packages.length)=((n+x.packages.length:Nat):Int):=by
   have:=hxo.1;rw[wrap64 (by omega) (by omega)]; omega
  rw[hdr,fb7] at hm2;by_cases q1:80<n+x.packages.length
  ·have e1:(80:Int)<((n+x.packages.length:Nat):Int):=by omega
   rw[if_pos q1] at hm2;simp only[go_sem,d3,d4,hget,al5,ak1.cs,w2,e1,hm2];exact ab1 _
  have e1:¬ (80:Int)<((n+x.packages.length:Nat):Int):=by omega
  rw[if_neg q1] at hm2;simp only[go_sem,d3,d4,hget,al5,ak1.cs,w2,e1];refine ac2 noT (fun j fr t=>fr=[(0,aq4 repos),(5,.int .i64 (n+x.packages.length:Nat)),(7,.int .i64 i),(8,.int .i64 j)]/\x.packages.any ao8=(x.packages.drop j).any ao8) x.packages.length ⟨rfl,rfl⟩ ?_;rintro j fr t hlej ⟨rfl,hj⟩;by_cases hjl:j<x.packages.length
  ·obtain ⟨y,hy,hyi,hdr3,hget3,htk3⟩:=ad2 x.packages j hjl;have d5:(j:Int)<x.packages.length:=by omega
   have d6:(0:Int)<=j:=by omega
   have w3:=af6 (i:=j) (by have:=hxo.1; omega);rw[ei6 hdr3] at hj;simp only[go_sem,d3,d4,d5,d6,hget,hget3,al5,ak1.cs,ao3,am6,w3];refine aa4 fok23 (cb3 y (hxo.2 y hy)) ?_
   cases hb:ao8 y with
   | true=>
    rw[hb,Bool.true_or] at hj;rw[if_pos hj] at hm2;simp only[go_sem,hm2]
    exact ab1 _
   | false=>
    rw[hb,Bool.false_or] at hj;simp only[go_sem,w3];exact ⟨hjl,hj⟩
  ·have hj':j=x.packages.length:=by omega
   subst hj';have d5:¬ (x.packages.length:Int)<x.packages.length:=by omega
   rw[List.drop_length,List.any_nil] at hj;rw[if_neg (by rw[hj]; exact Bool.false_ne_true)] at hm2;simp only[go_sem,d3,d4,d5,hget,al5,ak1.cs,w1];exact ⟨hlt,n+x.packages.length,rfl,by omega,hm2⟩
 ·have hi':i=repos.length:=by omega
  subst hi';have d3:¬ (repos.length:Int)<repos.length:=by omega
  rw[List.drop_length] at hm2;simp only[go_sem,d3,hm2,de3];exact ab1 _
open Go Go.Id Go.Proofs Go.Shelf Go.Id.Md
set_option maxRecDepth 100000
set_option maxHeartbeats 1000000
theorem fb8 {p:Pool}(h:ey6 p.nm (ac1 p)):ak6 (ac1 p)=cz8 p:=by
 obtain ⟨h1,h2⟩:=ey5 (ac1 p) [];rw[List.nil_append] at h1 h2;refine fr3 h1 ((fx7 h.kn).imp fun {a b} q=>?_) fun x=>?_
 ·rw[bytesLess_eq] at q; exact of_decide_eq_true q
 ·rw[h2,(cm2 p).mem_iff];constructor
  ·rintro ⟨q,hq,rfl⟩;refine ey8 _ _ ?_;obtain ⟨j,hj,e⟩:=List.mem_iff_getElem.1 hq;rw[h.look];refine List.ne_nil_of_mem (a:=(j:Int)) (bz9.2 ⟨j,rfl,hj,?_⟩);rw[getD_at _ j hj,e]; simp
  ·intro hx;obtain ⟨n,hn⟩:=List.exists_mem_of_ne_nil _ (h.ne x hx);rw[h.look] at hn;obtain ⟨j,_,hj,e⟩:=bz9.1 hn;rw[getD_at _ j hj] at e;exact ⟨_,List.getElem_mem hj,of_decide_eq_true e⟩
theorem ei7:cn9.Fit where
 name:=by show (0:Nat)<_; decide
 evr:=⟨by show (0:Nat)<_; decide,by show (0:Nat)<_; decide⟩
 bd4:=⟨by show (0:Nat)<_; decide,fun d hd=>by cases hd⟩
 obs:=⟨by show (0:Nat)<_; decide,fun d hd=>by cases hd⟩
 files:=⟨by show (0:Nat)<_; decide,fun d hd=>by cases hd⟩
 ay5:=fun x hx=>by
  simp only[aa2.rows,List.mem_cons,List.not_mem_nil,or_false] at hx;rcases hx with rfl|rfl|rfl|rfl|rfl|rfl<;>exact ⟨by show (0:Nat)<_; decide,fun r hr=>by cases hr⟩
def fx1:List IV:=[.str [],.int .i64 0,.str [],.str [],.int .u8 0,.str [],.aa1,.aa1,.aa1,.aa1,.aa1,.aa1,.aa1,.aa1,.aa1]
theorem cm1:PC Tryz.prog EE 20 [.agg cn9.cs,.agg fx1] (.bool true):=by
 have h:=cz5 cn9 cn9 ei7 ei7;rw[cb1] at h;exact gg6 (args':=[.agg cn9.cs,.agg cn9.cs]) (by kernel_rfl) h
theorem io9 (b:Bool):fy2 [0] false true (.bool b) (.bool b)=some (.bool false):=by cases b<;>rfl
theorem jc2 (b:Bool):fy2 [0] false false (.bool b) (.bool b)=some (.bool true):=by cases b<;>rfl
theorem dr3 (repos:List ak1)(inst:List aa2)(n m:Int)(name:Str)(hI:im4 repos inst)(hN:name.length<2^62) :
  PC Tryz.prog EE 3 [aq4 repos,ay8 inst,.int .i64 n,.int .i64 m,.str name] (.bool true):=by
 refine aj6 hE fok3 (nZ rfl) (ii4 (cl9 repos) (cf3 inst) (.int _ _) (.int _ _) (.str _)) ?_;have hwide:=hp4 repos inst (by have:=hI.r1; omega) (by have:=hI.i1; omega) hI.ro hI.po;have hp:=ca5 repos inst hI.r1 hI.i1 hI.s1 hI.rf hI.pf;have hq:=gk2 repos inst hI;simp only[ic3,go_sem]
 first|refine aa4 fok4 (hwide) ?_|refine aa6 (hwide) ?_
 generalize ey3 repos inst=wd at *
 cases wd with
 | true=>
  simp only[go_sem]
  first|refine aa4 fok5 (ar8) ?_|refine aa6 (ar8) ?_
  simp only[go_sem]
  exact ab1 _
 | false=>
 by_cases hb:1000<name.length
 ·have c1:(1000:Int)<name.length:=by omega
  simp only[go_sem,c1]
  first|refine aa4 fok5 (ar8) ?_|refine aa6 (ar8) ?_
  simp only[go_sem];exact ab1 _
 have c1:¬ (1000:Int)<name.length:=by omega
 simp only[go_sem,c1]
 first|refine aa4 fok6 (hp) ?_|refine aa6 (hp) ?_
 simp only[go_sem]
 cases hn:bq8 repos inst with
 | inr e=>
  have he:¬ e=0:=by rcases gj4 hn with rfl|rfl<;>decide
  rw[hn] at hq;simp only[ij1,go_sem]
  first|refine aa4 fok7 (hq) ?_|refine aa6 (hq) ?_
  simp only[fr9,go_sem,he,io9]
  first|refine aa4 fok5 (ar8) ?_|refine aa6 (ar8) ?_
  simp only[go_sem]
  exact ab1 _
 | inl p=>
 rw[hn] at hq;have hf:=im5 hI hn;have hfit:∀ q∈ac1 p,q.Fit:=fun q hq=>(hf q hq).1
 have hsm:∀ q∈ac1 p,Pkg.small q:=fun q hq=>(hf q hq).2.1
 have hsr:∀ r∈p.rows,Pkg.small r.pkg:=fun r hr=>hsm _ (List.mem_map_of_mem (f:=fun x:aq1=>x.pkg) hr)
 have hlen:(ac1 p).length<=256:=by simp only[ac1,List.length_map]; exact gj5 hn
 have hrl:p.rows.length=(ac1 p).length:=by simp[ac1]
 have hnm:=hk7 hn;have hlk:ae6 p.nm name=numsOf (fun q=>decide (q.name=name)) (ac1 p):=hnm.look name;have hnl:=cy3 (fun q=>decide (q.name=name)) (ac1 p);have hcnt:=dq7 p;rw[hrl] at hcnt;have hins:=cd2 p;have n1:=dh6 p name (by rw[hlk]; omega);rw[hlk] at n1;have n2:=ez5 p name (by omega);have n3:=dg3 (numsOf (fun q=>decide (q.name=name)) (ac1 p)) (numsOf (fun q=>decide (q.name=name)) (ac1 p)) (by omega) (by omega);rw[decide_eq_true (rfl:numsOf (fun q=>decide (q.name=name)) (ac1 p)=_)] at n3;have hnd:=cy7 (ac1 p);have s1:=dr4 p (by have h1:=hnm.len; have h2:(p.rows.map (·.pkg)).length<=256:=hlen; omega);rw[<- fb8 hnm] at s1;have s2:=ez6 p (by omega);have s3:=cl6 (ak6 (ac1 p)) (ak6 (ac1 p)) (by omega) (by omega);rw[decide_eq_true (rfl:ak6 (ac1 p)=_)] at s3;have o1:=fun i=>ea6 p i m hsr
 have o2:=fun i=>gk3 p i m hsm
 have k1:=fun i=>ea5 p i hfit
 have k2:=fun i=>dy1 p i
 have r1:=fun i=>dr7 p i
 have r2:=fun i=>cd4 p i
 have vcs:p.v.cs=[p.v]:=rfl;have vlf:p.v.leaf=true:=rfl;have hnv:∀ d,bs3 (.pointer d) p.v=some false:=fun _=>rfl
 simp only[ij1,go_sem,vcs,vlf]
 first|refine aa4 fok7 (hq) ?_|refine aa6 (hq) ?_
 simp only[dx9] at n2 s2 o2 k2;simp only[fr9,go_sem,hnv,io9,dx9];have rlen:(p.rows.map fun r=>r.bo2).length=(ac1 p).length:=by rw[List.length_map,hrl]
 have plen:(p.rows.map fun r=>r.prio).length=(ac1 p).length:=by rw[List.length_map,hrl]
 have rat:∀ k (h:k<(p.rows.map fun r=>r.bo2).length),(p.rows.map fun r=>r.bo2)[k]=(rowAt p k).bo2:=fun k h=>by
  rw[List.length_map] at h;unfold rowAt;rw[if_pos ⟨by omega,by omega⟩,List.getElem_map];simp[List.getD_eq_getElem?_getD,h]
 have pat:∀ k (h:k<(p.rows.map fun r=>r.prio).length),(p.rows.map fun r=>r.prio)[k]=(rowAt p k).prio:=fun k h=>by
  rw[List.length_map] at h;unfold rowAt;rw[if_pos ⟨by omega,by omega⟩,List.getElem_map];simp[List.getD_eq_getElem?_getD,h]
 generalize (p.rows.map fun r=>r.bo2)=R at *;generalize (p.rows.map fun r=>r.prio)=Q at *
 first|refine aa4 fok8 (hcnt) ?_|refine aa6 (hcnt) ?_
 simp only[go_sem,vcs,vlf]
 first|refine aa4 fok9 (hins) ?_|refine aa6 (hins) ?_
 simp only[go_sem,vcs,vlf]
 first|refine aa4 fok11 (n1) ?_|refine aa6 (n1) ?_
 simp only[go_sem]
 first|refine aa4 fok12 (n2) ?_|refine aa6 (n2) ?_
 simp only[go_sem]
 first|refine aa4 fok10 (n3) ?_|refine aa6 (n3) ?_
 simp only[go_sem,vcs,vlf]
 first|refine aa4 fok14 (s1) ?_|refine aa6 (s1) ?_
 simp only[go_sem]
 first|refine aa4 fok15 (s2) ?_|refine aa6 (s2) ?_
 simp only[go_sem]
 first|refine aa4 fok13 (s3) ?_|refine aa6 (s3) ?_
 simp only[go_sem,vcs,vlf]
 first|refine aa4 fok16 (o1 n) ?_|refine aa6 (o1 n) ?_
 simp only[go_sem]
 first|refine aa4 fok17 (o2 n) ?_|refine aa6 (o2 n) ?_
 simp only[go_sem,io9];refine ac2 noT (fun j fr t=>fr=[(2,.int .i64 n),(3,.int .i64 m),(11,p.v),(13,.ad4 [ay8 (ac1 p),.int .i64 p.inst,.aa3 (R.map Md.ai9),.aa3 (Q.map Md.ai9)]),(15,.int .i64 ((j:Int)-1))]) ((ac1 p).length+2) rfl ?_;rintro j fr t hj rfl;by_cases hjl:j<(ac1 p).length+2
 ·have d1:(j:Int)-1<=(ac1 p).length:=by omega
  have w1:IntKind.i64.wrap ((j:Int)-1+1)=((j+1:Nat):Int)-1:=by rw[wrap64 (by omega) (by omega)]; omega
  have hp1:=k1 ((j:Int)-1);have hk2:=k2 ((j:Int)-1);have hr1:=r1 ((j:Int)-1);have hr2:=r2 ((j:Int)-1);have ho1:=o1 ((j:Int)-1);have ho2:=o2 ((j:Int)-1);by_cases hin:1<=j/\j<=(ac1 p).length
  ·obtain ⟨k,rfl⟩:∃ k,j=k+1:=⟨j-1,by omega⟩;have ek:(((k+1:Nat):Int)-1)=(k:Int):=by omega
   rw[ek] at hp1 hk2 hr1 hr2 ho1 ho2 d1 w1;have hk:k<(ac1 p).length:=by omega
   obtain ⟨x,hx,hxi,hdr,hget,htk⟩:=ad2 (ac1 p) k hk;obtain ⟨y,hy,hyi,_,hgetR,_⟩:=ad2 R k (by omega);obtain ⟨z,hz,hzi,_,hgetQ,_⟩:=ad2 Q k (by omega);have hgR:=hgetR Md.ai9;have hgQ:=hgetQ Md.ai9
   have ey:(rowAt p k).bo2=y:=by
    rw[<- rat k (by omega)]; rw[List.getElem?_eq_getElem (by omega)] at hyi; exact Option.some.inj hyi
   have ez:(rowAt p k).prio=z:=by
    rw[<- pat k (by omega)]; rw[List.getElem?_eq_getElem (by omega)] at hzi; exact Option.some.inj hzi
   rw[ey] at hr1;rw[ez] at hr2
   have epk:ar9 p k=.tuple [.agg x.cs,.int .i64 0]:=by
    unfold ar9;rw[if_pos ⟨by omega,by omega⟩,Int.toNat_natCast,List.getD_eq_getElem?_getD,hxi]; rfl
   rw[epk] at hp1;have e2:(decide (0<=(k:Int))&&decide ((k:Int)<((ac1 p).length:Int)))=true:=by simp; omega
   rw[e2] at hk2;have c1:(k:Int)<(ac1 p).length:=by omega
   have c2:(0:Int)<=(k:Int):=by omega
   have c3:(k:Int)<R.length:=by omega
   have c4:(k:Int)<Q.length:=by omega
   have hsame:=cz5 x x (hfit x hx) (hfit x hx);rw[cb1] at hsame;rw[ek];simp only[go_sem,d1]
   first|refine aa4 fok18 (hp1) ?_|refine aa6 (hp1) ?_
   simp only[go_sem,ah2,af9,af1]
   first|refine aa4 fok19 (hk2) ?_|refine aa6 (hk2) ?_
   simp only[go_sem,c1,c2,hget,ah2,af9,af1]
   first|refine aa4 fok20 (hsame) ?_|refine aa6 (hsame) ?_
   simp only[go_sem,vcs,vlf]
   first|refine aa4 fok21 (hr1) ?_|refine aa6 (hr1) ?_
   simp only[go_sem,c2,c3,hgR,Md.ai9,vcs,vlf]
   first|refine aa4 fok22 (hr2) ?_|refine aa6 (hr2) ?_
   simp only[go_sem,c2,c4,hgQ,Md.ai9,vcs,vlf]
   first|refine aa4 fok16 (ho1) ?_|refine aa6 (ho1) ?_
   simp only[go_sem]
   first|refine aa4 fok17 (ho2) ?_|refine aa6 (ho2) ?_
   simp only[go_sem,io9,w1];exact hjl
  ·generalize hi:((j:Int)-1)=i at *;have hno:¬ (0<=i/\i<(p.rows.length:Int)):=by rw[hrl]; omega
   have epk:ar9 p i=.tuple [.agg cn9.cs,.int .i64 5]:=by unfold ar9; rw[if_neg hno]
   have erw:rowAt p i=⟨default,-1,0⟩:=by unfold rowAt; rw[if_neg hno]
   rw[epk] at hp1;rw[erw] at hr1 hr2;have hr1':PC Tryz.prog EE 21 [p.v,.int .i64 i] (.int .i64 (-1)):=hr1;have hr2':PC Tryz.prog EE 22 [p.v,.int .i64 i] (.int .i64 0):=hr2;have e2:(decide (0<=i)&&decide (i<((ac1 p).length:Int)))=false:=by rw[<- hrl]; simpa using hno
   rw[e2] at hk2;have hz:=cm1;unfold fx1 at hz;have zl:cn9.cs.length=15:=rfl;simp only[go_sem,d1]
   first|refine aa4 fok18 (hp1) ?_|refine aa6 (hp1) ?_
   simp only[go_sem,ah2,af9,af1]
   first|refine aa4 fok19 (hk2) ?_|refine aa6 (hk2) ?_
   simp only[go_sem,ah2,af9,af1]
   first|refine aa4 fok20 (hz) ?_|refine aa6 (hz) ?_
   simp only[go_sem,vcs,vlf]
   first|refine aa4 fok21 (hr1') ?_|refine aa6 (hr1') ?_
   simp only[go_sem,vcs,vlf]
   first|refine aa4 fok22 (hr2') ?_|refine aa6 (hr2') ?_
   simp only[go_sem,w1];exact hjl
 ·have hj':j=(ac1 p).length+2:=by omega
  subst hj';have d1:¬ ((((ac1 p).length+2:Nat):Int)-1<=(ac1 p).length):=by omega
  have hp1:=k1 n;have hk2:=k2 n;simp only[go_sem,d1];by_cases hin:0<=n/\n<(p.rows.length:Int)
  ·have epk:ar9 p n=.tuple [.agg ((ac1 p).getD n.toNat default).cs,.int .i64 0]:=by unfold ar9; rw[if_pos hin]
   have e2:(decide (0<=n)&&decide (n<((ac1 p).length:Int)))=true:=by rw[<- hrl]; simpa using hin
   rw[epk] at hp1;rw[e2] at hk2
   first|refine aa4 fok18 (hp1) ?_|refine aa6 (hp1) ?_
   simp only[go_sem,ah2,af9,af1]
   first|refine aa4 fok19 (hk2) ?_|refine aa6 (hk2) ?_
   simp only[go_sem,jc2]
   first|refine aa4 fok5 (ar8) ?_|refine aa6 (ar8) ?_
   simp only[go_sem];exact ab1 _
  ·have epk:ar9 p n=.tuple [.agg cn9.cs,.int .i64 5]:=by unfold ar9; rw[if_neg hin]
   have e2:(decide (0<=n)&&decide (n<((ac1 p).length:Int)))=false:=by rw[<- hrl]; simpa using hin
   rw[epk] at hp1;rw[e2] at hk2;have hz:=cm1;unfold fx1 at hz
   first|refine aa4 fok18 (hp1) ?_|refine aa6 (hp1) ?_
   simp only[go_sem,ah2,af9,af1]
   first|refine aa4 fok19 (hk2) ?_|refine aa6 (hk2) ?_
   simp only[go_sem,show decide ((5:Int)=0)=false from rfl,jc2,ah2,af9,af1]
   first|refine aa4 fok20 (hz) ?_|refine aa6 (hz) ?_
   simp only[go_sem]
   first|refine aa4 fok5 (ar8) ?_|refine aa6 (ar8) ?_
   simp only[go_sem];exact ab1 _
end Go.Id.Tryz
set_option linter.all false
namespace Go.Id.Tryz
open Go Go.Id Go.Proofs Go.Id.Md
set_option maxRecDepth 100000
variable {H:Type} {enc:TypeId×Value->H} {w:World} {base:Nat} {sp:Nat->Bool} {held:Bool}
abbrev Rd (enc:TypeId×Value->H)(w:World)(base:Nat)(sp:Nat->Bool)(held:Bool):=Rdg enc Tryz.prog w base sp held
theorem gv6 {n:Nat}{d:DataW H}(h:Rd enc w base sp held n 44 d)(hw:WT Tryz.prog 44 d):∃ e:EVR,e.fit/\∀ m,n<=m->dv Tryz.prog m 44 d=some e.cs:=by
 obtain ⟨n',ds,rfl,rfl,hl,hf⟩:=bf2 Tryz.underlying44 h hw
 match ds,hl with
 | [d0,d1,d2],_=>
  obtain ⟨r0,w0⟩:=hf 0 _ d0 rfl rfl;obtain ⟨r1,w1⟩:=hf 1 _ d1 rfl rfl;obtain ⟨r2,w2⟩:=hf 2 _ d2 rfl rfl;obtain ⟨z,_,_,e0⟩:=cx7 Tryz.underlying3 r0;obtain ⟨s1,l1,e1⟩:=cj4 Tryz.underlying9 r1 w1;obtain ⟨s2,l2,e2⟩:=cj4 Tryz.underlying9 r2 w2;refine ⟨⟨z,s1,s2⟩,⟨l1,l2⟩,fun m hm=>?_⟩
  cases m with
  | zero=>omega
  | succ m=>
   have c3:Tryz.prog.cellsOf 3=1:=by kernel_rfl
   have c9:Tryz.prog.cellsOf 9=1:=by kernel_rfl
   have ct:Tryz.prog.cellsOf 44=3:=by kernel_rfl
   simp only[dv,Tryz.underlying44,List.map_cons,List.map_nil,dvF,e0 m (by omega),e1 m (by omega),e2 m (by omega),List.length_cons,List.length_nil,c3,c9,ct,List.cons_append,List.nil_append,List.append_nil,Nat.reduceAdd,↓reduceIte];rfl
theorem ix2 {z:Int}(h:(Lit.int .u8 z).wf=true):0<=z/\z<256:=by
 simp only[Lit.wf,Bool.and_eq_true,decide_eq_true_eq] at h;have e1:IntKind.u8.min=0:=rfl;have e2:IntKind.u8.max=255:=rfl;omega
theorem ix3:Tryz.prog.cellsOf 3=1:=by kernel_rfl
theorem ix4:Tryz.prog.cellsOf 5=1:=by kernel_rfl
theorem hn7:Tryz.prog.cellsOf 9=1:=by kernel_rfl
theorem il2:Tryz.prog.cellsOf 44=3:=by kernel_rfl
theorem hn8:Tryz.prog.cellsOf 87=5:=by kernel_rfl
theorem fv1:Tryz.prog.cellsOf 95=7:=by kernel_rfl
theorem il3:Tryz.prog.cellsOf 48=15:=by kernel_rfl
theorem gv7:Tryz.prog.cellsOf 57=2:=by kernel_rfl
theorem il4:Tryz.prog.cellsOf 45=1:=by kernel_rfl
theorem eh8:Tryz.prog.cellsOf 46=1:=by kernel_rfl
theorem il5:Tryz.prog.cellsOf 40=1:=by kernel_rfl
theorem il6:Tryz.prog.cellsOf 23=1:=by kernel_rfl
theorem gv8 {n:Nat}{d:DataW H}(h:Rd enc w base sp held n 87 d)(hw:WT Tryz.prog 87 d):∃ e:Dep,e.fit/\∀ m,n<=m->dv Tryz.prog m 87 d=some e.cs:=by
 obtain ⟨n',ds,rfl,rfl,hl,hf⟩:=bf2 Tryz.underlying87 h hw
 match ds,hl with
 | [d0,d1,d2],_=>
  obtain ⟨r0,w0⟩:=hf 0 _ d0 rfl rfl;obtain ⟨r1,w1⟩:=hf 1 _ d1 rfl rfl;obtain ⟨r2,w2⟩:=hf 2 _ d2 rfl rfl;obtain ⟨s0,l0,e0⟩:=cj4 Tryz.underlying9 r0 w0;obtain ⟨z,_,_,e1⟩:=cx7 Tryz.underlying5 r1;obtain ⟨e,l2,e2⟩:=gv6 r2 w2;refine ⟨⟨s0,z,e⟩,⟨l0,l2⟩,fun m hm=>?_⟩
  cases m with
  | zero=>omega
  | succ m=>
   simp only[dv,Tryz.underlying87,List.map_cons,List.map_nil,dvF,e0 m (by omega),e1 m (by omega),e2 m (by omega),EVR.cs,List.length_cons,List.length_nil,hn7,ix4,il2,hn8,List.cons_append,List.nil_append,List.append_nil,Nat.reduceAdd,↓reduceIte];rfl
theorem hn9:∀ (n:Nat) (d:DataW H),Rd enc w base sp held n 95 d->WT Tryz.prog 95 d->∃ r:aa9,r.ok/\∀ m,n<=m->dv Tryz.prog m 95 d=some r.cs:=by
 intro n
 induction n using Nat.strongRecOn with
 | ind n ih=>
  intro d h hw;obtain ⟨n',ds,rfl,rfl,hl,hf⟩:=bf2 Tryz.underlying95 h hw
  match ds,hl with
  | [d0,d1,d2],_=>
   obtain ⟨r0,w0⟩:=hf 0 _ d0 rfl rfl;obtain ⟨r1,w1⟩:=hf 1 _ d1 rfl rfl;obtain ⟨r2,w2⟩:=hf 2 _ d2 rfl rfl;obtain ⟨z,_,hz,e0⟩:=cx7 Tryz.underlying5 r0;obtain ⟨e,l1,e1⟩:=gv8 r1 w1;obtain ⟨l,k1,k2,e2⟩:=bj7 aa9.cs aa9.ok Tryz.underlying46 fv1 (by decide) (by decide +kernel) (fun r=>by rw[aa9.an4]; rfl) (fun m d' hm hr hw'=>ih m (by omega) d' hr hw') r2 w2;have hz':=ix2 hz;refine ⟨.mk z e l,aa9.fq6.2 ⟨hz'.1,hz'.2,l1,k1,k2⟩,fun m hm=>?_⟩
   cases m with
   | zero=>omega
   | succ m=>
    simp only[dv,Tryz.underlying95,List.map_cons,List.map_nil,dvF,e0 m (by omega),e1 m (by omega),e2 m (by omega),Dep.cs,List.length_cons,List.length_nil,eh8,ix4,hn8,fv1,List.cons_append,List.nil_append,List.append_nil,Nat.reduceAdd,↓reduceIte];rw[aa9.an4];rfl
theorem fv2 {n:Nat}{d:DataW H}(h:Rd enc w base sp held n 45 d)(hw:WT Tryz.prog 45 d):∃ l:List Dep,l.length<2^62/\(∀ a∈l,a.fit)/\∀ m,n<=m->dv Tryz.prog m 45 d=some [deps l]:=
 bj7 Dep.cs Dep.fit Tryz.underlying45 hn8 (by decide) (by decide +kernel) (fun _=>rfl) (fun _ _ _ hr hw'=>gv8 hr hw') h hw
theorem ba7 {n:Nat}{d:DataW H}(h:Rd enc w base sp held n 46 d)(hw:WT Tryz.prog 46 d):∃ l:List aa9,l.length<2^62/\(∀ a∈l,a.ok)/\∀ m,n<=m->dv Tryz.prog m 46 d=some [ag6 l]:=
 bj7 aa9.cs aa9.ok Tryz.underlying46 fv1 (by decide) (by decide +kernel) (fun r=>by rw[aa9.an4]; rfl) (fun m d' _ hr hw'=>hn9 m d' hr hw') h hw
theorem ho4 {n:Nat}{d:DataW H}(h:Rd enc w base sp held n 40 d)(hw:WT Tryz.prog 40 d):∃ l:List Str,l.length<2^62/\(∀ a∈l,a.length<2^62)/\∀ m,n<=m->dv Tryz.prog m 40 d=some [strs l]:=
 bj7 ap8 (fun s:Str=>s.length<2^62) Tryz.underlying40 hn7 (by decide) (by decide +kernel) (fun _=>rfl) (fun _ _ _ hr hw'=>cj4 Tryz.underlying9 hr hw') h hw
theorem il7 {n:Nat}{d:DataW H}(h:Rd enc w base sp held n 48 d)(hw:WT Tryz.prog 48 d):∃ p:aa2,p.Ok/\∀ m,n<=m->dv Tryz.prog m 48 d=some p.cs:=by
 obtain ⟨n',ds,rfl,rfl,hl,hf⟩:=bf2 Tryz.underlying48 h hw
 match ds,hl with
 | [d0,d1,d2,d3,d4,d5,d6,d7,d8,d9,d10,d11,d12],_=>
  obtain ⟨r0,w0⟩:=hf 0 _ d0 rfl rfl;obtain ⟨r1,w1⟩:=hf 1 _ d1 rfl rfl;obtain ⟨r2,w2⟩:=hf 2 _ d2 rfl rfl;obtain ⟨r3,w3⟩:=hf 3 _ d3 rfl rfl;obtain ⟨r4,w4⟩:=hf 4 _ d4 rfl rfl;obtain ⟨r5,w5⟩:=hf 5 _ d5 rfl rfl;obtain ⟨r6,w6⟩:=hf 6 _ d6 rfl rfl;obtain ⟨r7,w7⟩:=hf 7 _ d7 rfl rfl;obtain ⟨r8,w8⟩:=hf 8 _ d8 rfl rfl;obtain ⟨r9,w9⟩:=hf 9 _ d9 rfl rfl;obtain ⟨r10,w10⟩:=hf 10 _ d10 rfl rfl;obtain ⟨r11,w11⟩:=hf 11 _ d11 rfl rfl;obtain ⟨r12,w12⟩:=hf 12 _ d12 rfl rfl;obtain ⟨x0,l0,e0⟩:=cj4 Tryz.underlying9 r0 w0;obtain ⟨x1,l1,e1⟩:=gv6 r1 w1;obtain ⟨x2,_,_,e2⟩:=cx7 Tryz.underlying5 r2;obtain ⟨x3,l3,e3⟩:=cj4 Tryz.underlying9 r3 w3;obtain ⟨x4,l4,k4,e4⟩:=fv2 r4 w4;obtain ⟨x5,l5,k5,e5⟩:=ba7 r5 w5;obtain ⟨x6,l6,k6,e6⟩:=ba7 r6 w6;obtain ⟨x7,l7,k7,e7⟩:=fv2 r7 w7;obtain ⟨x8,l8,k8,e8⟩:=ba7 r8 w8;obtain ⟨x9,l9,k9,e9⟩:=ba7 r9 w9;obtain ⟨x10,l10,k10,e10⟩:=ba7 r10 w10;obtain ⟨x11,l11,k11,e11⟩:=ba7 r11 w11;obtain ⟨x12,l12,k12,e12⟩:=ho4 r12 w12;refine ⟨⟨x0,x1,x2,x3,x4,x5,x6,x7,x8,x9,x10,x11,x12⟩,⟨l0,l3,l1,⟨l4,k4⟩,⟨l7,k7⟩,⟨l12,k12⟩,?_⟩,fun m hm=>?_⟩
  ·intro x hx;simp only[aa2.rows,List.mem_cons,List.not_mem_nil,or_false] at hx;rcases hx with rfl|rfl|rfl|rfl|rfl|rfl
   ·exact ⟨l5,k5⟩
   ·exact ⟨l6,k6⟩
   ·exact ⟨l8,k8⟩
   ·exact ⟨l9,k9⟩
   ·exact ⟨l10,k10⟩
   ·exact ⟨l11,k11⟩
  cases m with
  | zero=>omega
  | succ m=>
   simp only[dv,Tryz.underlying48,List.map_cons,List.map_nil,dvF,e0 m (by omega),e1 m (by omega),e2 m (by omega),e3 m (by omega),e4 m (by omega),e5 m (by omega),e6 m (by omega),e7 m (by omega),e8 m (by omega),e9 m (by omega),e10 m (by omega),e11 m (by omega),e12 m (by omega),EVR.cs,List.length_cons,List.length_nil,hn7,ix4,il2,il4,eh8,il5,il3,List.cons_append,List.nil_append,List.append_nil,Nat.reduceAdd,↓reduceIte];rfl
theorem fv3 {n:Nat}{d:DataW H}(h:Rd enc w base sp held n 23 d)(hw:WT Tryz.prog 23 d):∃ l:List aa2,l.length<2^62/\(∀ a∈l,a.Ok)/\∀ m,n<=m->dv Tryz.prog m 23 d=some [.aa3 (l.map aa2.cs)]:=
 bj7 aa2.cs aa2.Ok Tryz.underlying23 il3 (by decide) (by decide +kernel) (fun _=>rfl) (fun _ _ _ hr hw'=>il7 hr hw') h hw
theorem ho5 {n:Nat}{d:DataW H}(h:Rd enc w base sp held n 57 d)(hw:WT Tryz.prog 57 d):∃ r:ak1,ak1.Ok r/\∀ m,n<=m->dv Tryz.prog m 57 d=some r.cs:=by
 obtain ⟨n',ds,rfl,rfl,hl,hf⟩:=bf2 Tryz.underlying57 h hw
 match ds,hl with
 | [d0,d1],_=>
  obtain ⟨r0,w0⟩:=hf 0 _ d0 rfl rfl;obtain ⟨r1,w1⟩:=hf 1 _ d1 rfl rfl;obtain ⟨z,_,_,e0⟩:=cx7 Tryz.underlying3 r0;obtain ⟨l,k1,k2,e1⟩:=fv3 r1 w1;refine ⟨⟨z,l⟩,⟨k1,k2⟩,fun m hm=>?_⟩
  cases m with
  | zero=>omega
  | succ m=>
   simp only[dv,Tryz.underlying57,List.map_cons,List.map_nil,dvF,e0 m (by omega),e1 m (by omega),List.length_cons,List.length_nil,ix3,il6,gv7,List.cons_append,List.nil_append,List.append_nil,Nat.reduceAdd,↓reduceIte];rfl
theorem gm3 {n:Nat}{d:DataW H}(h:Rd enc w base sp held n 22 d)(hw:WT Tryz.prog 22 d):∃ l:List ak1,l.length<2^62/\(∀ a∈l,ak1.Ok a)/\∀ m,n<=m->dv Tryz.prog m 22 d=some [.aa3 (l.map ak1.cs)]:=
 bj7 ak1.cs ak1.Ok Tryz.underlying22 gv7 (by decide) (by decide +kernel) (fun _=>rfl) (fun _ _ _ hr hw'=>ho5 hr hw') h hw
end Go.Id.Tryz
set_option linter.all false
namespace Go.Id
open Go Go.Id
mutual
def isz:IV->Nat
 | .str s=>s.length+1
 | .aa3 es=>cb4 es+1
 | _=>1
def bc5:List IV->Nat
 | []=>0
 | c::cs=>isz c+bc5 cs
def cb4:List (List IV)->Nat
 | []=>0
 | e::es=>bc5 e+cb4 es
end
theorem ea8 (a b:List IV):bc5 (a++b)=bc5 a+bc5 b:=by
 induction a with
 | nil=>simp[bc5]
 | cons x a ih=>simp only[List.cons_append,bc5,ih]; omega
theorem br8 {α:Type}(f:α->List IV):∀ (l:List α),∀ a∈l,bc5 (f a)<=cb4 (l.map f):=by
 intro l
 induction l with
 | nil=>intro a h; cases h
 | cons x l ih=>
  intro a h;simp only[List.map_cons,cb4];rcases List.mem_cons.1 h with rfl|h
  ·omega
  ·have:=ih a h; omega
theorem au8 {α:Type}(f:α->List IV)(hf:∀ a,1<=bc5 (f a)):∀ (l:List α),l.length<=cb4 (l.map f):=by
 intro l
 induction l with
 | nil=>simp
 | cons x l ih=>
  simp only[List.map_cons,cb4,List.length_cons];have:=hf x;omega
namespace Md
theorem Dep.szs (d:Dep):bc5 d.cs=d.name.length+d.evr.ver.length+d.evr.rel.length+5:=by
 simp only[Dep.cs,bc5,isz]; omega
theorem aa9.szs (r:aa9):bc5 r.cs=r.dep.name.length+r.dep.evr.ver.length+r.dep.evr.rel.length+cb4 (r.args.map aa9.cs)+7:=by
 rw[aa9.an4]; simp only[bc5,isz]; omega
theorem aa2.szs (p:aa2):bc5 p.cs=p.name.length+p.evr.ver.length+p.evr.rel.length+p.vendor.length+cb4 (p.provides.map Dep.cs)+cb4 (p.requires.map aa9.cs)+cb4 (p.conflicts.map aa9.cs)+cb4 (p.ab2.map Dep.cs)+cb4 (p.ab7.map aa9.cs)+cb4 (p.ab3.map aa9.cs)+cb4 (p.suggests.map aa9.cs)+cb4 (p.ac3.map aa9.cs)+cb4 (p.files.map ap8)+15:=by
 simp only[aa2.cs,bc5,isz]; omega
theorem ak1.szs (r:ak1):bc5 r.cs=cb4 (r.packages.map aa2.cs)+2:=by
 simp only[ak1.cs,bc5,isz]; omega
theorem fc4 (r:aa9):r.count<=bc5 r.cs:=by
 induction r using aa9.ind with
 | h k d xs ih=>
  rw[aa9.szs]
  have:∀ ys:List aa9,(∀ y∈ys,y∈xs)->aa9.counts ys<=cb4 (ys.map aa9.cs):=by
   intro ys
   induction ys with
   | nil=>intro _; simp[aa9.counts]
   | cons y ys ih2=>
    intro h;have h1:=ih y (h y (List.mem_cons_self ..));have h2:=ih2 fun z hz=>h z (List.mem_cons_of_mem _ hz)
    simp only[aa9.counts,List.map_cons,cb4];omega
  have:=this xs fun y h=>h
  simp only[aa9.count,aa9.args];omega
theorem go8 (r:aa9):r.ok->bc5 r.cs<2^31->r.fit:=by
 induction r using aa9.ind with
 | h k d xs ih=>
  intro ho hs;obtain ⟨a,b,c,e,f⟩:=aa9.fq6.1 ho;rw[aa9.szs] at hs;simp only[aa9.args] at hs;have hl:=au8 aa9.cs (fun r=>by rw[aa9.szs]; omega) xs;refine aa9.bc7.2 ⟨a,b,c,by omega,fun r hr=>ih r hr (f r hr) ?_⟩;have:=br8 aa9.cs xs r hr;omega
theorem fx9 {p:aa2}(h:p.Ok)(hs:bc5 p.cs<2^31):p.Fit:=by
 rw[aa2.szs] at hs;have l1:=au8 Dep.cs (fun r=>by rw[Dep.szs]; omega) p.provides;have l2:=au8 Dep.cs (fun r=>by rw[Dep.szs]; omega) p.ab2;have l3:=au8 ap8 (fun r=>by simp only[ap8,bc5,isz]; omega) p.files
 have hr:∀ x∈p.rows,cb4 (x.2.map aa9.cs)<2^31:=by
  intro x hx;simp only[aa2.rows,List.mem_cons,List.not_mem_nil,or_false] at hx;rcases hx with rfl|rfl|rfl|rfl|rfl|rfl<;>simp only[]<;>omega
 exact {
  name:=h.name
  evr:=h.evr
  bd4:=⟨by omega,h.bd4.2⟩
  obs:=⟨by omega,h.obs.2⟩
  files:=⟨by omega,h.files.2⟩
  ay5:=fun x hx=>by
   have h1:=hr x hx;have h2:=au8 aa9.cs (fun r=>by rw[aa9.szs]; omega) x.2;refine ⟨by omega,fun r hr'=>?_⟩;have h3:=br8 aa9.cs x.2 r hr';have h4:=fc4 r;exact ⟨go8 r ((h.ay5 x hx).2 r hr') (by omega),by omega⟩ }
theorem fy1 (repos:List ak1):aj1 repos<=cb4 (repos.map ak1.cs):=by
 induction repos with
 | nil=>simp[aj1]
 | cons r rs ih=>
  have h2:=au8 aa2.cs (fun r=>by rw[aa2.szs]; omega) r.packages;have h3:=ak1.szs r;simp only[aj1,List.map_cons,List.sum_cons,cb4] at ih ⊢;omega
end Md
end Go.Id
set_option linter.all false
namespace Go.Id.Tryz
open Go Go.Id Go.Proofs Go.Id.Md
open Go.Proofs.YtjpdjifjokldlaaGreatDoor
set_option maxRecDepth 100000
variable {H:Type} {enc:TypeId×Value->H} {w:World} {base:Nat} {sp:Nat->Bool} {held:Bool}
theorem go5 (d:DataW H):1<=Rows.uptoBulk d:=by
 cases d with
 | lit l=>cases l<;>simp[Rows.uptoBulk]
 | _=>simp[Rows.uptoBulk]
theorem go6 {r:DataW H->Option (List IV)}{c:Nat}(hr:∀ d cs,r d=some cs->bc5 cs<=Rows.uptoBulk d):∀ (ds:List (DataW H)) es,dvS r c ds=some es->cb4 es<=Rows.uptoBulkAll ds:=by
 intro ds
 induction ds with
 | nil=>intro es h; cases h; simp[cb4]
 | cons d ds ih=>
  intro es h;simp only[dvS] at h;split at h
  ·rename_i a ha;split at h
   ·split at h
    ·rename_i b hb;cases h;have h1:=hr d a ha;have h2:=ih b hb;simp only[cb4,Rows.uptoBulkAll];omega
    ·cases h
   ·cases h
  ·cases h
theorem ej2 {r:TypeId->DataW H->Option (List IV)}{P:Program}(hr:∀ t d cs,r t d=some cs->bc5 cs<=Rows.uptoBulk d):∀ (fs:List (TypeId×Nat)) (ds:List (DataW H)) (off:Nat) es,dvF r P fs ds off=some es->bc5 es<=Rows.uptoBulkAll ds:=by
 intro fs
 induction fs with
 | nil=>
  intro ds off es h
  cases ds with
  | nil=>cases h; simp[bc5]
  | cons d ds=>simp[dvF] at h
 | cons f fs ih=>
  intro ds off es h
  cases ds with
  | nil=>simp[dvF] at h
  | cons d ds=>
   simp only[dvF] at h;split at h
   ·split at h
    ·rename_i a ha;split at h
     ·split at h
      ·rename_i b hb;cases h;have h1:=hr _ d a ha;have h2:=ih ds _ b hb;simp only[ea8,Rows.uptoBulkAll];omega
      ·cases h
     ·cases h
    ·cases h
   ·cases h
theorem cm3 {P:Program}:∀ (m:Nat) (t:TypeId) (d:DataW H) cs,dv P m t d=some cs->bc5 cs<=Rows.uptoBulk d:=by
 intro m
 induction m with
 | zero=>intro t d cs h; simp[dv] at h
 | succ m ih=>
  intro t d cs h;have h1:=go5 d;simp only[dv] at h;split at h
  ·cases h; simpa [bc5,isz] using h1
  ·cases h; simpa [bc5,isz] using h1
  ·cases h; simp[bc5,isz,Rows.uptoBulk]
  ·cases h; simpa [bc5,isz] using h1
  ·split at h
   ·cases h; simpa [bc5,isz] using h1
   ·cases h
  ·cases h; simpa [bc5,isz,cb4] using h1
  ·split at h
   ·cases h
   ·split at h
    ·rename_i es he;cases h;have:=go6 (ih _) _ _ he;simp only[bc5,isz,Rows.uptoBulk];omega
    ·cases h
  ·split at h
   ·rename_i ivs he;split at h
    ·cases h;have:=ej2 (fun t d cs=>ih t d cs) _ _ _ _ he;simp only[Rows.uptoBulk];omega
    ·cases h
   ·cases h
  ·split at h
   ·rename_i ivs he;split at h
    ·cases h;have:=ej2 (fun t d cs=>ih t d cs) _ _ _ _ he;simp only[Rows.uptoBulk];omega
    ·cases h
   ·cases h
  ·split at h
   ·split at h
    ·cases h; simpa [bc5,isz] using h1
    ·cases h
   ·cases h
  ·cases h
theorem ix9 {repos:List ak1}{inst:List aa2}(h1:∀ r∈repos,ak1.Ok r)(h2:∀ p∈inst,p.Ok)(b1:bc5 [IV.aa3 (repos.map ak1.cs)]<=1048576)(b2:bc5 [IV.aa3 (inst.map aa2.cs)]<=1048576):im4 repos inst:=by
 simp only[bc5,isz] at b1 b2;have l1:=au8 ak1.cs (fun r=>by rw[ak1.szs]; omega) repos;have l2:=au8 aa2.cs (fun r=>by rw[aa2.szs]; omega) inst;have l3:=fy1 repos;refine ⟨by omega,by omega,by omega,fun r hr=>?_,fun p hp=>?_,h1,h2⟩
 ·have m1:=br8 ak1.cs repos r hr;rw[ak1.szs] at m1;have l4:=au8 aa2.cs (fun r=>by rw[aa2.szs]; omega) r.packages;refine ⟨by omega,fun p hp=>fx9 ((h1 r hr).2 p hp) ?_⟩;have:=br8 aa2.cs r.packages p hp;omega
 ·have:=br8 aa2.cs inst p hp;exact fx9 (h2 p hp) (by omega)
variable {H:Type} {enc:TypeId×Value->H} {w:World} {base:Nat} {sp:Nat->Bool} {held:Bool}
theorem gw3 {n:Nat}{d:DataW H}(h:Rd enc w base sp held n 3 d)(hw:WT Tryz.prog 3 d):∃ z:Int,∀ m,n<=m->dv Tryz.prog m 3 d=some [.int .i64 z]:=by
 obtain ⟨z,_,_,e⟩:=cx7 Tryz.underlying3 h;exact ⟨z,e⟩
theorem hq7 {n:Nat}{d:DataW H}(h:Rd enc w base sp held n 9 d)(hw:WT Tryz.prog 9 d):∃ z:Str,∀ m,n<=m->dv Tryz.prog m 9 d=some [.str z]:=by
 obtain ⟨z,_,e⟩:=cj4 Tryz.underlying9 h hw;exact ⟨z,e⟩
theorem hq9 {s:Str}(b:bc5 [IV.str s]<=1048576):s.length<2^62:=by
 simp only[bc5,isz] at b;omega
end Go.Id.Tryz
