/- What the statements of pools go over; the examples. Conditions: none. -/
import Derived.Test.YtiallonafbejaaaDoorTXPG2
import Derived.Test.YtiallonafbejaaaDoorMd
set_option linter.all false
namespace Go.Id.Tryd
open Go Go.Id Go.Proofs Go.Id.Md
def muchV (x : Nat × Bool) : IV:=.tuple [.int .i64 x.1,.bool x.2]
theorem frz_much {s : Store} (n : Nat) (b : Bool) : FrzN s 0 (.tuple [.int .i64 n,.bool b]) (muchV (n,b)):=.tuple2 (.cons (frz_int _ _) (.cons (frz_bool _) .nil))
theorem muchL_cons (r : Rich) (rs : List Rich) (deep n : Nat) : muchL (r :: rs) deep n=if big r.dep=true then (0,true) else
  if (muchA r (deep+1)).2=true ∨ 2000 < n+1+(muchA r (deep+1)).1 then (0,true) else muchL rs deep (n+1+(muchA r (deep+1)).1):=by
 simp only [muchL]
theorem much_pc (r : Rich) : ∀ deep : Nat,deep≤21→r.ok→PC Tryd.prog EE 30 [riches r.args,.int .i64 deep] (muchV (muchA r deep)):=by
 induction r using Rich.ind with
 | h k d xs ih =>
  intro deep hdeep hok
  obtain ⟨o1,o2,o3,o4,o5⟩:=Rich.ok_mk.1 hok
  refine PC_e hE fok30 (Nat.le_of_ble_eq_true rfl) (two_mem (bnd_riches _) (.int _ _)) ?_
  by_cases b1 : 20 < deep
  ·have c1 : (20 : Int) < deep:=by omega
   simp only [ic30,go_sem,Rich.args,muchA,c1,b1,true_or]
   exact frz_much 0 true
  have c1 : ¬ (20 : Int) < deep:=by omega
  by_cases b2 : 100 < xs.length
  ·have c2 : (100 : Int) < xs.length:=by omega
   simp only [ic30,go_sem,Rich.args,muchA,c1,c2,b1,b2,or_true]
   exact frz_much 0 true
  have c2 : ¬ (100 : Int) < xs.length:=by omega
  simp only [ic30,go_sem,Rich.args,muchA,c1,c2,b1,b2,or_self]
  refine loop_up noT (fun i fr s => ∃ n : Nat,fr=[(0,riches xs),(1,.int .i64 deep),(6,.int .i64 n),(7,.int .i64 i)]∧n≤2000∧muchL xs deep 0=muchL (xs.drop i) deep n) xs.length ⟨0,rfl,by omega,rfl⟩ ?_
  rintro i fr s hi ⟨n,rfl,hn,hm⟩
  by_cases hlt : i < xs.length
  ·obtain ⟨x,hx,hxi,hdr,hget,htk⟩:=at_nth xs i hlt
   have c3 : (i : Int) < xs.length:=by omega
   have c4 : (0 : Int)≤i:=by omega
   have w1:=wrapS (i:=i) (by omega)
   have w2:=wrapS (i:=deep) (by omega)
   have w3:=wrapS (i:=n) (by omega)
   rw [hdr,muchL_cons] at hm
   obtain ⟨k',d',ys⟩:=x
   rw [show (Rich.mk k' d' ys).dep=d' from rfl] at hm
   obtain ⟨x1,x2,x3,x4,x5⟩:=Rich.ok_mk.1 (o5 _ hx)
   have hA:=ih _ hx (deep+1) (by omega) (o5 _ hx)
   have hsz : IntKind.i64.wrap ((d'.name.length : Int)+d'.evr.ver.length)=((d'.name.length+d'.evr.ver.length : Nat) : Int):=by
    have:=x3.1; have:=x3.2.1
    rw [wrap64 (by omega) (by omega)]; omega
   simp only [go_sem,c3,c4,hget,Rich.cs_eq,Rich.kind,Rich.dep,Rich.args,hsz,e_lenstr] at hA ⊢
   have hbig : big d'=(decide (500 < d'.name.length+d'.evr.ver.length) || decide (500 < d'.evr.rel.length)):=rfl
   by_cases q1 : 500 < d'.name.length+d'.evr.ver.length
   ·have e1 : (500 : Int) < ((d'.name.length+d'.evr.ver.length : Nat) : Int):=by omega
    have hb : big d'=true:=by rw [hbig]; simp [q1]
    rw [if_pos hb] at hm
    simp only [go_sem,e1,hm]
    exact frz_much 0 true
   have e1 : ¬ (500 : Int) < ((d'.name.length+d'.evr.ver.length : Nat) : Int):=by omega
   by_cases q2 : 500 < d'.evr.rel.length
   ·have e2 : (500 : Int) < d'.evr.rel.length:=by omega
    have hb : big d'=true:=by rw [hbig]; simp [q2]
    rw [if_pos hb] at hm
    simp only [go_sem,c3,c4,hget,Rich.cs_eq,Rich.kind,Rich.dep,Rich.args,e1,e2,hm]
    exact frz_much 0 true
   have e2 : ¬ (500 : Int) < d'.evr.rel.length:=by omega
   have hb : ¬ big d'=true:=by rw [hbig]; simp [q1,q2]
   rw [if_neg hb] at hm
   simp only [go_sem,c3,c4,hget,Rich.cs_eq,Rich.kind,Rich.dep,Rich.args,e1,e2,w2]
   refine call_pc fok30 hA ?_
   have hkl : (muchA (.mk k' d' ys) (deep+1)).1≤2000:=by rw [muchA_args]; exact muchM_le _ _
   generalize muchA (.mk k' d' ys) (deep+1)=ka at *
   have w4 : IntKind.i64.wrap (((n+1 : Nat) : Int)+ka.1)=((n+1+ka.1 : Nat) : Int):=by
    rw [wrap64 (by omega) (by omega)]; omega
   cases hk2 : ka.2 with
   | true =>
    rw [if_pos (.inl hk2)] at hm
    simp only [go_sem,muchV,hk2,w3,w4,hm]
    exact frz_much 0 true
   | false =>
    by_cases q3 : 2000 < n+1+ka.1
    ·have e3 : (2000 : Int) < ((n+1+ka.1 : Nat) : Int):=by omega
     rw [if_pos (.inr q3)] at hm
     simp only [go_sem,muchV,hk2,w3,w4,e3,hm]
     exact frz_much 0 true
    ·have e3 : ¬ (2000 : Int) < ((n+1+ka.1 : Nat) : Int):=by omega
     rw [if_neg (by rw [hk2]; simp; omega)] at hm
     simp only [go_sem,muchV,hk2,w1,w3,w4,e3]
     exact ⟨hlt,n+1+ka.1,rfl,by omega,hm⟩
  ·have hi' : i=xs.length:=by omega
   subst hi'
   have c3 : ¬ (xs.length : Int) < xs.length:=by omega
   rw [List.drop_length] at hm
   simp only [go_sem,c3,hm,muchL]
   exact frz_much n false
theorem muchM_pc (l : List Rich) (h1 : l.length < 2 ^ 62) (h2 : ∀ r∈l,r.ok) : PC Tryd.prog EE 30 [riches l,.int .i64 0] (muchV (muchM l 0)):=by
 have h:=much_pc (.mk 1 dep0 l) 0 (by omega) (Rich.ok_mk.2 ⟨by omega,by omega,⟨by decide,by decide,by decide⟩,h1,h2⟩)
 rw [muchA_args] at h
 exact h
def lC (l : List Rich) : List IV:=[riches l]
theorem lists6_rows {p : Package} {l : List Rich} (h : l∈lists6 p) : ∃ x∈p.rows,x.2=l:=by
 simp only [lists6,List.mem_cons,List.not_mem_nil,or_false] at h
 rcases h with rfl | rfl | rfl | rfl | rfl | rfl <;> simp [Package.rows]
theorem largeL_cons (l : List Rich) (ls : List (List Rich)) (n : Nat) : largeL (l :: ls) n=if (muchM l 0).2=true ∨ 2000 < n+(muchM l 0).1 then true else largeL ls (n+(muchM l 0).1):=by simp only [largeL]
theorem large_pc (p : Package) (ho : p.Ok) : PC Tryd.prog EE 15 [.agg p.cs] (.bool (largeM p)):=by
 refine PC_e hE fok15 (Nat.le_of_ble_eq_true rfl) (one_mem (bnd_pkgA p)) ?_
 by_cases b1 : 100 < p.provides.length
 ·have c1 : (100 : Int) < p.provides.length:=by omega
  simp only [ic15,go_sem,pkg_leaf,Package.cs,c1,largeM,b1]
  exact frz_bool _
 have c1 : ¬ (100 : Int) < p.provides.length:=by omega
 by_cases b2 : 100 < p.obsoletes.length
 ·have c2 : (100 : Int) < p.obsoletes.length:=by omega
  simp only [ic15,go_sem,pkg_leaf,Package.cs,c1,c2,largeM,b1,b2]
  exact frz_bool _
 have c2 : ¬ (100 : Int) < p.obsoletes.length:=by omega
 by_cases b3 : 100 < p.files.length
 ·have c3 : (100 : Int) < p.files.length:=by omega
  simp only [ic15,go_sem,pkg_leaf,Package.cs,c1,c2,c3,largeM,b1,b2,b3]
  exact frz_bool _
 have c3 : ¬ (100 : Int) < p.files.length:=by omega
 by_cases b4 : 1000 < p.name.length
 ·have c4 : (1000 : Int) < p.name.length:=by omega
  simp only [ic15,go_sem,pkg_leaf,Package.cs,c1,c2,c3,c4,largeM,b1,b2,b3,b4]
  exact frz_bool _
 have c4 : ¬ (1000 : Int) < p.name.length:=by omega
 by_cases b5 : 1000 < p.vendor.length
 ·have c5 : (1000 : Int) < p.vendor.length:=by omega
  simp only [ic15,go_sem,pkg_leaf,Package.cs,c1,c2,c3,c4,c5,largeM,b1,b2,b3,b4,b5]
  exact frz_bool _
 have c5 : ¬ (1000 : Int) < p.vendor.length:=by omega
 by_cases b6 : 1000 < p.evr.ver.length
 ·have c6 : (1000 : Int) < p.evr.ver.length:=by omega
  simp only [ic15,go_sem,pkg_leaf,Package.cs,c1,c2,c3,c4,c5,c6,largeM,b1,b2,b3,b4,b5,b6]
  exact frz_bool _
 have c6 : ¬ (1000 : Int) < p.evr.ver.length:=by omega
 by_cases b7 : 1000 < p.evr.rel.length
 ·have c7 : (1000 : Int) < p.evr.rel.length:=by omega
  simp only [ic15,go_sem,pkg_leaf,Package.cs,c1,c2,c3,c4,c5,c6,c7,largeM,b1,b2,b3,b4,b5,b6,b7]
  exact frz_bool _
 have c7 : ¬ (1000 : Int) < p.evr.rel.length:=by omega
 have hM : largeM p=largeL (lists6 p) 0:=by simp only [largeM,b1,b2,b3,b4,b5,b6,b7,decide_false,Bool.false_or]
 rw [hM]
 simp only [ic15,go_sem,pkg_leaf,Package.cs,c1,c2,c3,c4,c5,c6,c7]
 refine loop_up noT (fun i fr s => ∃ n : Nat,fr=[(3,.int .i64 n),(62,.tslice ((lists6 p).map lC)),(63,.int .i64 6),(64,.int .i64 i)]∧n≤2000∧largeL (lists6 p) 0=largeL ((lists6 p).drop i) n) 6 ⟨0,rfl,by omega,rfl⟩ ?_
 rintro i fr s hi ⟨n,rfl,hn,hm⟩
 by_cases hlt : i < 6
 ·obtain ⟨l,hl,hli,hdr,hget,htk⟩:=at_nth (lists6 p) i hlt
  have d1 : (i : Int) < 6:=by omega
  have d2 : (0 : Int)≤i:=by omega
  have d3 : (i : Int) < ((lists6 p).length : Nat):=by simp only [lists6,List.length_cons,List.length_nil]; omega
  have w1:=wrapS (i:=i) (by omega)
  rw [hdr,largeL_cons] at hm
  obtain ⟨x,hx,rfl⟩:=lists6_rows hl
  have hok:=ho.rich x hx
  simp only [go_sem,d1,d2,d3,hget,lC]
  refine call_pc fok30 (muchM_pc x.2 hok.1 hok.2) ?_
  have hle:=muchM_le x.2 0
  generalize muchM x.2 0=ka at *
  have w4 : IntKind.i64.wrap ((n : Int)+ka.1)=((n+ka.1 : Nat) : Int):=by
   rw [wrap64 (by omega) (by omega)]; omega
  cases hk2 : ka.2 with
  | true =>
   rw [if_pos (.inl hk2)] at hm
   simp only [go_sem,muchV,hk2,w4,hm]
   exact frz_bool _
  | false =>
   by_cases q3 : 2000 < n+ka.1
   ·have e3 : (2000 : Int) < ((n+ka.1 : Nat) : Int):=by omega
    rw [if_pos (.inr q3)] at hm
    simp only [go_sem,muchV,hk2,w4,e3,hm]
    exact frz_bool _
   ·have e3 : ¬ (2000 : Int) < ((n+ka.1 : Nat) : Int):=by omega
    rw [if_neg (by rw [hk2]; simp; omega)] at hm
    simp only [go_sem,muchV,hk2,w1,w4,e3]
    exact ⟨hlt,n+ka.1,rfl,by omega,hm⟩
 ·have hi' : i=6:=by omega
  subst hi'
  have e6 : (lists6 p).drop 6=[]:=rfl
  rw [e6] at hm
  simp only [go_sem,hm,largeL]
  exact frz_bool _
theorem any_step {α : Type} {q : α→Bool} {l : List α} {i : Nat} {a : α} (h : l.drop i=a :: l.drop (i+1)) : (l.drop i).any q=(q a || (l.drop (i+1)).any q):=by rw [h]; simp
theorem wideL_cons (r : Repo) (rs : List Repo) (n : Nat) : wideL (r :: rs) n=if 80 < n+r.packages.length then true else if r.packages.any largeM=true then true else wideL rs (n+r.packages.length):=by simp only [wideL]
theorem wide_pc (repos : List Repo) (inst : List Package) (h1 : repos.length < 2 ^ 62) (h2 : inst.length < 2 ^ 62) (hr : ∀ r∈repos,Repo.Ok r) (hi : ∀ p∈inst,p.Ok) : PC Tryd.prog EE 5 [reposV repos,pkgsV inst] (.bool (wideM repos inst)):=by
 refine PC_e hE fok5 (Nat.le_of_ble_eq_true rfl) (two_mem (bnd_repos _) (bnd_pkgs _)) ?_
 by_cases b1 : 30 < repos.length
 ·have c1 : (30 : Int) < repos.length:=by omega
  simp only [ic5,go_sem,c1,wideM,b1]
  exact frz_bool _
 have c1 : ¬ (30 : Int) < repos.length:=by omega
 by_cases b2 : 40 < inst.length
 ·have c2 : (40 : Int) < inst.length:=by omega
  simp only [ic5,go_sem,c1,c2,wideM,b1,b2]
  exact frz_bool _
 have c2 : ¬ (40 : Int) < inst.length:=by omega
 have hM : wideM repos inst=(inst.any largeM || wideL repos inst.length):=by simp only [wideM,b1,b2,decide_false,Bool.false_or]
 rw [hM]
 simp only [ic5,go_sem,c1,c2]
 refine loop_up noT (fun i fr s => fr=[(0,reposV repos),(1,pkgsV inst),(5,.int .i64 inst.length),(6,.int .i64 i)]∧inst.any largeM=(inst.drop i).any largeM) inst.length ⟨rfl,rfl⟩ ?_
 rintro i fr s hle ⟨rfl,hm⟩
 by_cases hlt : i < inst.length
 ·obtain ⟨x,hx,hxi,hdr,hget,htk⟩:=at_nth inst i hlt
  have d1 : (i : Int) < inst.length:=by omega
  have d2 : (0 : Int)≤i:=by omega
  have w1:=wrapS (i:=i) (by omega)
  rw [any_step hdr] at hm
  simp only [go_sem,d1,d2,hget,pkg_len,pkg_take,w1]
  refine call_pc fok15 (large_pc x (hi x hx)) ?_
  cases hb : largeM x with
  | true =>
   rw [hb,Bool.true_or] at hm
   simp only [go_sem,hm]
   exact frz_bool _
  | false =>
   rw [hb,Bool.false_or] at hm
   simp only [go_sem,w1]
   exact ⟨hlt,hm⟩
 have hi' : i=inst.length:=by omega
 subst hi'
 have d1 : ¬ (inst.length : Int) < inst.length:=by omega
 rw [List.drop_length,List.any_nil] at hm
 rw [hm,Bool.false_or]
 simp only [go_sem,d1]
 refine loop_up noT (fun i fr t => ∃ n : Nat,fr=[(0,reposV repos),(5,.int .i64 n),(7,.int .i64 i)]∧n≤80∧wideL repos inst.length=wideL (repos.drop i) n) repos.length ⟨inst.length,rfl,by omega,rfl⟩ ?_
 rintro i fr t hle2 ⟨n,rfl,hn,hm2⟩
 by_cases hlt : i < repos.length
 ·obtain ⟨x,hx,hxi,hdr,hget,htk⟩:=at_nth repos i hlt
  have d3 : (i : Int) < repos.length:=by omega
  have d4 : (0 : Int)≤i:=by omega
  have w1:=wrapS (i:=i) (by omega)
  have hxo:=hr x hx
  have w2 : IntKind.i64.wrap ((n : Int)+x.packages.length)=((n+x.packages.length : Nat) : Int):=by
   have:=hxo.1
   rw [wrap64 (by omega) (by omega)]; omega
  rw [hdr,wideL_cons] at hm2
  by_cases q1 : 80 < n+x.packages.length
  ·have e1 : (80 : Int) < ((n+x.packages.length : Nat) : Int):=by omega
   rw [if_pos q1] at hm2
   simp only [go_sem,d3,d4,hget,repo_len,Repo.cs,w2,e1,hm2]
   exact frz_bool _
  have e1 : ¬ (80 : Int) < ((n+x.packages.length : Nat) : Int):=by omega
  rw [if_neg q1] at hm2
  simp only [go_sem,d3,d4,hget,repo_len,Repo.cs,w2,e1]
  refine loop_up noT (fun j fr t => fr=[(0,reposV repos),(5,.int .i64 (n+x.packages.length : Nat)),(7,.int .i64 i),(8,.int .i64 j)]∧x.packages.any largeM=(x.packages.drop j).any largeM) x.packages.length ⟨rfl,rfl⟩ ?_
  rintro j fr t hlej ⟨rfl,hj⟩
  by_cases hjl : j < x.packages.length
  ·obtain ⟨y,hy,hyi,hdr3,hget3,htk3⟩:=at_nth x.packages j hjl
   have d5 : (j : Int) < x.packages.length:=by omega
   have d6 : (0 : Int)≤j:=by omega
   have w3:=wrapS (i:=j) (by have:=hxo.1; omega)
   rw [any_step hdr3] at hj
   simp only [go_sem,d3,d4,d5,d6,hget,hget3,repo_len,Repo.cs,pkg_len,pkg_take,w3]
   refine call_pc fok15 (large_pc y (hxo.2 y hy)) ?_
   cases hb : largeM y with
   | true =>
    rw [hb,Bool.true_or] at hj
    rw [if_pos hj] at hm2
    simp only [go_sem,hm2]
    exact frz_bool _
   | false =>
    rw [hb,Bool.false_or] at hj
    simp only [go_sem,w3]
    exact ⟨hjl,hj⟩
  ·have hj' : j=x.packages.length:=by omega
   subst hj'
   have d5 : ¬ (x.packages.length : Int) < x.packages.length:=by omega
   rw [List.drop_length,List.any_nil] at hj
   rw [if_neg (by rw [hj]; exact Bool.false_ne_true)] at hm2
   simp only [go_sem,d3,d4,d5,hget,repo_len,Repo.cs,w1]
   exact ⟨hlt,n+x.packages.length,rfl,by omega,hm2⟩
 ·have hi' : i=repos.length:=by omega
  subst hi'
  have d3 : ¬ (repos.length : Int) < repos.length:=by omega
  rw [List.drop_length] at hm2
  simp only [go_sem,d3,hm2,wideL]
  exact frz_bool _
end Go.Id.Tryd
