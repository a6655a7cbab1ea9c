/- What is held against each other by the document. Conditions: sizes that fit. -/
import Derived.Test.YtiallonafbejaaaDoorTXPG
set_option linter.all false
namespace Go.Id.Tryd
open Go Go.Id Go.Proofs Go.Id.Md
theorem prow_repo (r : PRow) : (r.cs.drop 15).head? = some (.int .i64 r.repo):=rfl
theorem poolRepo_pc (p : Pool) (n : Nat) (h : n < p.rows.length) : PC Tryd.prog EE 11 [p.v,.int .i64 n] (.int .i64 p.rows[n].repo):=by
 refine PC_f fok11 (Nat.le_of_ble_eq_true rfl) fun σ => ?_
 have c1 : (n : Int) < p.rows.length:=by omega
 have c2 : (0 : Int)≤n:=by omega
 have hg : (p.rows.map PRow.cs).getD n []=p.rows[n].cs:=by simp [List.getD_eq_getElem?_getD,h]
 simp only [ic11,go_sem,Pool.v]
 refine call_pc fok21 (rowsIs_pc p.rows n) ?_
 simp only [go_sem,c1,c2,hg,prow_len,prow_repo,and_self]
/-! ### What is the same -/
theorem dep_dec (x y : Dep) : (decide (x.name=y.name) && (decide (x.op=y.op) && (decide (x.evr.epoch=y.evr.epoch) && (decide (x.evr.ver=y.evr.ver) && decide (x.evr.rel=y.evr.rel)))))=decide (x=y):=by
 obtain ⟨n,o,e,v,r⟩:=x
 obtain ⟨n',o',e',v',r'⟩:=y
 simp only [Dep.mk.injEq,EVR.mk.injEq,Bool.decide_and]
theorem refDeps_pc (xs ys : List Dep) (h1 : xs.length < 2 ^ 62) (h2 : ys.length < 2 ^ 62) : PC Tryd.prog EE 23 [.tslice (xs.map Dep.cs),.tslice (ys.map Dep.cs)] (.bool (decide (xs=ys))):=by
 refine PC_e hE fok23 (Nat.le_of_ble_eq_true rfl) (two_mem (bnd_deps xs) (bnd_deps ys)) ?_
 by_cases hl : xs.length=ys.length
 case neg =>
  have hl' : ¬ (xs.length : Int)=ys.length:=by omega
  have : decide (xs=ys)=false:=decide_eq_false fun e => hl (by rw [e])
  simp only [ic23,go_sem,hl',this]
  exact frz_bool _
 have hl' : (xs.length : Int)=ys.length:=by omega
 have hl2 : decide ((xs.length : Int)=ys.length)=true:=decide_eq_true hl'
 simp only [ic23,go_sem,hl2]
 refine loop_up noT (fun i fr s => fr=[(0,.tslice (xs.map Dep.cs)),(1,.tslice (ys.map Dep.cs)),(5,.int .i64 i)]∧xs.take i=ys.take i) xs.length ⟨rfl,rfl⟩ ?_
 rintro i fr s hi ⟨rfl,hf⟩
 by_cases hlt : i < xs.length
 ·obtain ⟨x,hx,hxi,hdr,hget,htk⟩:=at_nth xs i hlt
  obtain ⟨y,hy,hyi,hdr2,hget2,htk2⟩:=at_nth ys i (by omega)
  have c1 : (i : Int) < xs.length:=by omega
  have c3 : (i : Int) < ys.length:=by omega
  have c2 : (0 : Int)≤i:=by omega
  have w1:=wrapS (i:=i) (by omega)
  simp only [go_sem,c1,c2,c3,hget,hget2,dep_len,str_len,dep_take,Dep.cs,strC,Md.intC,w1,dep_dec]
  by_cases hxy : x=y
  ·have hd : decide (x=y)=true:=decide_eq_true hxy
   simp only [go_sem,hd,w1]
   refine ⟨hlt,?_⟩
   rw [htk,htk2,hf,hxy]
  ·have hd : decide (x=y)=false:=decide_eq_false hxy
   have hne : decide (xs=ys)=false:=decide_eq_false fun e => hxy (by rw [e] at hxi; rw [hxi] at hyi; cases hyi; rfl)
   simp only [go_sem,hd,hne]
   exact frz_bool _
 ·have hi' : i=xs.length:=by omega
  subst hi'
  have c1 : ¬ (xs.length : Int) < xs.length:=by omega
  rw [List.take_length,hl,List.take_length] at hf
  have : decide (xs=ys)=true:=decide_eq_true hf
  simp only [go_sem,c1,this]
  exact frz_bool _
theorem refTexts_pc (xs ys : List Str) (h1 : xs.length < 2 ^ 62) (h2 : ys.length < 2 ^ 62) : PC Tryd.prog EE 25 [.tslice (xs.map strC),.tslice (ys.map strC)] (.bool (decide (xs=ys))):=by
 refine PC_e hE fok25 (Nat.le_of_ble_eq_true rfl) (two_mem (bnd_strs xs) (bnd_strs ys)) ?_
 by_cases hl : xs.length=ys.length
 case neg =>
  have hl' : ¬ (xs.length : Int)=ys.length:=by omega
  have : decide (xs=ys)=false:=decide_eq_false fun e => hl (by rw [e])
  simp only [ic25,go_sem,hl',this]
  exact frz_bool _
 have hl' : (xs.length : Int)=ys.length:=by omega
 have hl2 : decide ((xs.length : Int)=ys.length)=true:=decide_eq_true hl'
 simp only [ic25,go_sem,hl2]
 refine loop_up noT (fun i fr s => fr=[(0,.tslice (xs.map strC)),(1,.tslice (ys.map strC)),(5,.int .i64 i)]∧xs.take i=ys.take i) xs.length ⟨rfl,rfl⟩ ?_
 rintro i fr s hi ⟨rfl,hf⟩
 by_cases hlt : i < xs.length
 ·obtain ⟨x,hx,hxi,hdr,hget,htk⟩:=at_nth xs i hlt
  obtain ⟨y,hy,hyi,hdr2,hget2,htk2⟩:=at_nth ys i (by omega)
  have c1 : (i : Int) < xs.length:=by omega
  have c3 : (i : Int) < ys.length:=by omega
  have c2 : (0 : Int)≤i:=by omega
  have w1:=wrapS (i:=i) (by omega)
  simp only [go_sem,c1,c2,c3,hget,hget2,dep_len,str_len,dep_take,Dep.cs,strC,Md.intC,w1,dep_dec]
  by_cases hxy : x=y
  ·have hd : decide (x=y)=true:=decide_eq_true hxy
   simp only [go_sem,hd,w1]
   refine ⟨hlt,?_⟩
   rw [htk,htk2,hf,hxy]
  ·have hd : decide (x=y)=false:=decide_eq_false hxy
   have hne : decide (xs=ys)=false:=decide_eq_false fun e => hxy (by rw [e] at hxi; rw [hxi] at hyi; cases hyi; rfl)
   simp only [go_sem,hd,hne]
   exact frz_bool _
 ·have hi' : i=xs.length:=by omega
  subst hi'
  have c1 : ¬ (xs.length : Int) < xs.length:=by omega
  rw [List.take_length,hl,List.take_length] at hf
  have : decide (xs=ys)=true:=decide_eq_true hf
  simp only [go_sem,c1,this]
  exact frz_bool _
theorem sames_len : ∀ (xs ys : List Rich),xs.length≠ys.length→Rich.sames xs ys=false:=by
 intro xs
 induction xs with
 | nil => intro ys h; cases ys with
  | nil => exact absurd rfl h
  | cons y ys => rfl
 | cons x xs ih => intro ys h; cases ys with
  | nil => rfl
  | cons y ys => simp only [Rich.sames]; rw [ih ys (fun e => h (by simp [e]))]; simp
theorem sames_cons (x y : Rich) (xs ys : List Rich) : Rich.sames (x :: xs) (y :: ys)=(x.same y && Rich.sames xs ys):=by simp only [Rich.sames]
theorem int_dec (a b : Nat) : decide ((a : Int)=b)=decide (a=b):=decide_eq_decide.2 (by omega)
theorem ref9Same_pc (a : Rich) : ∀ b : Rich,a.fit→b.fit→PC Tryd.prog EE 36 [.agg a.cs,.agg b.cs] (.bool (a.same b)):=by
 induction a using Rich.ind with
 | h k d xs ih =>
  intro b hfa hfb
  obtain ⟨k',d',ys⟩:=b
  obtain ⟨f1,f2,f3,f4,f5⟩:=Rich.fit_mk.1 hfa
  obtain ⟨g1,g2,g3,g4,g5⟩:=Rich.fit_mk.1 hfb
  refine PC_e hE fok36 (Nat.le_of_ble_eq_true rfl) (two_mem (bnd_richA _) (bnd_richA _)) ?_
  rw [Rich.cs_eq,Rich.cs_eq]
  simp only [ic36,go_sem,Rich.kind,Rich.dep,Rich.args,dep_dec,Rich.same]
  by_cases hk : k=k'
  case neg =>
   have e : decide (k=k')=false:=decide_eq_false hk
   simp only [go_sem,e]
   exact frz_bool _
  have ek : decide (k=k')=true:=decide_eq_true hk
  by_cases hd : d=d'
  case neg =>
   have e : decide (d=d')=false:=decide_eq_false hd
   simp only [go_sem,ek,dep_dec,e]
   exact frz_bool _
  have ed : decide (d=d')=true:=decide_eq_true hd
  by_cases hl : xs.length=ys.length
  case neg =>
   have e : decide (xs.length=ys.length)=false:=decide_eq_false hl
   simp only [go_sem,ek,dep_dec,ed,int_dec,e,sames_len xs ys hl]
   exact frz_bool _
  have el : decide (xs.length=ys.length)=true:=decide_eq_true hl
  simp only [go_sem,ek,dep_dec,ed,int_dec,el]
  refine loop_up noT (fun i fr s => fr=[(2,.tptr [.int .u8 k,.str d.name,.int .u8 d.op,.int .i64 d.evr.epoch,.str d.evr.ver,.str d.evr.rel,.tslice (xs.map Rich.cs)]),(3,.tptr [.int .u8 k',.str d'.name,.int .u8 d'.op,.int .i64 d'.evr.epoch,.str d'.evr.ver,.str d'.evr.rel,.tslice (ys.map Rich.cs)]),(5,.int .i64 i)] ∧
   Rich.sames xs ys=Rich.sames (xs.drop i) (ys.drop i)) xs.length ⟨rfl,rfl⟩ ?_
  rintro i fr s hi ⟨rfl,hf⟩
  by_cases hlt : i < xs.length
  ·obtain ⟨x,hx,hxi,hdr,hget,htk⟩:=at_nth xs i hlt
   obtain ⟨y,hy,hyi,hdr2,hget2,htk2⟩:=at_nth ys i (by omega)
   have c1 : (i : Int) < xs.length:=by omega
   have c3 : (i : Int) < ys.length:=by omega
   have c2 : (0 : Int)≤i:=by omega
   have w1:=wrapS (i:=i) (by omega)
   rw [hdr,hdr2,sames_cons] at hf
   simp only [go_sem,c1,c2,c3,hget,hget2,cs_len,rich_take,w1]
   refine call_pc fok36 (ih x hx y (f5 x hx) (g5 y hy)) ?_
   cases hs : x.same y with
   | true =>
    rw [hs,Bool.true_and] at hf
    simp only [go_sem,w1]
    exact ⟨hlt,hf⟩
   | false =>
    rw [hs,Bool.false_and] at hf
    simp only [go_sem,hf]
    exact frz_bool _
  ·have hi' : i=xs.length:=by omega
   subst hi'
   have c1 : ¬ (xs.length : Int) < xs.length:=by omega
   have e2 : ys.drop xs.length=[]:=List.drop_of_length_le (by omega)
   rw [List.drop_length,e2] at hf
   simp only [go_sem,c1,hf,Rich.sames]
   exact frz_bool _
theorem refRiches_pc (xs ys : List Rich) (h1 : xs.length < 2 ^ 31) (h2 : ys.length < 2 ^ 31) (f5 : ∀ r∈xs,r.fit) (g5 : ∀ r∈ys,r.fit) : PC Tryd.prog EE 24 [riches xs,riches ys] (.bool (sameL xs ys)):=by
 refine PC_e hE fok24 (Nat.le_of_ble_eq_true rfl) (two_mem (bnd_riches xs) (bnd_riches ys)) ?_
 unfold sameL
 by_cases hl : xs.length=ys.length
 case neg =>
  have e : decide (xs.length=ys.length)=false:=decide_eq_false hl
  simp only [ic24,go_sem,int_dec,e,sames_len xs ys hl]
  exact frz_bool _
 have el : decide (xs.length=ys.length)=true:=decide_eq_true hl
 simp only [ic24,go_sem,int_dec,el]
 refine loop_up noT (fun i fr s => fr=[(0,riches xs),(1,riches ys),(5,.int .i64 i)]∧Rich.sames xs ys=Rich.sames (xs.drop i) (ys.drop i)) xs.length ⟨rfl,rfl⟩ ?_
 rintro i fr s hi ⟨rfl,hf⟩
 by_cases hlt : i < xs.length
 ·obtain ⟨x,hx,hxi,hdr,hget,htk⟩:=at_nth xs i hlt
  obtain ⟨y,hy,hyi,hdr2,hget2,htk2⟩:=at_nth ys i (by omega)
  have c1 : (i : Int) < xs.length:=by omega
  have c3 : (i : Int) < ys.length:=by omega
  have c2 : (0 : Int)≤i:=by omega
  have w1:=wrapS (i:=i) (by omega)
  rw [hdr,hdr2,sames_cons] at hf
  simp only [go_sem,c1,c2,c3,hget,hget2,cs_len,rich_take,w1]
  refine call_pc fok36 (ref9Same_pc x y (f5 x hx) (g5 y hy)) ?_
  cases hs : x.same y with
  | true =>
   rw [hs,Bool.true_and] at hf
   simp only [go_sem,w1]
   exact ⟨hlt,hf⟩
  | false =>
   rw [hs,Bool.false_and] at hf
   simp only [go_sem,hf]
   exact frz_bool _
 ·have hi' : i=xs.length:=by omega
  subst hi'
  have c1 : ¬ (xs.length : Int) < xs.length:=by omega
  have e2 : ys.drop xs.length=[]:=List.drop_of_length_le (by omega)
  rw [List.drop_length,e2] at hf
  simp only [go_sem,c1,hf,Rich.sames]
  exact frz_bool _
theorem evr_dec (x y : EVR) : (decide (x.epoch=y.epoch) && (decide (x.ver=y.ver) && decide (x.rel=y.rel)))=decide (x=y):=by
 obtain ⟨e,v,r⟩:=x
 obtain ⟨e',v',r'⟩:=y
 simp only [EVR.mk.injEq,Bool.decide_and]
theorem refSame_pc (p q : Package) (hp : p.Fit) (hq : q.Fit) : PC Tryd.prog EE 10 [.agg p.cs,.agg q.cs] (.bool (pkgSame p q)):=by
 refine PC_f fok10 (Nat.le_of_ble_eq_true rfl) fun σ => ?_
 cases h1 : decide (p.name=q.name) with
 | false => simp only [ic10,go_sem,pkg_leaf,Package.cs,evr_dec,h1,pkgSame,and_self]
 | true =>
 cases h2 : decide (p.evr=q.evr) with
 | false => simp only [ic10,go_sem,pkg_leaf,Package.cs,evr_dec,h1,h2,pkgSame,and_self]
 | true =>
 cases h3 : decide (p.arch=q.arch) with
 | false => simp only [ic10,go_sem,pkg_leaf,Package.cs,evr_dec,h1,h2,h3,pkgSame,and_self]
 | true =>
 cases h4 : decide (p.vendor=q.vendor) with
 | false => simp only [ic10,go_sem,pkg_leaf,Package.cs,evr_dec,h1,h2,h3,h4,pkgSame,and_self]
 | true =>
 simp only [ic10,go_sem,pkg_leaf,Package.cs,evr_dec,h1,h2,h3,h4]
 refine call_pc fok23 (refDeps_pc p.provides q.provides (by have:=hp.prov.1; omega) (by have:=hq.prov.1; omega)) ?_
 cases h5 : decide (p.provides=q.provides) with
 | false => simp only [go_sem,h1,h2,h3,h4,h5,pkgSame,and_self]
 | true =>
 simp only [go_sem]
 refine call_pc fok24 (refRiches_pc p.requires q.requires (hp.rich (1,p.requires) (by simp [Package.rows])).1 (hq.rich (1,q.requires) (by simp [Package.rows])).1 (fun r hr => ((hp.rich (1,p.requires) (by simp [Package.rows])).2 r hr).1) (fun r hr => ((hq.rich (1,q.requires) (by simp [Package.rows])).2 r hr).1)) ?_
 cases h6 : sameL p.requires q.requires with
 | false => simp only [go_sem,h1,h2,h3,h4,h5,h6,pkgSame,and_self]
 | true =>
 simp only [go_sem]
 refine call_pc fok24 (refRiches_pc p.conflicts q.conflicts (hp.rich (2,p.conflicts) (by simp [Package.rows])).1 (hq.rich (2,q.conflicts) (by simp [Package.rows])).1 (fun r hr => ((hp.rich (2,p.conflicts) (by simp [Package.rows])).2 r hr).1) (fun r hr => ((hq.rich (2,q.conflicts) (by simp [Package.rows])).2 r hr).1)) ?_
 cases h7 : sameL p.conflicts q.conflicts with
 | false => simp only [go_sem,h1,h2,h3,h4,h5,h6,h7,pkgSame,and_self]
 | true =>
 simp only [go_sem]
 refine call_pc fok23 (refDeps_pc p.obsoletes q.obsoletes (by have:=hp.obs.1; omega) (by have:=hq.obs.1; omega)) ?_
 cases h8 : decide (p.obsoletes=q.obsoletes) with
 | false => simp only [go_sem,h1,h2,h3,h4,h5,h6,h7,h8,pkgSame,and_self]
 | true =>
 simp only [go_sem]
 refine call_pc fok24 (refRiches_pc p.recommends q.recommends (hp.rich (1,p.recommends) (by simp [Package.rows])).1 (hq.rich (1,q.recommends) (by simp [Package.rows])).1 (fun r hr => ((hp.rich (1,p.recommends) (by simp [Package.rows])).2 r hr).1) (fun r hr => ((hq.rich (1,q.recommends) (by simp [Package.rows])).2 r hr).1)) ?_
 cases h9 : sameL p.recommends q.recommends with
 | false => simp only [go_sem,h1,h2,h3,h4,h5,h6,h7,h8,h9,pkgSame,and_self]
 | true =>
 simp only [go_sem]
 refine call_pc fok24 (refRiches_pc p.supplements q.supplements (hp.rich (3,p.supplements) (by simp [Package.rows])).1 (hq.rich (3,q.supplements) (by simp [Package.rows])).1 (fun r hr => ((hp.rich (3,p.supplements) (by simp [Package.rows])).2 r hr).1) (fun r hr => ((hq.rich (3,q.supplements) (by simp [Package.rows])).2 r hr).1)) ?_
 cases h10 : sameL p.supplements q.supplements with
 | false => simp only [go_sem,h1,h2,h3,h4,h5,h6,h7,h8,h9,h10,pkgSame,and_self]
 | true =>
 simp only [go_sem]
 refine call_pc fok24 (refRiches_pc p.suggests q.suggests (hp.rich (1,p.suggests) (by simp [Package.rows])).1 (hq.rich (1,q.suggests) (by simp [Package.rows])).1 (fun r hr => ((hp.rich (1,p.suggests) (by simp [Package.rows])).2 r hr).1) (fun r hr => ((hq.rich (1,q.suggests) (by simp [Package.rows])).2 r hr).1)) ?_
 cases h11 : sameL p.suggests q.suggests with
 | false => simp only [go_sem,h1,h2,h3,h4,h5,h6,h7,h8,h9,h10,h11,pkgSame,and_self]
 | true =>
 simp only [go_sem]
 refine call_pc fok24 (refRiches_pc p.enhances q.enhances (hp.rich (3,p.enhances) (by simp [Package.rows])).1 (hq.rich (3,q.enhances) (by simp [Package.rows])).1 (fun r hr => ((hp.rich (3,p.enhances) (by simp [Package.rows])).2 r hr).1) (fun r hr => ((hq.rich (3,q.enhances) (by simp [Package.rows])).2 r hr).1)) ?_
 cases h12 : sameL p.enhances q.enhances with
 | false => simp only [go_sem,h1,h2,h3,h4,h5,h6,h7,h8,h9,h10,h11,h12,pkgSame,and_self]
 | true =>
 simp only [go_sem]
 refine call_pc fok25 (refTexts_pc p.files q.files (by have:=hp.files.1; omega) (by have:=hq.files.1; omega)) ?_
 cases h13 : decide (p.files=q.files) with
 | false => simp only [go_sem,h1,h2,h3,h4,h5,h6,h7,h8,h9,h10,h11,h12,h13,pkgSame,and_self]
 | true =>
 simp only [go_sem,h1,h2,h3,h4,h5,h6,h7,h8,h9,h10,h11,h12,h13,pkgSame,and_self]
end Go.Id.Tryd
