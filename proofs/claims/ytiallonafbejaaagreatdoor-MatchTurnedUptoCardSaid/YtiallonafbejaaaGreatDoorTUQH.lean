/- The law's own: what is too large; an index of a pool. Conditions: sizes that fit. -/
import Derived.Test.YtiallonafbejaaaGreatDoorTUQG
import Derived.Test.YtiallonafbejaaaGreatDoorTUPG
import Derived.Test.YtiallonafbejaaaGreatDoorMm
set_option linter.all false
namespace Go.Id.Tryz
open Go Go.Id Go.Proofs Go.Id.Md
set_option maxRecDepth 100000
abbrev wr (n : Int) : Int:=IntKind.i64.wrap n
mutual
def ptR : Rich→Int→Int
 | .mk _ _ xs,n => ptL xs n 0
def ptL : List Rich→Int→Int→Int
 | [],_,w => w
 | r :: rs,n,w => if w < n then ptL rs n (wr (wr (w+1)+ptR r (wr (n - w)))) else w
end
theorem ptR_eq (r : Rich) (n : Int) : ptR r n=ptL r.args n 0:=by cases r with | mk k d xs => simp only [ptR,Rich.args]
theorem loadArgs (r : Rich) : (r.cs.drop 6).head? = some (riches r.args):=by rw [Rich.cs_eq]; rfl
theorem ptL_pc0 (l : List Rich) (n : Int) (hl : l.length < 2 ^ 62) (ih : ∀ r∈l,∀ m : Int,PC Tryz.prog EE 145 [riches r.args,.int .i64 m] (.int .i64 (ptR r m))) :
  PC Tryz.prog EE 145 [riches l,.int .i64 n] (.int .i64 (ptL l n 0)):=by
 refine PC_f fok145 (Nat.le_of_ble_eq_true rfl) fun σ => ?_
 simp only [ic145,go_sem]
 refine loop_up noT (fun i fr t => ∃ w : Int,t.obj=σ.obj∧t.next=σ.next∧fr=[(0,riches l),(1,.int .i64 n),(5,.int .i64 w),(6,.int .i64 i)]∧ptL l n 0=ptL (l.drop i) n w) l.length ⟨0,rfl,rfl,rfl,rfl⟩ ?_
 rintro i fr t hi ⟨w,ho,hn,rfl,hf⟩
 have ht : t=σ:=by cases t; cases σ; simp only at ho hn; rw [ho,hn]
 subst ht
 by_cases hlt : i < l.length
 ·obtain ⟨r,ha,_,hdr,hget,_⟩:=at_nth l i hlt
  have c1 : (i : Int) < l.length:=by omega
  have c2 : (0 : Int)≤i:=by omega
  have w1:=wrapS (i:=i) (by omega)
  rw [hdr,ptL] at hf
  by_cases hw : w < n
  ·rw [if_pos hw] at hf
   simp only [go_sem,c1,c2,hw,hget,cs_len,loadArgs]
   refine call_pc fok145 (ih r ha _) ?_
   simp only [go_sem,w1]
   exact ⟨hlt,_,rfl,hf⟩
  ·rw [if_neg hw] at hf
   simp only [go_sem,c1,hw]
   rw [hf]
 ·have hi' : i=l.length:=by omega
  subst hi'
  have c1 : ¬ (l.length : Int) < l.length:=by omega
  rw [List.drop_length,ptL] at hf
  simp only [go_sem,c1,hf,and_self]
theorem ptR_pc (r : Rich) : r.ok→∀ m : Int,PC Tryz.prog EE 145 [riches r.args,.int .i64 m] (.int .i64 (ptR r m)):=by
 induction r using Rich.ind with
 | h k d xs ih =>
  intro ho m
  obtain ⟨_,_,_,h4,h5⟩:=Rich.ok_mk.1 ho
  rw [ptR_eq]
  exact ptL_pc0 xs m h4 fun r hr m => ih r hr (h5 r hr) m
theorem ptL_pc (l : List Rich) (hl : l.length < 2 ^ 62) (h : ∀ r∈l,r.ok) (n : Int) : PC Tryz.prog EE 145 [riches l,.int .i64 n] (.int .i64 (ptL l n 0)) :=
 ptL_pc0 l n hl fun r hr m => ptR_pc r (h r hr) m
def lR (l : List Rich) : List IV:=[riches l]
def szLs : List (List Rich)→Int→Int→Int
 | [],_,w => w
 | l :: ls,n,w => szLs ls n (wr (w+ptL l n 0))
def szP (p : Package) (n w : Int) : Int:=szLs (lists6 p) n (wr (wr (wr (wr (w+1)+p.provides.length)+p.obsoletes.length)+p.files.length))
def szL : List Package→Int→Int→Int
 | [],_,w => w
 | p :: ps,n,w => if w < n then szL ps n (szP p n w) else w
theorem lists6_ok {p : Package} (h : p.Ok) : ∀ l∈lists6 p,l.length < 2 ^ 62∧∀ r∈l,r.ok:=by
 intro l hl
 simp only [lists6,List.mem_cons,List.not_mem_nil,or_false] at hl
 have:=h.rich
 simp only [Package.rows,List.mem_cons,List.not_mem_nil,or_false,forall_eq_or_imp,forall_eq] at this
 obtain ⟨a1,a2,a3,a4,a5,a6⟩:=this
 rcases hl with rfl | rfl | rfl | rfl | rfl | rfl
 ·exact a1
 ·exact a2
 ·exact a3
 ·exact a4
 ·exact a5
 ·exact a6
theorem sizes_pc (l : List Package) (n : Int) (hl : l.length < 2 ^ 62) (h : ∀ p∈l,p.Ok) : PC Tryz.prog EE 79 [pkgsV l,.int .i64 n] (.int .i64 (szL l n 0)):=by
 refine PC_e hE fok79 (Nat.le_of_ble_eq_true rfl) (two_mem (bnd_pkgs l) (.int _ _)) ?_
 simp only [ic79,go_sem]
 refine loop_up noT (fun i fr t => ∃ w : Int,fr=[(0,pkgsV l),(1,.int .i64 n),(5,.int .i64 w),(6,.int .i64 i)]∧szL l n 0=szL (l.drop i) n w) l.length ⟨0,rfl,rfl⟩ ?_
 rintro i fr t hi ⟨w,rfl,hf⟩
 by_cases hlt : i < l.length
 ·obtain ⟨p,ha,_,hdr,hget,_⟩:=at_nth l i hlt
  have c1 : (i : Int) < l.length:=by omega
  have c2 : (0 : Int)≤i:=by omega
  have w1:=wrapS (i:=i) (by omega)
  rw [hdr,szL] at hf
  by_cases hw : w < n
  ·rw [if_pos hw] at hf
   have f6 : (p.cs.drop 6).head? = some (deps p.provides):=rfl
   have f7 : (p.cs.drop 7).head? = some (riches p.requires):=rfl
   have f8 : (p.cs.drop 8).head? = some (riches p.conflicts):=rfl
   have f9 : (p.cs.drop 9).head? = some (deps p.obsoletes):=rfl
   have f10 : (p.cs.drop 10).head? = some (riches p.recommends):=rfl
   have f11 : (p.cs.drop 11).head? = some (riches p.supplements):=rfl
   have f12 : (p.cs.drop 12).head? = some (riches p.suggests):=rfl
   have f13 : (p.cs.drop 13).head? = some (riches p.enhances):=rfl
   have f14 : (p.cs.drop 14).head? = some (strs p.files):=rfl
   simp only [go_sem,c1,c2,hw,hget,pkg_lenA,pkg_takeA,pkg_leafA,f6,f7,f8,f9,f10,f11,f12,f13,f14,e_lO1]
   have hL : ∀ (k : Nat) (hk : k < (lists6 p).length),((lists6 p).map lR).getD k []=[riches (lists6 p)[k]]:=fun k hk => by simp [List.getD_eq_getElem?_getD,hk,lR]
   have hok:=lists6_ok (h p ha)
   have hlen : (lists6 p).length=6:=rfl
   unfold szP wr at hf
   generalize hw0 : IntKind.i64.wrap (IntKind.i64.wrap (IntKind.i64.wrap (IntKind.i64.wrap (w+1)+p.provides.length)+p.obsoletes.length)+p.files.length)=w0 at *
   have hl6 : IV.tslice [[riches p.requires],[riches p.conflicts],[riches p.recommends],[riches p.supplements],[riches p.suggests],[riches p.enhances]]=.tslice ((lists6 p).map lR):=rfl
   rw [hl6]
   have hf' : szL l n 0=szL (l.drop (i+1)) n (szLs (lists6 p) n w0):=hf
   clear hf hdr hget f6 f7 f8 f9 f10 f11 f12 f13 f14 hl6
   refine loop_up noT (fun k fr u => ∃ v : Int,fr=[(0,pkgsV l),(1,.int .i64 n),(5,.int .i64 v),(6,.int .i64 i),(51,.tslice ((lists6 p).map lR)),(52,.int .i64 6),(53,.int .i64 k)]∧szLs (lists6 p) n w0=szLs ((lists6 p).drop k) n v) 6 ⟨w0,rfl,rfl⟩ ?_
   rintro k fr u hk ⟨v,rfl,hs⟩
   by_cases hlt2 : k < 6
   ·have d1 : (k : Int) < 6:=by omega
    have d2 : (0 : Int)≤k:=by omega
    have d3 : (k : Int) < (lists6 p).length:=by omega
    have w2:=wrapS (i:=k) (by omega)
    have hk2 : k < (lists6 p).length:=by omega
    have hgk:=hL k hk2
    obtain ⟨o1,o2⟩:=hok _ (List.getElem_mem hk2)
    rw [List.drop_eq_getElem_cons hk2,szLs] at hs
    generalize (lists6 p)[k]=x at *
    simp only [go_sem,d1,d2,d3,hgk]
    refine call_pc fok145 (ptL_pc x o1 o2 n) ?_
    simp only [go_sem,w2]
    exact ⟨hlt2,_,rfl,hs⟩
   ·have hk' : k=6:=by omega
    subst hk'
    have d1 : ¬ ((6 : Nat) : Int) < 6:=by omega
    rw [List.drop_of_length_le (by omega),szLs] at hs
    rw [hs] at hf'
    simp only [go_sem,d1,w1]
    exact ⟨hlt,_,rfl,hf'⟩
  ·rw [if_neg hw] at hf
   simp only [go_sem,c1,hw]
   rw [hf]
   exact frz_int _ _
 ·have hi' : i=l.length:=by omega
  subst hi'
  have c1 : ¬ (l.length : Int) < l.length:=by omega
  rw [List.drop_length,szL] at hf
  simp only [go_sem,c1]
  rw [hf]
  exact frz_int _ _
def lgL : List Repo→Int→Int
 | [],w => w
 | r :: rs,w => if w < 3000 then lgL rs (wr (wr (w+1)+szL r.packages 3000 0)) else w
theorem large_pc (repos : List Repo) (inst : List Package) (h1 : repos.length < 2 ^ 62) (h2 : inst.length < 2 ^ 62) (hr : ∀ r∈repos,Repo.Ok r) (hi : ∀ p∈inst,p.Ok) :
  PC Tryz.prog EE 23 [reposV repos,pkgsV inst] (.bool (decide (3000≤lgL repos (szL inst 3000 0)))):=by
 refine PC_e hE fok23 (Nat.le_of_ble_eq_true rfl) (two_mem (bnd_repos repos) (bnd_pkgs inst)) ?_
 simp only [ic23,go_sem]
 refine call_pc fok79 (sizes_pc inst 3000 h2 hi) ?_
 simp only [go_sem]
 refine loop_up noT (fun i fr t => ∃ w : Int,fr=[(0,reposV repos),(5,.int .i64 w),(6,.int .i64 i)]∧lgL repos (szL inst 3000 0)=lgL (repos.drop i) w) repos.length ⟨_,rfl,rfl⟩ ?_
 rintro i fr t hle ⟨w,rfl,hf⟩
 by_cases hlt : i < repos.length
 ·obtain ⟨r,ha,_,hdr,hget,_⟩:=at_nth repos i hlt
  have c1 : (i : Int) < repos.length:=by omega
  have c2 : (0 : Int)≤i:=by omega
  have w1:=wrapS (i:=i) (by omega)
  rw [hdr,lgL] at hf
  have f1 : (r.cs.drop 1).head? = some (pkgsV r.packages):=rfl
  by_cases hw : w < 3000
  ·rw [if_pos hw] at hf
   simp only [go_sem,c1,c2,hw,hget,repo_len,f1]
   refine call_pc fok79 (sizes_pc r.packages 3000 (hr r ha).1 (hr r ha).2) ?_
   simp only [go_sem,w1]
   exact ⟨hlt,_,rfl,hf⟩
  ·rw [if_neg hw] at hf
   have hw' : (3000 : Int)≤w:=by omega
   simp only [go_sem,c1,hw]
   rw [hf]
   exact frz_bool _
 ·have hi' : i=repos.length:=by omega
  subst hi'
  have c1 : ¬ (repos.length : Int) < repos.length:=by omega
  rw [List.drop_length,lgL] at hf
  simp only [go_sem,c1]
  rw [hf]
  exact frz_bool _
structure InOK (repos : List Repo) (inst : List Package) : Prop where
 r1 : repos.length < 2 ^ 20
 i1 : inst.length < 2 ^ 20
 s1 : sumLen repos < 2 ^ 40
 rf : ∀ r∈repos,Repo.Fit r
 pf : ∀ p∈inst,p.Fit
 ro : ∀ r∈repos,Repo.Ok r
 po : ∀ p∈inst,p.Ok
theorem tiny_small {p : Package} (h : p.Tiny) : Pkg.small p:=by
 have e : ∀ v : EVR,v.tiny→EVR.small v:=fun v hv => ⟨by have:=hv.1; omega,by have:=hv.2; omega⟩
 refine ⟨e _ h.evr,fun d hd => ?_,fun d hd => ?_,?_,?_,?_⟩
 ·obtain ⟨a,b,c,_⟩:=h.prov.2 d hd; exact ⟨a,b,e _ c⟩
 ·obtain ⟨a,b,c,_⟩:=h.obs.2 d hd; exact ⟨a,b,e _ c⟩
 ·have:=h.prov.1; omega
 ·have:=h.obs.1; omega
 ·have:=h.files; omega
theorem in_fit {repos : List Repo} {inst : List Package} {p : Pool} (hI : InOK repos inst) (h : newM repos inst=.inl p) : ∀ x∈pkgsOf p,x.Fit∧Pkg.small x∧x.Tiny:=by
 intro x hx
 obtain ⟨h1,h2⟩:=newM_mem h x hx
 refine ⟨?_,tiny_small (pkg_tiny h1),pkg_tiny h1⟩
 rcases h2 with h2 | ⟨r,hr,h2⟩
 ·exact hI.pf x h2
 ·exact (hI.rf r hr).2 x h2
def ofM (repos : List Repo) (inst : List Package) : IV:=match newM repos inst with
 | .inl p => .tuple [(idxM (pkgsOf p)).v,p.v,.bool true]
 | .inr _ => .tuple [.nilptr,.nilptr,.bool false]
theorem of_pc (repos : List Repo) (inst : List Package) (hI : InOK repos inst) : PC Tryz.prog EE 24 [reposV repos,pkgsV inst] (ofM repos inst):=by
 refine PC_e hE fok24 (Nat.le_of_ble_eq_true rfl) (two_mem (bnd_repos repos) (bnd_pkgs inst)) ?_
 have hp:=poolNew_pc repos inst hI.r1 hI.i1 hI.s1 hI.rf hI.pf
 unfold ofM
 cases hn : newM repos inst with
 | inr e =>
  rw [hn] at hp
  have he : ¬ e=0:=by rcases newM_inr hn with rfl | rfl <;> decide
  simp only [newV] at hp
  simp only [ic24,go_sem]
  refine call_pc fok15 hp ?_
  simp only [go_sem,he]
  exact .keep _ (.tuple _ fun c hc => by
   simp only [List.mem_cons,List.not_mem_nil,or_false] at hc
   rcases hc with rfl | rfl | rfl
   ·exact .nilptr
   ·exact .nilptr
   ·exact .bool _)
 | inl p =>
  rw [hn] at hp
  have hf:=in_fit hI hn
  have hm:=matchNew_pc p (fun r hr => (hf r.pkg (List.mem_map_of_mem (f:=fun x : PRow => x.pkg) hr)).1) (by have:=newM_len hn; omega) (fun r hr => by
   have:=(hf r.pkg (List.mem_map_of_mem (f:=fun x : PRow => x.pkg) hr)).2.2
   have a:=this.prov.1; have b:=this.obs.1; have c:=this.files; omega)
  simp only [newV] at hp
  simp only [ic24,go_sem]
  refine call_pc fok15 hp ?_
  simp only [go_sem]
  refine call_pc fok80 hm ?_
  have hnil : ∀ (d : TypeId) (x : Index),nilI (.pointer d) x.v=some false:=fun _ _ => rfl
  simp only [go_sem,hnil]
  exact .keep _ (.tuple _ fun c hc => by
   simp only [List.mem_cons,List.not_mem_nil,or_false] at hc
   rcases hc with rfl | rfl | rfl
   ·exact bnd_idx _
   ·exact bnd_pool p
   ·exact .bool _)
end Go.Id.Tryz
