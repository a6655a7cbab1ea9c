/- The law's own: what is too large; an index of a pool. Conditions: sizes that fit. -/
import Derived.Test.YtiallonafbejaaaGreatDoorTUQF
import Derived.Test.YtiallonafbejaaaGreatDoorTUPG
import Derived.Test.YtiallonafbejaaaGreatDoorMm
set_option linter.all false
namespace Go.Id.Tryz
open Go Go.Id Go.Proofs Go.Id.Md
set_option maxRecDepth 100000
abbrev wr (n : Int) : Int:=IntKind.i64.wrap n
mutual
def ptR : Rich→Int→Int
 | .mk _ _ xs,n => ptL xs n 0
def ptL : List Rich→Int→Int→Int
 | [],_,w => w
 | r :: rs,n,w => if w < n then ptL rs n (wr (wr (w+1)+ptR r (wr (n - w)))) else w
end
theorem ptR_eq (r : Rich) (n : Int) : ptR r n=ptL r.args n 0:=by cases r with | mk k d xs => simp only [ptR,Rich.args]
theorem loadArgs (r : Rich) : (r.cs.drop 6).head? = some (riches r.args):=by rw [Rich.cs_eq]; rfl
def lR (l : List Rich) : List IV:=[riches l]
def szLs : List (List Rich)→Int→Int→Int
 | [],_,w => w
 | l :: ls,n,w => szLs ls n (wr (w+ptL l n 0))
def szP (p : Package) (n w : Int) : Int:=szLs (lists6 p) n (wr (wr (wr (wr (w+1)+p.provides.length)+p.obsoletes.length)+p.files.length))
def szL : List Package→Int→Int→Int
 | [],_,w => w
 | p :: ps,n,w => if w < n then szL ps n (szP p n w) else w
theorem lists6_ok {p : Package} (h : p.Ok) : ∀ l∈lists6 p,l.length < 2 ^ 62∧∀ r∈l,r.ok:=by
 intro l hl
 simp only [lists6,List.mem_cons,List.not_mem_nil,or_false] at hl
 have:=h.rich
 simp only [Package.rows,List.mem_cons,List.not_mem_nil,or_false,forall_eq_or_imp,forall_eq] at this
 obtain ⟨a1,a2,a3,a4,a5,a6⟩:=this
 rcases hl with rfl | rfl | rfl | rfl | rfl | rfl
 ·exact a1
 ·exact a2
 ·exact a3
 ·exact a4
 ·exact a5
 ·exact a6
structure InOK (repos : List Repo) (inst : List Package) : Prop where
 r1 : repos.length < 2 ^ 20
 i1 : inst.length < 2 ^ 20
 s1 : sumLen repos < 2 ^ 40
 rf : ∀ r∈repos,Repo.Fit r
 pf : ∀ p∈inst,p.Fit
 ro : ∀ r∈repos,Repo.Ok r
 po : ∀ p∈inst,p.Ok
theorem tiny_small {p : Package} (h : p.Tiny) : Pkg.small p:=by
 have e : ∀ v : EVR,v.tiny→EVR.small v:=fun v hv => ⟨by have:=hv.1; omega,by have:=hv.2; omega⟩
 refine ⟨e _ h.evr,fun d hd => ?_,fun d hd => ?_,?_,?_,?_⟩
 ·obtain ⟨a,b,c,_⟩:=h.prov.2 d hd; exact ⟨a,b,e _ c⟩
 ·obtain ⟨a,b,c,_⟩:=h.obs.2 d hd; exact ⟨a,b,e _ c⟩
 ·have:=h.prov.1; omega
 ·have:=h.obs.1; omega
 ·have:=h.files; omega
theorem in_fit {repos : List Repo} {inst : List Package} {p : Pool} (hI : InOK repos inst) (h : newM repos inst=.inl p) : ∀ x∈pkgsOf p,x.Fit∧Pkg.small x∧x.Tiny:=by
 intro x hx
 obtain ⟨h1,h2⟩:=newM_mem h x hx
 refine ⟨?_,tiny_small (pkg_tiny h1),pkg_tiny h1⟩
 rcases h2 with h2 | ⟨r,hr,h2⟩
 ·exact hI.pf x h2
 ·exact (hI.rf r hr).2 x h2
end Go.Id.Tryz
