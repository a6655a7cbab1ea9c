/- The law's own: what is too large; an index of a pool. Conditions: sizes that fit. -/
import Derived.Test.YtiallonafbejaaaGreatDoorTUQG
import Derived.Test.YtiallonafbejaaaGreatDoorTUPG
import Derived.Test.YtiallonafbejaaaGreatDoorMm
set_option linter.all false
namespace Go.Id.Tryz
open Go Go.Id Go.Proofs Go.Id.Md
set_option maxRecDepth 100000
structure InOK (repos : List Repo) (inst : List Package) : Prop where
 r1 : repos.length < 2 ^ 20
 i1 : inst.length < 2 ^ 20
 s1 : sumLen repos < 2 ^ 40
 rf : ∀ r∈repos,Repo.Fit r
 pf : ∀ p∈inst,p.Fit
 ro : ∀ r∈repos,Repo.Ok r
 po : ∀ p∈inst,p.Ok
theorem tiny_small {p : Package} (h : p.Tiny) : Pkg.small p:=by
 have e : ∀ v : EVR,v.tiny→EVR.small v:=fun v hv => ⟨by have:=hv.1; omega,by have:=hv.2; omega⟩
 refine ⟨e _ h.evr,fun d hd => ?_,fun d hd => ?_,?_,?_,?_⟩
 ·obtain ⟨a,b,c,_⟩:=h.prov.2 d hd; exact ⟨a,b,e _ c⟩
 ·obtain ⟨a,b,c,_⟩:=h.obs.2 d hd; exact ⟨a,b,e _ c⟩
 ·have:=h.prov.1; omega
 ·have:=h.obs.1; omega
 ·have:=h.files; omega
theorem in_fit {repos : List Repo} {inst : List Package} {p : Pool} (hI : InOK repos inst) (h : newM repos inst=.inl p) : ∀ x∈pkgsOf p,x.Fit∧Pkg.small x∧x.Tiny:=by
 intro x hx
 obtain ⟨h1,h2⟩:=newM_mem h x hx
 refine ⟨?_,tiny_small (pkg_tiny h1),pkg_tiny h1⟩
 rcases h2 with h2 | ⟨r,hr,h2⟩
 ·exact hI.pf x h2
 ·exact (hI.rf r hr).2 x h2
end Go.Id.Tryz
