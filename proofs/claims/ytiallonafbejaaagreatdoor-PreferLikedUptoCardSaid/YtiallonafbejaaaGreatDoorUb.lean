/- How much an ideal value counts; what a bound gives for the document's data. Conditions: none; over any program. -/
import Derived.Test.YtiallonafbejaaaGreatDoorMw
import Derived.Test.YtiallonafbejaaaGreatDoorFwZb
set_option linter.all false
namespace Go.Id
open Go Go.Id
mutual
def isz:IV→Nat
 | .str s=>s.length+1
 | .tslice es=>cb2 es+1
 | _=>1
def au7:List IV→Nat
 | []=>0
 | c::cs=>isz c+au7 cs
def cb2:List (List IV)→Nat
 | []=>0
 | e::es=>au7 e+cb2 es
end
theorem dw8 (a b:List IV):au7 (a++b)=au7 a+au7 b:=by
 induction a with
 | nil=>simp[au7]
 | cons x a ih=>simp only[List.cons_append,au7,ih]; omega
theorem bi2 {α:Type}(f:α→List IV):∀ (l:List α),∀ a∈l,au7 (f a)≤cb2 (l.map f):=by
 intro l
 induction l with
 | nil=>intro a h; cases h
 | cons x l ih=>
  intro a h
  simp only[List.map_cons,cb2]
  rcases List.mem_cons.1 h with rfl|h
  ·omega
  ·have:=ih a h; omega
theorem an5 {α:Type}(f:α→List IV)(hf:∀ a,1≤au7 (f a)):∀ (l:List α),l.length≤cb2 (l.map f):=by
 intro l
 induction l with
 | nil=>simp
 | cons x l ih=>
  simp only[List.map_cons,cb2,List.length_cons]
  have:=hf x
  omega
namespace Md
theorem Dep.szs (d:Dep):au7 d.cs=d.name.length+d.evr.ver.length+d.evr.rel.length+5:=by
 simp only[Dep.cs,au7,isz]; omega
theorem Rich.szs (r:Rich):au7 r.cs=r.dep.name.length+r.dep.evr.ver.length+r.dep.evr.rel.length+cb2 (r.args.map Rich.cs)+7:=by
 rw[Rich.cs_eq]; simp only[au7,isz]; omega
theorem Package.szs (p:Package):au7 p.cs=p.name.length+p.evr.ver.length+p.evr.rel.length+p.vendor.length+cb2 (p.provides.map Dep.cs)+cb2 (p.requires.map Rich.cs)+cb2 (p.conflicts.map Rich.cs)+cb2 (p.obsoletes.map Dep.cs)+cb2 (p.recommends.map Rich.cs)+cb2 (p.supplements.map Rich.cs)+cb2 (p.suggests.map Rich.cs)+cb2 (p.enhances.map Rich.cs)+cb2 (p.files.map bl6)+15:=by
 simp only[Package.cs,au7,isz]; omega
theorem Repo.szs (r:Repo):au7 r.cs=cb2 (r.packages.map Package.cs)+2:=by
 simp only[Repo.cs,au7,isz]; omega
theorem ev9 (r:Rich):r.count≤au7 r.cs:=by
 induction r using Rich.ind with
 | h k d xs ih=>
  rw[Rich.szs]
  have:∀ ys:List Rich,(∀ y∈ys,y∈xs)→Rich.counts ys≤cb2 (ys.map Rich.cs):=by
   intro ys
   induction ys with
   | nil=>intro _; simp[Rich.counts]
   | cons y ys ih2=>
    intro h
    have h1:=ih y (h y (List.mem_cons_self ..))
    have h2:=ih2 fun z hz=>h z (List.mem_cons_of_mem _ hz)
    simp only[Rich.counts,List.map_cons,cb2]
    omega
  have:=this xs fun y h=>h
  simp only[Rich.count,Rich.args]
  omega
theorem ge9 (r:Rich):r.ok→au7 r.cs<2^31→r.fit:=by
 induction r using Rich.ind with
 | h k d xs ih=>
  intro ho hs
  obtain ⟨a,b,c,e,f⟩:=Rich.ok_mk.1 ho
  rw[Rich.szs] at hs
  simp only[Rich.args] at hs
  have hl:=an5 Rich.cs (fun r=>by rw[Rich.szs]; omega) xs
  refine Rich.fit_mk.2 ⟨a,b,c,by omega,fun r hr=>ih r hr (f r hr) ?_⟩
  have:=bi2 Rich.cs xs r hr
  omega
theorem fq1 {p:Package}(h:p.Ok)(hs:au7 p.cs<2^31):p.Fit:=by
 rw[Package.szs] at hs
 have l1:=an5 Dep.cs (fun r=>by rw[Dep.szs]; omega) p.provides
 have l2:=an5 Dep.cs (fun r=>by rw[Dep.szs]; omega) p.obsoletes
 have l3:=an5 bl6 (fun r=>by simp only[bl6,au7,isz]; omega) p.files
 have hr:∀ x∈p.rows,cb2 (x.2.map Rich.cs)<2^31:=by
  intro x hx
  simp only[Package.rows,List.mem_cons,List.not_mem_nil,or_false] at hx
  rcases hx with rfl|rfl|rfl|rfl|rfl|rfl<;>simp only[]<;>omega
 exact {
  name:=h.name
  evr:=h.evr
  prov:=⟨by omega,h.prov.2⟩
  obs:=⟨by omega,h.obs.2⟩
  files:=⟨by omega,h.files.2⟩
  rich:=fun x hx=>by
   have h1:=hr x hx
   have h2:=an5 Rich.cs (fun r=>by rw[Rich.szs]; omega) x.2
   refine ⟨by omega,fun r hr'=>?_⟩
   have h3:=bi2 Rich.cs x.2 r hr'
   have h4:=ev9 r
   exact ⟨ge9 r ((h.rich x hx).2 r hr') (by omega),by omega⟩ }
theorem fq2 (repos:List Repo):af1 repos≤cb2 (repos.map Repo.cs):=by
 induction repos with
 | nil=>simp[af1]
 | cons r rs ih=>
  have h2:=an5 Package.cs (fun r=>by rw[Package.szs]; omega) r.packages
  have h3:=Repo.szs r
  simp only[af1,List.map_cons,List.sum_cons,cb2] at ih ⊢
  omega
end Md
end Go.Id
