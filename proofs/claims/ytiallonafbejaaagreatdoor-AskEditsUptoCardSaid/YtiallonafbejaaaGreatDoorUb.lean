/- How much an ideal value counts; what a bound gives for the document's data. Conditions: none; over any program. -/
import Derived.Test.YtiallonafbejaaaGreatDoorMd
import Derived.Test.YtiallonafbejaaaGreatDoorFwZb
set_option linter.all false
namespace Go.Id
open Go Go.Id
mutual
def isz : IV→Nat
 | .str s => s.length+1
 | .tslice es => iszR es+1
 | _ => 1
def iszL : List IV→Nat
 | [] => 0
 | c :: cs => isz c+iszL cs
def iszR : List (List IV)→Nat
 | [] => 0
 | e :: es => iszL e+iszR es
end
theorem iszL_append (a b : List IV) : iszL (a ++ b)=iszL a+iszL b:=by
 induction a with
 | nil => simp [iszL]
 | cons x a ih => simp only [List.cons_append,iszL,ih]; omega
theorem iszR_mem {α : Type} (f : α→List IV) : ∀ (l : List α),∀ a∈l,iszL (f a)≤iszR (l.map f):=by
 intro l
 induction l with
 | nil => intro a h; cases h
 | cons x l ih =>
  intro a h
  simp only [List.map_cons,iszR]
  rcases List.mem_cons.1 h with rfl | h
  ·omega
  ·have:=ih a h; omega
theorem iszR_len {α : Type} (f : α→List IV) (hf : ∀ a,1≤iszL (f a)) : ∀ (l : List α),l.length≤iszR (l.map f):=by
 intro l
 induction l with
 | nil => simp
 | cons x l ih =>
  simp only [List.map_cons,iszR,List.length_cons]
  have:=hf x
  omega
namespace Md
theorem Dep.szs (d : Dep) : iszL d.cs=d.name.length+d.evr.ver.length+d.evr.rel.length+5:=by
 simp only [Dep.cs,iszL,isz]; omega
theorem Rich.szs (r : Rich) : iszL r.cs=r.dep.name.length+r.dep.evr.ver.length+r.dep.evr.rel.length+iszR (r.args.map Rich.cs)+7:=by
 rw [Rich.cs_eq]; simp only [iszL,isz]; omega
theorem Package.szs (p : Package) : iszL p.cs=p.name.length+p.evr.ver.length+p.evr.rel.length+p.vendor.length+iszR (p.provides.map Dep.cs)+iszR (p.requires.map Rich.cs)+iszR (p.conflicts.map Rich.cs)+iszR (p.obsoletes.map Dep.cs)+iszR (p.recommends.map Rich.cs)+iszR (p.supplements.map Rich.cs)+iszR (p.suggests.map Rich.cs)+iszR (p.enhances.map Rich.cs)+iszR (p.files.map strC)+15:=by
 simp only [Package.cs,iszL,isz]; omega
theorem Repo.szs (r : Repo) : iszL r.cs=iszR (r.packages.map Package.cs)+2:=by
 simp only [Repo.cs,iszL,isz]; omega
theorem rich_count (r : Rich) : r.count≤iszL r.cs:=by
 induction r using Rich.ind with
 | h k d xs ih =>
  rw [Rich.szs]
  have : ∀ ys : List Rich,(∀ y∈ys,y∈xs)→Rich.counts ys≤iszR (ys.map Rich.cs):=by
   intro ys
   induction ys with
   | nil => intro _; simp [Rich.counts]
   | cons y ys ih2 =>
    intro h
    have h1:=ih y (h y (List.mem_cons_self ..))
    have h2:=ih2 fun z hz => h z (List.mem_cons_of_mem _ hz)
    simp only [Rich.counts,List.map_cons,iszR]
    omega
  have:=this xs fun y h => h
  simp only [Rich.count,Rich.args]
  omega
theorem rich_fit (r : Rich) : r.ok→iszL r.cs < 2 ^ 31→r.fit:=by
 induction r using Rich.ind with
 | h k d xs ih =>
  intro ho hs
  obtain ⟨a,b,c,e,f⟩:=Rich.ok_mk.1 ho
  rw [Rich.szs] at hs
  simp only [Rich.args] at hs
  have hl:=iszR_len Rich.cs (fun r => by rw [Rich.szs]; omega) xs
  refine Rich.fit_mk.2 ⟨a,b,c,by omega,fun r hr => ih r hr (f r hr) ?_⟩
  have:=iszR_mem Rich.cs xs r hr
  omega
theorem pkg_fit {p : Package} (h : p.Ok) (hs : iszL p.cs < 2 ^ 31) : p.Fit:=by
 rw [Package.szs] at hs
 have l1:=iszR_len Dep.cs (fun r => by rw [Dep.szs]; omega) p.provides
 have l2:=iszR_len Dep.cs (fun r => by rw [Dep.szs]; omega) p.obsoletes
 have l3:=iszR_len strC (fun r => by simp only [strC,iszL,isz]; omega) p.files
 have hr : ∀ x∈p.rows,iszR (x.2.map Rich.cs) < 2 ^ 31:=by
  intro x hx
  simp only [Package.rows,List.mem_cons,List.not_mem_nil,or_false] at hx
  rcases hx with rfl | rfl | rfl | rfl | rfl | rfl <;> simp only [] <;> omega
 exact {
  name:=h.name
  evr:=h.evr
  prov:=⟨by omega,h.prov.2⟩
  obs:=⟨by omega,h.obs.2⟩
  files:=⟨by omega,h.files.2⟩
  rich:=fun x hx => by
   have h1:=hr x hx
   have h2:=iszR_len Rich.cs (fun r => by rw [Rich.szs]; omega) x.2
   refine ⟨by omega,fun r hr' => ?_⟩
   have h3:=iszR_mem Rich.cs x.2 r hr'
   have h4:=rich_count r
   exact ⟨rich_fit r ((h.rich x hx).2 r hr') (by omega),by omega⟩ }
theorem sumLen_sz (repos : List Repo) : sumLen repos≤iszR (repos.map Repo.cs):=by
 induction repos with
 | nil => simp [sumLen]
 | cons r rs ih =>
  have h2:=iszR_len Package.cs (fun r => by rw [Package.szs]; omega) r.packages
  have h3:=Repo.szs r
  simp only [sumLen,List.map_cons,List.sum_cons,iszR] at ih ⊢
  omega
end Md
end Go.Id
