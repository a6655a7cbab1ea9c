/- How much an ideal value counts; what a bound gives for the document's data. Conditions: none; over any program. -/
import Derived.Test.YteomphdgniepbaaGreatDoorMw
import Derived.Test.YteomphdgniepbaaGreatDoorFwZb
set_option linter.all false
namespace Go.Id
open Go Go.Id
mutual
def isz:IV→Nat
 | .str s=>s.length+1
 | .aa3 es=>ci4 es+1
 | _=>1
def az6:List IV→Nat
 | []=>0
 | c::cs=>isz c+az6 cs
def ci4:List (List IV)→Nat
 | []=>0
 | e::es=>az6 e+ci4 es
end
theorem eg1 (a b:List IV):az6 (a++b)=az6 a+az6 b:=by
 induction a with
 | nil=>simp[az6]
 | cons x a ih=>simp only[List.cons_append,az6,ih]; omega
theorem bp2 {α:Type}(f:α→List IV):∀ (l:List α),∀ a∈l,az6 (f a)≤ci4 (l.map f):=by
 intro l
 induction l with
 | nil=>intro a h; cases h
 | cons x l ih=>
  intro a h;simp only[List.map_cons,ci4];rcases List.mem_cons.1 h with rfl|h
  ·omega
  ·have:=ih a h; omega
theorem ap5 {α:Type}(f:α→List IV)(hf:∀ a,1≤az6 (f a)):∀ (l:List α),l.length≤ci4 (l.map f):=by
 intro l
 induction l with
 | nil=>simp
 | cons x l ih=>
  simp only[List.map_cons,ci4,List.length_cons];have:=hf x;omega
namespace Md
theorem Dep.szs (d:Dep):az6 d.cs=d.name.length+d.evr.ver.length+d.evr.rel.length+5:=by
 simp only[Dep.cs,az6,isz]; omega
theorem aa7.szs (r:aa7):az6 r.cs=r.dep.name.length+r.dep.evr.ver.length+r.dep.evr.rel.length+ci4 (r.args.map aa7.cs)+7:=by
 rw[aa7.ao4]; simp only[az6,isz]; omega
theorem aa2.szs (p:aa2):az6 p.cs=p.name.length+p.evr.ver.length+p.evr.rel.length+p.vendor.length+ci4 (p.provides.map Dep.cs)+ci4 (p.requires.map aa7.cs)+ci4 (p.conflicts.map aa7.cs)+ci4 (p.ab4.map Dep.cs)+ci4 (p.ac1.map aa7.cs)+ci4 (p.ab8.map aa7.cs)+ci4 (p.suggests.map aa7.cs)+ci4 (p.ac7.map aa7.cs)+ci4 (p.files.map bs4)+15:=by
 simp only[aa2.cs,az6,isz]; omega
theorem ak8.szs (r:ak8):az6 r.cs=ci4 (r.packages.map aa2.cs)+2:=by
 simp only[ak8.cs,az6,isz]; omega
theorem ff9 (r:aa7):r.count≤az6 r.cs:=by
 induction r using aa7.ind with
 | h k d xs ih=>
  rw[aa7.szs]
  have:∀ ys:List aa7,(∀ y∈ys,y∈xs)→aa7.counts ys≤ci4 (ys.map aa7.cs):=by
   intro ys
   induction ys with
   | nil=>intro _; simp[aa7.counts]
   | cons y ys ih2=>
    intro h;have h1:=ih y (h y (List.mem_cons_self ..));have h2:=ih2 fun z hz=>h z (List.mem_cons_of_mem _ hz)
    simp only[aa7.counts,List.map_cons,ci4];omega
  have:=this xs fun y h=>h
  simp only[aa7.count,aa7.args];omega
theorem gp9 (r:aa7):r.ok→az6 r.cs<2^31→r.fit:=by
 induction r using aa7.ind with
 | h k d xs ih=>
  intro ho hs;obtain ⟨a,b,c,e,f⟩:=aa7.hc5.1 ho;rw[aa7.szs] at hs;simp only[aa7.args] at hs;have hl:=ap5 aa7.cs (fun r=>by rw[aa7.szs]; omega) xs;refine aa7.cp4.2 ⟨a,b,c,by omega,fun r hr=>ih r hr (f r hr) ?_⟩;have:=bp2 aa7.cs xs r hr;omega
theorem fz4 {p:aa2}(h:p.Ok)(hs:az6 p.cs<2^31):p.Fit:=by
 rw[aa2.szs] at hs;have l1:=ap5 Dep.cs (fun r=>by rw[Dep.szs]; omega) p.provides;have l2:=ap5 Dep.cs (fun r=>by rw[Dep.szs]; omega) p.ab4;have l3:=ap5 bs4 (fun r=>by simp only[bs4,az6,isz]; omega) p.files
 have hr:∀ x∈p.rows,ci4 (x.2.map aa7.cs)<2^31:=by
  intro x hx;simp only[aa2.rows,List.mem_cons,List.not_mem_nil,or_false] at hx;rcases hx with rfl|rfl|rfl|rfl|rfl|rfl<;>simp only[]<;>omega
 exact {
  name:=h.name
  evr:=h.evr
  ax1:=⟨by omega,h.ax1.2⟩
  obs:=⟨by omega,h.obs.2⟩
  files:=⟨by omega,h.files.2⟩
  rich:=fun x hx=>by
   have h1:=hr x hx;have h2:=ap5 aa7.cs (fun r=>by rw[aa7.szs]; omega) x.2;refine ⟨by omega,fun r hr'=>?_⟩;have h3:=bp2 aa7.cs x.2 r hr';have h4:=ff9 r;exact ⟨gp9 r ((h.rich x hx).2 r hr') (by omega),by omega⟩ }
theorem fz5 (ab5:List ak8):al4 ab5≤ci4 (ab5.map ak8.cs):=by
 induction ab5 with
 | nil=>simp[al4]
 | cons r rs ih=>
  have h2:=ap5 aa2.cs (fun r=>by rw[aa2.szs]; omega) r.packages;have h3:=ak8.szs r;simp only[al4,List.map_cons,List.sum_cons,ci4] at ih ⊢;omega
end Md
end Go.Id
