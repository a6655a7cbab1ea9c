/- Pools without their last package,or repository: in plain words. Conditions: none; no program in sight. -/
import Derived.Test.YteomphdgniepbaaGreatDoorMw
set_option linter.all false
namespace Go.Id.Md
open Go Go.Id
structure OkM (ab5:List ak8) (inst:List aa2):Prop where
 n:ab5.length≤16
 all:inst.length+al4 ab5≤256
 inst:inst.all ag7=true
 ab5:∀ r∈ab5,0≤r.priority∧r.priority≤1024∧r.packages.all ag7=true
end Go.Id.Md
/- Pools whose packages were altered: in plain words. Conditions: none; no program in sight. -/
namespace Go.Id.Md
open Go Go.Id
def ig1 (f:aa2→aa2)(l:List ak8):List ak8:=l.map fun r=>⟨r.priority,r.packages.map f⟩
theorem gi7 (f:aa2→aa2)(l:List ak8):(ig1 f l).length=l.length:=by simp[ig1]
theorem gi8 (f:aa2→aa2)(l:List ak8):al4 (ig1 f l)=al4 l:=by
 unfold al4 ig1;rw[List.map_map];congr 1;exact List.map_congr_left fun r _=>List.length_map ..
theorem OkM.map {ab5:List ak8}{inst:List aa2}{f g:aa2→aa2}(h:OkM ab5 inst)(hf:∀ q,ag7 q=true→ag7 (f q)=true)(hg:∀ q,ag7 q=true→ag7 (g q)=true):OkM (ig1 f ab5) (inst.map g) where
 n:=by rw[gi7]; exact h.n
 all:=by rw[gi8,List.length_map]; exact h.all
 inst:=List.all_eq_true.2 fun x hx=>by
  obtain ⟨y,hy,rfl⟩:=List.mem_map.1 hx;exact hg y (List.all_eq_true.1 h.inst y hy)
 ab5:=fun r hr=>by
  obtain ⟨y,hy,rfl⟩:=List.mem_map.1 hr;obtain ⟨h1,h2,h3⟩:=h.ab5 y hy;refine ⟨h1,h2,List.all_eq_true.2 fun x hx=>?_⟩;obtain ⟨z,hz,rfl⟩:=List.mem_map.1 hx;exact hf z (List.all_eq_true.1 h3 z hz)
/-! ### Vendors count for nothing -/
/-! ### Who is installed is better -/
end Go.Id.Md
