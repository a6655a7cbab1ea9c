/- Pools: what they tell. What is the same. Conditions: none. -/
import Derived.Test.YtiallonafbejaaaGreatDoorTUPF
import Derived.Test.YtiallonafbejaaaGreatDoorTUPR
set_option linter.all false
namespace Go.Id.Tryz
open Go Go.Id Go.Proofs Go.Id.Md
theorem bnd_nmV (nm : Nms) : Bnd 0 (.tmap (nmV nm)):=by
 refine .tmap _ (fun e he => ?_) (fun e he => ?_) <;> (simp only [nmV,List.mem_map] at he; obtain ⟨t,_,rfl⟩:=he)
 ·exact .str _
 ·refine .tslice _ fun x hx c hc => ?_
  obtain ⟨n,_,rfl⟩:=List.mem_map.1 hx
  cases hc with
  | head => exact .int _ _
  | tail _ h => cases h
theorem bnd_rows (l : List PRow) : Bnd 0 (.tslice (l.map PRow.cs)):=.tslice _ fun e he c hc => by
 obtain ⟨r,_,rfl⟩:=List.mem_map.1 he; exact bnd_prow r c hc
theorem bnd_pool (p : Pool) : Bnd 0 p.v:=.tptr _ fun c hc => by
 simp only [List.mem_cons,List.not_mem_nil,or_false] at hc
 rcases hc with rfl | rfl | rfl
 ·exact bnd_rows _
 ·exact .int _ _
 ·exact bnd_nmV _
theorem rowsIs_pc (l : List PRow) (n : Int) : PC Tryz.prog EE 73 [.tslice (l.map PRow.cs),.int .i64 n] (.bool (decide (0≤n) && decide (n < l.length))):=by
 refine PC_f fok73 (Nat.le_of_ble_eq_true rfl) fun σ => ?_
 by_cases h : 0≤n
 ·simp only [ic73,go_sem,h,and_self]
 ·simp only [ic73,go_sem,h,and_self]
theorem poolCount_pc (p : Pool) : PC Tryz.prog EE 17 [p.v] (.int .i64 p.rows.length):=by
 refine PC_f fok17 (Nat.le_of_ble_eq_true rfl) fun σ => ?_
 simp only [ic17,go_sem,Pool.v,and_self]
theorem poolInstalled_pc (p : Pool) : PC Tryz.prog EE 66 [p.v] (.int .i64 p.inst):=by
 refine PC_f fok66 (Nat.le_of_ble_eq_true rfl) fun σ => ?_
 simp only [ic66,go_sem,Pool.v,and_self]
theorem prow_pkg (r : PRow) : r.cs.take 15=r.pkg.cs:=rfl
theorem poolPackage_pc (p : Pool) (n : Nat) (h : n < p.rows.length) (hf : p.rows[n].pkg.Fit) : PC Tryz.prog EE 19 [p.v,.int .i64 n] (.tuple [.agg p.rows[n].pkg.cs,.int .i64 0]):=by
 refine PC_e hE fok19 (Nat.le_of_ble_eq_true rfl) (two_mem (bnd_pool p) (.int _ _)) ?_
 have c1 : (n : Int) < p.rows.length:=by omega
 have c2 : (0 : Int)≤n:=by omega
 have hg : (p.rows.map PRow.cs).getD n []=p.rows[n].cs:=by simp [List.getD_eq_getElem?_getD,h]
 have h15 : ∀ r : PRow,(15≤r.cs.length)=True:=fun r => by rw [prow_len]; simp
 simp only [ic19,go_sem,Pool.v]
 refine call_pc fok73 (rowsIs_pc p.rows n) ?_
 simp only [go_sem,c1,c2,hg,prow_len,prow_pkg]
 refine call_pc fok74 (pkgCopy_pc _ hf) ?_
 simp only [go_sem,pkg_len,pkg_take,pkg_leaf]
 exact .keep _ (.tuple _ (two_mem (bnd_pkgA _) (.int _ _)))
end Go.Id.Tryz
/- The examples,by their run. Conditions: none. -/
namespace Go.Id.Tryz
open Go Go.Id Go.Proofs Go.Id.Md
set_option maxRecDepth 100000
end Go.Id.Tryz
