/- PoolLess: a pool without its last package,or last repository,may be; the others have their numbers. Conditions: sizes that fit. -/
import Derived.Test.YtiallonafbejaaaDoorTXTA
import Derived.Test.YtiallonafbejaaaDoorTXPH
import Derived.Test.YtiallonafbejaaaDoorTXPI
import Derived.Test.YtiallonafbejaaaDoorMy
set_option linter.all false
namespace Go.Id.Tryd
open Go Go.Id Go.Proofs Go.Id.Md
theorem sumLen_le {repos : List Repo} {m : Nat} (h : ∀ r∈repos,r.packages.length≤m) : sumLen repos≤repos.length * m:=by
 induction repos with
 | nil => simp [sumLen]
 | cons r rs ih =>
  have h1:=h r (List.mem_cons_self ..)
  have h2:=ih fun x hx => h x (List.mem_cons_of_mem _ hx)
  simp only [sumLen,List.map_cons,List.sum_cons,List.length_cons,Nat.add_mul] at h2 ⊢
  omega
theorem app_repos {s : Store} {id nid : Nat} (a : List Repo) (ho : s.obj id=some (.row [])) (hid : id < nid) (hn : nid < s.next) (hl : a.length≤1000) :
  ∃ rid s',appI s nid 2 (.slice id 0 0 2) (reposV a)=some (.slice rid 0 a.length 2,s')∧s'.obj rid=some (.row (a.map Repo.cs).flatten)∧rid < s'.next∧id≤rid∧s'.next=s.next∧∀ i,i < id→s'.obj i=s.obj i:=by
 have hall : ∀ e∈a.map Repo.cs,e.length=2:=fun e he => by
  obtain ⟨x,_,rfl⟩:=List.mem_map.1 he; rfl
 have hlf : ∀ e∈a.map Repo.cs,e.all IV.leaf=true:=fun e he => by
  obtain ⟨x,_,rfl⟩:=List.mem_map.1 he; rfl
 have hsrc : srcI s 2 (reposV a)=some (a.length,(a.map Repo.cs).flatten):=by
  have h1 : (a.map Repo.cs).all (fun e => e.length == 2)=true:=List.all_eq_true.2 fun x hx => by rw [hall x hx]; rfl
  simp only [srcI,h1,if_true,List.length_map]
 have hleaf : (a.map Repo.cs).flatten.all IV.leaf=true:=flat_leaf hlf
 unfold appI
 rw [hsrc]
 simp only [hleaf,Bool.true_eq_false,if_false,ho]
 by_cases h0 : a.length=0
 ·have e : a=[]:=List.length_eq_zero_iff.1 h0
  subst e
  exact ⟨id,s,by simp,ho,by omega,Nat.le_refl _,rfl,fun _ _ => rfl⟩
 ·refine ⟨nid,(s.kill id).put nid (.row ([].drop 0 ++ (a.map Repo.cs).flatten)),?_,?_,by show nid < s.next; exact hn,by omega,rfl,fun i hi => ?_⟩
  ·have h2 : a.length≤2147483648:=by omega
   simp [h0,h2]
  ·rw [put_obj,if_pos rfl]; rfl
  ·rw [put_obj,if_neg (by omega)]
   show (if i=id then none else s.obj i)=_
   rw [if_neg (by omega)]
theorem poolLess_pc (repos : List Repo) (inst : List Package) (h1 : repos.length < 2 ^ 62) (h2 : inst.length < 2 ^ 62) (hr : ∀ r∈repos,Repo.Ok r) (hi : ∀ p∈inst,p.Ok) : PC Tryd.prog EE 3 [reposV repos,pkgsV inst] (.bool true):=by
 refine PC_e hE fok3 (Nat.le_of_ble_eq_true rfl) (two_mem (bnd_repos _) (bnd_pkgs _)) ?_
 simp only [ic3,go_sem]
 refine callP_of (wide_pc repos inst h1 h2 hr hi) ?_
 cases hw : wideM repos inst with
 | true =>
  simp only [go_sem]
  refine callP_of awake_pc ?_
  simp only [go_sem]
  exact frz_bool _
 | false =>
 obtain ⟨l1,l2,fi,fr⟩:=wide_fit hr hi hw
 simp only [go_sem]
 refine callP_of awake_pc ?_
 simp only [go_sem]
 have hs:=sumLen_le (m:=80) fun r hr' => (fr r hr').1
 refine call_pc fok7 (poolNew_pc repos inst (by omega) (by omega) (by omega) (fun r hr' => ⟨by have:=(fr r hr').1; omega,(fr r hr').2⟩) fi) ?_
 cases hn : newM repos inst with
 | inr e =>
  rcases newM_inr hn with rfl | rfl
  ·simp only [go_sem,newV]
   exact frz_bool _
  ·simp only [go_sem,newV]
   exact frz_bool _
 | inl p =>
 by_cases h0 : repos=[]
 ·subst h0
  simp only [go_sem,newV]
  exact frz_bool _
 obtain ⟨a,l,rfl⟩ : ∃ a l,repos=a ++ [l]:=⟨repos.dropLast,repos.getLast h0,(List.dropLast_concat_getLast h0).symm⟩
 have hok:=newM_okM hn
 obtain ⟨q,hq⟩:=hok.less.new
 have hrows:=rows_less hn hq
 rw [List.length_append,List.length_singleton] at l1
 have n0 : ¬ (((a ++ [l]).length : Nat) : Int)=0:=by rw [List.length_append,List.length_singleton]; omega
 have w0 : IntKind.i64.wrap ((((a ++ [l]).length : Nat) : Int) - 1)=(a.length : Int):=by rw [List.length_append,List.length_singleton,wrap64 (by omega) (by omega)]; omega
 have w1 : (a.length : Int) < ((a ++ [l]).length : Nat):=by rw [List.length_append,List.length_singleton]; omega
 have w2 : (0 : Int)≤(a.length : Int):=by omega
 have w3 : a.length≤(a ++ [l]).length:=by rw [List.length_append]; omega
 have g0 : ((a ++ [l]).map Repo.cs).getD a.length []=l.cs:=by simp [List.getD_eq_getElem?_getD]
 have g1 : ((a ++ [l]).map Repo.cs).take a.length=a.map Repo.cs:=by simp
 have hsl : slcI 2 none (some (.int .i64 (a.length : Int))) (reposV (a ++ [l]))=some (reposV a):=by
  simp [slcI,bndI,natI]
  exact ⟨fun _ _ => rfl,rfl⟩
 have frl:=fr l (by simp)
 have fra : ∀ r∈a,r.packages.length≤80∧∀ p∈r.packages,p.Fit:=fun r hr' => fr r (List.mem_append_left _ hr')
 rw [List.length_append,List.length_singleton] at hs
 have hsa : sumLen a≤sumLen (a ++ [l]):=by rw [sumLen_app]; omega
 simp only [go_sem,newV,n0,w0,w1,w2,w3,g0,hsl,repo_len,repo_take,repo_leaf]
 generalize hS0 : Store.put _ 1 (IObj.row [])=S0
 have hn0 : S0.next=3:=by rw [← hS0]; rfl
 have ho0 : S0.obj 0=some (.cells l.cs):=by rw [← hS0]; simp only [put_obj]; rfl
 have ho1 : S0.obj 1=some (.row []):=by rw [← hS0]; simp only [put_obj,if_true]
 obtain ⟨rid,s',ha1,ha2,ha3,ha4,ha5,ha6⟩:=app_repos (nid:=2) a ho1 (by omega) (by omega) (by omega)
 have hb0 : s'.obj 0=some (.cells l.cs):=by rw [ha6 0 (by omega)]; exact ho0
 simp only [go_sem,ha1]
 refine call_c fok7 (poolNew_own a inst (by omega) (by omega) (by omega) (fun r hr' => ⟨by have:=(fra r hr').1; omega,(fra r hr').2⟩) fi s' rid ha2 ha3) ?_
 rintro v s ⟨rfl,rfl⟩
 refine ⟨Nat.le_refl _,?_⟩
 have hpl : p.rows.length=q.rows.length+l.packages.length:=by rw [hrows,List.length_append,rowsOf_len]
 have hpl2 : p.rows.length≤256:=newM_len hn
 have m1 : IntKind.i64.wrap ((p.rows.length : Int) - (l.packages.length : Nat))=(q.rows.length : Int):=by rw [wrap64 (by omega) (by omega)]; omega
 have k1 : (l.cs.drop 1).head? = some (pkgsV l.packages):=rfl
 have k2 : ¬ ((0 : Int)≠0):=by decide
 simp only [go_sem,hq,newV,hb0,k1,k2]
 refine callP_of (poolCount_pc q) ?_
 simp only [go_sem]
 refine callP_of (poolCount_pc p) ?_
 simp only [go_sem,hb0,k1,m1]
 refine loop_up noT (fun i fr t => fr=[(1,pkgsV inst),(5,p.v),(7,.ptr 0 0),(8,.slice rid 0 a.length 2),(9,q.v),(11,.int .i64 i)]∧t.obj 0=some (.cells l.cs)∧t.obj rid=some (.row (a.map Repo.cs).flatten)∧rid < t.next) q.rows.length ⟨rfl,hb0,ha2,by show rid < s.next+_; omega⟩ ?_
 rintro i fr t hle ⟨rfl,t0,t1,t2⟩
 by_cases hlt : i < q.rows.length
 ·have d1 : (i : Int) < q.rows.length:=by omega
  have hlt2 : i < p.rows.length:=by omega
  have he : p.rows[i]=q.rows[i]:=by simp [hrows,hlt]
  have w4:=wrapS (i:=i) (by omega)
  have hx : q.rows[i].pkg∈inst ∨ ∃ r∈a,q.rows[i].pkg∈r.packages:=(newM_mem hq _ (List.mem_map.2 ⟨q.rows[i],List.getElem_mem hlt,rfl⟩)).2
  have fx : q.rows[i].pkg.Fit:=by
   rcases hx with hx | ⟨r,hr',hx⟩
   ·exact fi _ hx
   ·exact (fra r hr').2 _ hx
  have hP:=poolPackage_pc q i hlt fx
  have hP2:=poolPackage_pc p i hlt2 (by rw [he]; exact fx)
  have hR:=poolRepo_pc q i hlt
  have hR2:=poolRepo_pc p i hlt2
  rw [he] at hP2 hR2
  have hS:=refSame_pc q.rows[i].pkg q.rows[i].pkg fx fx
  rw [pkgSame_refl] at hS
  generalize q.rows[i]=x at *
  have z0 : ¬ (0 : Nat)=t.next:=by omega
  have z1 : ¬ rid=t.next:=by omega
  have z2 : ¬ (0 : Nat)=t.next+1:=by omega
  have z3 : ¬ rid=t.next+1:=by omega
  have z4 : ¬ t.next=t.next+1:=by omega
  simp only [go_sem]
  refine callP_of (poolCount_pc q) ?_
  simp only [go_sem,d1]
  refine callP_of hP ?_
  simp only [go_sem,pkg_len,pkg_take,pkg_leaf]
  refine callP_of hP2 ?_
  simp only [go_sem,pkg_len,pkg_take,pkg_leaf]
  simp only [z0,z1,z2,z3,z4,go_sem,pkg_len,pkg_take,pkg_leaf]
  refine callP_of hS ?_
  simp only [go_sem]
  refine callP_of hR ?_
  simp only [go_sem]
  refine callP_of hR2 ?_
  simp only [go_sem,w4]
  refine ⟨hlt,?_,?_,by omega⟩
  ·simp only [put_obj,z0,z2,if_false]; exact t0
  ·simp only [put_obj,z1,z3,if_false]; exact t1
 have hi' : i=q.rows.length:=by omega
 subst hi'
 have d1 : ¬ (q.rows.length : Int) < q.rows.length:=by omega
 have zr : ¬ rid=0:=by omega
 simp only [go_sem]
 refine callP_of (poolCount_pc q) ?_
 simp only [go_sem,d1,t0,k1]
 by_cases hl0 : l.packages.length=0
 ·have e0 : (l.packages.length : Int)=0:=by omega
  simp only [go_sem,e0]
  exact frz_bool _
 have e0 : ¬ (l.packages.length : Int)=0:=by omega
 have m2 : IntKind.i64.wrap ((l.packages.length : Int) - 1)=((l.packages.length - 1 : Nat) : Int):=by rw [wrap64 (by omega) (by omega)]; omega
 have hs15 : slcI 15 none (some (.int .i64 ((l.packages.length - 1 : Nat) : Int))) (pkgsV l.packages)=some (pkgsV l.packages.dropLast):=by
  have h3 : l.packages.length - 1≤l.packages.length:=by omega
  have h4 : (l.packages.map Package.cs).take (l.packages.length - 1)=l.packages.dropLast.map Package.cs:=by rw [← List.map_take,List.dropLast_eq_take]
  have h5 : (0 : Int)≤((l.packages.length - 1 : Nat) : Int):=by omega
  simp only [slcI,bndI,natI,h5,if_true,Int.toNat_natCast,List.length_map,h3,List.drop_zero,h4]
  simp
  exact fun _ _ => rfl
 simp only [go_sem,t0,k1,e0,m2,hs15,Repo.cs]
 have hall : ∀ e∈a.map Repo.cs,e.length=2∧e.all IV.leaf=true:=fun e he => by
  obtain ⟨x,_,rfl⟩:=List.mem_map.1 he; exact ⟨rfl,rfl⟩
 obtain ⟨l',hl'⟩ : ∃ l' : Repo,l'=⟨l.priority,l.packages.dropLast⟩:=⟨_,rfl⟩
 have hl'c : [IV.int .i64 l.priority,pkgsV l.packages.dropLast]=l'.cs:=by rw [hl']; rfl
 have hok2 : OkM (a ++ [l']) inst:=by rw [hl']; exact hok.last (fun x hx => List.dropLast_subset _ hx) (by rw [List.length_dropLast]; omega)
 obtain ⟨r,hr2⟩:=hok2.new
 have hrr : r.rows.length=q.rows.length+(l.packages.length - 1):=by
  rw [rows_less hr2 hq,List.length_append,rowsOf_len,hl',List.length_dropLast]
 have fl' : l'.packages.length≤80∧∀ p∈l'.packages,p.Fit:=by
  rw [hl']
  exact ⟨by show l.packages.dropLast.length≤80; rw [List.length_dropLast]; omega,fun p hp => frl.2 p (List.dropLast_subset _ hp)⟩
 have hs2 : sumLen (a ++ [l']) < 2 ^ 40:=by
  have : sumLen [l']=l'.packages.length:=by simp [sumLen]
  rw [sumLen_app]; omega
 simp only [hl'c] at *
 generalize hS1 : Store.mk (t.next+1) _=S1
 have hn1 : S1.next=t.next+1:=by rw [← hS1]
 have hr1 : S1.obj rid=some (.row (a.map Repo.cs).flatten):=by rw [← hS1]; simp only [put_obj,zr,if_false]; exact t1
 have hg : Grow S1 (.slice rid 0 a.length 2) 2 (a.map Repo.cs):=.inr ⟨rid,by rw [List.length_map],hr1,by omega⟩
 rw [app_grow (nid:=t.next) hg hall ⟨rfl,rfl⟩ (by rw [List.length_map]; omega)]
 have hfl : (a.map Repo.cs ++ [l'.cs]).flatten=((a ++ [l']).map Repo.cs).flatten:=by rw [List.map_append]; rfl
 have hln : (a.map Repo.cs).length+1=(a ++ [l']).length:=by simp
 rw [hfl,hln]
 simp only [go_sem]
 refine call_c fok7 (poolNew_own (a ++ [l']) inst (by rw [List.length_append,List.length_singleton]; omega) (by omega) hs2 (fun r hr' => ?_) fi _ t.next (by rw [put_obj,if_pos rfl]) (by show t.next < (killv _ S1).next; rw [killv_next,hn1]; omega)) ?_
 ·rcases List.mem_append.1 hr' with h | h
  ·exact ⟨by have:=(fra r h).1; omega,(fra r h).2⟩
  ·rw [List.mem_singleton] at h
   subst h
   exact ⟨by have:=fl'.1; omega,fl'.2⟩
 rintro v s2 ⟨rfl,rfl⟩
 refine ⟨Nat.le_refl _,?_⟩
 have m3 : IntKind.i64.wrap ((p.rows.length : Int) - 1)=(r.rows.length : Int):=by rw [wrap64 (by omega) (by omega)]; omega
 simp only [go_sem,hr2,newV]
 refine callP_of (poolCount_pc r) ?_
 simp only [go_sem]
 refine callP_of (poolCount_pc p) ?_
 simp only [go_sem,m3]
 exact frz_bool _
end Go.Id.Tryd
