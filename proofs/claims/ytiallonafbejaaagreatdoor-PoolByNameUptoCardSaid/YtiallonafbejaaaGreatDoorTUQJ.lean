/- What a bulk within the bound gives: data whose sizes fit. Conditions: none. -/
import Derived.Test.YtiallonafbejaaaGreatDoorTUQI
import Derived.Test.YtiallonafbejaaaGreatDoorTUPK
import Derived.Test.YtiallonafbejaaaGreatDoorUb
import Derived.Test.YtiallonafbejaaaGreatDoorRows
set_option linter.all false
namespace Go.Id.Tryz
open Go Go.Id Go.Proofs Go.Id.Md
open Go.Proofs.YtiallonafbejaaaGreatDoor
set_option maxRecDepth 100000
variable {H : Type} {enc : TypeId × Value→H} {w : World} {base : Nat} {sp : Nat→Bool} {held : Bool}
theorem bulk_one (d : DataW H) : 1≤Rows.uptoBulk d:=by
 cases d with
 | lit l => cases l <;> simp [Rows.uptoBulk]
 | _ => simp [Rows.uptoBulk]
theorem bulk_dvS {r : DataW H→Option (List IV)} {c : Nat} (hr : ∀ d cs,r d=some cs→iszL cs≤Rows.uptoBulk d) : ∀ (ds : List (DataW H)) es,dvS r c ds=some es→iszR es≤Rows.uptoBulkAll ds:=by
 intro ds
 induction ds with
 | nil => intro es h; cases h; simp [iszR]
 | cons d ds ih =>
  intro es h
  simp only [dvS] at h
  split at h
  ·rename_i a ha
   split at h
   ·split at h
    ·rename_i b hb
     cases h
     have h1:=hr d a ha
     have h2:=ih b hb
     simp only [iszR,Rows.uptoBulkAll]
     omega
    ·cases h
   ·cases h
  ·cases h
theorem bulk_dvF {r : TypeId→DataW H→Option (List IV)} {P : Program} (hr : ∀ t d cs,r t d=some cs→iszL cs≤Rows.uptoBulk d) : ∀ (fs : List (TypeId × Nat)) (ds : List (DataW H)) (off : Nat) es,dvF r P fs ds off=some es→iszL es≤Rows.uptoBulkAll ds:=by
 intro fs
 induction fs with
 | nil =>
  intro ds off es h
  cases ds with
  | nil => cases h; simp [iszL]
  | cons d ds => simp [dvF] at h
 | cons f fs ih =>
  intro ds off es h
  cases ds with
  | nil => simp [dvF] at h
  | cons d ds =>
   simp only [dvF] at h
   split at h
   ·split at h
    ·rename_i a ha
     split at h
     ·split at h
      ·rename_i b hb
       cases h
       have h1:=hr _ d a ha
       have h2:=ih ds _ b hb
       simp only [iszL_append,Rows.uptoBulkAll]
       omega
      ·cases h
     ·cases h
    ·cases h
   ·cases h
theorem bulk_dv {P : Program} : ∀ (m : Nat) (t : TypeId) (d : DataW H) cs,dv P m t d=some cs→iszL cs≤Rows.uptoBulk d:=by
 intro m
 induction m with
 | zero => intro t d cs h; simp [dv] at h
 | succ m ih =>
  intro t d cs h
  have h1:=bulk_one d
  simp only [dv] at h
  split at h
  ·cases h; simpa [iszL,isz] using h1
  ·cases h; simpa [iszL,isz] using h1
  ·cases h; simp [iszL,isz,Rows.uptoBulk]
  ·cases h; simpa [iszL,isz] using h1
  ·split at h
   ·cases h; simpa [iszL,isz] using h1
   ·cases h
  ·cases h; simpa [iszL,isz,iszR] using h1
  ·split at h
   ·cases h
   ·split at h
    ·rename_i es he
     cases h
     have:=bulk_dvS (ih _) _ _ he
     simp only [iszL,isz,Rows.uptoBulk]
     omega
    ·cases h
  ·split at h
   ·rename_i ivs he
    split at h
    ·cases h
     have:=bulk_dvF (fun t d cs => ih t d cs) _ _ _ _ he
     simp only [Rows.uptoBulk]
     omega
    ·cases h
   ·cases h
  ·split at h
   ·rename_i ivs he
    split at h
    ·cases h
     have:=bulk_dvF (fun t d cs => ih t d cs) _ _ _ _ he
     simp only [Rows.uptoBulk]
     omega
    ·cases h
   ·cases h
  ·split at h
   ·split at h
    ·cases h; simpa [iszL,isz] using h1
    ·cases h
   ·cases h
  ·cases h
theorem in_ok {repos : List Repo} {inst : List Package} (h1 : ∀ r∈repos,Repo.Ok r) (h2 : ∀ p∈inst,p.Ok) (b1 : iszL [IV.tslice (repos.map Repo.cs)]≤1048576) (b2 : iszL [IV.tslice (inst.map Package.cs)]≤1048576) : InOK repos inst:=by
 simp only [iszL,isz] at b1 b2
 have l1:=iszR_len Repo.cs (fun r => by rw [Repo.szs]; omega) repos
 have l2:=iszR_len Package.cs (fun r => by rw [Package.szs]; omega) inst
 have l3:=sumLen_sz repos
 refine ⟨by omega,by omega,by omega,fun r hr => ?_,fun p hp => ?_,h1,h2⟩
 ·have m1:=iszR_mem Repo.cs repos r hr
  rw [Repo.szs] at m1
  have l4:=iszR_len Package.cs (fun r => by rw [Package.szs]; omega) r.packages
  refine ⟨by omega,fun p hp => pkg_fit ((h1 r hr).2 p hp) ?_⟩
  have:=iszR_mem Package.cs r.packages p hp
  omega
 ·have:=iszR_mem Package.cs inst p hp
  exact pkg_fit (h2 p hp) (by omega)
end Go.Id.Tryz
