/- The document's data,read. Conditions: none. -/
import Derived.Test.YtiallonafbejaaaGreatDoorTUPA
import Derived.Test.YtiallonafbejaaaGreatDoorMd
import Derived.Test.YtiallonafbejaaaGreatDoorFwZb
import Derived.Test.YtiallonafbejaaaGreatDoorTUQI
import Derived.Test.YtiallonafbejaaaGreatDoorUb
import Derived.Test.YtiallonafbejaaaGreatDoorRows
import Derived.Test.YtiallonafbejaaaGreatDoorTUSJ
set_option linter.all false
namespace Go.Id.Tryz
open Go Go.Id Go.Proofs Go.Id.Md
set_option maxRecDepth 100000
variable {H : Type} {enc : TypeId × Value→H} {w : World} {base : Nat} {sp : Nat→Bool} {held : Bool}
abbrev Rd (enc : TypeId × Value→H) (w : World) (base : Nat) (sp : Nat→Bool) (held : Bool):=Rdg enc Tryz.prog w base sp held
theorem rd_evr {n : Nat} {d : DataW H} (h : Rd enc w base sp held n 36 d) (hw : WT Tryz.prog 36 d) : ∃ e : EVR,e.fit∧∀ m,n≤m→dv Tryz.prog m 36 d=some e.cs:=by
 obtain ⟨n',ds,rfl,rfl,hl,hf⟩:=rd_struct Tryz.underlying36 h hw
 match ds,hl with
 | [d0,d1,d2],_ =>
  obtain ⟨r0,w0⟩:=hf 0 _ d0 rfl rfl
  obtain ⟨r1,w1⟩:=hf 1 _ d1 rfl rfl
  obtain ⟨r2,w2⟩:=hf 2 _ d2 rfl rfl
  obtain ⟨z,_,_,e0⟩:=rd_int Tryz.underlying3 r0
  obtain ⟨s1,l1,e1⟩:=rd_str Tryz.underlying9 r1 w1
  obtain ⟨s2,l2,e2⟩:=rd_str Tryz.underlying9 r2 w2
  refine ⟨⟨z,s1,s2⟩,⟨l1,l2⟩,fun m hm => ?_⟩
  cases m with
  | zero => omega
  | succ m =>
   have c3 : Tryz.prog.cellsOf 3=1:=by kernel_rfl
   have c9 : Tryz.prog.cellsOf 9=1:=by kernel_rfl
   have ct : Tryz.prog.cellsOf 36=3:=by kernel_rfl
   simp only [dv,Tryz.underlying36,List.map_cons,List.map_nil,dvF,e0 m (by omega),e1 m (by omega),e2 m (by omega),List.length_cons,List.length_nil,c3,c9,ct,List.cons_append,List.nil_append,List.append_nil,Nat.reduceAdd,↓reduceIte]
   rfl
theorem u8_wf {z : Int} (h : (Lit.int .u8 z).wf=true) : 0≤z∧z < 256:=by
 simp only [Lit.wf,Bool.and_eq_true,decide_eq_true_eq] at h
 have e1 : IntKind.u8.min=0:=rfl
 have e2 : IntKind.u8.max=255:=rfl
 omega
theorem c_int : Tryz.prog.cellsOf 3=1:=by kernel_rfl
theorem c_u8 : Tryz.prog.cellsOf 5=1:=by kernel_rfl
theorem c_str : Tryz.prog.cellsOf 9=1:=by kernel_rfl
theorem c_evr : Tryz.prog.cellsOf 36=3:=by kernel_rfl
theorem c_dep : Tryz.prog.cellsOf 51=5:=by kernel_rfl
theorem c_rich : Tryz.prog.cellsOf 89=7:=by kernel_rfl
theorem c_pkg : Tryz.prog.cellsOf 40=15:=by kernel_rfl
theorem c_repo : Tryz.prog.cellsOf 80=2:=by kernel_rfl
theorem c_deps : Tryz.prog.cellsOf 37=1:=by kernel_rfl
theorem c_riches : Tryz.prog.cellsOf 38=1:=by kernel_rfl
theorem c_strs : Tryz.prog.cellsOf 30=1:=by kernel_rfl
theorem c_pkgs : Tryz.prog.cellsOf 23=1:=by kernel_rfl
theorem rd_dep {n : Nat} {d : DataW H} (h : Rd enc w base sp held n 51 d) (hw : WT Tryz.prog 51 d) : ∃ e : Dep,e.fit∧∀ m,n≤m→dv Tryz.prog m 51 d=some e.cs:=by
 obtain ⟨n',ds,rfl,rfl,hl,hf⟩:=rd_struct Tryz.underlying51 h hw
 match ds,hl with
 | [d0,d1,d2],_ =>
  obtain ⟨r0,w0⟩:=hf 0 _ d0 rfl rfl
  obtain ⟨r1,w1⟩:=hf 1 _ d1 rfl rfl
  obtain ⟨r2,w2⟩:=hf 2 _ d2 rfl rfl
  obtain ⟨s0,l0,e0⟩:=rd_str Tryz.underlying9 r0 w0
  obtain ⟨z,_,_,e1⟩:=rd_int Tryz.underlying5 r1
  obtain ⟨e,l2,e2⟩:=rd_evr r2 w2
  refine ⟨⟨s0,z,e⟩,⟨l0,l2⟩,fun m hm => ?_⟩
  cases m with
  | zero => omega
  | succ m =>
   simp only [dv,Tryz.underlying51,List.map_cons,List.map_nil,dvF,e0 m (by omega),e1 m (by omega),e2 m (by omega),EVR.cs,List.length_cons,List.length_nil,c_str,c_u8,c_evr,c_dep,List.cons_append,List.nil_append,List.append_nil,Nat.reduceAdd,↓reduceIte]
   rfl
theorem rd_rich : ∀ (n : Nat) (d : DataW H),Rd enc w base sp held n 89 d→WT Tryz.prog 89 d→∃ r : Rich,r.ok∧∀ m,n≤m→dv Tryz.prog m 89 d=some r.cs:=by
 intro n
 induction n using Nat.strongRecOn with
 | ind n ih =>
  intro d h hw
  obtain ⟨n',ds,rfl,rfl,hl,hf⟩:=rd_struct Tryz.underlying89 h hw
  match ds,hl with
  | [d0,d1,d2],_ =>
   obtain ⟨r0,w0⟩:=hf 0 _ d0 rfl rfl
   obtain ⟨r1,w1⟩:=hf 1 _ d1 rfl rfl
   obtain ⟨r2,w2⟩:=hf 2 _ d2 rfl rfl
   obtain ⟨z,_,hz,e0⟩:=rd_int Tryz.underlying5 r0
   obtain ⟨e,l1,e1⟩:=rd_dep r1 w1
   obtain ⟨l,k1,k2,e2⟩:=rd_slice Rich.cs Rich.ok Tryz.underlying38 c_rich (by decide) (by decide +kernel) (fun r => by rw [Rich.cs_eq]; rfl) (fun m d' hm hr hw' => ih m (by omega) d' hr hw') r2 w2
   have hz':=u8_wf hz
   refine ⟨.mk z e l,Rich.ok_mk.2 ⟨hz'.1,hz'.2,l1,k1,k2⟩,fun m hm => ?_⟩
   cases m with
   | zero => omega
   | succ m =>
    simp only [dv,Tryz.underlying89,List.map_cons,List.map_nil,dvF,e0 m (by omega),e1 m (by omega),e2 m (by omega),Dep.cs,List.length_cons,List.length_nil,c_riches,c_u8,c_dep,c_rich,List.cons_append,List.nil_append,List.append_nil,Nat.reduceAdd,↓reduceIte]
    rw [Rich.cs_eq]
    rfl
theorem rd_deps {n : Nat} {d : DataW H} (h : Rd enc w base sp held n 37 d) (hw : WT Tryz.prog 37 d) : ∃ l : List Dep,l.length < 2 ^ 62∧(∀ a∈l,a.fit)∧∀ m,n≤m→dv Tryz.prog m 37 d=some [deps l] :=
 rd_slice Dep.cs Dep.fit Tryz.underlying37 c_dep (by decide) (by decide +kernel) (fun _ => rfl) (fun _ _ _ hr hw' => rd_dep hr hw') h hw
theorem rd_riches {n : Nat} {d : DataW H} (h : Rd enc w base sp held n 38 d) (hw : WT Tryz.prog 38 d) : ∃ l : List Rich,l.length < 2 ^ 62∧(∀ a∈l,a.ok)∧∀ m,n≤m→dv Tryz.prog m 38 d=some [riches l] :=
 rd_slice Rich.cs Rich.ok Tryz.underlying38 c_rich (by decide) (by decide +kernel) (fun r => by rw [Rich.cs_eq]; rfl) (fun m d' _ hr hw' => rd_rich m d' hr hw') h hw
theorem rd_strs {n : Nat} {d : DataW H} (h : Rd enc w base sp held n 30 d) (hw : WT Tryz.prog 30 d) : ∃ l : List Str,l.length < 2 ^ 62∧(∀ a∈l,a.length < 2 ^ 62)∧∀ m,n≤m→dv Tryz.prog m 30 d=some [strs l] :=
 rd_slice strC (fun s : Str => s.length < 2 ^ 62) Tryz.underlying30 c_str (by decide) (by decide +kernel) (fun _ => rfl) (fun _ _ _ hr hw' => rd_str Tryz.underlying9 hr hw') h hw
theorem rd_pkg {n : Nat} {d : DataW H} (h : Rd enc w base sp held n 40 d) (hw : WT Tryz.prog 40 d) : ∃ p : Package,p.Ok∧∀ m,n≤m→dv Tryz.prog m 40 d=some p.cs:=by
 obtain ⟨n',ds,rfl,rfl,hl,hf⟩:=rd_struct Tryz.underlying40 h hw
 match ds,hl with
 | [d0,d1,d2,d3,d4,d5,d6,d7,d8,d9,d10,d11,d12],_ =>
  obtain ⟨r0,w0⟩:=hf 0 _ d0 rfl rfl
  obtain ⟨r1,w1⟩:=hf 1 _ d1 rfl rfl
  obtain ⟨r2,w2⟩:=hf 2 _ d2 rfl rfl
  obtain ⟨r3,w3⟩:=hf 3 _ d3 rfl rfl
  obtain ⟨r4,w4⟩:=hf 4 _ d4 rfl rfl
  obtain ⟨r5,w5⟩:=hf 5 _ d5 rfl rfl
  obtain ⟨r6,w6⟩:=hf 6 _ d6 rfl rfl
  obtain ⟨r7,w7⟩:=hf 7 _ d7 rfl rfl
  obtain ⟨r8,w8⟩:=hf 8 _ d8 rfl rfl
  obtain ⟨r9,w9⟩:=hf 9 _ d9 rfl rfl
  obtain ⟨r10,w10⟩:=hf 10 _ d10 rfl rfl
  obtain ⟨r11,w11⟩:=hf 11 _ d11 rfl rfl
  obtain ⟨r12,w12⟩:=hf 12 _ d12 rfl rfl
  obtain ⟨x0,l0,e0⟩:=rd_str Tryz.underlying9 r0 w0
  obtain ⟨x1,l1,e1⟩:=rd_evr r1 w1
  obtain ⟨x2,_,_,e2⟩:=rd_int Tryz.underlying5 r2
  obtain ⟨x3,l3,e3⟩:=rd_str Tryz.underlying9 r3 w3
  obtain ⟨x4,l4,k4,e4⟩:=rd_deps r4 w4
  obtain ⟨x5,l5,k5,e5⟩:=rd_riches r5 w5
  obtain ⟨x6,l6,k6,e6⟩:=rd_riches r6 w6
  obtain ⟨x7,l7,k7,e7⟩:=rd_deps r7 w7
  obtain ⟨x8,l8,k8,e8⟩:=rd_riches r8 w8
  obtain ⟨x9,l9,k9,e9⟩:=rd_riches r9 w9
  obtain ⟨x10,l10,k10,e10⟩:=rd_riches r10 w10
  obtain ⟨x11,l11,k11,e11⟩:=rd_riches r11 w11
  obtain ⟨x12,l12,k12,e12⟩:=rd_strs r12 w12
  refine ⟨⟨x0,x1,x2,x3,x4,x5,x6,x7,x8,x9,x10,x11,x12⟩,⟨l0,l3,l1,⟨l4,k4⟩,⟨l7,k7⟩,⟨l12,k12⟩,?_⟩,fun m hm => ?_⟩
  ·intro x hx
   simp only [Package.rows,List.mem_cons,List.not_mem_nil,or_false] at hx
   rcases hx with rfl | rfl | rfl | rfl | rfl | rfl
   ·exact ⟨l5,k5⟩
   ·exact ⟨l6,k6⟩
   ·exact ⟨l8,k8⟩
   ·exact ⟨l9,k9⟩
   ·exact ⟨l10,k10⟩
   ·exact ⟨l11,k11⟩
  cases m with
  | zero => omega
  | succ m =>
   simp only [dv,Tryz.underlying40,List.map_cons,List.map_nil,dvF,e0 m (by omega),e1 m (by omega),e2 m (by omega),e3 m (by omega),e4 m (by omega),e5 m (by omega),e6 m (by omega),e7 m (by omega),e8 m (by omega),e9 m (by omega),e10 m (by omega),e11 m (by omega),e12 m (by omega),EVR.cs,List.length_cons,List.length_nil,c_str,c_u8,c_evr,c_deps,c_riches,c_strs,c_pkg,List.cons_append,List.nil_append,List.append_nil,Nat.reduceAdd,↓reduceIte]
   rfl
theorem rd_pkgs {n : Nat} {d : DataW H} (h : Rd enc w base sp held n 23 d) (hw : WT Tryz.prog 23 d) : ∃ l : List Package,l.length < 2 ^ 62∧(∀ a∈l,a.Ok)∧∀ m,n≤m→dv Tryz.prog m 23 d=some [.tslice (l.map Package.cs)] :=
 rd_slice Package.cs Package.Ok Tryz.underlying23 c_pkg (by decide) (by decide +kernel) (fun _ => rfl) (fun _ _ _ hr hw' => rd_pkg hr hw') h hw
theorem rd_repo {n : Nat} {d : DataW H} (h : Rd enc w base sp held n 80 d) (hw : WT Tryz.prog 80 d) : ∃ r : Repo,Repo.Ok r∧∀ m,n≤m→dv Tryz.prog m 80 d=some r.cs:=by
 obtain ⟨n',ds,rfl,rfl,hl,hf⟩:=rd_struct Tryz.underlying80 h hw
 match ds,hl with
 | [d0,d1],_ =>
  obtain ⟨r0,w0⟩:=hf 0 _ d0 rfl rfl
  obtain ⟨r1,w1⟩:=hf 1 _ d1 rfl rfl
  obtain ⟨z,_,_,e0⟩:=rd_int Tryz.underlying3 r0
  obtain ⟨l,k1,k2,e1⟩:=rd_pkgs r1 w1
  refine ⟨⟨z,l⟩,⟨k1,k2⟩,fun m hm => ?_⟩
  cases m with
  | zero => omega
  | succ m =>
   simp only [dv,Tryz.underlying80,List.map_cons,List.map_nil,dvF,e0 m (by omega),e1 m (by omega),List.length_cons,List.length_nil,c_int,c_pkgs,c_repo,List.cons_append,List.nil_append,List.append_nil,Nat.reduceAdd,↓reduceIte]
   rfl
theorem rd_repos {n : Nat} {d : DataW H} (h : Rd enc w base sp held n 22 d) (hw : WT Tryz.prog 22 d) : ∃ l : List Repo,l.length < 2 ^ 62∧(∀ a∈l,Repo.Ok a)∧∀ m,n≤m→dv Tryz.prog m 22 d=some [.tslice (l.map Repo.cs)] :=
 rd_slice Repo.cs Repo.Ok Tryz.underlying22 c_repo (by decide) (by decide +kernel) (fun _ => rfl) (fun _ _ _ hr hw' => rd_repo hr hw') h hw
end Go.Id.Tryz
/- What a bulk within the bound gives: data whose sizes fit. Conditions: none. -/
namespace Go.Id.Tryz
open Go Go.Id Go.Proofs Go.Id.Md
open Go.Proofs.YtiallonafbejaaaGreatDoor
set_option maxRecDepth 100000
variable {H : Type} {enc : TypeId × Value→H} {w : World} {base : Nat} {sp : Nat→Bool} {held : Bool}
theorem bulk_one (d : DataW H) : 1≤Rows.uptoBulk d:=by
 cases d with
 | lit l => cases l <;> simp [Rows.uptoBulk]
 | _ => simp [Rows.uptoBulk]
theorem bulk_dvS {r : DataW H→Option (List IV)} {c : Nat} (hr : ∀ d cs,r d=some cs→iszL cs≤Rows.uptoBulk d) : ∀ (ds : List (DataW H)) es,dvS r c ds=some es→iszR es≤Rows.uptoBulkAll ds:=by
 intro ds
 induction ds with
 | nil => intro es h; cases h; simp [iszR]
 | cons d ds ih =>
  intro es h
  simp only [dvS] at h
  split at h
  ·rename_i a ha
   split at h
   ·split at h
    ·rename_i b hb
     cases h
     have h1:=hr d a ha
     have h2:=ih b hb
     simp only [iszR,Rows.uptoBulkAll]
     omega
    ·cases h
   ·cases h
  ·cases h
theorem bulk_dvF {r : TypeId→DataW H→Option (List IV)} {P : Program} (hr : ∀ t d cs,r t d=some cs→iszL cs≤Rows.uptoBulk d) : ∀ (fs : List (TypeId × Nat)) (ds : List (DataW H)) (off : Nat) es,dvF r P fs ds off=some es→iszL es≤Rows.uptoBulkAll ds:=by
 intro fs
 induction fs with
 | nil =>
  intro ds off es h
  cases ds with
  | nil => cases h; simp [iszL]
  | cons d ds => simp [dvF] at h
 | cons f fs ih =>
  intro ds off es h
  cases ds with
  | nil => simp [dvF] at h
  | cons d ds =>
   simp only [dvF] at h
   split at h
   ·split at h
    ·rename_i a ha
     split at h
     ·split at h
      ·rename_i b hb
       cases h
       have h1:=hr _ d a ha
       have h2:=ih ds _ b hb
       simp only [iszL_append,Rows.uptoBulkAll]
       omega
      ·cases h
     ·cases h
    ·cases h
   ·cases h
theorem bulk_dv {P : Program} : ∀ (m : Nat) (t : TypeId) (d : DataW H) cs,dv P m t d=some cs→iszL cs≤Rows.uptoBulk d:=by
 intro m
 induction m with
 | zero => intro t d cs h; simp [dv] at h
 | succ m ih =>
  intro t d cs h
  have h1:=bulk_one d
  simp only [dv] at h
  split at h
  ·cases h; simpa [iszL,isz] using h1
  ·cases h; simpa [iszL,isz] using h1
  ·cases h; simp [iszL,isz,Rows.uptoBulk]
  ·cases h; simpa [iszL,isz] using h1
  ·split at h
   ·cases h; simpa [iszL,isz] using h1
   ·cases h
  ·cases h; simpa [iszL,isz,iszR] using h1
  ·split at h
   ·cases h
   ·split at h
    ·rename_i es he
     cases h
     have:=bulk_dvS (ih _) _ _ he
     simp only [iszL,isz,Rows.uptoBulk]
     omega
    ·cases h
  ·split at h
   ·rename_i ivs he
    split at h
    ·cases h
     have:=bulk_dvF (fun t d cs => ih t d cs) _ _ _ _ he
     simp only [Rows.uptoBulk]
     omega
    ·cases h
   ·cases h
  ·split at h
   ·rename_i ivs he
    split at h
    ·cases h
     have:=bulk_dvF (fun t d cs => ih t d cs) _ _ _ _ he
     simp only [Rows.uptoBulk]
     omega
    ·cases h
   ·cases h
  ·split at h
   ·split at h
    ·cases h; simpa [iszL,isz] using h1
    ·cases h
   ·cases h
  ·cases h
theorem in_ok {repos : List Repo} {inst : List Package} (h1 : ∀ r∈repos,Repo.Ok r) (h2 : ∀ p∈inst,p.Ok) (b1 : iszL [IV.tslice (repos.map Repo.cs)]≤1048576) (b2 : iszL [IV.tslice (inst.map Package.cs)]≤1048576) : InOK repos inst:=by
 simp only [iszL,isz] at b1 b2
 have l1:=iszR_len Repo.cs (fun r => by rw [Repo.szs]; omega) repos
 have l2:=iszR_len Package.cs (fun r => by rw [Package.szs]; omega) inst
 have l3:=sumLen_sz repos
 refine ⟨by omega,by omega,by omega,fun r hr => ?_,fun p hp => ?_,h1,h2⟩
 ·have m1:=iszR_mem Repo.cs repos r hr
  rw [Repo.szs] at m1
  have l4:=iszR_len Package.cs (fun r => by rw [Package.szs]; omega) r.packages
  refine ⟨by omega,fun p hp => pkg_fit ((h1 r hr).2 p hp) ?_⟩
  have:=iszR_mem Package.cs r.packages p hp
  omega
 ·have:=iszR_mem Package.cs inst p hp
  exact pkg_fit (h2 p hp) (by omega)
end Go.Id.Tryz
/- Requests,edits,numbers,read; sizes within the bound. Conditions: none. -/
namespace Go.Id.Tryz
open Go Go.Id Go.Proofs Go.Id.Md
set_option maxRecDepth 100000
variable {H : Type} {enc : TypeId × Value→H} {w : World} {base : Nat} {sp : Nat→Bool} {held : Bool}
theorem rd_bool {n : Nat} {t : TypeId} {d : DataW H} (hu : Tryz.prog.underlying t=some .bool) (h : Rd enc w base sp held n t d) : ∃ b,d=.lit (.bool b)∧∀ m,n≤m→dv Tryz.prog m t d=some [.bool b]:=by
 obtain ⟨cs,ps,h⟩:=h
 have hn : n≠0:=fun e => by subst e; simp [DataW.trod] at h
 obtain ⟨b,rfl,hx⟩:=DataW.trod_bool hu h
 cases hx
 refine ⟨b,rfl,fun m hm => ?_⟩
 cases m with
 | zero => omega
 | succ m => simp only [dv,hu]
theorem c_job : Tryz.prog.cellsOf 70=6:=by kernel_rfl
theorem c_edit : Tryz.prog.cellsOf 61=2:=by kernel_rfl
theorem c_req : Tryz.prog.cellsOf 59=5:=by kernel_rfl
theorem c_bool : Tryz.prog.cellsOf 4=1:=by kernel_rfl
theorem c_jobs : Tryz.prog.cellsOf 56=1:=by kernel_rfl
theorem c_edits : Tryz.prog.cellsOf 57=1:=by kernel_rfl
theorem rd_depO {n : Nat} {d : DataW H} (h : Rd enc w base sp held n 51 d) (hw : WT Tryz.prog 51 d) : ∃ e : Dep,(0≤e.op∧e.op < 256)∧∀ m,n≤m→dv Tryz.prog m 51 d=some e.cs:=by
 obtain ⟨n',ds,rfl,rfl,hl,hf⟩:=rd_struct Tryz.underlying51 h hw
 match ds,hl with
 | [d0,d1,d2],_ =>
  obtain ⟨r0,w0⟩:=hf 0 _ d0 rfl rfl
  obtain ⟨r1,w1⟩:=hf 1 _ d1 rfl rfl
  obtain ⟨r2,w2⟩:=hf 2 _ d2 rfl rfl
  obtain ⟨s0,l0,e0⟩:=rd_str Tryz.underlying9 r0 w0
  obtain ⟨z,_,hz,e1⟩:=rd_int Tryz.underlying5 r1
  obtain ⟨e,l2,e2⟩:=rd_evr r2 w2
  refine ⟨⟨s0,z,e⟩,u8_wf hz,fun m hm => ?_⟩
  cases m with
  | zero => omega
  | succ m =>
   simp only [dv,Tryz.underlying51,List.map_cons,List.map_nil,dvF,e0 m (by omega),e1 m (by omega),e2 m (by omega),EVR.cs,List.length_cons,List.length_nil,c_str,c_u8,c_evr,c_dep,List.cons_append,List.nil_append,List.append_nil,Nat.reduceAdd,↓reduceIte]
   rfl
theorem rd_job {n : Nat} {d : DataW H} (h : Rd enc w base sp held n 70 d) (hw : WT Tryz.prog 70 d) : ∃ j : Job,(0≤j.dep.op∧j.dep.op < 256)∧∀ m,n≤m→dv Tryz.prog m 70 d=some j.cs:=by
 obtain ⟨n',ds,rfl,rfl,hl,hf⟩:=rd_struct Tryz.underlying70 h hw
 match ds,hl with
 | [d0,d1],_ =>
  obtain ⟨r0,w0⟩:=hf 0 _ d0 rfl rfl
  obtain ⟨r1,w1⟩:=hf 1 _ d1 rfl rfl
  obtain ⟨z,_,hz,e0⟩:=rd_int Tryz.underlying5 r0
  obtain ⟨e,l1,e1⟩:=rd_depO r1 w1
  refine ⟨⟨z,e⟩,l1,fun m hm => ?_⟩
  cases m with
  | zero => omega
  | succ m =>
   simp only [dv,Tryz.underlying70,List.map_cons,List.map_nil,dvF,e0 m (by omega),e1 m (by omega),Dep.cs,List.length_cons,List.length_nil,c_u8,c_dep,c_job,List.cons_append,List.nil_append,List.append_nil,Nat.reduceAdd,↓reduceIte]
   rfl
theorem rd_edit {n : Nat} {d : DataW H} (h : Rd enc w base sp held n 61 d) (hw : WT Tryz.prog 61 d) : ∃ e : Edit,True∧∀ m,n≤m→dv Tryz.prog m 61 d=some e.cs:=by
 obtain ⟨n',ds,rfl,rfl,hl,hf⟩:=rd_struct Tryz.underlying61 h hw
 match ds,hl with
 | [d0,d1],_ =>
  obtain ⟨r0,w0⟩:=hf 0 _ d0 rfl rfl
  obtain ⟨r1,w1⟩:=hf 1 _ d1 rfl rfl
  obtain ⟨z,_,hz,e0⟩:=rd_int Tryz.underlying5 r0
  obtain ⟨y,_,hy,e1⟩:=rd_int Tryz.underlying3 r1
  refine ⟨⟨z,y⟩,trivial,fun m hm => ?_⟩
  cases m with
  | zero => omega
  | succ m =>
   simp only [dv,Tryz.underlying61,List.map_cons,List.map_nil,dvF,e0 m (by omega),e1 m (by omega),List.length_cons,List.length_nil,c_u8,c_int,c_edit,List.cons_append,List.nil_append,List.append_nil,Nat.reduceAdd,↓reduceIte]
   rfl
theorem rd_jobs {n : Nat} {d : DataW H} (h : Rd enc w base sp held n 56 d) (hw : WT Tryz.prog 56 d) : ∃ l : List Job,l.length < 2 ^ 62∧(∀ j∈l,0≤j.dep.op∧j.dep.op < 256)∧∀ m,n≤m→dv Tryz.prog m 56 d=some [jobsV l] :=
 rd_slice Job.cs (fun j => 0≤j.dep.op∧j.dep.op < 256) Tryz.underlying56 c_job (by decide) (by decide +kernel) (fun _ => rfl) (fun _ _ _ hr hw' => rd_job hr hw') h hw
theorem rd_edits {n : Nat} {d : DataW H} (h : Rd enc w base sp held n 57 d) (hw : WT Tryz.prog 57 d) : ∃ l : List Edit,l.length < 2 ^ 62∧(∀ j∈l,True)∧∀ m,n≤m→dv Tryz.prog m 57 d=some [editsV l] :=
 rd_slice Edit.cs (fun _ => True) Tryz.underlying57 c_edit (by decide) (by decide +kernel) (fun _ => rfl) (fun _ _ _ hr hw' => rd_edit hr hw') h hw
theorem rd_req {n : Nat} {d : DataW H} (h : Rd enc w base sp held n 59 d) (hw : WT Tryz.prog 59 d) : ∃ r : Req,(∀ j∈r.jobs,0≤j.dep.op∧j.dep.op < 256)∧∀ m,n≤m→dv Tryz.prog m 59 d=some r.cs:=by
 obtain ⟨n',ds,rfl,rfl,hl,hf⟩:=rd_struct Tryz.underlying59 h hw
 match ds,hl with
 | [d0,d1,d2,d3,d4],_ =>
  obtain ⟨r0,w0⟩:=hf 0 _ d0 rfl rfl
  obtain ⟨r1,w1⟩:=hf 1 _ d1 rfl rfl
  obtain ⟨r2,w2⟩:=hf 2 _ d2 rfl rfl
  obtain ⟨r3,w3⟩:=hf 3 _ d3 rfl rfl
  obtain ⟨r4,w4⟩:=hf 4 _ d4 rfl rfl
  obtain ⟨x0,_,_,e0⟩:=rd_int Tryz.underlying5 r0
  obtain ⟨x1,_,e1⟩:=rd_bool Tryz.underlying4 r1
  obtain ⟨x2,_,k2,e2⟩:=rd_jobs r2 w2
  obtain ⟨x3,_,_,e3⟩:=rd_edits r3 w3
  obtain ⟨x4,_,_,e4⟩:=rd_int Tryz.underlying3 r4
  refine ⟨⟨x0,x1,x2,x3,x4⟩,k2,fun m hm => ?_⟩
  cases m with
  | zero => omega
  | succ m =>
   simp only [dv,Tryz.underlying59,List.map_cons,List.map_nil,dvF,e0 m (by omega),e1 m (by omega),e2 m (by omega),e3 m (by omega),e4 m (by omega),List.length_cons,List.length_nil,c_u8,c_bool,c_jobs,c_edits,c_int,c_req,List.cons_append,List.nil_append,List.append_nil,Nat.reduceAdd,↓reduceIte]
   rfl
theorem req_ok {r : Req} (h : ∀ j∈r.jobs,0≤j.dep.op∧j.dep.op < 256) (b : iszL r.cs≤1048576) : ReqOK r:=by
 have hs : ∀ j : Job,iszL j.cs=j.dep.name.length+j.dep.evr.ver.length+j.dep.evr.rel.length+6:=fun j => by
  simp only [Job.cs,iszL,isz]; omega
 have he : ∀ e : Edit,1≤iszL e.cs:=fun e => by simp only [Edit.cs,iszL,isz]; omega
 simp only [Req.cs,iszL,isz] at b
 have l1:=iszR_len Job.cs (fun j => by rw [hs]; omega) r.jobs
 have l2:=iszR_len Edit.cs he r.edits
 refine ⟨by omega,by omega,fun j hj => ?_⟩
 have l3:=iszR_mem Job.cs r.jobs j hj
 rw [hs] at l3
 exact ⟨⟨(h j hj).1,(h j hj).2,by omega,by omega⟩,by omega⟩
end Go.Id.Tryz
