/- The document's data,read. Conditions: none. -/
import Derived.Test.YtiallonafbejaaaDoorTXPA
import Derived.Test.YtiallonafbejaaaDoorMd
import Derived.Test.YtiallonafbejaaaDoorFwZb
set_option linter.all false
namespace Go.Id.Tryd
open Go Go.Id Go.Proofs Go.Id.Md
set_option maxRecDepth 100000
variable {H : Type} {enc : TypeId × Value→H} {w : World} {base : Nat} {sp : Nat→Bool} {held : Bool}
abbrev Rd (enc : TypeId × Value→H) (w : World) (base : Nat) (sp : Nat→Bool) (held : Bool):=Rdg enc Tryd.prog w base sp held
theorem rd_evr {n : Nat} {d : DataW H} (h : Rd enc w base sp held n 34 d) (hw : WT Tryd.prog 34 d) : ∃ e : EVR,e.fit∧∀ m,n≤m→dv Tryd.prog m 34 d=some e.cs:=by
 obtain ⟨n',ds,rfl,rfl,hl,hf⟩:=rd_struct Tryd.underlying34 h hw
 match ds,hl with
 | [d0,d1,d2],_ =>
  obtain ⟨r0,w0⟩:=hf 0 _ d0 rfl rfl
  obtain ⟨r1,w1⟩:=hf 1 _ d1 rfl rfl
  obtain ⟨r2,w2⟩:=hf 2 _ d2 rfl rfl
  obtain ⟨z,_,_,e0⟩:=rd_int Tryd.underlying3 r0
  obtain ⟨s1,l1,e1⟩:=rd_str Tryd.underlying9 r1 w1
  obtain ⟨s2,l2,e2⟩:=rd_str Tryd.underlying9 r2 w2
  refine ⟨⟨z,s1,s2⟩,⟨l1,l2⟩,fun m hm => ?_⟩
  cases m with
  | zero => omega
  | succ m =>
   have c3 : Tryd.prog.cellsOf 3=1:=by kernel_rfl
   have c9 : Tryd.prog.cellsOf 9=1:=by kernel_rfl
   have ct : Tryd.prog.cellsOf 34=3:=by kernel_rfl
   simp only [dv,Tryd.underlying34,List.map_cons,List.map_nil,dvF,e0 m (by omega),e1 m (by omega),e2 m (by omega),List.length_cons,List.length_nil,c3,c9,ct,List.cons_append,List.nil_append,List.append_nil,Nat.reduceAdd,↓reduceIte]
   rfl
theorem u8_wf {z : Int} (h : (Lit.int .u8 z).wf=true) : 0≤z∧z < 256:=by
 simp only [Lit.wf,Bool.and_eq_true,decide_eq_true_eq] at h
 have e1 : IntKind.u8.min=0:=rfl
 have e2 : IntKind.u8.max=255:=rfl
 omega
theorem c_int : Tryd.prog.cellsOf 3=1:=by kernel_rfl
theorem c_u8 : Tryd.prog.cellsOf 5=1:=by kernel_rfl
theorem c_str : Tryd.prog.cellsOf 9=1:=by kernel_rfl
theorem c_evr : Tryd.prog.cellsOf 34=3:=by kernel_rfl
theorem c_dep : Tryd.prog.cellsOf 46=5:=by kernel_rfl
theorem c_rich : Tryd.prog.cellsOf 48=7:=by kernel_rfl
theorem c_pkg : Tryd.prog.cellsOf 39=15:=by kernel_rfl
theorem c_repo : Tryd.prog.cellsOf 31=2:=by kernel_rfl
theorem c_deps : Tryd.prog.cellsOf 35=1:=by kernel_rfl
theorem c_riches : Tryd.prog.cellsOf 36=1:=by kernel_rfl
theorem c_strs : Tryd.prog.cellsOf 37=1:=by kernel_rfl
theorem c_pkgs : Tryd.prog.cellsOf 23=1:=by kernel_rfl
theorem rd_dep {n : Nat} {d : DataW H} (h : Rd enc w base sp held n 46 d) (hw : WT Tryd.prog 46 d) : ∃ e : Dep,e.fit∧∀ m,n≤m→dv Tryd.prog m 46 d=some e.cs:=by
 obtain ⟨n',ds,rfl,rfl,hl,hf⟩:=rd_struct Tryd.underlying46 h hw
 match ds,hl with
 | [d0,d1,d2],_ =>
  obtain ⟨r0,w0⟩:=hf 0 _ d0 rfl rfl
  obtain ⟨r1,w1⟩:=hf 1 _ d1 rfl rfl
  obtain ⟨r2,w2⟩:=hf 2 _ d2 rfl rfl
  obtain ⟨s0,l0,e0⟩:=rd_str Tryd.underlying9 r0 w0
  obtain ⟨z,_,_,e1⟩:=rd_int Tryd.underlying5 r1
  obtain ⟨e,l2,e2⟩:=rd_evr r2 w2
  refine ⟨⟨s0,z,e⟩,⟨l0,l2⟩,fun m hm => ?_⟩
  cases m with
  | zero => omega
  | succ m =>
   simp only [dv,Tryd.underlying46,List.map_cons,List.map_nil,dvF,e0 m (by omega),e1 m (by omega),e2 m (by omega),EVR.cs,List.length_cons,List.length_nil,c_str,c_u8,c_evr,c_dep,List.cons_append,List.nil_append,List.append_nil,Nat.reduceAdd,↓reduceIte]
   rfl
theorem rd_rich : ∀ (n : Nat) (d : DataW H),Rd enc w base sp held n 48 d→WT Tryd.prog 48 d→∃ r : Rich,r.ok∧∀ m,n≤m→dv Tryd.prog m 48 d=some r.cs:=by
 intro n
 induction n using Nat.strongRecOn with
 | ind n ih =>
  intro d h hw
  obtain ⟨n',ds,rfl,rfl,hl,hf⟩:=rd_struct Tryd.underlying48 h hw
  match ds,hl with
  | [d0,d1,d2],_ =>
   obtain ⟨r0,w0⟩:=hf 0 _ d0 rfl rfl
   obtain ⟨r1,w1⟩:=hf 1 _ d1 rfl rfl
   obtain ⟨r2,w2⟩:=hf 2 _ d2 rfl rfl
   obtain ⟨z,_,hz,e0⟩:=rd_int Tryd.underlying5 r0
   obtain ⟨e,l1,e1⟩:=rd_dep r1 w1
   obtain ⟨l,k1,k2,e2⟩:=rd_slice Rich.cs Rich.ok Tryd.underlying36 c_rich (by decide) (by decide +kernel) (fun r => by rw [Rich.cs_eq]; rfl) (fun m d' hm hr hw' => ih m (by omega) d' hr hw') r2 w2
   have hz':=u8_wf hz
   refine ⟨.mk z e l,Rich.ok_mk.2 ⟨hz'.1,hz'.2,l1,k1,k2⟩,fun m hm => ?_⟩
   cases m with
   | zero => omega
   | succ m =>
    simp only [dv,Tryd.underlying48,List.map_cons,List.map_nil,dvF,e0 m (by omega),e1 m (by omega),e2 m (by omega),Dep.cs,List.length_cons,List.length_nil,c_riches,c_u8,c_dep,c_rich,List.cons_append,List.nil_append,List.append_nil,Nat.reduceAdd,↓reduceIte]
    rw [Rich.cs_eq]
    rfl
theorem rd_deps {n : Nat} {d : DataW H} (h : Rd enc w base sp held n 35 d) (hw : WT Tryd.prog 35 d) : ∃ l : List Dep,l.length < 2 ^ 62∧(∀ a∈l,a.fit)∧∀ m,n≤m→dv Tryd.prog m 35 d=some [deps l] :=
 rd_slice Dep.cs Dep.fit Tryd.underlying35 c_dep (by decide) (by decide +kernel) (fun _ => rfl) (fun _ _ _ hr hw' => rd_dep hr hw') h hw
theorem rd_riches {n : Nat} {d : DataW H} (h : Rd enc w base sp held n 36 d) (hw : WT Tryd.prog 36 d) : ∃ l : List Rich,l.length < 2 ^ 62∧(∀ a∈l,a.ok)∧∀ m,n≤m→dv Tryd.prog m 36 d=some [riches l] :=
 rd_slice Rich.cs Rich.ok Tryd.underlying36 c_rich (by decide) (by decide +kernel) (fun r => by rw [Rich.cs_eq]; rfl) (fun m d' _ hr hw' => rd_rich m d' hr hw') h hw
theorem rd_strs {n : Nat} {d : DataW H} (h : Rd enc w base sp held n 37 d) (hw : WT Tryd.prog 37 d) : ∃ l : List Str,l.length < 2 ^ 62∧(∀ a∈l,a.length < 2 ^ 62)∧∀ m,n≤m→dv Tryd.prog m 37 d=some [strs l] :=
 rd_slice strC (fun s : Str => s.length < 2 ^ 62) Tryd.underlying37 c_str (by decide) (by decide +kernel) (fun _ => rfl) (fun _ _ _ hr hw' => rd_str Tryd.underlying9 hr hw') h hw
theorem rd_pkg {n : Nat} {d : DataW H} (h : Rd enc w base sp held n 39 d) (hw : WT Tryd.prog 39 d) : ∃ p : Package,p.Ok∧∀ m,n≤m→dv Tryd.prog m 39 d=some p.cs:=by
 obtain ⟨n',ds,rfl,rfl,hl,hf⟩:=rd_struct Tryd.underlying39 h hw
 match ds,hl with
 | [d0,d1,d2,d3,d4,d5,d6,d7,d8,d9,d10,d11,d12],_ =>
  obtain ⟨r0,w0⟩:=hf 0 _ d0 rfl rfl
  obtain ⟨r1,w1⟩:=hf 1 _ d1 rfl rfl
  obtain ⟨r2,w2⟩:=hf 2 _ d2 rfl rfl
  obtain ⟨r3,w3⟩:=hf 3 _ d3 rfl rfl
  obtain ⟨r4,w4⟩:=hf 4 _ d4 rfl rfl
  obtain ⟨r5,w5⟩:=hf 5 _ d5 rfl rfl
  obtain ⟨r6,w6⟩:=hf 6 _ d6 rfl rfl
  obtain ⟨r7,w7⟩:=hf 7 _ d7 rfl rfl
  obtain ⟨r8,w8⟩:=hf 8 _ d8 rfl rfl
  obtain ⟨r9,w9⟩:=hf 9 _ d9 rfl rfl
  obtain ⟨r10,w10⟩:=hf 10 _ d10 rfl rfl
  obtain ⟨r11,w11⟩:=hf 11 _ d11 rfl rfl
  obtain ⟨r12,w12⟩:=hf 12 _ d12 rfl rfl
  obtain ⟨x0,l0,e0⟩:=rd_str Tryd.underlying9 r0 w0
  obtain ⟨x1,l1,e1⟩:=rd_evr r1 w1
  obtain ⟨x2,_,_,e2⟩:=rd_int Tryd.underlying5 r2
  obtain ⟨x3,l3,e3⟩:=rd_str Tryd.underlying9 r3 w3
  obtain ⟨x4,l4,k4,e4⟩:=rd_deps r4 w4
  obtain ⟨x5,l5,k5,e5⟩:=rd_riches r5 w5
  obtain ⟨x6,l6,k6,e6⟩:=rd_riches r6 w6
  obtain ⟨x7,l7,k7,e7⟩:=rd_deps r7 w7
  obtain ⟨x8,l8,k8,e8⟩:=rd_riches r8 w8
  obtain ⟨x9,l9,k9,e9⟩:=rd_riches r9 w9
  obtain ⟨x10,l10,k10,e10⟩:=rd_riches r10 w10
  obtain ⟨x11,l11,k11,e11⟩:=rd_riches r11 w11
  obtain ⟨x12,l12,k12,e12⟩:=rd_strs r12 w12
  refine ⟨⟨x0,x1,x2,x3,x4,x5,x6,x7,x8,x9,x10,x11,x12⟩,⟨l0,l3,l1,⟨l4,k4⟩,⟨l7,k7⟩,⟨l12,k12⟩,?_⟩,fun m hm => ?_⟩
  ·intro x hx
   simp only [Package.rows,List.mem_cons,List.not_mem_nil,or_false] at hx
   rcases hx with rfl | rfl | rfl | rfl | rfl | rfl
   ·exact ⟨l5,k5⟩
   ·exact ⟨l6,k6⟩
   ·exact ⟨l8,k8⟩
   ·exact ⟨l9,k9⟩
   ·exact ⟨l10,k10⟩
   ·exact ⟨l11,k11⟩
  cases m with
  | zero => omega
  | succ m =>
   simp only [dv,Tryd.underlying39,List.map_cons,List.map_nil,dvF,e0 m (by omega),e1 m (by omega),e2 m (by omega),e3 m (by omega),e4 m (by omega),e5 m (by omega),e6 m (by omega),e7 m (by omega),e8 m (by omega),e9 m (by omega),e10 m (by omega),e11 m (by omega),e12 m (by omega),EVR.cs,List.length_cons,List.length_nil,c_str,c_u8,c_evr,c_deps,c_riches,c_strs,c_pkg,List.cons_append,List.nil_append,List.append_nil,Nat.reduceAdd,↓reduceIte]
   rfl
theorem rd_pkgs {n : Nat} {d : DataW H} (h : Rd enc w base sp held n 23 d) (hw : WT Tryd.prog 23 d) : ∃ l : List Package,l.length < 2 ^ 62∧(∀ a∈l,a.Ok)∧∀ m,n≤m→dv Tryd.prog m 23 d=some [.tslice (l.map Package.cs)] :=
 rd_slice Package.cs Package.Ok Tryd.underlying23 c_pkg (by decide) (by decide +kernel) (fun _ => rfl) (fun _ _ _ hr hw' => rd_pkg hr hw') h hw
theorem rd_repo {n : Nat} {d : DataW H} (h : Rd enc w base sp held n 31 d) (hw : WT Tryd.prog 31 d) : ∃ r : Repo,Repo.Ok r∧∀ m,n≤m→dv Tryd.prog m 31 d=some r.cs:=by
 obtain ⟨n',ds,rfl,rfl,hl,hf⟩:=rd_struct Tryd.underlying31 h hw
 match ds,hl with
 | [d0,d1],_ =>
  obtain ⟨r0,w0⟩:=hf 0 _ d0 rfl rfl
  obtain ⟨r1,w1⟩:=hf 1 _ d1 rfl rfl
  obtain ⟨z,_,_,e0⟩:=rd_int Tryd.underlying3 r0
  obtain ⟨l,k1,k2,e1⟩:=rd_pkgs r1 w1
  refine ⟨⟨z,l⟩,⟨k1,k2⟩,fun m hm => ?_⟩
  cases m with
  | zero => omega
  | succ m =>
   simp only [dv,Tryd.underlying31,List.map_cons,List.map_nil,dvF,e0 m (by omega),e1 m (by omega),List.length_cons,List.length_nil,c_int,c_pkgs,c_repo,List.cons_append,List.nil_append,List.append_nil,Nat.reduceAdd,↓reduceIte]
   rfl
theorem rd_repos {n : Nat} {d : DataW H} (h : Rd enc w base sp held n 22 d) (hw : WT Tryd.prog 22 d) : ∃ l : List Repo,l.length < 2 ^ 62∧(∀ a∈l,Repo.Ok a)∧∀ m,n≤m→dv Tryd.prog m 22 d=some [.tslice (l.map Repo.cs)] :=
 rd_slice Repo.cs Repo.Ok Tryd.underlying22 c_repo (by decide) (by decide +kernel) (fun _ => rfl) (fun _ _ _ hr hw' => rd_repo hr hw') h hw
end Go.Id.Tryd
