/- The document's data,read. Conditions: none. -/
import Derived.Test.YtiallonafbejaaaGreatDoorTVPB
import Derived.Test.YtiallonafbejaaaGreatDoorMw
import Derived.Test.YtiallonafbejaaaGreatDoorFwZb
set_option linter.all false
namespace Go.Id.Tryz
open Go Go.Id Go.Proofs Go.Id.Md
set_option maxRecDepth 100000
variable {H:Type} {enc:TypeId×Value→H} {w:World} {base:Nat} {sp:Nat→Bool} {held:Bool}
abbrev Rd (enc:TypeId×Value→H)(w:World)(base:Nat)(sp:Nat→Bool)(held:Bool):=Rdg enc Tryz.prog w base sp held
theorem fj5 {n:Nat}{d:DataW H}(h:Rd enc w base sp held n 36 d)(hw:WT Tryz.prog 36 d):∃ e:EVR,e.fit∧∀ m,n≤m→dv Tryz.prog m 36 d=some e.cs:=by
 obtain ⟨n',ds,rfl,rfl,hl,hf⟩:=am7 Tryz.underlying36 h hw
 match ds,hl with
 | [d0,d1,d2],_=>
  obtain ⟨r0,w0⟩:=hf 0 _ d0 rfl rfl
  obtain ⟨r1,w1⟩:=hf 1 _ d1 rfl rfl
  obtain ⟨r2,w2⟩:=hf 2 _ d2 rfl rfl
  obtain ⟨z,_,_,e0⟩:=ay9 Tryz.underlying3 r0
  obtain ⟨s1,l1,e1⟩:=ch4 Tryz.underlying9 r1 w1
  obtain ⟨s2,l2,e2⟩:=ch4 Tryz.underlying9 r2 w2
  refine ⟨⟨z,s1,s2⟩,⟨l1,l2⟩,fun m hm=>?_⟩
  cases m with
  | zero=>omega
  | succ m=>
   have c3:Tryz.prog.cellsOf 3=1:=by kernel_rfl
   have c9:Tryz.prog.cellsOf 9=1:=by kernel_rfl
   have ct:Tryz.prog.cellsOf 36=3:=by kernel_rfl
   simp only[dv,Tryz.underlying36,List.map_cons,List.map_nil,dvF,e0 m (by omega),e1 m (by omega),e2 m (by omega),List.length_cons,List.length_nil,c3,c9,ct,List.cons_append,List.nil_append,List.append_nil,Nat.reduceAdd,↓reduceIte]
   rfl
theorem hm5 {z:Int}(h:(Lit.int .u8 z).wf=true):0≤z∧z<256:=by
 simp only[Lit.wf,Bool.and_eq_true,decide_eq_true_eq] at h
 have e1:IntKind.u8.min=0:=rfl
 have e2:IntKind.u8.max=255:=rfl
 omega
theorem gq9:Tryz.prog.cellsOf 3=1:=by kernel_rfl
theorem gr1:Tryz.prog.cellsOf 5=1:=by kernel_rfl
theorem ga4:Tryz.prog.cellsOf 9=1:=by kernel_rfl
theorem gr2:Tryz.prog.cellsOf 36=3:=by kernel_rfl
theorem fj6:Tryz.prog.cellsOf 51=5:=by kernel_rfl
theorem fj7:Tryz.prog.cellsOf 89=7:=by kernel_rfl
theorem hm6:Tryz.prog.cellsOf 40=15:=by kernel_rfl
theorem gi8:Tryz.prog.cellsOf 80=2:=by kernel_rfl
theorem hm7:Tryz.prog.cellsOf 37=1:=by kernel_rfl
theorem ec1:Tryz.prog.cellsOf 38=1:=by kernel_rfl
theorem hm8:Tryz.prog.cellsOf 30=1:=by kernel_rfl
theorem hm9:Tryz.prog.cellsOf 23=1:=by kernel_rfl
theorem gi9 {n:Nat}{d:DataW H}(h:Rd enc w base sp held n 51 d)(hw:WT Tryz.prog 51 d):∃ e:Dep,e.fit∧∀ m,n≤m→dv Tryz.prog m 51 d=some e.cs:=by
 obtain ⟨n',ds,rfl,rfl,hl,hf⟩:=am7 Tryz.underlying51 h hw
 match ds,hl with
 | [d0,d1,d2],_=>
  obtain ⟨r0,w0⟩:=hf 0 _ d0 rfl rfl
  obtain ⟨r1,w1⟩:=hf 1 _ d1 rfl rfl
  obtain ⟨r2,w2⟩:=hf 2 _ d2 rfl rfl
  obtain ⟨s0,l0,e0⟩:=ch4 Tryz.underlying9 r0 w0
  obtain ⟨z,_,_,e1⟩:=ay9 Tryz.underlying5 r1
  obtain ⟨e,l2,e2⟩:=fj5 r2 w2
  refine ⟨⟨s0,z,e⟩,⟨l0,l2⟩,fun m hm=>?_⟩
  cases m with
  | zero=>omega
  | succ m=>
   simp only[dv,Tryz.underlying51,List.map_cons,List.map_nil,dvF,e0 m (by omega),e1 m (by omega),e2 m (by omega),EVR.cs,List.length_cons,List.length_nil,ga4,gr1,gr2,fj6,List.cons_append,List.nil_append,List.append_nil,Nat.reduceAdd,↓reduceIte]
   rfl
theorem gr3:∀ (n:Nat) (d:DataW H),Rd enc w base sp held n 89 d→WT Tryz.prog 89 d→∃ r:Rich,r.ok∧∀ m,n≤m→dv Tryz.prog m 89 d=some r.cs:=by
 intro n
 induction n using Nat.strongRecOn with
 | ind n ih=>
  intro d h hw
  obtain ⟨n',ds,rfl,rfl,hl,hf⟩:=am7 Tryz.underlying89 h hw
  match ds,hl with
  | [d0,d1,d2],_=>
   obtain ⟨r0,w0⟩:=hf 0 _ d0 rfl rfl
   obtain ⟨r1,w1⟩:=hf 1 _ d1 rfl rfl
   obtain ⟨r2,w2⟩:=hf 2 _ d2 rfl rfl
   obtain ⟨z,_,hz,e0⟩:=ay9 Tryz.underlying5 r0
   obtain ⟨e,l1,e1⟩:=gi9 r1 w1
   obtain ⟨l,k1,k2,e2⟩:=au1 Rich.cs Rich.ok Tryz.underlying38 fj7 (by decide) (by decide +kernel) (fun r=>by rw[Rich.cs_eq]; rfl) (fun m d' hm hr hw'=>ih m (by omega) d' hr hw') r2 w2
   have hz':=hm5 hz
   refine ⟨.mk z e l,Rich.ok_mk.2 ⟨hz'.1,hz'.2,l1,k1,k2⟩,fun m hm=>?_⟩
   cases m with
   | zero=>omega
   | succ m=>
    simp only[dv,Tryz.underlying89,List.map_cons,List.map_nil,dvF,e0 m (by omega),e1 m (by omega),e2 m (by omega),Dep.cs,List.length_cons,List.length_nil,ec1,gr1,fj6,fj7,List.cons_append,List.nil_append,List.append_nil,Nat.reduceAdd,↓reduceIte]
    rw[Rich.cs_eq]
    rfl
theorem fj8 {n:Nat}{d:DataW H}(h:Rd enc w base sp held n 37 d)(hw:WT Tryz.prog 37 d):∃ l:List Dep,l.length<2^62∧(∀ a∈l,a.fit)∧∀ m,n≤m→dv Tryz.prog m 37 d=some [deps l]:=
 au1 Dep.cs Dep.fit Tryz.underlying37 fj6 (by decide) (by decide +kernel) (fun _=>rfl) (fun _ _ _ hr hw'=>gi9 hr hw') h hw
theorem ax1 {n:Nat}{d:DataW H}(h:Rd enc w base sp held n 38 d)(hw:WT Tryz.prog 38 d):∃ l:List Rich,l.length<2^62∧(∀ a∈l,a.ok)∧∀ m,n≤m→dv Tryz.prog m 38 d=some [ac5 l]:=
 au1 Rich.cs Rich.ok Tryz.underlying38 fj7 (by decide) (by decide +kernel) (fun r=>by rw[Rich.cs_eq]; rfl) (fun m d' _ hr hw'=>gr3 m d' hr hw') h hw
theorem gr4 {n:Nat}{d:DataW H}(h:Rd enc w base sp held n 30 d)(hw:WT Tryz.prog 30 d):∃ l:List Str,l.length<2^62∧(∀ a∈l,a.length<2^62)∧∀ m,n≤m→dv Tryz.prog m 30 d=some [strs l]:=
 au1 bl6 (fun s:Str=>s.length<2^62) Tryz.underlying30 ga4 (by decide) (by decide +kernel) (fun _=>rfl) (fun _ _ _ hr hw'=>ch4 Tryz.underlying9 hr hw') h hw
theorem hn6 {n:Nat}{d:DataW H}(h:Rd enc w base sp held n 40 d)(hw:WT Tryz.prog 40 d):∃ p:Package,p.Ok∧∀ m,n≤m→dv Tryz.prog m 40 d=some p.cs:=by
 obtain ⟨n',ds,rfl,rfl,hl,hf⟩:=am7 Tryz.underlying40 h hw
 match ds,hl with
 | [d0,d1,d2,d3,d4,d5,d6,d7,d8,d9,d10,d11,d12],_=>
  obtain ⟨r0,w0⟩:=hf 0 _ d0 rfl rfl
  obtain ⟨r1,w1⟩:=hf 1 _ d1 rfl rfl
  obtain ⟨r2,w2⟩:=hf 2 _ d2 rfl rfl
  obtain ⟨r3,w3⟩:=hf 3 _ d3 rfl rfl
  obtain ⟨r4,w4⟩:=hf 4 _ d4 rfl rfl
  obtain ⟨r5,w5⟩:=hf 5 _ d5 rfl rfl
  obtain ⟨r6,w6⟩:=hf 6 _ d6 rfl rfl
  obtain ⟨r7,w7⟩:=hf 7 _ d7 rfl rfl
  obtain ⟨r8,w8⟩:=hf 8 _ d8 rfl rfl
  obtain ⟨r9,w9⟩:=hf 9 _ d9 rfl rfl
  obtain ⟨r10,w10⟩:=hf 10 _ d10 rfl rfl
  obtain ⟨r11,w11⟩:=hf 11 _ d11 rfl rfl
  obtain ⟨r12,w12⟩:=hf 12 _ d12 rfl rfl
  obtain ⟨x0,l0,e0⟩:=ch4 Tryz.underlying9 r0 w0
  obtain ⟨x1,l1,e1⟩:=fj5 r1 w1
  obtain ⟨x2,_,_,e2⟩:=ay9 Tryz.underlying5 r2
  obtain ⟨x3,l3,e3⟩:=ch4 Tryz.underlying9 r3 w3
  obtain ⟨x4,l4,k4,e4⟩:=fj8 r4 w4
  obtain ⟨x5,l5,k5,e5⟩:=ax1 r5 w5
  obtain ⟨x6,l6,k6,e6⟩:=ax1 r6 w6
  obtain ⟨x7,l7,k7,e7⟩:=fj8 r7 w7
  obtain ⟨x8,l8,k8,e8⟩:=ax1 r8 w8
  obtain ⟨x9,l9,k9,e9⟩:=ax1 r9 w9
  obtain ⟨x10,l10,k10,e10⟩:=ax1 r10 w10
  obtain ⟨x11,l11,k11,e11⟩:=ax1 r11 w11
  obtain ⟨x12,l12,k12,e12⟩:=gr4 r12 w12
  refine ⟨⟨x0,x1,x2,x3,x4,x5,x6,x7,x8,x9,x10,x11,x12⟩,⟨l0,l3,l1,⟨l4,k4⟩,⟨l7,k7⟩,⟨l12,k12⟩,?_⟩,fun m hm=>?_⟩
  ·intro x hx
   simp only[Package.rows,List.mem_cons,List.not_mem_nil,or_false] at hx
   rcases hx with rfl|rfl|rfl|rfl|rfl|rfl
   ·exact ⟨l5,k5⟩
   ·exact ⟨l6,k6⟩
   ·exact ⟨l8,k8⟩
   ·exact ⟨l9,k9⟩
   ·exact ⟨l10,k10⟩
   ·exact ⟨l11,k11⟩
  cases m with
  | zero=>omega
  | succ m=>
   simp only[dv,Tryz.underlying40,List.map_cons,List.map_nil,dvF,e0 m (by omega),e1 m (by omega),e2 m (by omega),e3 m (by omega),e4 m (by omega),e5 m (by omega),e6 m (by omega),e7 m (by omega),e8 m (by omega),e9 m (by omega),e10 m (by omega),e11 m (by omega),e12 m (by omega),EVR.cs,List.length_cons,List.length_nil,ga4,gr1,gr2,hm7,ec1,hm8,hm6,List.cons_append,List.nil_append,List.append_nil,Nat.reduceAdd,↓reduceIte]
   rfl
theorem rd_pkgs {n:Nat}{d:DataW H}(h:Rd enc w base sp held n 23 d)(hw:WT Tryz.prog 23 d):∃ l:List Package,l.length<2^62∧(∀ a∈l,a.Ok)∧∀ m,n≤m→dv Tryz.prog m 23 d=some [.tslice (l.map Package.cs)]:=
 au1 Package.cs Package.Ok Tryz.underlying23 hm6 (by decide) (by decide +kernel) (fun _=>rfl) (fun _ _ _ hr hw'=>hn6 hr hw') h hw
theorem gr5 {n:Nat}{d:DataW H}(h:Rd enc w base sp held n 80 d)(hw:WT Tryz.prog 80 d):∃ r:Repo,Repo.Ok r∧∀ m,n≤m→dv Tryz.prog m 80 d=some r.cs:=by
 obtain ⟨n',ds,rfl,rfl,hl,hf⟩:=am7 Tryz.underlying80 h hw
 match ds,hl with
 | [d0,d1],_=>
  obtain ⟨r0,w0⟩:=hf 0 _ d0 rfl rfl
  obtain ⟨r1,w1⟩:=hf 1 _ d1 rfl rfl
  obtain ⟨z,_,_,e0⟩:=ay9 Tryz.underlying3 r0
  obtain ⟨l,k1,k2,e1⟩:=rd_pkgs r1 w1
  refine ⟨⟨z,l⟩,⟨k1,k2⟩,fun m hm=>?_⟩
  cases m with
  | zero=>omega
  | succ m=>
   simp only[dv,Tryz.underlying80,List.map_cons,List.map_nil,dvF,e0 m (by omega),e1 m (by omega),List.length_cons,List.length_nil,gq9,hm9,gi8,List.cons_append,List.nil_append,List.append_nil,Nat.reduceAdd,↓reduceIte]
   rfl
theorem rd_repos {n:Nat}{d:DataW H}(h:Rd enc w base sp held n 22 d)(hw:WT Tryz.prog 22 d):∃ l:List Repo,l.length<2^62∧(∀ a∈l,Repo.Ok a)∧∀ m,n≤m→dv Tryz.prog m 22 d=some [.tslice (l.map Repo.cs)]:=
 au1 Repo.cs Repo.Ok Tryz.underlying22 gi8 (by decide) (by decide +kernel) (fun _=>rfl) (fun _ _ _ hr hw'=>gr5 hr hw') h hw
end Go.Id.Tryz
