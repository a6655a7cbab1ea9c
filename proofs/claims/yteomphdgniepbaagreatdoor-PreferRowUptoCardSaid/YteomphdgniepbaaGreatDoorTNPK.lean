/- The document's data,read. Conditions: none. -/
import Derived.Test.YteomphdgniepbaaGreatDoorTNPB
import Derived.Test.YteomphdgniepbaaGreatDoorMw
import Derived.Test.YteomphdgniepbaaGreatDoorFwZb
set_option linter.all false
namespace Go.Id.Tryz
open Go Go.Id Go.Proofs Go.Id.Md
set_option maxRecDepth 100000
variable {H:Type} {enc:TypeId×Value→H} {w:World} {base:Nat} {sp:Nat→Bool} {held:Bool}
abbrev Rd (enc:TypeId×Value→H)(w:World)(base:Nat)(sp:Nat→Bool)(held:Bool):=Rdg enc Tryz.prog w base sp held
theorem fs7 {n:Nat}{d:DataW H}(h:Rd enc w base sp held n 68 d)(hw:WT Tryz.prog 68 d):∃ e:EVR,e.fit∧∀ m,n≤m→dv Tryz.prog m 68 d=some e.cs:=by
 obtain ⟨n',ds,rfl,rfl,hl,hf⟩:=ar4 Tryz.underlying68 h hw
 match ds,hl with
 | [d0,d1,d2],_=>
  obtain ⟨r0,w0⟩:=hf 0 _ d0 rfl rfl;obtain ⟨r1,w1⟩:=hf 1 _ d1 rfl rfl;obtain ⟨r2,w2⟩:=hf 2 _ d2 rfl rfl;obtain ⟨z,_,_,e0⟩:=bc7 Tryz.underlying3 r0;obtain ⟨s1,l1,e1⟩:=cp3 Tryz.underlying9 r1 w1;obtain ⟨s2,l2,e2⟩:=cp3 Tryz.underlying9 r2 w2;refine ⟨⟨z,s1,s2⟩,⟨l1,l2⟩,fun m hm=>?_⟩
  cases m with
  | zero=>omega
  | succ m=>
   have c3:Tryz.prog.cellsOf 3=1:=by kernel_rfl
   have c9:Tryz.prog.cellsOf 9=1:=by kernel_rfl
   have ct:Tryz.prog.cellsOf 68=3:=by kernel_rfl
   simp only[dv,Tryz.underlying68,List.map_cons,List.map_nil,dvF,e0 m (by omega),e1 m (by omega),e2 m (by omega),List.length_cons,List.length_nil,c3,c9,ct,List.cons_append,List.nil_append,List.append_nil,Nat.reduceAdd,↓reduceIte];rfl
theorem ig9 {z:Int}(h:(Lit.int .u8 z).wf=true):0≤z∧z<256:=by
 simp only[Lit.wf,Bool.and_eq_true,decide_eq_true_eq] at h;have e1:IntKind.u8.min=0:=rfl;have e2:IntKind.u8.max=255:=rfl;omega
theorem gk1:Tryz.prog.cellsOf 3=1:=by kernel_rfl
theorem hf7:Tryz.prog.cellsOf 5=1:=by kernel_rfl
theorem gk2:Tryz.prog.cellsOf 9=1:=by kernel_rfl
theorem hf8:Tryz.prog.cellsOf 68=3:=by kernel_rfl
theorem fs8:Tryz.prog.cellsOf 70=5:=by kernel_rfl
theorem fs9:Tryz.prog.cellsOf 130=7:=by kernel_rfl
theorem ih4:Tryz.prog.cellsOf 90=15:=by kernel_rfl
theorem gt3:Tryz.prog.cellsOf 97=2:=by kernel_rfl
theorem ih5:Tryz.prog.cellsOf 86=1:=by kernel_rfl
theorem el5:Tryz.prog.cellsOf 87=1:=by kernel_rfl
theorem ih6:Tryz.prog.cellsOf 88=1:=by kernel_rfl
theorem ih7:Tryz.prog.cellsOf 23=1:=by kernel_rfl
theorem gt4 {n:Nat}{d:DataW H}(h:Rd enc w base sp held n 70 d)(hw:WT Tryz.prog 70 d):∃ e:Dep,e.fit∧∀ m,n≤m→dv Tryz.prog m 70 d=some e.cs:=by
 obtain ⟨n',ds,rfl,rfl,hl,hf⟩:=ar4 Tryz.underlying70 h hw
 match ds,hl with
 | [d0,d1,d2],_=>
  obtain ⟨r0,w0⟩:=hf 0 _ d0 rfl rfl;obtain ⟨r1,w1⟩:=hf 1 _ d1 rfl rfl;obtain ⟨r2,w2⟩:=hf 2 _ d2 rfl rfl;obtain ⟨s0,l0,e0⟩:=cp3 Tryz.underlying9 r0 w0;obtain ⟨z,_,_,e1⟩:=bc7 Tryz.underlying5 r1;obtain ⟨e,l2,e2⟩:=fs7 r2 w2;refine ⟨⟨s0,z,e⟩,⟨l0,l2⟩,fun m hm=>?_⟩
  cases m with
  | zero=>omega
  | succ m=>
   simp only[dv,Tryz.underlying70,List.map_cons,List.map_nil,dvF,e0 m (by omega),e1 m (by omega),e2 m (by omega),EVR.cs,List.length_cons,List.length_nil,gk2,hf7,hf8,fs8,List.cons_append,List.nil_append,List.append_nil,Nat.reduceAdd,↓reduceIte];rfl
theorem hf9:∀ (n:Nat) (d:DataW H),Rd enc w base sp held n 130 d→WT Tryz.prog 130 d→∃ r:aa7,r.ok∧∀ m,n≤m→dv Tryz.prog m 130 d=some r.cs:=by
 intro n
 induction n using Nat.strongRecOn with
 | ind n ih=>
  intro d h hw;obtain ⟨n',ds,rfl,rfl,hl,hf⟩:=ar4 Tryz.underlying130 h hw
  match ds,hl with
  | [d0,d1,d2],_=>
   obtain ⟨r0,w0⟩:=hf 0 _ d0 rfl rfl;obtain ⟨r1,w1⟩:=hf 1 _ d1 rfl rfl;obtain ⟨r2,w2⟩:=hf 2 _ d2 rfl rfl;obtain ⟨z,_,hz,e0⟩:=bc7 Tryz.underlying5 r0;obtain ⟨e,l1,e1⟩:=gt4 r1 w1;obtain ⟨l,k1,k2,e2⟩:=aw9 aa7.cs aa7.ok Tryz.underlying87 fs9 (by decide) (by decide +kernel) (fun r=>by rw[aa7.ao4]; rfl) (fun m d' hm hr hw'=>ih m (by omega) d' hr hw') r2 w2;have hz':=ig9 hz;refine ⟨.mk z e l,aa7.hc5.2 ⟨hz'.1,hz'.2,l1,k1,k2⟩,fun m hm=>?_⟩
   cases m with
   | zero=>omega
   | succ m=>
    simp only[dv,Tryz.underlying130,List.map_cons,List.map_nil,dvF,e0 m (by omega),e1 m (by omega),e2 m (by omega),Dep.cs,List.length_cons,List.length_nil,el5,hf7,fs8,fs9,List.cons_append,List.nil_append,List.append_nil,Nat.reduceAdd,↓reduceIte];rw[aa7.ao4];rfl
theorem ft1 {n:Nat}{d:DataW H}(h:Rd enc w base sp held n 86 d)(hw:WT Tryz.prog 86 d):∃ l:List Dep,l.length<2^62∧(∀ a∈l,a.fit)∧∀ m,n≤m→dv Tryz.prog m 86 d=some [deps l]:=
 aw9 Dep.cs Dep.fit Tryz.underlying86 fs8 (by decide) (by decide +kernel) (fun _=>rfl) (fun _ _ _ hr hw'=>gt4 hr hw') h hw
theorem bd3 {n:Nat}{d:DataW H}(h:Rd enc w base sp held n 87 d)(hw:WT Tryz.prog 87 d):∃ l:List aa7,l.length<2^62∧(∀ a∈l,a.ok)∧∀ m,n≤m→dv Tryz.prog m 87 d=some [ae7 l]:=
 aw9 aa7.cs aa7.ok Tryz.underlying87 fs9 (by decide) (by decide +kernel) (fun r=>by rw[aa7.ao4]; rfl) (fun m d' _ hr hw'=>hf9 m d' hr hw') h hw
theorem hg6 {n:Nat}{d:DataW H}(h:Rd enc w base sp held n 88 d)(hw:WT Tryz.prog 88 d):∃ l:List Str,l.length<2^62∧(∀ a∈l,a.length<2^62)∧∀ m,n≤m→dv Tryz.prog m 88 d=some [strs l]:=
 aw9 bs4 (fun s:Str=>s.length<2^62) Tryz.underlying88 gk2 (by decide) (by decide +kernel) (fun _=>rfl) (fun _ _ _ hr hw'=>cp3 Tryz.underlying9 hr hw') h hw
theorem ih8 {n:Nat}{d:DataW H}(h:Rd enc w base sp held n 90 d)(hw:WT Tryz.prog 90 d):∃ p:aa2,p.Ok∧∀ m,n≤m→dv Tryz.prog m 90 d=some p.cs:=by
 obtain ⟨n',ds,rfl,rfl,hl,hf⟩:=ar4 Tryz.underlying90 h hw
 match ds,hl with
 | [d0,d1,d2,d3,d4,d5,d6,d7,d8,d9,d10,d11,d12],_=>
  obtain ⟨r0,w0⟩:=hf 0 _ d0 rfl rfl;obtain ⟨r1,w1⟩:=hf 1 _ d1 rfl rfl;obtain ⟨r2,w2⟩:=hf 2 _ d2 rfl rfl;obtain ⟨r3,w3⟩:=hf 3 _ d3 rfl rfl;obtain ⟨r4,w4⟩:=hf 4 _ d4 rfl rfl;obtain ⟨r5,w5⟩:=hf 5 _ d5 rfl rfl;obtain ⟨r6,w6⟩:=hf 6 _ d6 rfl rfl;obtain ⟨r7,w7⟩:=hf 7 _ d7 rfl rfl;obtain ⟨r8,w8⟩:=hf 8 _ d8 rfl rfl;obtain ⟨r9,w9⟩:=hf 9 _ d9 rfl rfl;obtain ⟨r10,w10⟩:=hf 10 _ d10 rfl rfl;obtain ⟨r11,w11⟩:=hf 11 _ d11 rfl rfl;obtain ⟨r12,w12⟩:=hf 12 _ d12 rfl rfl;obtain ⟨x0,l0,e0⟩:=cp3 Tryz.underlying9 r0 w0;obtain ⟨x1,l1,e1⟩:=fs7 r1 w1;obtain ⟨x2,_,_,e2⟩:=bc7 Tryz.underlying5 r2;obtain ⟨x3,l3,e3⟩:=cp3 Tryz.underlying9 r3 w3;obtain ⟨x4,l4,k4,e4⟩:=ft1 r4 w4;obtain ⟨x5,l5,k5,e5⟩:=bd3 r5 w5;obtain ⟨x6,l6,k6,e6⟩:=bd3 r6 w6;obtain ⟨x7,l7,k7,e7⟩:=ft1 r7 w7;obtain ⟨x8,l8,k8,e8⟩:=bd3 r8 w8;obtain ⟨x9,l9,k9,e9⟩:=bd3 r9 w9;obtain ⟨x10,l10,k10,e10⟩:=bd3 r10 w10;obtain ⟨x11,l11,k11,e11⟩:=bd3 r11 w11;obtain ⟨x12,l12,k12,e12⟩:=hg6 r12 w12;refine ⟨⟨x0,x1,x2,x3,x4,x5,x6,x7,x8,x9,x10,x11,x12⟩,⟨l0,l3,l1,⟨l4,k4⟩,⟨l7,k7⟩,⟨l12,k12⟩,?_⟩,fun m hm=>?_⟩
  ·intro x hx;simp only[aa2.rows,List.mem_cons,List.not_mem_nil,or_false] at hx;rcases hx with rfl|rfl|rfl|rfl|rfl|rfl
   ·exact ⟨l5,k5⟩
   ·exact ⟨l6,k6⟩
   ·exact ⟨l8,k8⟩
   ·exact ⟨l9,k9⟩
   ·exact ⟨l10,k10⟩
   ·exact ⟨l11,k11⟩
  cases m with
  | zero=>omega
  | succ m=>
   simp only[dv,Tryz.underlying90,List.map_cons,List.map_nil,dvF,e0 m (by omega),e1 m (by omega),e2 m (by omega),e3 m (by omega),e4 m (by omega),e5 m (by omega),e6 m (by omega),e7 m (by omega),e8 m (by omega),e9 m (by omega),e10 m (by omega),e11 m (by omega),e12 m (by omega),EVR.cs,List.length_cons,List.length_nil,gk2,hf7,hf8,ih5,el5,ih6,ih4,List.cons_append,List.nil_append,List.append_nil,Nat.reduceAdd,↓reduceIte];rfl
theorem ft2 {n:Nat}{d:DataW H}(h:Rd enc w base sp held n 23 d)(hw:WT Tryz.prog 23 d):∃ l:List aa2,l.length<2^62∧(∀ a∈l,a.Ok)∧∀ m,n≤m→dv Tryz.prog m 23 d=some [.aa3 (l.map aa2.cs)]:=
 aw9 aa2.cs aa2.Ok Tryz.underlying23 ih4 (by decide) (by decide +kernel) (fun _=>rfl) (fun _ _ _ hr hw'=>ih8 hr hw') h hw
theorem hg7 {n:Nat}{d:DataW H}(h:Rd enc w base sp held n 97 d)(hw:WT Tryz.prog 97 d):∃ r:ak8,ak8.Ok r∧∀ m,n≤m→dv Tryz.prog m 97 d=some r.cs:=by
 obtain ⟨n',ds,rfl,rfl,hl,hf⟩:=ar4 Tryz.underlying97 h hw
 match ds,hl with
 | [d0,d1],_=>
  obtain ⟨r0,w0⟩:=hf 0 _ d0 rfl rfl;obtain ⟨r1,w1⟩:=hf 1 _ d1 rfl rfl;obtain ⟨z,_,_,e0⟩:=bc7 Tryz.underlying3 r0;obtain ⟨l,k1,k2,e1⟩:=ft2 r1 w1;refine ⟨⟨z,l⟩,⟨k1,k2⟩,fun m hm=>?_⟩
  cases m with
  | zero=>omega
  | succ m=>
   simp only[dv,Tryz.underlying97,List.map_cons,List.map_nil,dvF,e0 m (by omega),e1 m (by omega),List.length_cons,List.length_nil,gk1,ih7,gt3,List.cons_append,List.nil_append,List.append_nil,Nat.reduceAdd,↓reduceIte];rfl
theorem gk3 {n:Nat}{d:DataW H}(h:Rd enc w base sp held n 22 d)(hw:WT Tryz.prog 22 d):∃ l:List ak8,l.length<2^62∧(∀ a∈l,ak8.Ok a)∧∀ m,n≤m→dv Tryz.prog m 22 d=some [.aa3 (l.map ak8.cs)]:=
 aw9 ak8.cs ak8.Ok Tryz.underlying22 gt3 (by decide) (by decide +kernel) (fun _=>rfl) (fun _ _ _ hr hw'=>hg7 hr hw') h hw
end Go.Id.Tryz
