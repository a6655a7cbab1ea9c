/- Requests,edits,numbers,read; sizes within the bound. Conditions: none. -/
import Derived.Test.YtiallonafbejaaaGreatDoorTVQJ
import Derived.Test.YtiallonafbejaaaGreatDoorTVTG
set_option linter.all false
namespace Go.Id.Tryz
open Go Go.Id Go.Proofs Go.Id.Md
set_option maxRecDepth 100000
variable {H:Type} {enc:TypeId×Value→H} {w:World} {base:Nat} {sp:Nat→Bool} {held:Bool}
theorem gt1 {n:Nat}{t:TypeId}{d:DataW H}(hu:Tryz.prog.underlying t=some .bool)(h:Rd enc w base sp held n t d):∃ b,d=.lit (.bool b)∧∀ m,n≤m→dv Tryz.prog m t d=some [.bool b]:=by
 obtain ⟨cs,ps,h⟩:=h
 have hn:n≠0:=fun e=>by subst e; simp[DataW.trod] at h
 obtain ⟨b,rfl,hx⟩:=DataW.trod_bool hu h
 cases hx
 refine ⟨b,rfl,fun m hm=>?_⟩
 cases m with
 | zero=>omega
 | succ m=>simp only[dv,hu]
theorem hm9:Tryz.prog.cellsOf 70=6:=by kernel_rfl
theorem gj3:Tryz.prog.cellsOf 61=2:=by kernel_rfl
theorem if1:Tryz.prog.cellsOf 59=5:=by kernel_rfl
theorem hn6:Tryz.prog.cellsOf 4=1:=by kernel_rfl
theorem hn7:Tryz.prog.cellsOf 56=1:=by kernel_rfl
theorem gt2:Tryz.prog.cellsOf 57=1:=by kernel_rfl
theorem gt3 {n:Nat}{d:DataW H}(h:Rd enc w base sp held n 51 d)(hw:WT Tryz.prog 51 d):∃ e:Dep,(0≤e.op∧e.op<256)∧∀ m,n≤m→dv Tryz.prog m 51 d=some e.cs:=by
 obtain ⟨n',ds,rfl,rfl,hl,hf⟩:=an2 Tryz.underlying51 h hw
 match ds,hl with
 | [d0,d1,d2],_=>
  obtain ⟨r0,w0⟩:=hf 0 _ d0 rfl rfl
  obtain ⟨r1,w1⟩:=hf 1 _ d1 rfl rfl
  obtain ⟨r2,w2⟩:=hf 2 _ d2 rfl rfl
  obtain ⟨s0,l0,e0⟩:=ci9 Tryz.underlying9 r0 w0
  obtain ⟨z,_,hz,e1⟩:=az4 Tryz.underlying5 r1
  obtain ⟨e,l2,e2⟩:=fk3 r2 w2
  refine ⟨⟨s0,z,e⟩,hk7 hz,fun m hm=>?_⟩
  cases m with
  | zero=>omega
  | succ m=>
   simp only[dv,Tryz.underlying51,List.map_cons,List.map_nil,dvF,e0 m (by omega),e1 m (by omega),e2 m (by omega),EVR.cs,List.length_cons,List.length_nil,ga3,gq7,gq8,fk4,List.cons_append,List.nil_append,List.append_nil,Nat.reduceAdd,↓reduceIte]
   rfl
theorem hn8 {n:Nat}{d:DataW H}(h:Rd enc w base sp held n 70 d)(hw:WT Tryz.prog 70 d):∃ j:Job,(0≤j.dep.op∧j.dep.op<256)∧∀ m,n≤m→dv Tryz.prog m 70 d=some j.cs:=by
 obtain ⟨n',ds,rfl,rfl,hl,hf⟩:=an2 Tryz.underlying70 h hw
 match ds,hl with
 | [d0,d1],_=>
  obtain ⟨r0,w0⟩:=hf 0 _ d0 rfl rfl
  obtain ⟨r1,w1⟩:=hf 1 _ d1 rfl rfl
  obtain ⟨z,_,hz,e0⟩:=az4 Tryz.underlying5 r0
  obtain ⟨e,l1,e1⟩:=gt3 r1 w1
  refine ⟨⟨z,e⟩,l1,fun m hm=>?_⟩
  cases m with
  | zero=>omega
  | succ m=>
   simp only[dv,Tryz.underlying70,List.map_cons,List.map_nil,dvF,e0 m (by omega),e1 m (by omega),Dep.cs,List.length_cons,List.length_nil,gq7,fk4,hm9,List.cons_append,List.nil_append,List.append_nil,Nat.reduceAdd,↓reduceIte]
   rfl
theorem gt4 {n:Nat}{d:DataW H}(h:Rd enc w base sp held n 61 d)(hw:WT Tryz.prog 61 d):∃ e:Edit,True∧∀ m,n≤m→dv Tryz.prog m 61 d=some e.cs:=by
 obtain ⟨n',ds,rfl,rfl,hl,hf⟩:=an2 Tryz.underlying61 h hw
 match ds,hl with
 | [d0,d1],_=>
  obtain ⟨r0,w0⟩:=hf 0 _ d0 rfl rfl
  obtain ⟨r1,w1⟩:=hf 1 _ d1 rfl rfl
  obtain ⟨z,_,hz,e0⟩:=az4 Tryz.underlying5 r0
  obtain ⟨y,_,hy,e1⟩:=az4 Tryz.underlying3 r1
  refine ⟨⟨z,y⟩,trivial,fun m hm=>?_⟩
  cases m with
  | zero=>omega
  | succ m=>
   simp only[dv,Tryz.underlying61,List.map_cons,List.map_nil,dvF,e0 m (by omega),e1 m (by omega),List.length_cons,List.length_nil,gq7,gq6,gj3,List.cons_append,List.nil_append,List.append_nil,Nat.reduceAdd,↓reduceIte]
   rfl
theorem gt5 {n:Nat}{d:DataW H}(h:Rd enc w base sp held n 56 d)(hw:WT Tryz.prog 56 d):∃ l:List Job,l.length<2^62∧(∀ j∈l,0≤j.dep.op∧j.dep.op<256)∧∀ m,n≤m→dv Tryz.prog m 56 d=some [cc3 l]:=
 au4 Job.cs (fun j=>0≤j.dep.op∧j.dep.op<256) Tryz.underlying56 hm9 (by decide) (by decide +kernel) (fun _=>rfl) (fun _ _ _ hr hw'=>hn8 hr hw') h hw
theorem gc1 {n:Nat}{d:DataW H}(h:Rd enc w base sp held n 57 d)(hw:WT Tryz.prog 57 d):∃ l:List Edit,l.length<2^62∧(∀ j∈l,True)∧∀ m,n≤m→dv Tryz.prog m 57 d=some [bc5 l]:=
 au4 Edit.cs (fun _=>True) Tryz.underlying57 gj3 (by decide) (by decide +kernel) (fun _=>rfl) (fun _ _ _ hr hw'=>gt4 hr hw') h hw
theorem rd_num {n:Nat}{d:DataW H}(h:Rd enc w base sp held n 3 d)(hw:WT Tryz.prog 3 d):∃ z:Int,∀ m,n≤m→dv Tryz.prog m 3 d=some [.int .i64 z]:=by
 obtain ⟨z,_,_,e⟩:=az4 Tryz.underlying3 h
 exact ⟨z,e⟩
theorem rd_req {n:Nat}{d:DataW H}(h:Rd enc w base sp held n 59 d)(hw:WT Tryz.prog 59 d):∃ r:Req,(∀ j∈r.jobs,0≤j.dep.op∧j.dep.op<256)∧∀ m,n≤m→dv Tryz.prog m 59 d=some r.cs:=by
 obtain ⟨n',ds,rfl,rfl,hl,hf⟩:=an2 Tryz.underlying59 h hw
 match ds,hl with
 | [d0,d1,d2,d3,d4],_=>
  obtain ⟨r0,w0⟩:=hf 0 _ d0 rfl rfl
  obtain ⟨r1,w1⟩:=hf 1 _ d1 rfl rfl
  obtain ⟨r2,w2⟩:=hf 2 _ d2 rfl rfl
  obtain ⟨r3,w3⟩:=hf 3 _ d3 rfl rfl
  obtain ⟨r4,w4⟩:=hf 4 _ d4 rfl rfl
  obtain ⟨x0,_,_,e0⟩:=az4 Tryz.underlying5 r0
  obtain ⟨x1,_,e1⟩:=gt1 Tryz.underlying4 r1
  obtain ⟨x2,_,k2,e2⟩:=gt5 r2 w2
  obtain ⟨x3,_,_,e3⟩:=gc1 r3 w3
  obtain ⟨x4,_,_,e4⟩:=az4 Tryz.underlying3 r4
  refine ⟨⟨x0,x1,x2,x3,x4⟩,k2,fun m hm=>?_⟩
  cases m with
  | zero=>omega
  | succ m=>
   simp only[dv,Tryz.underlying59,List.map_cons,List.map_nil,dvF,e0 m (by omega),e1 m (by omega),e2 m (by omega),e3 m (by omega),e4 m (by omega),List.length_cons,List.length_nil,gq7,hn6,hn7,gt2,gq6,if1,List.cons_append,List.nil_append,List.append_nil,Nat.reduceAdd,↓reduceIte]
   rfl
theorem req_ok {r:Req}(h:∀ j∈r.jobs,0≤j.dep.op∧j.dep.op<256)(b:au7 r.cs≤1048576):ReqOK r:=by
 have hs:∀ j:Job,au7 j.cs=j.dep.name.length+j.dep.evr.ver.length+j.dep.evr.rel.length+6:=fun j=>by
  simp only[Job.cs,au7,isz]; omega
 have he:∀ e:Edit,1≤au7 e.cs:=fun e=>by simp only[Edit.cs,au7,isz]; omega
 simp only[Req.cs,au7,isz] at b
 have l1:=an3 Job.cs (fun j=>by rw[hs]; omega) r.jobs
 have l2:=an3 Edit.cs he r.edits
 refine ⟨by omega,by omega,fun j hj=>?_⟩
 have l3:=bh6 Job.cs r.jobs j hj
 rw[hs] at l3
 exact ⟨⟨(h j hj).1,(h j hj).2,by omega,by omega⟩,by omega⟩
end Go.Id.Tryz
