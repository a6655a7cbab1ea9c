/- What a bulk within the bound gives: data whose sizes fit. Conditions: none. -/
import Derived.Test.YtiallonafbejaaaGreatDoorTVQI
import Derived.Test.YtiallonafbejaaaGreatDoorTVPK
import Derived.Test.YtiallonafbejaaaGreatDoorUb
import Derived.Test.YtiallonafbejaaaGreatDoorRows
import Derived.Test.YtiallonafbejaaaGreatDoorTVTF
set_option linter.all false
namespace Go.Id.Tryz
open Go Go.Id Go.Proofs Go.Id.Md
open Go.Proofs.YtiallonafbejaaaGreatDoor
set_option maxRecDepth 100000
variable {H:Type} {enc:TypeId×Value→H} {w:World} {base:Nat} {sp:Nat→Bool} {held:Bool}
theorem gc5 (d:DataW H):1≤Rows.uptoBulk d:=by
 cases d with
 | lit l=>cases l<;>simp[Rows.uptoBulk]
 | _=>simp[Rows.uptoBulk]
theorem gc6 {r:DataW H→Option (List IV)}{c:Nat}(hr:∀ d cs,r d=some cs→au7 cs≤Rows.uptoBulk d):∀ (ds:List (DataW H)) es,dvS r c ds=some es→cb2 es≤Rows.uptoBulkAll ds:=by
 intro ds
 induction ds with
 | nil=>intro es h; cases h; simp[cb2]
 | cons d ds ih=>
  intro es h
  simp only[dvS] at h
  split at h
  ·rename_i a ha
   split at h
   ·split at h
    ·rename_i b hb
     cases h
     have h1:=hr d a ha
     have h2:=ih b hb
     simp only[cb2,Rows.uptoBulkAll]
     omega
    ·cases h
   ·cases h
  ·cases h
theorem ed8 {r:TypeId→DataW H→Option (List IV)}{P:Program}(hr:∀ t d cs,r t d=some cs→au7 cs≤Rows.uptoBulk d):∀ (fs:List (TypeId×Nat)) (ds:List (DataW H)) (off:Nat) es,dvF r P fs ds off=some es→au7 es≤Rows.uptoBulkAll ds:=by
 intro fs
 induction fs with
 | nil=>
  intro ds off es h
  cases ds with
  | nil=>cases h; simp[au7]
  | cons d ds=>simp[dvF] at h
 | cons f fs ih=>
  intro ds off es h
  cases ds with
  | nil=>simp[dvF] at h
  | cons d ds=>
   simp only[dvF] at h
   split at h
   ·split at h
    ·rename_i a ha
     split at h
     ·split at h
      ·rename_i b hb
       cases h
       have h1:=hr _ d a ha
       have h2:=ih ds _ b hb
       simp only[dw8,Rows.uptoBulkAll]
       omega
      ·cases h
     ·cases h
    ·cases h
   ·cases h
theorem bulk_dv {P:Program}:∀ (m:Nat) (t:TypeId) (d:DataW H) cs,dv P m t d=some cs→au7 cs≤Rows.uptoBulk d:=by
 intro m
 induction m with
 | zero=>intro t d cs h; simp[dv] at h
 | succ m ih=>
  intro t d cs h
  have h1:=gc5 d
  simp only[dv] at h
  split at h
  ·cases h; simpa [au7,isz] using h1
  ·cases h; simpa [au7,isz] using h1
  ·cases h; simp[au7,isz,Rows.uptoBulk]
  ·cases h; simpa [au7,isz] using h1
  ·split at h
   ·cases h; simpa [au7,isz] using h1
   ·cases h
  ·cases h; simpa [au7,isz,cb2] using h1
  ·split at h
   ·cases h
   ·split at h
    ·rename_i es he
     cases h
     have:=gc6 (ih _) _ _ he
     simp only[au7,isz,Rows.uptoBulk]
     omega
    ·cases h
  ·split at h
   ·rename_i ivs he
    split at h
    ·cases h
     have:=ed8 (fun t d cs=>ih t d cs) _ _ _ _ he
     simp only[Rows.uptoBulk]
     omega
    ·cases h
   ·cases h
  ·split at h
   ·rename_i ivs he
    split at h
    ·cases h
     have:=ed8 (fun t d cs=>ih t d cs) _ _ _ _ he
     simp only[Rows.uptoBulk]
     omega
    ·cases h
   ·cases h
  ·split at h
   ·split at h
    ·cases h; simpa [au7,isz] using h1
    ·cases h
   ·cases h
  ·cases h
theorem in_ok {repos:List Repo}{inst:List Package}(h1:∀ r∈repos,Repo.Ok r)(h2:∀ p∈inst,p.Ok)(b1:au7 [IV.tslice (repos.map Repo.cs)]≤1048576)(b2:au7 [IV.tslice (inst.map Package.cs)]≤1048576):InOK repos inst:=by
 simp only[au7,isz] at b1 b2
 have l1:=an5 Repo.cs (fun r=>by rw[Repo.szs]; omega) repos
 have l2:=an5 Package.cs (fun r=>by rw[Package.szs]; omega) inst
 have l3:=fq2 repos
 refine ⟨by omega,by omega,by omega,fun r hr=>?_,fun p hp=>?_,h1,h2⟩
 ·have m1:=bi2 Repo.cs repos r hr
  rw[Repo.szs] at m1
  have l4:=an5 Package.cs (fun r=>by rw[Package.szs]; omega) r.packages
  refine ⟨by omega,fun p hp=>fq1 ((h1 r hr).2 p hp) ?_⟩
  have:=bi2 Package.cs r.packages p hp
  omega
 ·have:=bi2 Package.cs inst p hp
  exact fq1 (h2 p hp) (by omega)
end Go.Id.Tryz
/- Requests,edits,numbers,read; sizes within the bound. Conditions: none. -/
namespace Go.Id.Tryz
open Go Go.Id Go.Proofs Go.Id.Md
set_option maxRecDepth 100000
variable {H:Type} {enc:TypeId×Value→H} {w:World} {base:Nat} {sp:Nat→Bool} {held:Bool}
theorem gs5 {n:Nat}{t:TypeId}{d:DataW H}(hu:Tryz.prog.underlying t=some .bool)(h:Rd enc w base sp held n t d):∃ b,d=.lit (.bool b)∧∀ m,n≤m→dv Tryz.prog m t d=some [.bool b]:=by
 obtain ⟨cs,ps,h⟩:=h
 have hn:n≠0:=fun e=>by subst e; simp[DataW.trod] at h
 obtain ⟨b,rfl,hx⟩:=DataW.trod_bool hu h
 cases hx
 refine ⟨b,rfl,fun m hm=>?_⟩
 cases m with
 | zero=>omega
 | succ m=>simp only[dv,hu]
theorem ho8:Tryz.prog.cellsOf 70=6:=by kernel_rfl
theorem gj5:Tryz.prog.cellsOf 61=2:=by kernel_rfl
theorem if5:Tryz.prog.cellsOf 59=5:=by kernel_rfl
theorem ho9:Tryz.prog.cellsOf 4=1:=by kernel_rfl
theorem hp4:Tryz.prog.cellsOf 56=1:=by kernel_rfl
theorem gs6:Tryz.prog.cellsOf 57=1:=by kernel_rfl
theorem gs7 {n:Nat}{d:DataW H}(h:Rd enc w base sp held n 51 d)(hw:WT Tryz.prog 51 d):∃ e:Dep,(0≤e.op∧e.op<256)∧∀ m,n≤m→dv Tryz.prog m 51 d=some e.cs:=by
 obtain ⟨n',ds,rfl,rfl,hl,hf⟩:=am7 Tryz.underlying51 h hw
 match ds,hl with
 | [d0,d1,d2],_=>
  obtain ⟨r0,w0⟩:=hf 0 _ d0 rfl rfl
  obtain ⟨r1,w1⟩:=hf 1 _ d1 rfl rfl
  obtain ⟨r2,w2⟩:=hf 2 _ d2 rfl rfl
  obtain ⟨s0,l0,e0⟩:=ch4 Tryz.underlying9 r0 w0
  obtain ⟨z,_,hz,e1⟩:=ay9 Tryz.underlying5 r1
  obtain ⟨e,l2,e2⟩:=fj5 r2 w2
  refine ⟨⟨s0,z,e⟩,hm5 hz,fun m hm=>?_⟩
  cases m with
  | zero=>omega
  | succ m=>
   simp only[dv,Tryz.underlying51,List.map_cons,List.map_nil,dvF,e0 m (by omega),e1 m (by omega),e2 m (by omega),EVR.cs,List.length_cons,List.length_nil,ga4,gr1,gr2,fj6,List.cons_append,List.nil_append,List.append_nil,Nat.reduceAdd,↓reduceIte]
   rfl
theorem hp5 {n:Nat}{d:DataW H}(h:Rd enc w base sp held n 70 d)(hw:WT Tryz.prog 70 d):∃ j:Job,(0≤j.dep.op∧j.dep.op<256)∧∀ m,n≤m→dv Tryz.prog m 70 d=some j.cs:=by
 obtain ⟨n',ds,rfl,rfl,hl,hf⟩:=am7 Tryz.underlying70 h hw
 match ds,hl with
 | [d0,d1],_=>
  obtain ⟨r0,w0⟩:=hf 0 _ d0 rfl rfl
  obtain ⟨r1,w1⟩:=hf 1 _ d1 rfl rfl
  obtain ⟨z,_,hz,e0⟩:=ay9 Tryz.underlying5 r0
  obtain ⟨e,l1,e1⟩:=gs7 r1 w1
  refine ⟨⟨z,e⟩,l1,fun m hm=>?_⟩
  cases m with
  | zero=>omega
  | succ m=>
   simp only[dv,Tryz.underlying70,List.map_cons,List.map_nil,dvF,e0 m (by omega),e1 m (by omega),Dep.cs,List.length_cons,List.length_nil,gr1,fj6,ho8,List.cons_append,List.nil_append,List.append_nil,Nat.reduceAdd,↓reduceIte]
   rfl
theorem gs8 {n:Nat}{d:DataW H}(h:Rd enc w base sp held n 61 d)(hw:WT Tryz.prog 61 d):∃ e:Edit,True∧∀ m,n≤m→dv Tryz.prog m 61 d=some e.cs:=by
 obtain ⟨n',ds,rfl,rfl,hl,hf⟩:=am7 Tryz.underlying61 h hw
 match ds,hl with
 | [d0,d1],_=>
  obtain ⟨r0,w0⟩:=hf 0 _ d0 rfl rfl
  obtain ⟨r1,w1⟩:=hf 1 _ d1 rfl rfl
  obtain ⟨z,_,hz,e0⟩:=ay9 Tryz.underlying5 r0
  obtain ⟨y,_,hy,e1⟩:=ay9 Tryz.underlying3 r1
  refine ⟨⟨z,y⟩,trivial,fun m hm=>?_⟩
  cases m with
  | zero=>omega
  | succ m=>
   simp only[dv,Tryz.underlying61,List.map_cons,List.map_nil,dvF,e0 m (by omega),e1 m (by omega),List.length_cons,List.length_nil,gr1,gq9,gj5,List.cons_append,List.nil_append,List.append_nil,Nat.reduceAdd,↓reduceIte]
   rfl
theorem gs9 {n:Nat}{d:DataW H}(h:Rd enc w base sp held n 56 d)(hw:WT Tryz.prog 56 d):∃ l:List Job,l.length<2^62∧(∀ j∈l,0≤j.dep.op∧j.dep.op<256)∧∀ m,n≤m→dv Tryz.prog m 56 d=some [cc2 l]:=
 au1 Job.cs (fun j=>0≤j.dep.op∧j.dep.op<256) Tryz.underlying56 ho8 (by decide) (by decide +kernel) (fun _=>rfl) (fun _ _ _ hr hw'=>hp5 hr hw') h hw
theorem gc7 {n:Nat}{d:DataW H}(h:Rd enc w base sp held n 57 d)(hw:WT Tryz.prog 57 d):∃ l:List Edit,l.length<2^62∧(∀ j∈l,True)∧∀ m,n≤m→dv Tryz.prog m 57 d=some [bc1 l]:=
 au1 Edit.cs (fun _=>True) Tryz.underlying57 gj5 (by decide) (by decide +kernel) (fun _=>rfl) (fun _ _ _ hr hw'=>gs8 hr hw') h hw
theorem rd_num {n:Nat}{d:DataW H}(h:Rd enc w base sp held n 3 d)(hw:WT Tryz.prog 3 d):∃ z:Int,∀ m,n≤m→dv Tryz.prog m 3 d=some [.int .i64 z]:=by
 obtain ⟨z,_,_,e⟩:=ay9 Tryz.underlying3 h
 exact ⟨z,e⟩
theorem rd_req {n:Nat}{d:DataW H}(h:Rd enc w base sp held n 59 d)(hw:WT Tryz.prog 59 d):∃ r:Req,(∀ j∈r.jobs,0≤j.dep.op∧j.dep.op<256)∧∀ m,n≤m→dv Tryz.prog m 59 d=some r.cs:=by
 obtain ⟨n',ds,rfl,rfl,hl,hf⟩:=am7 Tryz.underlying59 h hw
 match ds,hl with
 | [d0,d1,d2,d3,d4],_=>
  obtain ⟨r0,w0⟩:=hf 0 _ d0 rfl rfl
  obtain ⟨r1,w1⟩:=hf 1 _ d1 rfl rfl
  obtain ⟨r2,w2⟩:=hf 2 _ d2 rfl rfl
  obtain ⟨r3,w3⟩:=hf 3 _ d3 rfl rfl
  obtain ⟨r4,w4⟩:=hf 4 _ d4 rfl rfl
  obtain ⟨x0,_,_,e0⟩:=ay9 Tryz.underlying5 r0
  obtain ⟨x1,_,e1⟩:=gs5 Tryz.underlying4 r1
  obtain ⟨x2,_,k2,e2⟩:=gs9 r2 w2
  obtain ⟨x3,_,_,e3⟩:=gc7 r3 w3
  obtain ⟨x4,_,_,e4⟩:=ay9 Tryz.underlying3 r4
  refine ⟨⟨x0,x1,x2,x3,x4⟩,k2,fun m hm=>?_⟩
  cases m with
  | zero=>omega
  | succ m=>
   simp only[dv,Tryz.underlying59,List.map_cons,List.map_nil,dvF,e0 m (by omega),e1 m (by omega),e2 m (by omega),e3 m (by omega),e4 m (by omega),List.length_cons,List.length_nil,gr1,ho9,hp4,gs6,gq9,if5,List.cons_append,List.nil_append,List.append_nil,Nat.reduceAdd,↓reduceIte]
   rfl
theorem req_ok {r:Req}(h:∀ j∈r.jobs,0≤j.dep.op∧j.dep.op<256)(b:au7 r.cs≤1048576):ReqOK r:=by
 have hs:∀ j:Job,au7 j.cs=j.dep.name.length+j.dep.evr.ver.length+j.dep.evr.rel.length+6:=fun j=>by
  simp only[Job.cs,au7,isz]; omega
 have he:∀ e:Edit,1≤au7 e.cs:=fun e=>by simp only[Edit.cs,au7,isz]; omega
 simp only[Req.cs,au7,isz] at b
 have l1:=an5 Job.cs (fun j=>by rw[hs]; omega) r.jobs
 have l2:=an5 Edit.cs he r.edits
 refine ⟨by omega,by omega,fun j hj=>?_⟩
 have l3:=bi2 Job.cs r.jobs j hj
 rw[hs] at l3
 exact ⟨⟨(h j hj).1,(h j hj).2,by omega,by omega⟩,by omega⟩
end Go.Id.Tryz
