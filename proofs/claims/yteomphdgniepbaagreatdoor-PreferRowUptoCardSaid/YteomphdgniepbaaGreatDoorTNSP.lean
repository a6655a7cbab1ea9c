/- What a bulk within the bound gives: data whose sizes fit. Conditions: none. -/
import Derived.Test.YteomphdgniepbaaGreatDoorTNQI
import Derived.Test.YteomphdgniepbaaGreatDoorTNPK
import Derived.Test.YteomphdgniepbaaGreatDoorUb
import Derived.Test.YteomphdgniepbaaGreatDoorRows
import Derived.Test.YteomphdgniepbaaGreatDoorTNTH
set_option linter.all false
namespace Go.Id.Tryz
open Go Go.Id Go.Proofs Go.Id.Md
open Go.Proofs.YteomphdgniepbaaGreatDoor
set_option maxRecDepth 100000
variable {H:Type} {enc:TypeId×Value→H} {w:World} {base:Nat} {sp:Nat→Bool} {held:Bool}
theorem gn5 (d:DataW H):1≤Rows.uptoBulk d:=by
 cases d with
 | lit l=>cases l<;>simp[Rows.uptoBulk]
 | _=>simp[Rows.uptoBulk]
theorem gn6 {r:DataW H→Option (List IV)}{c:Nat}(hr:∀ d cs,r d=some cs→az6 cs≤Rows.uptoBulk d):∀ (ds:List (DataW H)) es,dvS r c ds=some es→ci4 es≤Rows.uptoBulkAll ds:=by
 intro ds
 induction ds with
 | nil=>intro es h; cases h; simp[ci4]
 | cons d ds ih=>
  intro es h;simp only[dvS] at h;split at h
  ·rename_i a ha;split at h
   ·split at h
    ·rename_i b hb;cases h;have h1:=hr d a ha;have h2:=ih b hb;simp only[ci4,Rows.uptoBulkAll];omega
    ·cases h
   ·cases h
  ·cases h
theorem en7 {r:TypeId→DataW H→Option (List IV)}{P:Program}(hr:∀ t d cs,r t d=some cs→az6 cs≤Rows.uptoBulk d):∀ (fs:List (TypeId×Nat)) (ds:List (DataW H)) (off:Nat) es,dvF r P fs ds off=some es→az6 es≤Rows.uptoBulkAll ds:=by
 intro fs
 induction fs with
 | nil=>
  intro ds off es h
  cases ds with
  | nil=>cases h; simp[az6]
  | cons d ds=>simp[dvF] at h
 | cons f fs ih=>
  intro ds off es h
  cases ds with
  | nil=>simp[dvF] at h
  | cons d ds=>
   simp only[dvF] at h;split at h
   ·split at h
    ·rename_i a ha;split at h
     ·split at h
      ·rename_i b hb;cases h;have h1:=hr _ d a ha;have h2:=ih ds _ b hb;simp only[eg1,Rows.uptoBulkAll];omega
      ·cases h
     ·cases h
    ·cases h
   ·cases h
theorem bs1 {P:Program}:∀ (m:Nat) (t:TypeId) (d:DataW H) cs,dv P m t d=some cs→az6 cs≤Rows.uptoBulk d:=by
 intro m
 induction m with
 | zero=>intro t d cs h; simp[dv] at h
 | succ m ih=>
  intro t d cs h;have h1:=gn5 d;simp only[dv] at h;split at h
  ·cases h; simpa [az6,isz] using h1
  ·cases h; simpa [az6,isz] using h1
  ·cases h; simp[az6,isz,Rows.uptoBulk]
  ·cases h; simpa [az6,isz] using h1
  ·split at h
   ·cases h; simpa [az6,isz] using h1
   ·cases h
  ·cases h; simpa [az6,isz,ci4] using h1
  ·split at h
   ·cases h
   ·split at h
    ·rename_i es he;cases h;have:=gn6 (ih _) _ _ he;simp only[az6,isz,Rows.uptoBulk];omega
    ·cases h
  ·split at h
   ·rename_i ivs he;split at h
    ·cases h;have:=en7 (fun t d cs=>ih t d cs) _ _ _ _ he;simp only[Rows.uptoBulk];omega
    ·cases h
   ·cases h
  ·split at h
   ·rename_i ivs he;split at h
    ·cases h;have:=en7 (fun t d cs=>ih t d cs) _ _ _ _ he;simp only[Rows.uptoBulk];omega
    ·cases h
   ·cases h
  ·split at h
   ·split at h
    ·cases h; simpa [az6,isz] using h1
    ·cases h
   ·cases h
  ·cases h
theorem it6 {ab5:List ak8}{inst:List aa2}(h1:∀ r∈ab5,ak8.Ok r)(h2:∀ p∈inst,p.Ok)(b1:az6 [IV.aa3 (ab5.map ak8.cs)]≤1048576)(b2:az6 [IV.aa3 (inst.map aa2.cs)]≤1048576):gt6 ab5 inst:=by
 simp only[az6,isz] at b1 b2;have l1:=ap5 ak8.cs (fun r=>by rw[ak8.szs]; omega) ab5;have l2:=ap5 aa2.cs (fun r=>by rw[aa2.szs]; omega) inst;have l3:=fz5 ab5;refine ⟨by omega,by omega,by omega,fun r hr=>?_,fun p hp=>?_,h1,h2⟩
 ·have m1:=bp2 ak8.cs ab5 r hr;rw[ak8.szs] at m1;have l4:=ap5 aa2.cs (fun r=>by rw[aa2.szs]; omega) r.packages;refine ⟨by omega,fun p hp=>fz4 ((h1 r hr).2 p hp) ?_⟩;have:=bp2 aa2.cs r.packages p hp;omega
 ·have:=bp2 aa2.cs inst p hp;exact fz4 (h2 p hp) (by omega)
variable {H:Type} {enc:TypeId×Value→H} {w:World} {base:Nat} {sp:Nat→Bool} {held:Bool}
theorem hm4 {n:Nat}{t:TypeId}{d:DataW H}(hu:Tryz.prog.underlying t=some .bool)(h:Rd enc w base sp held n t d):∃ b,d=.lit (.bool b)∧∀ m,n≤m→dv Tryz.prog m t d=some [.bool b]:=by
 obtain ⟨cs,ps,h⟩:=h;have hn:n≠0:=fun e=>by subst e; simp[DataW.trod] at h
 obtain ⟨b,rfl,hx⟩:=DataW.trod_bool hu h;cases hx;refine ⟨b,rfl,fun m hm=>?_⟩
 cases m with
 | zero=>omega
 | succ m=>simp only[dv,hu]
theorem ii9:Tryz.prog.cellsOf 72=6:=by kernel_rfl
theorem gu1:Tryz.prog.cellsOf 181=2:=by kernel_rfl
theorem it7:Tryz.prog.cellsOf 27=5:=by kernel_rfl
theorem ij1:Tryz.prog.cellsOf 4=1:=by kernel_rfl
theorem ij2:Tryz.prog.cellsOf 24=1:=by kernel_rfl
theorem hm5:Tryz.prog.cellsOf 25=1:=by kernel_rfl
theorem hm6 {n:Nat}{d:DataW H}(h:Rd enc w base sp held n 70 d)(hw:WT Tryz.prog 70 d):∃ e:Dep,(0≤e.op∧e.op<256)∧∀ m,n≤m→dv Tryz.prog m 70 d=some e.cs:=by
 obtain ⟨n',ds,rfl,rfl,hl,hf⟩:=ar4 Tryz.underlying70 h hw
 match ds,hl with
 | [d0,d1,d2],_=>
  obtain ⟨r0,w0⟩:=hf 0 _ d0 rfl rfl;obtain ⟨r1,w1⟩:=hf 1 _ d1 rfl rfl;obtain ⟨r2,w2⟩:=hf 2 _ d2 rfl rfl;obtain ⟨s0,l0,e0⟩:=cp3 Tryz.underlying9 r0 w0;obtain ⟨z,_,hz,e1⟩:=bc7 Tryz.underlying5 r1;obtain ⟨e,l2,e2⟩:=fs7 r2 w2;refine ⟨⟨s0,z,e⟩,ig9 hz,fun m hm=>?_⟩
  cases m with
  | zero=>omega
  | succ m=>
   simp only[dv,Tryz.underlying70,List.map_cons,List.map_nil,dvF,e0 m (by omega),e1 m (by omega),e2 m (by omega),EVR.cs,List.length_cons,List.length_nil,gk2,hf7,hf8,fs8,List.cons_append,List.nil_append,List.append_nil,Nat.reduceAdd,↓reduceIte];rfl
theorem ij3 {n:Nat}{d:DataW H}(h:Rd enc w base sp held n 72 d)(hw:WT Tryz.prog 72 d):∃ j:Job,(0≤j.dep.op∧j.dep.op<256)∧∀ m,n≤m→dv Tryz.prog m 72 d=some j.cs:=by
 obtain ⟨n',ds,rfl,rfl,hl,hf⟩:=ar4 Tryz.underlying72 h hw
 match ds,hl with
 | [d0,d1],_=>
  obtain ⟨r0,w0⟩:=hf 0 _ d0 rfl rfl;obtain ⟨r1,w1⟩:=hf 1 _ d1 rfl rfl;obtain ⟨z,_,hz,e0⟩:=bc7 Tryz.underlying5 r0;obtain ⟨e,l1,e1⟩:=hm6 r1 w1;refine ⟨⟨z,e⟩,l1,fun m hm=>?_⟩
  cases m with
  | zero=>omega
  | succ m=>
   simp only[dv,Tryz.underlying72,List.map_cons,List.map_nil,dvF,e0 m (by omega),e1 m (by omega),Dep.cs,List.length_cons,List.length_nil,hf7,fs8,ii9,List.cons_append,List.nil_append,List.append_nil,Nat.reduceAdd,↓reduceIte];rfl
theorem hm7 {n:Nat}{d:DataW H}(h:Rd enc w base sp held n 181 d)(hw:WT Tryz.prog 181 d):∃ e:bf9,True∧∀ m,n≤m→dv Tryz.prog m 181 d=some e.cs:=by
 obtain ⟨n',ds,rfl,rfl,hl,hf⟩:=ar4 Tryz.underlying181 h hw
 match ds,hl with
 | [d0,d1],_=>
  obtain ⟨r0,w0⟩:=hf 0 _ d0 rfl rfl;obtain ⟨r1,w1⟩:=hf 1 _ d1 rfl rfl;obtain ⟨z,_,hz,e0⟩:=bc7 Tryz.underlying5 r0;obtain ⟨y,_,hy,e1⟩:=bc7 Tryz.underlying3 r1;refine ⟨⟨z,y⟩,trivial,fun m hm=>?_⟩
  cases m with
  | zero=>omega
  | succ m=>
   simp only[dv,Tryz.underlying181,List.map_cons,List.map_nil,dvF,e0 m (by omega),e1 m (by omega),List.length_cons,List.length_nil,hf7,gk1,gu1,List.cons_append,List.nil_append,List.append_nil,Nat.reduceAdd,↓reduceIte];rfl
theorem hm8 {n:Nat}{d:DataW H}(h:Rd enc w base sp held n 24 d)(hw:WT Tryz.prog 24 d):∃ l:List Job,l.length<2^62∧(∀ j∈l,0≤j.dep.op∧j.dep.op<256)∧∀ m,n≤m→dv Tryz.prog m 24 d=some [cj5 l]:=
 aw9 Job.cs (fun j=>0≤j.dep.op∧j.dep.op<256) Tryz.underlying24 ii9 (by decide) (by decide +kernel) (fun _=>rfl) (fun _ _ _ hr hw'=>ij3 hr hw') h hw
theorem gn7 {n:Nat}{d:DataW H}(h:Rd enc w base sp held n 25 d)(hw:WT Tryz.prog 25 d):∃ l:List bf9,l.length<2^62∧(∀ j∈l,True)∧∀ m,n≤m→dv Tryz.prog m 25 d=some [bi5 l]:=
 aw9 bf9.cs (fun _=>True) Tryz.underlying25 gu1 (by decide) (by decide +kernel) (fun _=>rfl) (fun _ _ _ hr hw'=>hm7 hr hw') h hw
theorem hm9 {n:Nat}{d:DataW H}(h:Rd enc w base sp held n 28 d)(hw:WT Tryz.prog 28 d):∃ l:List Int,l.length<2^62∧(∀ j∈l,True)∧∀ m,n≤m→dv Tryz.prog m 28 d=some [.aa3 (l.map Md.ag3)]:=
 aw9 Md.ag3 (fun _=>True) Tryz.underlying28 gk1 (by decide) (by decide +kernel) (fun _=>rfl) (fun _ _ _ hr hw'=>by
  obtain ⟨z,_,_,e⟩:=bc7 Tryz.underlying3 hr;exact ⟨z,trivial,e⟩) h hw
theorem fw7 {n:Nat}{d:DataW H}(h:Rd enc w base sp held n 3 d)(hw:WT Tryz.prog 3 d):∃ z:Int,∀ m,n≤m→dv Tryz.prog m 3 d=some [.int .i64 z]:=by
 obtain ⟨z,_,_,e⟩:=bc7 Tryz.underlying3 h;exact ⟨z,e⟩
theorem ij4 {n:Nat}{d:DataW H}(h:Rd enc w base sp held n 27 d)(hw:WT Tryz.prog 27 d):∃ r:Req,(∀ j∈r.au3,0≤j.dep.op∧j.dep.op<256)∧∀ m,n≤m→dv Tryz.prog m 27 d=some r.cs:=by
 obtain ⟨n',ds,rfl,rfl,hl,hf⟩:=ar4 Tryz.underlying27 h hw
 match ds,hl with
 | [d0,d1,d2,d3,d4],_=>
  obtain ⟨r0,w0⟩:=hf 0 _ d0 rfl rfl;obtain ⟨r1,w1⟩:=hf 1 _ d1 rfl rfl;obtain ⟨r2,w2⟩:=hf 2 _ d2 rfl rfl;obtain ⟨r3,w3⟩:=hf 3 _ d3 rfl rfl;obtain ⟨r4,w4⟩:=hf 4 _ d4 rfl rfl;obtain ⟨x0,_,_,e0⟩:=bc7 Tryz.underlying5 r0;obtain ⟨x1,_,e1⟩:=hm4 Tryz.underlying4 r1;obtain ⟨x2,_,k2,e2⟩:=hm8 r2 w2;obtain ⟨x3,_,_,e3⟩:=gn7 r3 w3;obtain ⟨x4,_,_,e4⟩:=bc7 Tryz.underlying3 r4;refine ⟨⟨x0,x1,x2,x3,x4⟩,k2,fun m hm=>?_⟩
  cases m with
  | zero=>omega
  | succ m=>
   simp only[dv,Tryz.underlying27,List.map_cons,List.map_nil,dvF,e0 m (by omega),e1 m (by omega),e2 m (by omega),e3 m (by omega),e4 m (by omega),List.length_cons,List.length_nil,hf7,ij1,ij2,hm5,gk1,it7,List.cons_append,List.nil_append,List.append_nil,Nat.reduceAdd,↓reduceIte];rfl
theorem ij5 {r:Req}(h:∀ j∈r.au3,0≤j.dep.op∧j.dep.op<256)(b:az6 r.cs≤1048576):ef3 r:=by
 have hs:∀ j:Job,az6 j.cs=j.dep.name.length+j.dep.evr.ver.length+j.dep.evr.rel.length+6:=fun j=>by
  simp only[Job.cs,az6,isz]; omega
 have he:∀ e:bf9,1≤az6 e.cs:=fun e=>by simp only[bf9.cs,az6,isz]; omega
 simp only[Req.cs,az6,isz] at b;have l1:=ap5 Job.cs (fun j=>by rw[hs]; omega) r.au3;have l2:=ap5 bf9.cs he r.am2;refine ⟨by omega,by omega,fun j hj=>?_⟩;have l3:=bp2 Job.cs r.au3 j hj;rw[hs] at l3;exact ⟨⟨(h j hj).1,(h j hj).2,by omega,by omega⟩,by omega⟩
theorem hn6 {l:List Int}(b:az6 [IV.aa3 (l.map Md.ag3)]≤1048576):l.length<2^30:=by
 simp only[az6,isz] at b;have:=ap5 Md.ag3 (fun z=>by simp only[Md.ag3,az6,isz]; omega) l;omega
end Go.Id.Tryz
