/- What a bulk within the bound gives: data whose sizes fit. Conditions: none. -/
import Derived.Test.YtebfbbjghhagbaaGreatDoorUb
import Derived.Test.YtebfbbjghhagbaaGreatDoorRows
import Derived.Test.YtebfbbjghhagbaaGreatDoorTMSJ
set_option linter.all false
namespace Go.Id.Tryz
open Go Go.Id Go.Proofs Go.Id.Md
open Go.Proofs.YtebfbbjghhagbaaGreatDoor
set_option maxRecDepth 100000
variable {H:Type} {enc:TypeId×Value->H} {w:World} {base:Nat} {sp:Nat->Bool} {held:Bool}
theorem hb8 (d:DataW H):1<=Rows.uptoBulk d:=by
 cases d with
 | lit l=>cases l<;>simp[Rows.uptoBulk]
 | _=>simp[Rows.uptoBulk]
theorem hb9 {r:DataW H->Option (List IV)}{c:Nat}(hr:∀ d cs,r d=some cs->bc6 cs<=Rows.uptoBulk d):∀ (ds:List (DataW H)) es,dvS r c ds=some es->cn1 es<=Rows.uptoBulkAll ds:=by
 intro ds
 induction ds with
 | nil=>intro es h; cases h; simp[cn1]
 | cons d ds ih=>
  intro es h;simp only[dvS] at h;split at h
  ·rename_i a ha;split at h
   ·split at h
    ·rename_i b hb;cases h;have h1:=hr d a ha;have h2:=ih b hb;simp only[cn1,Rows.uptoBulkAll];omega
    ·cases h
   ·cases h
  ·cases h
theorem ew6 {r:TypeId->DataW H->Option (List IV)}{P:Program}(hr:∀ t d cs,r t d=some cs->bc6 cs<=Rows.uptoBulk d):∀ (fs:List (TypeId×Nat)) (ds:List (DataW H)) (off:Nat) es,dvF r P fs ds off=some es->bc6 es<=Rows.uptoBulkAll ds:=by
 intro fs
 induction fs with
 | nil=>
  intro ds off es h
  cases ds with
  | nil=>cases h; simp[bc6]
  | cons d ds=>simp[dvF] at h
 | cons f fs ih=>
  intro ds off es h
  cases ds with
  | nil=>simp[dvF] at h
  | cons d ds=>
   simp only[dvF] at h;split at h
   ·split at h
    ·rename_i a ha;split at h
     ·split at h
      ·rename_i b hb;cases h;have h1:=hr _ d a ha;have h2:=ih ds _ b hb;simp only[eo1,Rows.uptoBulkAll];omega
      ·cases h
     ·cases h
    ·cases h
   ·cases h
theorem du2 {P:Program}:∀ (m:Nat) (t:TypeId) (d:DataW H) cs,dv P m t d=some cs->bc6 cs<=Rows.uptoBulk d:=by
 intro m
 induction m with
 | zero=>intro t d cs h; simp[dv] at h
 | succ m ih=>
  intro t d cs h;have h1:=hb8 d;simp only[dv] at h;split at h
  ·cases h; simpa [bc6,isz] using h1
  ·cases h; simpa [bc6,isz] using h1
  ·cases h; simp[bc6,isz,Rows.uptoBulk]
  ·cases h; simpa [bc6,isz] using h1
  ·split at h
   ·cases h; simpa [bc6,isz] using h1
   ·cases h
  ·cases h; simpa [bc6,isz,cn1] using h1
  ·split at h
   ·cases h
   ·split at h
    ·rename_i es he;cases h;have:=hb9 (ih _) _ _ he;simp only[bc6,isz,Rows.uptoBulk];omega
    ·cases h
  ·split at h
   ·rename_i ivs he;split at h
    ·cases h;have:=ew6 (fun t d cs=>ih t d cs) _ _ _ _ he;simp only[Rows.uptoBulk];omega
    ·cases h
   ·cases h
  ·split at h
   ·rename_i ivs he;split at h
    ·cases h;have:=ew6 (fun t d cs=>ih t d cs) _ _ _ _ he;simp only[Rows.uptoBulk];omega
    ·cases h
   ·cases h
  ·split at h
   ·split at h
    ·cases h; simpa [bc6,isz] using h1
    ·cases h
   ·cases h
  ·cases h
theorem jf7 {repos:List al7}{inst:List aa3}(h1:∀ r∈repos,al7.Ok r)(h2:∀ p∈inst,p.Ok)(b1:bc6 [IV.aa5 (repos.map al7.cs)]<=1048576)(b2:bc6 [IV.aa5 (inst.map aa3.cs)]<=1048576):gz7 repos inst:=by
 simp only[bc6,isz] at b1 b2;have l1:=as8 al7.cs (fun r=>by rw[al7.szs]; omega) repos;have l2:=as8 aa3.cs (fun r=>by rw[aa3.szs]; omega) inst;have l3:=gk7 repos;refine ⟨by omega,by omega,by omega,fun r hr=>?_,fun p hp=>?_,h1,h2⟩
 ·have m1:=bs7 al7.cs repos r hr;rw[al7.szs] at m1;have l4:=as8 aa3.cs (fun r=>by rw[aa3.szs]; omega) r.packages;refine ⟨by omega,fun p hp=>gk6 ((h1 r hr).2 p hp) ?_⟩;have:=bs7 aa3.cs r.packages p hp;omega
 ·have:=bs7 aa3.cs inst p hp;exact gk6 (h2 p hp) (by omega)
variable {H:Type} {enc:TypeId×Value->H} {w:World} {base:Nat} {sp:Nat->Bool} {held:Bool}
theorem ig2 {n:Nat}{t:TypeId}{d:DataW H}(hu:Tryz.prog.underlying t=some .bool)(h:Rd enc w base sp held n t d):∃ b,d=.lit (.bool b)/\∀ m,n<=m->dv Tryz.prog m t d=some [.bool b]:=by
 obtain ⟨cs,ps,h⟩:=h;have hn:n≠0:=fun e=>by subst e; simp[DataW.trod] at h
 obtain ⟨b,rfl,hx⟩:=DataW.trod_bool hu h;cases hx;refine ⟨b,rfl,fun m hm=>?_⟩
 cases m with
 | zero=>omega
 | succ m=>simp only[dv,hu]
theorem iv8:Tryz.prog.cellsOf 45=6:=by kernel_rfl
theorem hn8:Tryz.prog.cellsOf 143=2:=by kernel_rfl
theorem jf8:Tryz.prog.cellsOf 27=5:=by kernel_rfl
theorem iv9:Tryz.prog.cellsOf 4=1:=by kernel_rfl
theorem iw1:Tryz.prog.cellsOf 24=1:=by kernel_rfl
theorem ig3:Tryz.prog.cellsOf 25=1:=by kernel_rfl
theorem ig4 {n:Nat}{d:DataW H}(h:Rd enc w base sp held n 43 d)(hw:WT Tryz.prog 43 d):∃ e:Dep,(0<=e.op/\e.op<256)/\∀ m,n<=m->dv Tryz.prog m 43 d=some e.cs:=by
 obtain ⟨n',ds,rfl,rfl,hl,hf⟩:=av4 Tryz.underlying43 h hw
 match ds,hl with
 | [d0,d1,d2],_=>
  obtain ⟨r0,w0⟩:=hf 0 _ d0 rfl rfl;obtain ⟨r1,w1⟩:=hf 1 _ d1 rfl rfl;obtain ⟨r2,w2⟩:=hf 2 _ d2 rfl rfl;obtain ⟨s0,l0,e0⟩:=cu3 Tryz.underlying9 r0 w0;obtain ⟨z,_,hz,e1⟩:=bj9 Tryz.underlying5 r1;obtain ⟨e,l2,e2⟩:=gf2 r2 w2;refine ⟨⟨s0,z,e⟩,iu3 hz,fun m hm=>?_⟩
  cases m with
  | zero=>omega
  | succ m=>
   simp only[dv,Tryz.underlying43,List.map_cons,List.map_nil,dvF,e0 m (by omega),e1 m (by omega),e2 m (by omega),EVR.cs,List.length_cons,List.length_nil,gx8,ie2,ie3,gf3,List.cons_append,List.nil_append,List.append_nil,Nat.reduceAdd,↓reduceIte];rfl
theorem iw2 {n:Nat}{d:DataW H}(h:Rd enc w base sp held n 45 d)(hw:WT Tryz.prog 45 d):∃ j:Job,(0<=j.dep.op/\j.dep.op<256)/\∀ m,n<=m->dv Tryz.prog m 45 d=some j.cs:=by
 obtain ⟨n',ds,rfl,rfl,hl,hf⟩:=av4 Tryz.underlying45 h hw
 match ds,hl with
 | [d0,d1],_=>
  obtain ⟨r0,w0⟩:=hf 0 _ d0 rfl rfl;obtain ⟨r1,w1⟩:=hf 1 _ d1 rfl rfl;obtain ⟨z,_,hz,e0⟩:=bj9 Tryz.underlying5 r0;obtain ⟨e,l1,e1⟩:=ig4 r1 w1;refine ⟨⟨z,e⟩,l1,fun m hm=>?_⟩
  cases m with
  | zero=>omega
  | succ m=>
   simp only[dv,Tryz.underlying45,List.map_cons,List.map_nil,dvF,e0 m (by omega),e1 m (by omega),Dep.cs,List.length_cons,List.length_nil,ie2,gf3,iv8,List.cons_append,List.nil_append,List.append_nil,Nat.reduceAdd,↓reduceIte];rfl
theorem ig5 {n:Nat}{d:DataW H}(h:Rd enc w base sp held n 143 d)(hw:WT Tryz.prog 143 d):∃ e:bb8,True/\∀ m,n<=m->dv Tryz.prog m 143 d=some e.cs:=by
 obtain ⟨n',ds,rfl,rfl,hl,hf⟩:=av4 Tryz.underlying143 h hw
 match ds,hl with
 | [d0,d1],_=>
  obtain ⟨r0,w0⟩:=hf 0 _ d0 rfl rfl;obtain ⟨r1,w1⟩:=hf 1 _ d1 rfl rfl;obtain ⟨z,_,hz,e0⟩:=bj9 Tryz.underlying5 r0;obtain ⟨y,_,hy,e1⟩:=bj9 Tryz.underlying3 r1;refine ⟨⟨z,y⟩,trivial,fun m hm=>?_⟩
  cases m with
  | zero=>omega
  | succ m=>
   simp only[dv,Tryz.underlying143,List.map_cons,List.map_nil,dvF,e0 m (by omega),e1 m (by omega),List.length_cons,List.length_nil,ie2,gx7,hn8,List.cons_append,List.nil_append,List.append_nil,Nat.reduceAdd,↓reduceIte];rfl
theorem ig6 {n:Nat}{d:DataW H}(h:Rd enc w base sp held n 24 d)(hw:WT Tryz.prog 24 d):∃ l:List Job,l.length<2^62/\(∀ j∈l,0<=j.dep.op/\j.dep.op<256)/\∀ m,n<=m->dv Tryz.prog m 24 d=some [be4 l]:=
 az9 Job.cs (fun j=>0<=j.dep.op/\j.dep.op<256) Tryz.underlying24 iv8 (by decide) (by decide +kernel) (fun _=>rfl) (fun _ _ _ hr hw'=>iw2 hr hw') h hw
theorem hc5 {n:Nat}{d:DataW H}(h:Rd enc w base sp held n 25 d)(hw:WT Tryz.prog 25 d):∃ l:List bb8,l.length<2^62/\(∀ j∈l,True)/\∀ m,n<=m->dv Tryz.prog m 25 d=some [au7 l]:=
 az9 bb8.cs (fun _=>True) Tryz.underlying25 hn8 (by decide) (by decide +kernel) (fun _=>rfl) (fun _ _ _ hr hw'=>ig5 hr hw') h hw
theorem ig7 {n:Nat}{d:DataW H}(h:Rd enc w base sp held n 35 d)(hw:WT Tryz.prog 35 d):∃ l:List Int,l.length<2^62/\(∀ j∈l,True)/\∀ m,n<=m->dv Tryz.prog m 35 d=some [.aa5 (l.map Md.ah8)]:=
 az9 Md.ah8 (fun _=>True) Tryz.underlying35 gx7 (by decide) (by decide +kernel) (fun _=>rfl) (fun _ _ _ hr hw'=>by
  obtain ⟨z,_,_,e⟩:=bj9 Tryz.underlying3 hr;exact ⟨z,trivial,e⟩) h hw
theorem iw3 {n:Nat}{d:DataW H}(h:Rd enc w base sp held n 27 d)(hw:WT Tryz.prog 27 d):∃ r:Req,(∀ j∈r.ah4,0<=j.dep.op/\j.dep.op<256)/\∀ m,n<=m->dv Tryz.prog m 27 d=some r.cs:=by
 obtain ⟨n',ds,rfl,rfl,hl,hf⟩:=av4 Tryz.underlying27 h hw
 match ds,hl with
 | [d0,d1,d2,d3,d4],_=>
  obtain ⟨r0,w0⟩:=hf 0 _ d0 rfl rfl;obtain ⟨r1,w1⟩:=hf 1 _ d1 rfl rfl;obtain ⟨r2,w2⟩:=hf 2 _ d2 rfl rfl;obtain ⟨r3,w3⟩:=hf 3 _ d3 rfl rfl;obtain ⟨r4,w4⟩:=hf 4 _ d4 rfl rfl;obtain ⟨x0,_,_,e0⟩:=bj9 Tryz.underlying5 r0;obtain ⟨x1,_,e1⟩:=ig2 Tryz.underlying4 r1;obtain ⟨x2,_,k2,e2⟩:=ig6 r2 w2;obtain ⟨x3,_,_,e3⟩:=hc5 r3 w3;obtain ⟨x4,_,_,e4⟩:=bj9 Tryz.underlying3 r4;refine ⟨⟨x0,x1,x2,x3,x4⟩,k2,fun m hm=>?_⟩
  cases m with
  | zero=>omega
  | succ m=>
   simp only[dv,Tryz.underlying27,List.map_cons,List.map_nil,dvF,e0 m (by omega),e1 m (by omega),e2 m (by omega),e3 m (by omega),e4 m (by omega),List.length_cons,List.length_nil,ie2,iv9,iw1,ig3,gx7,jf8,List.cons_append,List.nil_append,List.append_nil,Nat.reduceAdd,↓reduceIte];rfl
theorem iw4 {r:Req}(h:∀ j∈r.ah4,0<=j.dep.op/\j.dep.op<256)(b:bc6 r.cs<=1048576):du1 r:=by
 have hs:∀ j:Job,bc6 j.cs=j.dep.name.length+j.dep.evr.ver.length+j.dep.evr.rel.length+6:=fun j=>by
  simp only[Job.cs,bc6,isz]; omega
 have he:∀ e:bb8,1<=bc6 e.cs:=fun e=>by simp only[bb8.cs,bc6,isz]; omega
 simp only[Req.cs,bc6,isz] at b;have l1:=as8 Job.cs (fun j=>by rw[hs]; omega) r.ah4;have l2:=as8 bb8.cs he r.ah9;refine ⟨by omega,by omega,fun j hj=>?_⟩;have l3:=bs7 Job.cs r.ah4 j hj;rw[hs] at l3;exact ⟨⟨(h j hj).1,(h j hj).2,by omega,by omega⟩,by omega⟩
theorem ig8 {l:List Int}(b:bc6 [IV.aa5 (l.map Md.ah8)]<=1048576):l.length<2^30:=by
 simp only[bc6,isz] at b;have:=as8 Md.ah8 (fun z=>by simp only[Md.ah8,bc6,isz]; omega) l;omega
end Go.Id.Tryz
