/- What a bulk within the bound gives: data whose sizes fit. Conditions: none. -/
import Derived.Test.YtcdomcibjgbalaaGreatDoorUb
import Derived.Test.YtcdomcibjgbalaaGreatDoorRows
import Derived.Test.YtcdomcibjgbalaaGreatDoorTHYY
import Derived.Test.YtcdomcibjgbalaaGreatDoorTHNA
open List renaming length_cons→za,cons_append→zb,nil_append→zc,length_nil→zd,append_nil→ze,map_cons→zf,map_nil→zh
open Nat renaming reduceAdd→zg
open Option renaming some→zi
set_option linter.all false
set_option maxRecDepth 100000
set_option maxHeartbeats 1000000
private theorem om{P:Prop}(h:P:=by omega):P:=h
namespace Go.Id.Tryz
open Go Go.Id Go.Proofs Go.Id.Md
open Go.Proofs.YtcdomcibjgbalaaGreatDoor
variable {H:Type} {enc:TypeId×Value->H} {w:World} {base:Nat} {sp:Nat->Bool} {held:Bool}
theorem io5 (d:DataW H):1<=Rows.uptoBulk d:=by
 cases d with
 | lit l=>cases l<;>simp[Rows.uptoBulk]
 | _=>simp[Rows.uptoBulk]
theorem io6 {r:DataW H->Option (List IV)}{c:Nat}(hr:∀d cs,r d=zi cs->be7 cs<=Rows.uptoBulk d):∀(ds:List (DataW H)) es,dvS r c ds=zi es->cw2 es<=Rows.uptoBulkAll ds:=by
 intro ds
 induction ds with
 | nil=>intro es h;cases h;simp[cw2]
 | cons d ds ih=>
  intro es h;simp only[dvS] at h;split at h
  ·rename_i a ha;split at h
   ·split at h
    ·rename_i b hb;cases h;have h1:=hr d a ha;have h2:=ih b hb;simp only[cw2,Rows.uptoBulkAll];omega
    ·cases h
   ·cases h
  ·cases h
theorem fp9 {r:TypeId->DataW H->Option (List IV)}{P:Program}(hr:∀t d cs,r t d=zi cs->be7 cs<=Rows.uptoBulk d):∀(fs:List (TypeId×Nat)) (ds:List (DataW H)) (off:Nat) es,dvF r P fs ds off=zi es->be7 es<=Rows.uptoBulkAll ds:=by
 intro fs
 induction fs with
 | nil=>
  intro ds off es h
  cases ds with
  | nil=>cases h;simp[be7]
  | cons d ds=>simp[dvF] at h
 | cons f fs ih=>
  intro ds off es h
  cases ds with
  | nil=>simp[dvF] at h
  | cons d ds=>
   simp only[dvF] at h;split at h
   ·split at h
    ·rename_i a ha;split at h
     ·split at h
      ·rename_i b hb;cases h;have h1:=hr _ d a ha;have h2:=ih ds _ b hb;simp only[fd9,Rows.uptoBulkAll];omega
      ·cases h
     ·cases h
    ·cases h
   ·cases h
theorem eg4 {P:Program}:∀(m:Nat) (t:TypeId) (d:DataW H) cs,dv P m t d=zi cs->be7 cs<=Rows.uptoBulk d:=by
 intro m
 induction m with
 | zero=>intro t d cs h;simp[dv] at h
 | succ m ih=>
  intro t d cs h;have h1:=io5 d;simp only[dv] at h;split at h
  ·cases h;simpa [be7,isz] using h1
  ·cases h;simpa [be7,isz] using h1
  ·cases h;simp[be7,isz,Rows.uptoBulk]
  ·cases h;simpa [be7,isz] using h1
  ·split at h
   ·cases h;simpa [be7,isz] using h1
   ·cases h
  ·cases h;simpa [be7,isz,cw2] using h1
  ·split at h
   ·cases h
   ·split at h
    ·rename_i es he;cases h;have:=io6 (ih _) _ _ he;simp only[be7,isz,Rows.uptoBulk];omega
    ·cases h
  ·split at h
   ·rename_i ivs he;split at h
    ·cases h;have:=fp9 (λt d cs=>ih t d cs) _ _ _ _ he;simp only[Rows.uptoBulk];omega
    ·cases h
   ·cases h
  ·split at h
   ·rename_i ivs he;split at h
    ·cases h;have:=fp9 (λt d cs=>ih t d cs) _ _ _ _ he;simp only[Rows.uptoBulk];omega
    ·cases h
   ·cases h
  ·split at h
   ·split at h
    ·cases h;simpa [be7,isz] using h1
    ·cases h
   ·cases h
  ·cases h
theorem kj6 {repos:List ao2}{inst:List aa2}(h1:∀r∈repos,ao2.Ok r)(h2:∀p∈inst,p.Ok)(b1:be7 [IV.aa3 (repos.map ao2.cs)]<=1048576)(b2:be7 [IV.aa3 (inst.map aa2.cs)]<=1048576):jh3 repos inst:=by
 simp only[be7,isz] at b1 b2;have l1:=at6 ao2.cs (λr=>by rw[ao2.szs];omega) repos;have l2:=at6 aa2.cs (λr=>by rw[aa2.szs];omega) inst;have l3:=ho6 repos;refine ⟨om,om,om,λr hr=>?_,λp hp=>?_,h1,h2⟩
 ·have m1:=bx3 ao2.cs repos r hr;rw[ao2.szs] at m1;have l4:=at6 aa2.cs (λr=>by rw[aa2.szs];omega) r.packages;refine ⟨om,λp hp=>ho5 ((h1 r hr).2 p hp) ?_⟩;have:=bx3 aa2.cs r.packages p hp;omega
 ·have:=bx3 aa2.cs inst p hp;exact ho5 (h2 p hp) om
end Go.Id.Tryz
namespace Go.Id.Tryz
open Go Go.Id Go.Proofs Go.Id.Md
variable {H:Type} {enc:TypeId×Value->H} {w:World} {base:Nat} {sp:Nat->Bool} {held:Bool}
theorem hn9 {n:Nat}{t:TypeId}{d:DataW H}(hu:Tryz.prog.underlying t=zi .bool)(h:Rd enc w base sp held n t d):∃b,d=.lit (.bool b)/\∀m,n<=m->dv Tryz.prog m t d=zi [.bool b]:=by
 obtain ⟨cs,ps,h⟩:=h;have hn:n≠0:=λe=>by subst e;simp[DataW.trod] at h
 obtain ⟨b,rfl,hx⟩:=DataW.trod_bool hu h;cases hx;refine ⟨b,rfl,λm hm=>?_⟩
 cases m with
 | zero=>omega
 | succ m=>simp only[dv,hu]
theorem jy8:Tryz.prog.cellsOf 101=6:=by kernel_rfl
theorem iw3:Tryz.prog.cellsOf 119=2:=by kernel_rfl
theorem kj7:Tryz.prog.cellsOf 27=5:=by kernel_rfl
theorem iw4:Tryz.prog.cellsOf 4=1:=by kernel_rfl
theorem jy9:Tryz.prog.cellsOf 24=1:=by kernel_rfl
theorem jj1:Tryz.prog.cellsOf 25=1:=by kernel_rfl
theorem jj2 {n:Nat}{d:DataW H}(h:Rd enc w base sp held n 67 d)(hw:WT Tryz.prog 67 d):∃e:Dep,(0<=e.op/\e.op<256)/\∀m,n<=m->dv Tryz.prog m 67 d=zi e.cs:=by
 obtain ⟨n',ds,rfl,rfl,hl,hf⟩:=av6 Tryz.underlying67 h hw
 match ds,hl with
 | [d0,d1,d2],_=>
  obtain ⟨r0,w0⟩:=hf 0 _ d0 rfl rfl;obtain ⟨r1,w1⟩:=hf 1 _ d1 rfl rfl;obtain ⟨r2,w2⟩:=hf 2 _ d2 rfl rfl;obtain ⟨s0,l0,e0⟩:=dd5 Tryz.underlying9 r0 w0;obtain ⟨z,_,hz,e1⟩:=bp8 Tryz.underlying5 r1;obtain ⟨e,l2,e2⟩:=hc5 r2 w2;refine ⟨⟨s0,z,e⟩,jv6 hz,λm hm=>?_⟩
  cases m with
  | zero=>omega
  | succ m=>
   simp only[dv,Tryz.underlying67,zf,zh,dvF,e0 m om,e1 m om,e2 m om,EVR.cs,za,zd,ik9,jg5,jg6,hc7,zb,zc,ze,zg,↓reduceIte];rfl
theorem jz2 {n:Nat}{d:DataW H}(h:Rd enc w base sp held n 101 d)(hw:WT Tryz.prog 101 d):∃j:Job,(0<=j.dep.op/\j.dep.op<256)/\∀m,n<=m->dv Tryz.prog m 101 d=zi j.cs:=by
 obtain ⟨n',ds,rfl,rfl,hl,hf⟩:=av6 Tryz.underlying101 h hw
 match ds,hl with
 | [d0,d1],_=>
  obtain ⟨r0,w0⟩:=hf 0 _ d0 rfl rfl;obtain ⟨r1,w1⟩:=hf 1 _ d1 rfl rfl;obtain ⟨z,_,hz,e0⟩:=bp8 Tryz.underlying5 r0;obtain ⟨e,l1,e1⟩:=jj2 r1 w1;refine ⟨⟨z,e⟩,l1,λm hm=>?_⟩
  cases m with
  | zero=>omega
  | succ m=>
   simp only[dv,Tryz.underlying101,zf,zh,dvF,e0 m om,e1 m om,Dep.cs,za,zd,jg5,hc7,jy8,zb,zc,ze,zg,↓reduceIte];rfl
theorem jj3 {n:Nat}{d:DataW H}(h:Rd enc w base sp held n 119 d)(hw:WT Tryz.prog 119 d):∃e:az4,True/\∀m,n<=m->dv Tryz.prog m 119 d=zi e.cs:=by
 obtain ⟨n',ds,rfl,rfl,hl,hf⟩:=av6 Tryz.underlying119 h hw
 match ds,hl with
 | [d0,d1],_=>
  obtain ⟨r0,w0⟩:=hf 0 _ d0 rfl rfl;obtain ⟨r1,w1⟩:=hf 1 _ d1 rfl rfl;obtain ⟨z,_,hz,e0⟩:=bp8 Tryz.underlying5 r0;obtain ⟨y,_,hy,e1⟩:=bp8 Tryz.underlying3 r1;refine ⟨⟨z,y⟩,trivial,λm hm=>?_⟩
  cases m with
  | zero=>omega
  | succ m=>
   simp only[dv,Tryz.underlying119,zf,zh,dvF,e0 m om,e1 m om,za,zd,jg5,jg4,iw3,zb,zc,ze,zg,↓reduceIte];rfl
theorem jj4 {n:Nat}{d:DataW H}(h:Rd enc w base sp held n 24 d)(hw:WT Tryz.prog 24 d):∃l:List Job,l.length<2^62/\(∀j∈l,0<=j.dep.op/\j.dep.op<256)/\∀m,n<=m->dv Tryz.prog m 24 d=zi [as5 l]:=
 bb3 Job.cs (λj=>0<=j.dep.op/\j.dep.op<256) Tryz.underlying24 jy8 (by decide) (by decide +kernel) (λ_=>rfl) (λ_ _ _ hr hw'=>jz2 hr hw') h hw
theorem io7 {n:Nat}{d:DataW H}(h:Rd enc w base sp held n 25 d)(hw:WT Tryz.prog 25 d):∃l:List az4,l.length<2^62/\(∀j∈l,True)/\∀m,n<=m->dv Tryz.prog m 25 d=zi [ao7 l]:=
 bb3 az4.cs (λ_=>True) Tryz.underlying25 iw3 (by decide) (by decide +kernel) (λ_=>rfl) (λ_ _ _ hr hw'=>jj3 hr hw') h hw
theorem jz3 {n:Nat}{d:DataW H}(h:Rd enc w base sp held n 27 d)(hw:WT Tryz.prog 27 d):∃r:Req,(∀j∈r.af2,0<=j.dep.op/\j.dep.op<256)/\∀m,n<=m->dv Tryz.prog m 27 d=zi r.cs:=by
 obtain ⟨n',ds,rfl,rfl,hl,hf⟩:=av6 Tryz.underlying27 h hw
 match ds,hl with
 | [d0,d1,d2,d3,d4],_=>
  obtain ⟨r0,w0⟩:=hf 0 _ d0 rfl rfl;obtain ⟨r1,w1⟩:=hf 1 _ d1 rfl rfl;obtain ⟨r2,w2⟩:=hf 2 _ d2 rfl rfl;obtain ⟨r3,w3⟩:=hf 3 _ d3 rfl rfl;obtain ⟨r4,w4⟩:=hf 4 _ d4 rfl rfl;obtain ⟨x0,_,_,e0⟩:=bp8 Tryz.underlying5 r0;obtain ⟨x1,_,e1⟩:=hn9 Tryz.underlying4 r1;obtain ⟨x2,_,k2,e2⟩:=jj4 r2 w2;obtain ⟨x3,_,_,e3⟩:=io7 r3 w3;obtain ⟨x4,_,_,e4⟩:=bp8 Tryz.underlying3 r4;refine ⟨⟨x0,x1,x2,x3,x4⟩,k2,λm hm=>?_⟩
  cases m with
  | zero=>omega
  | succ m=>
   simp only[dv,Tryz.underlying27,zf,zh,dvF,e0 m om,e1 m om,e2 m om,e3 m om,e4 m om,za,zd,jg5,iw4,jy9,jj1,jg4,kj7,zb,zc,ze,zg,↓reduceIte];rfl
theorem jz4 {r:Req}(h:∀j∈r.af2,0<=j.dep.op/\j.dep.op<256)(b:be7 r.cs<=1048576):en6 r:=by
 have hs:∀j:Job,be7 j.cs=j.dep.name.length+j.dep.evr.ver.length+j.dep.evr.rel.length+6:=λj=>by
  simp only[Job.cs,be7,isz];omega
 have he:∀e:az4,1<=be7 e.cs:=λe=>by simp only[az4.cs,be7,isz];omega
 simp only[Req.cs,be7,isz] at b;have l1:=at6 Job.cs (λj=>by rw[hs];omega) r.af2;have l2:=at6 az4.cs he r.ag5;refine ⟨om,om,λj hj=>?_⟩;have l3:=bx3 Job.cs r.af2 j hj;rw[hs] at l3;exact ⟨⟨(h j hj).1,(h j hj).2,om,om⟩,om⟩
end Go.Id.Tryz
namespace Go.Id.Tryz
open Go Go.Id Go.Proofs Go.Id.Md
variable {H:Type} {enc:TypeId×Value->H} {w:World} {base:Nat} {sp:Nat->Bool} {held:Bool}
theorem io8 {n:Nat}{d:DataW H}(h:Rd enc w base sp held n 28 d)(hw:WT Tryz.prog 28 d):∃l:List Bool,l.length<2^62/\(∀j∈l,True)/\∀m,n<=m->dv Tryz.prog m 28 d=zi [be3 l]:=
 bb3 ec3 (λ_=>True) Tryz.underlying28 iw4 (by decide) (by decide +kernel) (λ_=>rfl) (λ_ _ _ hr hw'=>by
  obtain ⟨b,_,e⟩:=hn9 Tryz.underlying4 hr;exact ⟨b,trivial,e⟩) h hw
theorem io9 {l:List Bool}(b:be7 [be3 l]<=1048576):l.length<2^30:=by
 unfold be3 at b;simp only[be7,isz] at b;have:=at6 ec3 (λz=>by simp only[ec3,be7,isz];omega) l;omega
end Go.Id.Tryz
