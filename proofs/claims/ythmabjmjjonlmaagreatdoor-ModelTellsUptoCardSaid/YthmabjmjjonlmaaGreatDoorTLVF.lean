/- What a bulk within the bound gives: data whose sizes fit. Conditions: none. -/
import Derived.Test.YthmabjmjjonlmaaGreatDoorUb
import Derived.Test.YthmabjmjjonlmaaGreatDoorRows
import Derived.Test.YthmabjmjjonlmaaGreatDoorTLMD
open List renaming length_cons→za,cons_append→zb,nil_append→zc,length_nil→zd,append_nil→ze,map_cons→zf,map_nil→zh
open Nat renaming reduceAdd→zg
open Option renaming some→zi
set_option linter.all false
set_option maxRecDepth 100000
set_option maxHeartbeats 1000000
private theorem om{P:Prop}(h:P:=by omega):P:=h
namespace Go.Id.Tryz
open Go Go.Id Go.Proofs Go.Id.Md
open Go.Proofs.YthmabjmjjonlmaaGreatDoor
variable {H:Type} {enc:TypeId×Value->H} {w:World} {base:Nat} {sp:Nat->Bool} {held:Bool}
theorem ig8 (d:DataW H):1<=Rows.uptoBulk d:=by
 cases d with
 | lit l=>cases l<;>simp[Rows.uptoBulk]
 | _=>simp[Rows.uptoBulk]
theorem ig9 {r:DataW H->Option (List IV)}{c:Nat}(hr:∀ d cs,r d=zi cs->bd8 cs<=Rows.uptoBulk d):∀ (ds:List (DataW H)) es,dvS r c ds=zi es->cu4 es<=Rows.uptoBulkAll ds:=by
 intro ds
 induction ds with
 | nil=>intro es h; cases h; simp[cu4]
 | cons d ds ih=>
  intro es h;simp only[dvS] at h;split at h
  ·rename_i a ha;split at h
   ·split at h
    ·rename_i b hb;cases h;have h1:=hr d a ha;have h2:=ih b hb;simp only[cu4,Rows.uptoBulkAll];omega
    ·cases h
   ·cases h
  ·cases h
theorem fk3 {r:TypeId->DataW H->Option (List IV)}{P:Program}(hr:∀ t d cs,r t d=zi cs->bd8 cs<=Rows.uptoBulk d):∀ (fs:List (TypeId×Nat)) (ds:List (DataW H)) (off:Nat) es,dvF r P fs ds off=zi es->bd8 es<=Rows.uptoBulkAll ds:=by
 intro fs
 induction fs with
 | nil=>
  intro ds off es h
  cases ds with
  | nil=>cases h; simp[bd8]
  | cons d ds=>simp[dvF] at h
 | cons f fs ih=>
  intro ds off es h
  cases ds with
  | nil=>simp[dvF] at h
  | cons d ds=>
   simp only[dvF] at h;split at h
   ·split at h
    ·rename_i a ha;split at h
     ·split at h
      ·rename_i b hb;cases h;have h1:=hr _ d a ha;have h2:=ih ds _ b hb;simp only[ez4,Rows.uptoBulkAll];omega
      ·cases h
     ·cases h
    ·cases h
   ·cases h
theorem dg2 {P:Program}:∀ (m:Nat) (t:TypeId) (d:DataW H) cs,dv P m t d=zi cs->bd8 cs<=Rows.uptoBulk d:=by
 intro m
 induction m with
 | zero=>intro t d cs h; simp[dv] at h
 | succ m ih=>
  intro t d cs h;have h1:=ig8 d;simp only[dv] at h;split at h
  ·cases h; simpa [bd8,isz] using h1
  ·cases h; simpa [bd8,isz] using h1
  ·cases h; simp[bd8,isz,Rows.uptoBulk]
  ·cases h; simpa [bd8,isz] using h1
  ·split at h
   ·cases h; simpa [bd8,isz] using h1
   ·cases h
  ·cases h; simpa [bd8,isz,cu4] using h1
  ·split at h
   ·cases h
   ·split at h
    ·rename_i es he;cases h;have:=ig9 (ih _) _ _ he;simp only[bd8,isz,Rows.uptoBulk];omega
    ·cases h
  ·split at h
   ·rename_i ivs he;split at h
    ·cases h;have:=fk3 (fun t d cs=>ih t d cs) _ _ _ _ he;simp only[Rows.uptoBulk];omega
    ·cases h
   ·cases h
  ·split at h
   ·rename_i ivs he;split at h
    ·cases h;have:=fk3 (fun t d cs=>ih t d cs) _ _ _ _ he;simp only[Rows.uptoBulk];omega
    ·cases h
   ·cases h
  ·split at h
   ·split at h
    ·cases h; simpa [bd8,isz] using h1
    ·cases h
   ·cases h
  ·cases h
theorem jz2 {repos:List ao2}{inst:List aa3}(h1:∀ r∈repos,ao2.Ok r)(h2:∀ p∈inst,p.Ok)(b1:bd8 [IV.aa4 (repos.map ao2.cs)]<=1048576)(b2:bd8 [IV.aa4 (inst.map aa3.cs)]<=1048576):if4 repos inst:=by
 simp only[bd8,isz] at b1 b2;have l1:=au5 ao2.cs (fun r=>by rw[ao2.szs]; omega) repos;have l2:=au5 aa3.cs (fun r=>by rw[aa3.szs]; omega) inst;have l3:=hb7 repos;refine ⟨om,om,om,fun r hr=>?_,fun p hp=>?_,h1,h2⟩
 ·have m1:=bx9 ao2.cs repos r hr;rw[ao2.szs] at m1;have l4:=au5 aa3.cs (fun r=>by rw[aa3.szs]; omega) r.packages;refine ⟨om,fun p hp=>ha9 ((h1 r hr).2 p hp) ?_⟩;have:=bx9 aa3.cs r.packages p hp;omega
 ·have:=bx9 aa3.cs inst p hp;exact ha9 (h2 p hp) om
end Go.Id.Tryz
namespace Go.Id.Tryz
open Go Go.Id Go.Proofs Go.Id.Md
variable {H:Type} {enc:TypeId×Value->H} {w:World} {base:Nat} {sp:Nat->Bool} {held:Bool}
theorem ja2 {n:Nat}{t:TypeId}{d:DataW H}(hu:Tryz.prog.underlying t=zi .bool)(h:Rd enc w base sp held n t d):∃ b,d=.lit (.bool b)/\∀ m,n<=m->dv Tryz.prog m t d=zi [.bool b]:=by
 obtain ⟨cs,ps,h⟩:=h;have hn:n≠0:=fun e=>by subst e; simp[DataW.trod] at h
 obtain ⟨b,rfl,hx⟩:=DataW.trod_bool hu h;cases hx;refine ⟨b,rfl,fun m hm=>?_⟩
 cases m with
 | zero=>omega
 | succ m=>simp only[dv,hu]
theorem jp3:Tryz.prog.cellsOf 122=6:=by kernel_rfl
theorem in8:Tryz.prog.cellsOf 127=2:=by kernel_rfl
theorem jz3:Tryz.prog.cellsOf 27=5:=by kernel_rfl
theorem jp4:Tryz.prog.cellsOf 4=1:=by kernel_rfl
theorem jp5:Tryz.prog.cellsOf 24=1:=by kernel_rfl
theorem ja3:Tryz.prog.cellsOf 25=1:=by kernel_rfl
theorem ja4 {n:Nat}{d:DataW H}(h:Rd enc w base sp held n 66 d)(hw:WT Tryz.prog 66 d):∃ e:Dep,(0<=e.op/\e.op<256)/\∀ m,n<=m->dv Tryz.prog m 66 d=zi e.cs:=by
 obtain ⟨n',ds,rfl,rfl,hl,hf⟩:=av4 Tryz.underlying66 h hw
 match ds,hl with
 | [d0,d1,d2],_=>
  obtain ⟨r0,w0⟩:=hf 0 _ d0 rfl rfl;obtain ⟨r1,w1⟩:=hf 1 _ d1 rfl rfl;obtain ⟨r2,w2⟩:=hf 2 _ d2 rfl rfl;obtain ⟨s0,l0,e0⟩:=dc1 Tryz.underlying9 r0 w0;obtain ⟨z,_,hz,e1⟩:=be7 Tryz.underlying5 r1;obtain ⟨e,l2,e2⟩:=gu9 r2 w2;refine ⟨⟨s0,z,e⟩,jn4 hz,fun m hm=>?_⟩
  cases m with
  | zero=>omega
  | succ m=>
   simp only[dv,Tryz.underlying66,zf,zh,dvF,e0 m om,e1 m om,e2 m om,EVR.cs,za,zd,id6,im5,iy2,gv2,zb,zc,ze,zg,↓reduceIte];rfl
theorem jp6 {n:Nat}{d:DataW H}(h:Rd enc w base sp held n 122 d)(hw:WT Tryz.prog 122 d):∃ j:Job,(0<=j.dep.op/\j.dep.op<256)/\∀ m,n<=m->dv Tryz.prog m 122 d=zi j.cs:=by
 obtain ⟨n',ds,rfl,rfl,hl,hf⟩:=av4 Tryz.underlying122 h hw
 match ds,hl with
 | [d0,d1],_=>
  obtain ⟨r0,w0⟩:=hf 0 _ d0 rfl rfl;obtain ⟨r1,w1⟩:=hf 1 _ d1 rfl rfl;obtain ⟨z,_,hz,e0⟩:=be7 Tryz.underlying5 r0;obtain ⟨e,l1,e1⟩:=ja4 r1 w1;refine ⟨⟨z,e⟩,l1,fun m hm=>?_⟩
  cases m with
  | zero=>omega
  | succ m=>
   simp only[dv,Tryz.underlying122,zf,zh,dvF,e0 m om,e1 m om,Dep.cs,za,zd,im5,gv2,jp3,zb,zc,ze,zg,↓reduceIte];rfl
theorem ja5 {n:Nat}{d:DataW H}(h:Rd enc w base sp held n 127 d)(hw:WT Tryz.prog 127 d):∃ e:bb4,True/\∀ m,n<=m->dv Tryz.prog m 127 d=zi e.cs:=by
 obtain ⟨n',ds,rfl,rfl,hl,hf⟩:=av4 Tryz.underlying127 h hw
 match ds,hl with
 | [d0,d1],_=>
  obtain ⟨r0,w0⟩:=hf 0 _ d0 rfl rfl;obtain ⟨r1,w1⟩:=hf 1 _ d1 rfl rfl;obtain ⟨z,_,hz,e0⟩:=be7 Tryz.underlying5 r0;obtain ⟨y,_,hy,e1⟩:=be7 Tryz.underlying3 r1;refine ⟨⟨z,y⟩,trivial,fun m hm=>?_⟩
  cases m with
  | zero=>omega
  | succ m=>
   simp only[dv,Tryz.underlying127,zf,zh,dvF,e0 m om,e1 m om,za,zd,im5,gv1,in8,zb,zc,ze,zg,↓reduceIte];rfl
theorem ja6 {n:Nat}{d:DataW H}(h:Rd enc w base sp held n 24 d)(hw:WT Tryz.prog 24 d):∃ l:List Job,l.length<2^62/\(∀ j∈l,0<=j.dep.op/\j.dep.op<256)/\∀ m,n<=m->dv Tryz.prog m 24 d=zi [az8 l]:=
 ba6 Job.cs (fun j=>0<=j.dep.op/\j.dep.op<256) Tryz.underlying24 jp3 (by decide) (by decide +kernel) (fun _=>rfl) (fun _ _ _ hr hw'=>jp6 hr hw') h hw
theorem ih4 {n:Nat}{d:DataW H}(h:Rd enc w base sp held n 25 d)(hw:WT Tryz.prog 25 d):∃ l:List bb4,l.length<2^62/\(∀ j∈l,True)/\∀ m,n<=m->dv Tryz.prog m 25 d=zi [aq1 l]:=
 ba6 bb4.cs (fun _=>True) Tryz.underlying25 in8 (by decide) (by decide +kernel) (fun _=>rfl) (fun _ _ _ hr hw'=>ja5 hr hw') h hw
theorem ja7 {n:Nat}{d:DataW H}(h:Rd enc w base sp held n 28 d)(hw:WT Tryz.prog 28 d):∃ l:List Int,l.length<2^62/\(∀ j∈l,True)/\∀ m,n<=m->dv Tryz.prog m 28 d=zi [.aa4 (l.map Md.ae1)]:=
 ba6 Md.ae1 (fun _=>True) Tryz.underlying28 gv1 (by decide) (by decide +kernel) (fun _=>rfl) (fun _ _ _ hr hw'=>by
  obtain ⟨z,_,_,e⟩:=be7 Tryz.underlying3 hr;exact ⟨z,trivial,e⟩) h hw
theorem jp7 {n:Nat}{d:DataW H}(h:Rd enc w base sp held n 27 d)(hw:WT Tryz.prog 27 d):∃ r:Req,(∀ j∈r.ag6,0<=j.dep.op/\j.dep.op<256)/\∀ m,n<=m->dv Tryz.prog m 27 d=zi r.cs:=by
 obtain ⟨n',ds,rfl,rfl,hl,hf⟩:=av4 Tryz.underlying27 h hw
 match ds,hl with
 | [d0,d1,d2,d3,d4],_=>
  obtain ⟨r0,w0⟩:=hf 0 _ d0 rfl rfl;obtain ⟨r1,w1⟩:=hf 1 _ d1 rfl rfl;obtain ⟨r2,w2⟩:=hf 2 _ d2 rfl rfl;obtain ⟨r3,w3⟩:=hf 3 _ d3 rfl rfl;obtain ⟨r4,w4⟩:=hf 4 _ d4 rfl rfl;obtain ⟨x0,_,_,e0⟩:=be7 Tryz.underlying5 r0;obtain ⟨x1,_,e1⟩:=ja2 Tryz.underlying4 r1;obtain ⟨x2,_,k2,e2⟩:=ja6 r2 w2;obtain ⟨x3,_,_,e3⟩:=ih4 r3 w3;obtain ⟨x4,_,_,e4⟩:=be7 Tryz.underlying3 r4;refine ⟨⟨x0,x1,x2,x3,x4⟩,k2,fun m hm=>?_⟩
  cases m with
  | zero=>omega
  | succ m=>
   simp only[dv,Tryz.underlying27,zf,zh,dvF,e0 m om,e1 m om,e2 m om,e3 m om,e4 m om,za,zd,im5,jp4,jp5,ja3,gv1,jz3,zb,zc,ze,zg,↓reduceIte];rfl
theorem jp8 {r:Req}(h:∀ j∈r.ag6,0<=j.dep.op/\j.dep.op<256)(b:bd8 r.cs<=1048576):eb5 r:=by
 have hs:∀ j:Job,bd8 j.cs=j.dep.name.length+j.dep.evr.ver.length+j.dep.evr.rel.length+6:=fun j=>by
  simp only[Job.cs,bd8,isz]; omega
 have he:∀ e:bb4,1<=bd8 e.cs:=fun e=>by simp only[bb4.cs,bd8,isz]; omega
 simp only[Req.cs,bd8,isz] at b;have l1:=au5 Job.cs (fun j=>by rw[hs]; omega) r.ag6;have l2:=au5 bb4.cs he r.ah6;refine ⟨om,om,fun j hj=>?_⟩;have l3:=bx9 Job.cs r.ag6 j hj;rw[hs] at l3;exact ⟨⟨(h j hj).1,(h j hj).2,om,om⟩,om⟩
theorem ja8 {l:List Int}(b:bd8 [IV.aa4 (l.map Md.ae1)]<=1048576):l.length<2^30:=by
 simp only[bd8,isz] at b;have:=au5 Md.ae1 (fun z=>by simp only[Md.ae1,bd8,isz]; omega) l;omega
end Go.Id.Tryz
namespace Go.Id.Tryz
open Go Go.Id Go.Proofs Go.Id.Md
variable {H:Type} {enc:TypeId×Value->H} {w:World} {base:Nat} {sp:Nat->Bool} {held:Bool}
theorem jp9:Tryz.prog.cellsOf 48=3:=by kernel_rfl
theorem ja9 {n:Nat}{d:DataW H}(h:Rd enc w base sp held n 48 d)(hw:WT Tryz.prog 48 d):∃ e:Itm,True/\∀ m,n<=m->dv Tryz.prog m 48 d=zi e.cs:=by
 obtain ⟨n',ds,rfl,rfl,hl,hf⟩:=av4 Tryz.underlying48 h hw
 match ds,hl with
 | [d0,d1,d2],_=>
  obtain ⟨r0,w0⟩:=hf 0 _ d0 rfl rfl;obtain ⟨r1,w1⟩:=hf 1 _ d1 rfl rfl;obtain ⟨r2,w2⟩:=hf 2 _ d2 rfl rfl;obtain ⟨z,_,hz,e0⟩:=be7 Tryz.underlying5 r0;obtain ⟨y,_,hy,e1⟩:=be7 Tryz.underlying3 r1;obtain ⟨x,_,hx,e2⟩:=be7 Tryz.underlying3 r2;refine ⟨⟨z,y,x⟩,trivial,fun m hm=>?_⟩
  cases m with
  | zero=>omega
  | succ m=>
   simp only[dv,Tryz.underlying48,zf,zh,dvF,e0 m om,e1 m om,e2 m om,za,zd,im5,gv1,jp9,zb,zc,ze,zg,↓reduceIte];rfl
theorem ih5 {n:Nat}{d:DataW H}(h:Rd enc w base sp held n 29 d)(hw:WT Tryz.prog 29 d):∃ l:List Itm,l.length<2^62/\(∀ j∈l,True)/\∀ m,n<=m->dv Tryz.prog m 29 d=zi [aj8 l]:=
 ba6 Itm.cs (fun _=>True) Tryz.underlying29 jp9 (by decide) (by decide +kernel) (fun _=>rfl) (fun _ _ _ hr hw'=>ja9 hr hw') h hw
theorem ha8 {l:List Itm}(b:bd8 [aj8 l]<=1048576):l.length<2^30:=by
 simp only[bd8,isz] at b;have:=au5 Itm.cs (fun z=>by simp only[Itm.cs,bd8,isz]; omega) l;omega
end Go.Id.Tryz
