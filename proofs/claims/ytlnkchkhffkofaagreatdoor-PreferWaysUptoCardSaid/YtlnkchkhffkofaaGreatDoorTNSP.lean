/- What a bulk within the bound gives: data whose sizes fit. Conditions: none. -/
import Derived.Test.YtlnkchkhffkofaaGreatDoorUb
import Derived.Test.YtlnkchkhffkofaaGreatDoorRows
import Derived.Test.YtlnkchkhffkofaaGreatDoorTNTG
set_option linter.all false
namespace Go.Id.Tryz
open Go Go.Id Go.Proofs Go.Id.Md
open Go.Proofs.YtlnkchkhffkofaaGreatDoor
set_option maxRecDepth 100000
variable {H:Type} {enc:TypeId×Value->H} {w:World} {base:Nat} {sp:Nat->Bool} {held:Bool}
theorem gr7 (d:DataW H):1<=Rows.uptoBulk d:=by
 cases d with
 | lit l=>cases l<;>simp[Rows.uptoBulk]
 | _=>simp[Rows.uptoBulk]
theorem gr8 {r:DataW H->Option (List IV)}{c:Nat}(hr:∀ d cs,r d=some cs->bc2 cs<=Rows.uptoBulk d):∀ (ds:List (DataW H)) es,dvS r c ds=some es->ck9 es<=Rows.uptoBulkAll ds:=by
 intro ds
 induction ds with
 | nil=>intro es h; cases h; simp[ck9]
 | cons d ds ih=>
  intro es h;simp only[dvS] at h;split at h
  ·rename_i a ha;split at h
   ·split at h
    ·rename_i b hb;cases h;have h1:=hr d a ha;have h2:=ih b hb;simp only[ck9,Rows.uptoBulkAll];omega
    ·cases h
   ·cases h
  ·cases h
theorem eq3 {r:TypeId->DataW H->Option (List IV)}{P:Program}(hr:∀ t d cs,r t d=some cs->bc2 cs<=Rows.uptoBulk d):∀ (fs:List (TypeId×Nat)) (ds:List (DataW H)) (off:Nat) es,dvF r P fs ds off=some es->bc2 es<=Rows.uptoBulkAll ds:=by
 intro fs
 induction fs with
 | nil=>
  intro ds off es h
  cases ds with
  | nil=>cases h; simp[bc2]
  | cons d ds=>simp[dvF] at h
 | cons f fs ih=>
  intro ds off es h
  cases ds with
  | nil=>simp[dvF] at h
  | cons d ds=>
   simp only[dvF] at h;split at h
   ·split at h
    ·rename_i a ha;split at h
     ·split at h
      ·rename_i b hb;cases h;have h1:=hr _ d a ha;have h2:=ih ds _ b hb;simp only[ek2,Rows.uptoBulkAll];omega
      ·cases h
     ·cases h
    ·cases h
   ·cases h
theorem do1 {P:Program}:∀ (m:Nat) (t:TypeId) (d:DataW H) cs,dv P m t d=some cs->bc2 cs<=Rows.uptoBulk d:=by
 intro m
 induction m with
 | zero=>intro t d cs h; simp[dv] at h
 | succ m ih=>
  intro t d cs h;have h1:=gr7 d;simp only[dv] at h;split at h
  ·cases h; simpa [bc2,isz] using h1
  ·cases h; simpa [bc2,isz] using h1
  ·cases h; simp[bc2,isz,Rows.uptoBulk]
  ·cases h; simpa [bc2,isz] using h1
  ·split at h
   ·cases h; simpa [bc2,isz] using h1
   ·cases h
  ·cases h; simpa [bc2,isz,ck9] using h1
  ·split at h
   ·cases h
   ·split at h
    ·rename_i es he;cases h;have:=gr8 (ih _) _ _ he;simp only[bc2,isz,Rows.uptoBulk];omega
    ·cases h
  ·split at h
   ·rename_i ivs he;split at h
    ·cases h;have:=eq3 (fun t d cs=>ih t d cs) _ _ _ _ he;simp only[Rows.uptoBulk];omega
    ·cases h
   ·cases h
  ·split at h
   ·rename_i ivs he;split at h
    ·cases h;have:=eq3 (fun t d cs=>ih t d cs) _ _ _ _ he;simp only[Rows.uptoBulk];omega
    ·cases h
   ·cases h
  ·split at h
   ·split at h
    ·cases h; simpa [bc2,isz] using h1
    ·cases h
   ·cases h
  ·cases h
theorem iy8 {ab5:List al1}{inst:List aa2}(h1:∀ r∈ab5,al1.Ok r)(h2:∀ p∈inst,p.Ok)(b1:bc2 [IV.aa3 (ab5.map al1.cs)]<=1048576)(b2:bc2 [IV.aa3 (inst.map aa2.cs)]<=1048576):gy5 ab5 inst:=by
 simp only[bc2,isz] at b1 b2;have l1:=au1 al1.cs (fun r=>by rw[al1.szs]; omega) ab5;have l2:=au1 aa2.cs (fun r=>by rw[aa2.szs]; omega) inst;have l3:=ge3 ab5;refine ⟨by omega,by omega,by omega,fun r hr=>?_,fun p hp=>?_,h1,h2⟩
 ·have m1:=bp7 al1.cs ab5 r hr;rw[al1.szs] at m1;have l4:=au1 aa2.cs (fun r=>by rw[aa2.szs]; omega) r.packages;refine ⟨by omega,fun p hp=>ge2 ((h1 r hr).2 p hp) ?_⟩;have:=bp7 aa2.cs r.packages p hp;omega
 ·have:=bp7 aa2.cs inst p hp;exact ge2 (h2 p hp) (by omega)
variable {H:Type} {enc:TypeId×Value->H} {w:World} {base:Nat} {sp:Nat->Bool} {held:Bool}
theorem ht4 {n:Nat}{t:TypeId}{d:DataW H}(hu:Tryz.prog.underlying t=some .bool)(h:Rd enc w base sp held n t d):∃ b,d=.lit (.bool b)/\∀ m,n<=m->dv Tryz.prog m t d=some [.bool b]:=by
 obtain ⟨cs,ps,h⟩:=h;have hn:n≠0:=fun e=>by subst e; simp[DataW.trod] at h
 obtain ⟨b,rfl,hx⟩:=DataW.trod_bool hu h;cases hx;refine ⟨b,rfl,fun m hm=>?_⟩
 cases m with
 | zero=>omega
 | succ m=>simp only[dv,hu]
theorem in6:Tryz.prog.cellsOf 146=6:=by kernel_rfl
theorem gy7:Tryz.prog.cellsOf 150=2:=by kernel_rfl
theorem iy9:Tryz.prog.cellsOf 43=5:=by kernel_rfl
theorem in7:Tryz.prog.cellsOf 4=1:=by kernel_rfl
theorem in8:Tryz.prog.cellsOf 40=1:=by kernel_rfl
theorem ht5:Tryz.prog.cellsOf 41=1:=by kernel_rfl
theorem ht6 {n:Nat}{d:DataW H}(h:Rd enc w base sp held n 117 d)(hw:WT Tryz.prog 117 d):∃ e:Dep,(0<=e.op/\e.op<256)/\∀ m,n<=m->dv Tryz.prog m 117 d=some e.cs:=by
 obtain ⟨n',ds,rfl,rfl,hl,hf⟩:=as9 Tryz.underlying117 h hw
 match ds,hl with
 | [d0,d1,d2],_=>
  obtain ⟨r0,w0⟩:=hf 0 _ d0 rfl rfl;obtain ⟨r1,w1⟩:=hf 1 _ d1 rfl rfl;obtain ⟨r2,w2⟩:=hf 2 _ d2 rfl rfl;obtain ⟨s0,l0,e0⟩:=cr3 Tryz.underlying9 r0 w0;obtain ⟨z,_,hz,e1⟩:=bg1 Tryz.underlying5 r1;obtain ⟨e,l2,e2⟩:=fw3 r2 w2;refine ⟨⟨s0,z,e⟩,im3 hz,fun m hm=>?_⟩
  cases m with
  | zero=>omega
  | succ m=>
   simp only[dv,Tryz.underlying117,List.map_cons,List.map_nil,dvF,e0 m (by omega),e1 m (by omega),e2 m (by omega),EVR.cs,List.length_cons,List.length_nil,gp4,ho9,hp4,fw4,List.cons_append,List.nil_append,List.append_nil,Nat.reduceAdd,↓reduceIte];rfl
theorem in9 {n:Nat}{d:DataW H}(h:Rd enc w base sp held n 146 d)(hw:WT Tryz.prog 146 d):∃ j:Job,(0<=j.dep.op/\j.dep.op<256)/\∀ m,n<=m->dv Tryz.prog m 146 d=some j.cs:=by
 obtain ⟨n',ds,rfl,rfl,hl,hf⟩:=as9 Tryz.underlying146 h hw
 match ds,hl with
 | [d0,d1],_=>
  obtain ⟨r0,w0⟩:=hf 0 _ d0 rfl rfl;obtain ⟨r1,w1⟩:=hf 1 _ d1 rfl rfl;obtain ⟨z,_,hz,e0⟩:=bg1 Tryz.underlying5 r0;obtain ⟨e,l1,e1⟩:=ht6 r1 w1;refine ⟨⟨z,e⟩,l1,fun m hm=>?_⟩
  cases m with
  | zero=>omega
  | succ m=>
   simp only[dv,Tryz.underlying146,List.map_cons,List.map_nil,dvF,e0 m (by omega),e1 m (by omega),Dep.cs,List.length_cons,List.length_nil,ho9,fw4,in6,List.cons_append,List.nil_append,List.append_nil,Nat.reduceAdd,↓reduceIte];rfl
theorem ht7 {n:Nat}{d:DataW H}(h:Rd enc w base sp held n 150 d)(hw:WT Tryz.prog 150 d):∃ e:ba2,True/\∀ m,n<=m->dv Tryz.prog m 150 d=some e.cs:=by
 obtain ⟨n',ds,rfl,rfl,hl,hf⟩:=as9 Tryz.underlying150 h hw
 match ds,hl with
 | [d0,d1],_=>
  obtain ⟨r0,w0⟩:=hf 0 _ d0 rfl rfl;obtain ⟨r1,w1⟩:=hf 1 _ d1 rfl rfl;obtain ⟨z,_,hz,e0⟩:=bg1 Tryz.underlying5 r0;obtain ⟨y,_,hy,e1⟩:=bg1 Tryz.underlying3 r1;refine ⟨⟨z,y⟩,trivial,fun m hm=>?_⟩
  cases m with
  | zero=>omega
  | succ m=>
   simp only[dv,Tryz.underlying150,List.map_cons,List.map_nil,dvF,e0 m (by omega),e1 m (by omega),List.length_cons,List.length_nil,ho9,ho8,gy7,List.cons_append,List.nil_append,List.append_nil,Nat.reduceAdd,↓reduceIte];rfl
theorem ht8 {n:Nat}{d:DataW H}(h:Rd enc w base sp held n 40 d)(hw:WT Tryz.prog 40 d):∃ l:List Job,l.length<2^62/\(∀ j∈l,0<=j.dep.op/\j.dep.op<256)/\∀ m,n<=m->dv Tryz.prog m 40 d=some [bs3 l]:=
 bb1 Job.cs (fun j=>0<=j.dep.op/\j.dep.op<256) Tryz.underlying40 in6 (by decide) (by decide +kernel) (fun _=>rfl) (fun _ _ _ hr hw'=>in9 hr hw') h hw
theorem gr9 {n:Nat}{d:DataW H}(h:Rd enc w base sp held n 41 d)(hw:WT Tryz.prog 41 d):∃ l:List ba2,l.length<2^62/\(∀ j∈l,True)/\∀ m,n<=m->dv Tryz.prog m 41 d=some [aw6 l]:=
 bb1 ba2.cs (fun _=>True) Tryz.underlying41 gy7 (by decide) (by decide +kernel) (fun _=>rfl) (fun _ _ _ hr hw'=>ht7 hr hw') h hw
theorem io1 {n:Nat}{d:DataW H}(h:Rd enc w base sp held n 3 d)(hw:WT Tryz.prog 3 d):∃ z:Int,∀ m,n<=m->dv Tryz.prog m 3 d=some [.int .i64 z]:=by
 obtain ⟨z,_,_,e⟩:=bg1 Tryz.underlying3 h;exact ⟨z,e⟩
theorem io2 {n:Nat}{d:DataW H}(h:Rd enc w base sp held n 43 d)(hw:WT Tryz.prog 43 d):∃ r:Req,(∀ j∈r.an2,0<=j.dep.op/\j.dep.op<256)/\∀ m,n<=m->dv Tryz.prog m 43 d=some r.cs:=by
 obtain ⟨n',ds,rfl,rfl,hl,hf⟩:=as9 Tryz.underlying43 h hw
 match ds,hl with
 | [d0,d1,d2,d3,d4],_=>
  obtain ⟨r0,w0⟩:=hf 0 _ d0 rfl rfl;obtain ⟨r1,w1⟩:=hf 1 _ d1 rfl rfl;obtain ⟨r2,w2⟩:=hf 2 _ d2 rfl rfl;obtain ⟨r3,w3⟩:=hf 3 _ d3 rfl rfl;obtain ⟨r4,w4⟩:=hf 4 _ d4 rfl rfl;obtain ⟨x0,_,_,e0⟩:=bg1 Tryz.underlying5 r0;obtain ⟨x1,_,e1⟩:=ht4 Tryz.underlying4 r1;obtain ⟨x2,_,k2,e2⟩:=ht8 r2 w2;obtain ⟨x3,_,_,e3⟩:=gr9 r3 w3;obtain ⟨x4,_,_,e4⟩:=bg1 Tryz.underlying3 r4;refine ⟨⟨x0,x1,x2,x3,x4⟩,k2,fun m hm=>?_⟩
  cases m with
  | zero=>omega
  | succ m=>
   simp only[dv,Tryz.underlying43,List.map_cons,List.map_nil,dvF,e0 m (by omega),e1 m (by omega),e2 m (by omega),e3 m (by omega),e4 m (by omega),List.length_cons,List.length_nil,ho9,in7,in8,ht5,ho8,iy9,List.cons_append,List.nil_append,List.append_nil,Nat.reduceAdd,↓reduceIte];rfl
theorem io3 {r:Req}(h:∀ j∈r.an2,0<=j.dep.op/\j.dep.op<256)(b:bc2 r.cs<=1048576):ei8 r:=by
 have hs:∀ j:Job,bc2 j.cs=j.dep.name.length+j.dep.evr.ver.length+j.dep.evr.rel.length+6:=fun j=>by
  simp only[Job.cs,bc2,isz]; omega
 have he:∀ e:ba2,1<=bc2 e.cs:=fun e=>by simp only[ba2.cs,bc2,isz]; omega
 simp only[Req.cs,bc2,isz] at b;have l1:=au1 Job.cs (fun j=>by rw[hs]; omega) r.an2;have l2:=au1 ba2.cs he r.al4;refine ⟨by omega,by omega,fun j hj=>?_⟩;have l3:=bp7 Job.cs r.an2 j hj;rw[hs] at l3;exact ⟨⟨(h j hj).1,(h j hj).2,by omega,by omega⟩,by omega⟩
end Go.Id.Tryz
