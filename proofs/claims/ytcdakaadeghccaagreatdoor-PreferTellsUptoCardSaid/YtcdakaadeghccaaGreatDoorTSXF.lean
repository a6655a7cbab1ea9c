/- What a bulk within the bound gives: data whose sizes fit. Conditions: none. -/
import Derived.Test.YtcdakaadeghccaaGreatDoorUb
import Derived.Test.YtcdakaadeghccaaGreatDoorRows
import Derived.Test.YtcdakaadeghccaaGreatDoorTSXC
open List renaming length_nil→za,length_cons→zb,cons_append→zc,nil_append→zd,append_nil→ze,map_cons→zf,map_nil→zh
open Nat renaming reduceAdd→zg
open Option renaming some→zi
set_option linter.all false
set_option maxRecDepth 100000
set_option maxHeartbeats 1000000
private theorem om{P:Prop}(h:P:=by omega):P:=h
namespace Go.Id.Tryz
open Go Go.Id Go.Proofs Go.Id.Md
open Go.Proofs.YtcdakaadeghccaaGreatDoor
variable {H:Type} {enc:TypeId×Value->H} {w:World} {base:Nat} {sp:Nat->Bool} {held:Bool}
theorem hy8 (d:DataW H):1<=Rows.uptoBulk d:=by
 cases d with
 | lit l=>cases l<;>simp[Rows.uptoBulk]
 | _=>simp[Rows.uptoBulk]
theorem hy9 {r:DataW H->Option (List IV)}{c:Nat}(hr:∀ d cs,r d=zi cs->bc1 cs<=Rows.uptoBulk d):∀ (ds:List (DataW H)) es,dvS r c ds=zi es->cr7 es<=Rows.uptoBulkAll ds:=by
 intro ds
 induction ds with
 | nil=>intro es h; cases h; simp[cr7]
 | cons d ds ih=>
  intro es h;simp only[dvS] at h;split at h
  ·rename_i a ha;split at h
   ·split at h
    ·rename_i b hb;cases h;have h1:=hr d a ha;have h2:=ih b hb;simp only[cr7,Rows.uptoBulkAll];omega
    ·cases h
   ·cases h
  ·cases h
theorem fe3 {r:TypeId->DataW H->Option (List IV)}{P:Program}(hr:∀ t d cs,r t d=zi cs->bc1 cs<=Rows.uptoBulk d):∀ (fs:List (TypeId×Nat)) (ds:List (DataW H)) (off:Nat) es,dvF r P fs ds off=zi es->bc1 es<=Rows.uptoBulkAll ds:=by
 intro fs
 induction fs with
 | nil=>
  intro ds off es h
  cases ds with
  | nil=>cases h; simp[bc1]
  | cons d ds=>simp[dvF] at h
 | cons f fs ih=>
  intro ds off es h
  cases ds with
  | nil=>simp[dvF] at h
  | cons d ds=>
   simp only[dvF] at h;split at h
   ·split at h
    ·rename_i a ha;split at h
     ·split at h
      ·rename_i b hb;cases h;have h1:=hr _ d a ha;have h2:=ih ds _ b hb;simp only[et9,Rows.uptoBulkAll];omega
      ·cases h
     ·cases h
    ·cases h
   ·cases h
theorem cp4 {P:Program}:∀ (m:Nat) (t:TypeId) (d:DataW H) cs,dv P m t d=zi cs->bc1 cs<=Rows.uptoBulk d:=by
 intro m
 induction m with
 | zero=>intro t d cs h; simp[dv] at h
 | succ m ih=>
  intro t d cs h;have h1:=hy8 d;simp only[dv] at h;split at h
  ·cases h; simpa [bc1,isz] using h1
  ·cases h; simpa [bc1,isz] using h1
  ·cases h; simp[bc1,isz,Rows.uptoBulk]
  ·cases h; simpa [bc1,isz] using h1
  ·split at h
   ·cases h; simpa [bc1,isz] using h1
   ·cases h
  ·cases h; simpa [bc1,isz,cr7] using h1
  ·split at h
   ·cases h
   ·split at h
    ·rename_i es he;cases h;have:=hy9 (ih _) _ _ he;simp only[bc1,isz,Rows.uptoBulk];omega
    ·cases h
  ·split at h
   ·rename_i ivs he;split at h
    ·cases h;have:=fe3 (fun t d cs=>ih t d cs) _ _ _ _ he;simp only[Rows.uptoBulk];omega
    ·cases h
   ·cases h
  ·split at h
   ·rename_i ivs he;split at h
    ·cases h;have:=fe3 (fun t d cs=>ih t d cs) _ _ _ _ he;simp only[Rows.uptoBulk];omega
    ·cases h
   ·cases h
  ·split at h
   ·split at h
    ·cases h; simpa [bc1,isz] using h1
    ·cases h
   ·cases h
  ·cases h
theorem js5 {ab3:List am5}{inst:List aa2}(h1:∀ r∈ab3,am5.Ok r)(h2:∀ p∈inst,p.Ok)(b1:bc1 [IV.aa4 (ab3.map am5.cs)]<=1048576)(b2:bc1 [IV.aa4 (inst.map aa2.cs)]<=1048576):jh2 ab3 inst:=by
 simp only[bc1,isz] at b1 b2;have l1:=as7 am5.cs (fun r=>by rw[am5.szs]; omega) ab3;have l2:=as7 aa2.cs (fun r=>by rw[aa2.szs]; omega) inst;have l3:=gs8 ab3;refine ⟨om,om,om,fun r hr=>?_,fun p hp=>?_,h1,h2⟩
 ·have m1:=bu7 am5.cs ab3 r hr;rw[am5.szs] at m1;have l4:=as7 aa2.cs (fun r=>by rw[aa2.szs]; omega) r.packages;refine ⟨om,fun p hp=>gs7 ((h1 r hr).2 p hp) ?_⟩;have:=bu7 aa2.cs r.packages p hp;omega
 ·have:=bu7 aa2.cs inst p hp;exact gs7 (h2 p hp) om
end Go.Id.Tryz
namespace Go.Id.Tryz
open Go Go.Id Go.Proofs Go.Id.Md
variable {H:Type} {enc:TypeId×Value->H} {w:World} {base:Nat} {sp:Nat->Bool} {held:Bool}
theorem it8 {n:Nat}{t:TypeId}{d:DataW H}(hu:Tryz.prog.underlying t=zi .bool)(h:Rd enc w base sp held n t d):∃ b,d=.lit (.bool b)/\∀ m,n<=m->dv Tryz.prog m t d=zi [.bool b]:=by
 obtain ⟨cs,ps,h⟩:=h;have hn:n≠0:=fun e=>by subst e; simp[DataW.trod] at h
 obtain ⟨b,rfl,hx⟩:=DataW.trod_bool hu h;cases hx;refine ⟨b,rfl,fun m hm=>?_⟩
 cases m with
 | zero=>omega
 | succ m=>simp only[dv,hu]
theorem ji6:Tryz.prog.cellsOf 68=6:=by kernel_rfl
theorem if8:Tryz.prog.cellsOf 73=2:=by kernel_rfl
theorem js6:Tryz.prog.cellsOf 27=5:=by kernel_rfl
theorem ji7:Tryz.prog.cellsOf 4=1:=by kernel_rfl
theorem ji8:Tryz.prog.cellsOf 24=1:=by kernel_rfl
theorem it9:Tryz.prog.cellsOf 25=1:=by kernel_rfl
theorem iu1 {n:Nat}{d:DataW H}(h:Rd enc w base sp held n 66 d)(hw:WT Tryz.prog 66 d):∃ e:Dep,(0<=e.op/\e.op<256)/\∀ m,n<=m->dv Tryz.prog m 66 d=zi e.cs:=by
 obtain ⟨n',ds,rfl,rfl,hl,hf⟩:=av2 Tryz.underlying66 h hw
 match ds,hl with
 | [d0,d1,d2],_=>
  obtain ⟨r0,w0⟩:=hf 0 _ d0 rfl rfl;obtain ⟨r1,w1⟩:=hf 1 _ d1 rfl rfl;obtain ⟨r2,w2⟩:=hf 2 _ d2 rfl rfl;obtain ⟨s0,l0,e0⟩:=cy1 Tryz.underlying9 r0 w0;obtain ⟨z,_,hz,e1⟩:=bg2 Tryz.underlying5 r1;obtain ⟨e,l2,e2⟩:=gl4 r2 w2;refine ⟨⟨s0,z,e⟩,jg2 hz,fun m hm=>?_⟩
  cases m with
  | zero=>omega
  | succ m=>
   simp only[dv,Tryz.underlying66,zf,zh,dvF,e0 m om,e1 m om,e2 m om,EVR.cs,zb,za,hl7,ip7,ip8,gl5,zc,zd,ze,zg,↓reduceIte];rfl
theorem ji9 {n:Nat}{d:DataW H}(h:Rd enc w base sp held n 68 d)(hw:WT Tryz.prog 68 d):∃ j:Job,(0<=j.dep.op/\j.dep.op<256)/\∀ m,n<=m->dv Tryz.prog m 68 d=zi j.cs:=by
 obtain ⟨n',ds,rfl,rfl,hl,hf⟩:=av2 Tryz.underlying68 h hw
 match ds,hl with
 | [d0,d1],_=>
  obtain ⟨r0,w0⟩:=hf 0 _ d0 rfl rfl;obtain ⟨r1,w1⟩:=hf 1 _ d1 rfl rfl;obtain ⟨z,_,hz,e0⟩:=bg2 Tryz.underlying5 r0;obtain ⟨e,l1,e1⟩:=iu1 r1 w1;refine ⟨⟨z,e⟩,l1,fun m hm=>?_⟩
  cases m with
  | zero=>omega
  | succ m=>
   simp only[dv,Tryz.underlying68,zf,zh,dvF,e0 m om,e1 m om,Dep.cs,zb,za,ip7,gl5,ji6,zc,zd,ze,zg,↓reduceIte];rfl
theorem iu2 {n:Nat}{d:DataW H}(h:Rd enc w base sp held n 73 d)(hw:WT Tryz.prog 73 d):∃ e:az1,True/\∀ m,n<=m->dv Tryz.prog m 73 d=zi e.cs:=by
 obtain ⟨n',ds,rfl,rfl,hl,hf⟩:=av2 Tryz.underlying73 h hw
 match ds,hl with
 | [d0,d1],_=>
  obtain ⟨r0,w0⟩:=hf 0 _ d0 rfl rfl;obtain ⟨r1,w1⟩:=hf 1 _ d1 rfl rfl;obtain ⟨z,_,hz,e0⟩:=bg2 Tryz.underlying5 r0;obtain ⟨y,_,hy,e1⟩:=bg2 Tryz.underlying3 r1;refine ⟨⟨z,y⟩,trivial,fun m hm=>?_⟩
  cases m with
  | zero=>omega
  | succ m=>
   simp only[dv,Tryz.underlying73,zf,zh,dvF,e0 m om,e1 m om,zb,za,ip7,hk9,if8,zc,zd,ze,zg,↓reduceIte];rfl
theorem iu3 {n:Nat}{d:DataW H}(h:Rd enc w base sp held n 24 d)(hw:WT Tryz.prog 24 d):∃ l:List Job,l.length<2^62/\(∀ j∈l,0<=j.dep.op/\j.dep.op<256)/\∀ m,n<=m->dv Tryz.prog m 24 d=zi [bc3 l]:=
 az6 Job.cs (fun j=>0<=j.dep.op/\j.dep.op<256) Tryz.underlying24 ji6 (by decide) (by decide +kernel) (fun _=>rfl) (fun _ _ _ hr hw'=>ji9 hr hw') h hw
theorem hz4 {n:Nat}{d:DataW H}(h:Rd enc w base sp held n 25 d)(hw:WT Tryz.prog 25 d):∃ l:List az1,l.length<2^62/\(∀ j∈l,True)/\∀ m,n<=m->dv Tryz.prog m 25 d=zi [aq2 l]:=
 az6 az1.cs (fun _=>True) Tryz.underlying25 if8 (by decide) (by decide +kernel) (fun _=>rfl) (fun _ _ _ hr hw'=>iu2 hr hw') h hw
theorem iu4 {n:Nat}{d:DataW H}(h:Rd enc w base sp held n 28 d)(hw:WT Tryz.prog 28 d):∃ l:List Int,l.length<2^62/\(∀ j∈l,True)/\∀ m,n<=m->dv Tryz.prog m 28 d=zi [.aa4 (l.map Md.ae4)]:=
 az6 Md.ae4 (fun _=>True) Tryz.underlying28 hk9 (by decide) (by decide +kernel) (fun _=>rfl) (fun _ _ _ hr hw'=>by
  obtain ⟨z,_,_,e⟩:=bg2 Tryz.underlying3 hr;exact ⟨z,trivial,e⟩) h hw
theorem if9 {n:Nat}{d:DataW H}(h:Rd enc w base sp held n 3 d)(hw:WT Tryz.prog 3 d):∃ z:Int,∀ m,n<=m->dv Tryz.prog m 3 d=zi [.int .i64 z]:=by
 obtain ⟨z,_,_,e⟩:=bg2 Tryz.underlying3 h;exact ⟨z,e⟩
theorem jj1 {n:Nat}{d:DataW H}(h:Rd enc w base sp held n 27 d)(hw:WT Tryz.prog 27 d):∃ r:Req,(∀ j∈r.ai4,0<=j.dep.op/\j.dep.op<256)/\∀ m,n<=m->dv Tryz.prog m 27 d=zi r.cs:=by
 obtain ⟨n',ds,rfl,rfl,hl,hf⟩:=av2 Tryz.underlying27 h hw
 match ds,hl with
 | [d0,d1,d2,d3,d4],_=>
  obtain ⟨r0,w0⟩:=hf 0 _ d0 rfl rfl;obtain ⟨r1,w1⟩:=hf 1 _ d1 rfl rfl;obtain ⟨r2,w2⟩:=hf 2 _ d2 rfl rfl;obtain ⟨r3,w3⟩:=hf 3 _ d3 rfl rfl;obtain ⟨r4,w4⟩:=hf 4 _ d4 rfl rfl;obtain ⟨x0,_,_,e0⟩:=bg2 Tryz.underlying5 r0;obtain ⟨x1,_,e1⟩:=it8 Tryz.underlying4 r1;obtain ⟨x2,_,k2,e2⟩:=iu3 r2 w2;obtain ⟨x3,_,_,e3⟩:=hz4 r3 w3;obtain ⟨x4,_,_,e4⟩:=bg2 Tryz.underlying3 r4;refine ⟨⟨x0,x1,x2,x3,x4⟩,k2,fun m hm=>?_⟩
  cases m with
  | zero=>omega
  | succ m=>
   simp only[dv,Tryz.underlying27,zf,zh,dvF,e0 m om,e1 m om,e2 m om,e3 m om,e4 m om,zb,za,ip7,ji7,ji8,it9,hk9,js6,zc,zd,ze,zg,↓reduceIte];rfl
theorem jj2 {r:Req}(h:∀ j∈r.ai4,0<=j.dep.op/\j.dep.op<256)(b:bc1 r.cs<=1048576):fv2 r:=by
 have hs:∀ j:Job,bc1 j.cs=j.dep.name.length+j.dep.evr.ver.length+j.dep.evr.rel.length+6:=fun j=>by
  simp only[Job.cs,bc1,isz]; omega
 have he:∀ e:az1,1<=bc1 e.cs:=fun e=>by simp only[az1.cs,bc1,isz]; omega
 simp only[Req.cs,bc1,isz] at b;have l1:=as7 Job.cs (fun j=>by rw[hs]; omega) r.ai4;have l2:=as7 az1.cs he r.ag5;refine ⟨om,om,fun j hj=>?_⟩;have l3:=bu7 Job.cs r.ai4 j hj;rw[hs] at l3;exact ⟨⟨(h j hj).1,(h j hj).2,om,om⟩,om⟩
theorem iu5 {l:List Int}(b:bc1 [IV.aa4 (l.map Md.ae4)]<=1048576):l.length<2^30:=by
 simp only[bc1,isz] at b;have:=as7 Md.ae4 (fun z=>by simp only[Md.ae4,bc1,isz]; omega) l;omega
end Go.Id.Tryz
namespace Go.Id.Tryz
open Go Go.Id Go.Proofs Go.Shelf Go.Id.Md
theorem fe4 (b:Bool):gt2 [0] false false (.bool b) (.bool b)=zi (.bool true):=by cases b<;>rfl
theorem dd6 (ab3:List am5)(inst:List aa2)(r:Req)(l:List Int)(n m:Int)(hI:jh2 ab3 inst)(hR:fv2 r)(hl:l.length<2^30) :
  PC Tryz.prog EE 3 [az4 ab3,au1 inst,.agg r.cs,.aa4 (l.map Md.ae4),.int .i64 n,.int .i64 m] (.bool true):=by
 refine ae5 hE fok3 (nZ rfl) (fun a ha=>by
  simp only[List.mem_cons,List.not_mem_nil,or_false] at ha;rcases ha with rfl|rfl|rfl|rfl|rfl|rfl
  ·exact bo1 ab3
  ·exact aq4 inst
  ·exact .agg _ (be5 r)
  ·exact ai1 l
  ·exact .int _ _
  ·exact .int _ _) ?_
 have hL:=fw1 ab3 inst r (by have:=hI.r1; omega) (by have:=hI.i1; omega) hI.ro hI.po;have hp:=co4 ab3 inst hI.r1 hI.i1 hI.s1 hI.rf hI.pf;have rl:r.cs.length=5:=rfl;simp only[ic3,go_sem,ak6,rl,bt7]
 cases hlg:cd4 ab3 inst r with
 | true=>
  rw[hlg] at hL;refine aa3 fok4 (hL) ?_;simp only[go_sem]
  exact ab4 rfl
 | false=>
 rw[hlg] at hL;refine aa3 fok4 (hL) ?_;by_cases hbig:60<l.length
 ·have c1:(60:Int)<l.length:=om
  simp only[go_sem,c1];exact ab4 rfl
 have c1:¬ (60:Int)<l.length:=om
 simp only[go_sem,c1];refine aa3 fok5 (hp) ?_
 cases hn:ce2 ab3 inst with
 | inr e=>
  have he:¬ e=0:=by rcases he9 hn with rfl|rfl<;>decide
  simp only[jd1,go_sem,he]
  exact ab4 rfl
 | inl p=>
 obtain ⟨g1,g2,_,_⟩:=bt2 hn;have hin:p.inst=inst.length:=(cu1 hn).2;have hf:=ie8 hI hn;have hlen:(ad4 p).length<=256:=by simp only[ad4,List.length_map]; exact ex6 hn
 have hAN:=gq7 p r hR hlen fun x hx=>⟨(hf x hx).1,(hf x hx).2.2⟩
 have hAll:=ho8 ab3 inst g2 g1;have hal:ho7 ab3 inst=ad4 p:=(bn4 hn).symm;rw[hal] at hAll;have h15:=ho9 (ad4 p) p.inst r hR;have vcs:p.v.cs=[p.v]:=rfl;have vlf:p.v.leaf=true:=rfl;rw[hin] at h15;simp only[jd1,go_sem,vcs,vlf,ak6,rl,bt7];refine aa3 fok6 (hAN) ?_;by_cases he:am7 r p.inst=0
 case neg=>
  have h15':PC Tryz.prog EE 7 [au1 (ad4 p),.int .i64 inst.length,.agg r.cs] (.tuple [.ae7,.int .i64 (am7 r p.inst)]):=by
   have:=h15;unfold dn4 at this;rw[<- hin,if_neg he] at this;rw[<- hin]; exact this
  unfold iv8;rw[if_neg he];simp only[go_sem,he];refine aa8 (hAll) ?_;simp only[go_sem,rl,bt7,ak6];refine aa8 (h15') ?_;simp only[go_sem,he];exact ab4 rfl
 have hA:=aok hI hn hR he;have oo:=ook hI hn hR he inst.length;have hr:=it2 (r:=r) (n:=inst.length) (et7 hn);have hp40:=ep3 hlg hn
 have hD:PC Tryz.prog EE 7 [au1 (ad4 p),.int .i64 inst.length,.agg r.cs] (.tuple [(ad9.mk p r).dv,.int .i64 0]):=by
  have:=h15;unfold dn4 at this;rw[<- hin,if_pos he] at this;rw[<- hin]; exact this
 have hPN:=fv7 (ad9.mk p r) inst.length hA (et7 hn) hin;have hN25:=hy7 (ad9.mk p r) hA ab3 inst.length hin (by have:=hI.r1; omega) om;obtain ⟨o,ho⟩:∃ o,o=hv8 p r inst.length:=⟨_,rfl⟩;have hov:(ag6.mk (ad9.mk p r) (as4 (ad9.mk p r).l inst.length)).v=o.v:=by rw[ho]; rfl
 have hoa:ad9.mk p r=o.a:=by rw[ho]; rfl
 have hol:o.a.l.length=p.rows.length:=by rw[<- hoa]; show (ad4 p).length=_; simp[ad4]
 rw[<- ho] at oo hr
 have hY:Y25 o (cy8 ab3 inst.length):={
  ok:=oo
  may:=by rw[<- hoa]; exact et7 hn
  ni:=⟨inst.length,by rw[<- hoa]; exact hin,by rw[ho]; rfl⟩
  pr:=by rw[<- hoa]; exact (fs4 hn).symm
  len:=by rw[hol,<- hoa] }
 have hZ:Z25 o:=⟨hr,fun k hk=>by rw[<- hoa]; exact gh7 hn (by rw[<- hol]; exact hk)⟩;have hW:hg9 o:=⟨oo,hr,om⟩;unfold iv8;rw[if_pos he];rw[hov] at hPN;rw[hoa] at hD hPN hN25 ⊢;clear h15 hAN hA;obtain ⟨P,hP⟩:∃ P,P=cy8 ab3 inst.length:=⟨_,rfl⟩;rw[<- hP] at hN25 hY;have a1:=ht9 o oo n;have a2:=hY.lkd n;have b1:=gr4 o oo n m;have b2:=bx7 o P hY n m;have s1:=ei3 o oo hr l om;have s2:=gj5 o P hY hZ l om;have t1:=hh2 o hW n;have t2:=fs6 o P hY hZ n;have u1:=gj3 o hW n;have u2:=gj4 o P hY hZ n;have w1:=hh4 o hW n;have w2:=fs7 o P hY hZ n;have hsl:(o.a.av8 n).length<=256:=bu3 o.a oo.a n;have wl:∀ fs,(o.bn3 fs n).length<=256:=fun fs=>by rw[(o.cm7 fs n).length_eq]; exact hsl
 have sl:(o.bk8 l).length<=256:=by
  unfold ag6.bk8;rw[(List.mergeSort_perm _ _).length_eq];exact Nat.le_trans (av4 _ _) om
 have same:∀ x:List Int,x.length<=256->PC Tryz.prog EE 11 [.aa4 (x.map Md.ae4),.aa4 (x.map Md.ae4)] (.bool true):=fun x hx=>by
  have:=eh5 x x om om;rw[decide_eq_true (rfl:x=x)] at this;exact this
 have alf:o.a.v.leaf=true:=rfl;have acs:o.a.v.cs=[o.a.v]:=rfl;have olf:o.v.leaf=true:=rfl;have ocs:o.v.cs=[o.v]:=rfl;simp only[go_sem,alf,acs];refine aa8 (hAll) ?_;simp only[go_sem,rl,bt7,ak6];refine aa8 (hD) ?_;simp only[go_sem,alf,acs];refine aa3 fok9 (hPN) ?_;simp only[go_sem,cr4,bd6];refine aa3 fok10 (hN25) ?_;simp only[go_sem];obtain ⟨S0,hS0⟩:∃ S0:Store,S0=Store.put { next:=14,obj:=emp.obj } 12 (al8.row []):=⟨_,rfl⟩;rw[<- hS0];have hX0:aj3 S0 0 (.slice 12 0 0 1) []:=.inr ⟨12,Nat.zero_le _,by rw[hS0]; show 12<14; omega,rfl,by rw[hS0]; simp only[aa5,if_true]; rfl⟩;have hS0n:S0.next=14:=by rw[hS0]; rfl
 obtain ⟨kv,S,h1,h2,h3,h4⟩:=ew4 (nid:=13) (xs:=l) hX0 (by simp only[za]; omega)
 have hk0:aj3 S 0 kv l:=by
  have:=h4 S rfl (by rw[h2,hS0n]; omega) (by rw[h2]; exact Nat.le_refl _) om
  simpa using this
 clear h2 h3 h4 hX0 hS0n;simp only[go_sem,h1];clear h1 hS0 S0;refine aa3 fok12 (a1) ?_;simp only[go_sem];refine aa3 fok13 (a2) ?_;simp only[go_sem,fe4];refine aa3 fok14 (b1) ?_;simp only[go_sem];refine aa3 fok15 (b2) ?_;simp only[go_sem,fe4];refine aa3 fok16 (s1) ?_;simp only[go_sem];refine aa3 fok17 (s2) ?_;simp only[go_sem]
 first|refine aa3 fok11 (same _ sl) ?_|refine aa8 (same _ sl) ?_
 simp only[go_sem]
 refine ad3 fok11 (be3 (args':=[.aa4 (l.map Md.ae4),.aa4 (l.map Md.ae4)]) hE rfl (fun i hi=>by
  match i,hi with
  | 0,_=>exact eh9 hk0
  | 1,_=>exact .keep _ (ai1 l)) (by simp[IV.plain]) (same l om)) ?_
 rintro v9 z9 ⟨rfl,rfl⟩;refine ⟨Nat.le_refl _,?_⟩;simp only[go_sem];refine aa3 fok18 (t1) ?_;simp only[go_sem];refine aa3 fok19 (t2) ?_;simp only[go_sem]
 first|refine aa3 fok11 (same _ (wl _)) ?_|refine aa8 (same _ (wl _)) ?_
 simp only[go_sem];refine aa3 fok20 (u1) ?_;simp only[go_sem];refine aa3 fok21 (u2) ?_;simp only[go_sem]
 first|refine aa3 fok11 (same _ (wl _)) ?_|refine aa8 (same _ (wl _)) ?_
 simp only[go_sem];refine aa3 fok22 (w1) ?_;simp only[go_sem];refine aa3 fok23 (w2) ?_;simp only[go_sem]
 first|refine aa3 fok11 (same _ (wl _)) ?_|refine aa8 (same _ (wl _)) ?_
 simp only[go_sem];exact ab4 rfl
end Go.Id.Tryz
