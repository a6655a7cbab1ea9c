/- Indexes asked: rows of one's own. Conditions: sizes that fit. -/
import Derived.Test.YtiallonafbejaaaGreatDoorTVQO
import Derived.Test.YtiallonafbejaaaGreatDoorFwRo
import Derived.Test.YtiallonafbejaaaGreatDoorTVQN
import Derived.Test.YtiallonafbejaaaGreatDoorTVPE
import Derived.Test.YtiallonafbejaaaGreatDoorMw
import Derived.Test.YtiallonafbejaaaGreatDoorTVQL
set_option linter.all false
namespace Go.Id.Tryz
open Go Go.Id Go.Proofs Go.Id.Md
set_option maxRecDepth 100000
end Go.Id.Tryz
/- Rows of numbers,jobs and edits: looked through,copied; numbers struck from a row of one's own. Conditions: sizes that fit. -/
namespace Go.Id.Tryz
open Go Go.Id Go.Proofs Go.Shelf Go.Id.Md
set_option maxRecDepth 100000
theorem fm7 (d:Job):d.cs.length=6:=rfl
theorem bq4 (d:Job):d.cs.all IV.leaf=true:=rfl
theorem gc8 (d:Job):d.cs.take 6=d.cs:=rfl
theorem dc7 (d:Edit):d.cs.length=2:=rfl
theorem as5 (d:Edit):d.cs.all IV.leaf=true:=rfl
theorem dl8 (d:Edit):d.cs.take 2=d.cs:=rfl
theorem fm8 (d:Job):∀ c∈d.cs,Bnd 0 c:=ie2 (.int _ _) (.str _) (.int _ _) (.int _ _) (.str _) (.str _)
theorem ed9 (d:Edit):∀ c∈d.cs,Bnd 0 c:=ai3 (.int _ _) (.int _ _)
theorem bq5 (l:List Job):Bnd 0 (cc2 l):=.tslice _ fun e he c hc=>by
 obtain ⟨d,_,rfl⟩:=List.mem_map.1 he; exact fm8 d c hc
theorem bc7 (l:List Edit):Bnd 0 (bc1 l):=.tslice _ fun e he c hc=>by
 obtain ⟨d,_,rfl⟩:=List.mem_map.1 he; exact ed9 d c hc
theorem gc9 (d:Job):Bnd 0 (.agg d.cs):=.agg _ (fm8 d)
theorem dl9 (d:Edit):Bnd 0 (.agg d.cs):=.agg _ (ed9 d)
theorem cj9 (xs:List Int)(g:Nat)(first cap:List IV)(q:Int→Bool)(hn:xs.length<2^62)(hok:okF Tryz.prog g=true)
  (hq:∀ x∈xs,PC Tryz.prog EE g (first++[IV.int .i64 x]++cap) (.bool (q x))):PC Tryz.prog EE 163 [.tslice (xs.map Md.intC),.func (.func g) first cap] (.int .i64 (af2 q xs 0)):=by
 refine ak4 fok163 (Nat.le_of_ble_eq_true rfl) fun σ=>?_
 simp only[ic163,go_sem]
 refine aa9 noT (fun i fr s=>s=σ∧fr=[(0,.tslice (xs.map Md.intC)),(1,.func (.func g) first cap),(7,.int .i64 xs.length),(8,.int .i64 i)]∧af2 q xs 0=af2 q (xs.drop i) i) xs.length ⟨rfl,rfl,rfl⟩ ?_
 rintro i fr s hi ⟨rfl,rfl,hf⟩
 by_cases hlt:i<xs.length
 ·obtain ⟨x,ha,_,hdr,hget,_⟩:=ad1 xs i hlt
  have c1:(i:Int)<xs.length:=by omega
  have c2:(0:Int)≤i:=by omega
  have w1:=ad5 (i:=i) (by omega)
  rw[hdr] at hf
  simp only[go_sem,c1,c2,hget,Md.intC]
  refine aj2 hok (er3 (hq x ha)) ?_
  rintro v s ⟨rfl,rfl⟩
  refine ⟨Nat.le_refl _,?_⟩
  cases hqe:q x with
  | true=>simp only[go_sem,hf,af2,hqe,and_self]
  | false=>
   simp only[go_sem,w1]
   exact ⟨hlt,by rw[hf]; simp only[af2,hqe,Bool.false_eq_true,if_false,Int.natCast_add,Int.natCast_one]⟩
 ·have hi':i=xs.length:=by omega
  subst hi'
  have c1:¬ (xs.length:Int)<xs.length:=by omega
  rw[List.drop_length] at hf
  simp only[go_sem,c1,hf,af2,and_self]
theorem fm9 (xs:List Int)(g:Nat)(first cap:List IV)(q:Int→Bool)(hn:xs.length<2^62)(hok:okF Tryz.prog g=true)
  (hq:∀ x∈xs,PC Tryz.prog EE g (first++[IV.int .i64 x]++cap) (.bool (q x))):PC Tryz.prog EE 172 [.tslice (xs.map Md.intC),.func (.func g) first cap] (.bool (xs.any q)):=by
 refine ak4 fok172 (Nat.le_of_ble_eq_true rfl) fun σ=>?_
 simp only[ic172,go_sem]
 first|refine aa1 fok163 (cj9 xs g first cap q hn hok hq) ?_|refine aa3 (cj9 xs g first cap q hn hok hq) ?_
 simp only[go_sem,ao5,and_self]
theorem dm1 (xs:List Job)(g:Nat)(first cap:List IV)(q:Job→Bool)(hn:xs.length<2^62)(hok:okF Tryz.prog g=true)
  (hq:∀ x∈xs,PC Tryz.prog EE g (first++[IV.agg (Job.cs x)]++cap) (.bool (q x))):PC Tryz.prog EE 229 [.tslice (xs.map Job.cs),.func (.func g) first cap] (.int .i64 (af2 q xs 0)):=by
 refine ak4 fok229 (Nat.le_of_ble_eq_true rfl) fun σ=>?_
 simp only[ic229,go_sem]
 refine aa9 noT (fun i fr s=>s=σ∧fr=[(0,.tslice (xs.map Job.cs)),(1,.func (.func g) first cap),(7,.int .i64 xs.length),(8,.int .i64 i)]∧af2 q xs 0=af2 q (xs.drop i) i) xs.length ⟨rfl,rfl,rfl⟩ ?_
 rintro i fr s hi ⟨rfl,rfl,hf⟩
 by_cases hlt:i<xs.length
 ·obtain ⟨x,ha,_,hdr,hget,_⟩:=ad1 xs i hlt
  have c1:(i:Int)<xs.length:=by omega
  have c2:(0:Int)≤i:=by omega
  have w1:=ad5 (i:=i) (by omega)
  rw[hdr] at hf
  simp only[go_sem,c1,c2,hget,fm7,gc8,bq4]
  refine aj2 hok (er3 (hq x ha)) ?_
  rintro v s ⟨rfl,rfl⟩
  refine ⟨Nat.le_refl _,?_⟩
  cases hqe:q x with
  | true=>simp only[go_sem,hf,af2,hqe,and_self]
  | false=>
   simp only[go_sem,w1]
   exact ⟨hlt,by rw[hf]; simp only[af2,hqe,Bool.false_eq_true,if_false,Int.natCast_add,Int.natCast_one]⟩
 ·have hi':i=xs.length:=by omega
  subst hi'
  have c1:¬ (xs.length:Int)<xs.length:=by omega
  rw[List.drop_length] at hf
  simp only[go_sem,c1,hf,af2,and_self]
theorem fn1 (xs:List Job)(g:Nat)(first cap:List IV)(q:Job→Bool)(hn:xs.length<2^62)(hok:okF Tryz.prog g=true)
  (hq:∀ x∈xs,PC Tryz.prog EE g (first++[IV.agg (Job.cs x)]++cap) (.bool (q x))):PC Tryz.prog EE 155 [.tslice (xs.map Job.cs),.func (.func g) first cap] (.bool (xs.any q)):=by
 refine ak4 fok155 (Nat.le_of_ble_eq_true rfl) fun σ=>?_
 simp only[ic155,go_sem]
 first|refine aa1 fok229 (dm1 xs g first cap q hn hok hq) ?_|refine aa3 (dm1 xs g first cap q hn hok hq) ?_
 simp only[go_sem,ao5,and_self]
theorem cw8 (xs:List Edit)(g:Nat)(first cap:List IV)(q:Edit→Bool)(hn:xs.length<2^62)(hok:okF Tryz.prog g=true)
  (hq:∀ x∈xs,PC Tryz.prog EE g (first++[IV.agg (Edit.cs x)]++cap) (.bool (q x))):PC Tryz.prog EE 231 [.tslice (xs.map Edit.cs),.func (.func g) first cap] (.int .i64 (af2 q xs 0)):=by
 refine ak4 fok231 (Nat.le_of_ble_eq_true rfl) fun σ=>?_
 simp only[ic231,go_sem]
 refine aa9 noT (fun i fr s=>s=σ∧fr=[(0,.tslice (xs.map Edit.cs)),(1,.func (.func g) first cap),(7,.int .i64 xs.length),(8,.int .i64 i)]∧af2 q xs 0=af2 q (xs.drop i) i) xs.length ⟨rfl,rfl,rfl⟩ ?_
 rintro i fr s hi ⟨rfl,rfl,hf⟩
 by_cases hlt:i<xs.length
 ·obtain ⟨x,ha,_,hdr,hget,_⟩:=ad1 xs i hlt
  have c1:(i:Int)<xs.length:=by omega
  have c2:(0:Int)≤i:=by omega
  have w1:=ad5 (i:=i) (by omega)
  rw[hdr] at hf
  simp only[go_sem,c1,c2,hget,dc7,dl8,as5]
  refine aj2 hok (er3 (hq x ha)) ?_
  rintro v s ⟨rfl,rfl⟩
  refine ⟨Nat.le_refl _,?_⟩
  cases hqe:q x with
  | true=>simp only[go_sem,hf,af2,hqe,and_self]
  | false=>
   simp only[go_sem,w1]
   exact ⟨hlt,by rw[hf]; simp only[af2,hqe,Bool.false_eq_true,if_false,Int.natCast_add,Int.natCast_one]⟩
 ·have hi':i=xs.length:=by omega
  subst hi'
  have c1:¬ (xs.length:Int)<xs.length:=by omega
  rw[List.drop_length] at hf
  simp only[go_sem,c1,hf,af2,and_self]
theorem ev1 (xs:List Edit)(g:Nat)(first cap:List IV)(q:Edit→Bool)(hn:xs.length<2^62)(hok:okF Tryz.prog g=true)
  (hq:∀ x∈xs,PC Tryz.prog EE g (first++[IV.agg (Edit.cs x)]++cap) (.bool (q x))):PC Tryz.prog EE 158 [.tslice (xs.map Edit.cs),.func (.func g) first cap] (.bool (xs.any q)):=by
 refine ak4 fok158 (Nat.le_of_ble_eq_true rfl) fun σ=>?_
 simp only[ic158,go_sem]
 first|refine aa1 fok231 (cw8 xs g first cap q hn hok hq) ?_|refine aa3 (cw8 xs g first cap q hn hok hq) ?_
 simp only[go_sem,ao5,and_self]
/-! ### A number,an edit,looked for -/
/-! ### Copies of jobs,of edits -/
theorem dv6 (xs:List Job)(hn:xs.length≤2147483648):PC Tryz.prog EE 232 [.tslice (xs.map Job.cs)] (.tslice (xs.map Job.cs)):=by
 cases hx:xs with
 | nil=>
  rw[List.map_nil]
  refine bn6 ?_ ?_
  ·refine ae9 hE fok232 (Nat.le_of_ble_eq_true rfl) (ad3 .nilslice) ?_
   simp only[ic232,go_sem,ag1]
   exact .nils
  ·refine ae9 hE fok232 (Nat.le_of_ble_eq_true rfl) (ad3 .eslice) ?_
   simp only[ic232,go_sem,ag1]
   rw[bn7 (by simp only[aa2,if_true]) rfl]
   simp only[go_sem]
   exact .slice0 _ _ _ (by simp only[aa2,if_true]; exact fun h=>(by cases h))
 | cons a as'=>
  have hne:xs.map Job.cs≠[]:=by rw[hx]; exact fun h=>(by cases h)
  have hall:∀ e∈xs.map Job.cs,e.length=6∧e.all IV.leaf=true:=fun e he=>by
   obtain ⟨x,_,rfl⟩:=List.mem_map.1 he
   exact ⟨fm7 x,bq4 x⟩
  rw[← hx]
  refine ae9 hE fok232 (Nat.le_of_ble_eq_true rfl) (ad3 (bq5 xs)) ?_
  have hnil:∀ d,cc5 (.slice d) (.tslice (xs.map Job.cs))=some false:=fun d=>by rw[hx]; rfl
  simp only[ic232,go_sem,ag1,hnil]
  rw[bb4 (by simp only[aa2,if_true]) hne hall (by rw[List.length_map]; exact hn)]
  simp only[go_sem]
  refine Grow.frz (esz:=6) (es:=xs.map Job.cs) (.inr ⟨1,by rw[List.length_map],by simp only[aa2,if_true],Nat.lt_succ_self _⟩) (fun x hx=>(hall x hx).1) (fun _ _=>Nat.not_lt_zero _) (aj4 (bq5 xs))
theorem dm2 (xs:List Edit)(hn:xs.length≤2147483648):PC Tryz.prog EE 233 [.tslice (xs.map Edit.cs)] (.tslice (xs.map Edit.cs)):=by
 cases hx:xs with
 | nil=>
  rw[List.map_nil]
  refine bn6 ?_ ?_
  ·refine ae9 hE fok233 (Nat.le_of_ble_eq_true rfl) (ad3 .nilslice) ?_
   simp only[ic233,go_sem,ag1]
   exact .nils
  ·refine ae9 hE fok233 (Nat.le_of_ble_eq_true rfl) (ad3 .eslice) ?_
   simp only[ic233,go_sem,ag1]
   rw[bn7 (by simp only[aa2,if_true]) rfl]
   simp only[go_sem]
   exact .slice0 _ _ _ (by simp only[aa2,if_true]; exact fun h=>(by cases h))
 | cons a as'=>
  have hne:xs.map Edit.cs≠[]:=by rw[hx]; exact fun h=>(by cases h)
  have hall:∀ e∈xs.map Edit.cs,e.length=2∧e.all IV.leaf=true:=fun e he=>by
   obtain ⟨x,_,rfl⟩:=List.mem_map.1 he
   exact ⟨dc7 x,as5 x⟩
  rw[← hx]
  refine ae9 hE fok233 (Nat.le_of_ble_eq_true rfl) (ad3 (bc7 xs)) ?_
  have hnil:∀ d,cc5 (.slice d) (.tslice (xs.map Edit.cs))=some false:=fun d=>by rw[hx]; rfl
  simp only[ic233,go_sem,ag1,hnil]
  rw[bb4 (by simp only[aa2,if_true]) hne hall (by rw[List.length_map]; exact hn)]
  simp only[go_sem]
  refine Grow.frz (esz:=2) (es:=xs.map Edit.cs) (.inr ⟨1,by rw[List.length_map],by simp only[aa2,if_true],Nat.lt_succ_self _⟩) (fun x hx=>(hall x hx).1) (fun _ _=>Nat.not_lt_zero _) (aj4 (bc7 xs))
end Go.Id.Tryz
/- What is asked for: each question of one or two numbers. Conditions: sizes that fit. -/
namespace Go.Id.Tryz
open Go Go.Id Go.Proofs Go.Shelf Go.Id.Md
set_option maxRecDepth 100000
structure AOK (a:AskM):Prop where
 len:a.l.length≤256
 small:∀ p∈a.l,Pkg.small p
 fit:∀ p∈a.l,p.Fit
 tiny:∀ p∈a.l,p.Tiny
 inst:a.p.inst≤a.l.length
 jobs:a.r.jobs.length≤64
 edits:a.r.edits.length≤128
 jdep:∀ j∈a.r.jobs,Dep.small j.dep
 jkind:∀ j∈a.r.jobs,1≤j.kind∧j.kind≤4
theorem ay6 (a:AskM):Bnd 0 a.v:=.tptr _ fun c hc=>by
 simp only[AskM.cs,List.mem_cons,List.not_mem_nil,or_false] at hc
 rcases hc with rfl|rfl|rfl|rfl|rfl|rfl|rfl|rfl
 ·exact ak9 _
 ·exact cj3 _
 ·exact .int _ _
 ·exact .bool _
 ·exact bq5 _
 ·exact bc7 _
 ·exact .int _ _
 ·exact ao9 _
theorem am6 {d:TypeId}{c:IV}{cs:List IV}:cc5 (.pointer d) (.tptr (c::cs))=some false:=rfl
theorem gd1 (a:AskM)(n:Int):PC Tryz.prog EE 109 [a.v,.int .i64 n] (.bool (a.is n)):=by
 refine ae9 hE fok109 (Nat.le_of_ble_eq_true rfl) (ai3 (ay6 a) (.int _ _)) ?_
 unfold AskM.is AskM.v AskM.cs
 have hl:(a.l.map Package.cs).length=a.l.length:=List.length_map ..
 generalize a.l.map Package.cs=es at *
 generalize a.l.length=k at *
 by_cases h1:0≤n
 ·by_cases h2:n<(k:Nat)
  ·simp only[ic109,go_sem,am6,h1,h2,hl]; exact ac8 rfl
  ·simp only[ic109,go_sem,am6,h1,h2,hl]; exact ac8 rfl
 ·simp only[ic109,go_sem,am6,h1]; exact ac8 rfl
theorem cw9 (a:AskM)(n:Int):PC Tryz.prog EE 44 [a.v,.int .i64 n] (.bool (a.fits n)):=by
 refine ae9 hE fok44 (Nat.le_of_ble_eq_true rfl) (ai3 (ay6 a) (.int _ _)) ?_
 have h:=gd1 a n
 have hf:=gq8 a.r.arch (a.pk n).arch
 unfold AskM.fits
 cases hi:a.is n with
 | false=>
  rw[hi] at h
  unfold AskM.v AskM.cs at *
  simp only[ic44,go_sem]
  first|refine aa1 fok109 (h) ?_|refine aa3 (h) ?_
  simp only[go_sem]; exact ac8 rfl
 | true=>
  rw[hi] at h
  unfold AskM.is at hi
  simp only[Bool.and_eq_true,decide_eq_true_eq] at hi
  have hl:(a.l.map Package.cs).length=a.l.length:=List.length_map ..
  have c1:n.toNat<a.l.length:=by omega
  have hg:(a.l.map Package.cs).getD n.toNat []=(a.pk n).cs:=by
   unfold AskM.pk
   rw[getD_at _ _ c1]
   simp[List.getD_eq_getElem?_getD,c1]
  have p4:((a.pk n).cs.drop 4).head? = some (.int .u8 (a.pk n).arch):=rfl
  unfold AskM.v AskM.cs at *
  generalize a.pk n=q at *
  generalize a.l.map Package.cs=es at *
  have c2:n<(es.length:Nat):=by omega
  simp only[ic44,go_sem]
  first|refine aa1 fok109 (h) ?_|refine aa3 (h) ?_
  simp only[go_sem,hi.1,c2,hg,p4,ag2]
  first|refine aa1 fok110 (hf) ?_|refine aa3 (hf) ?_
  simp only[go_sem]
  exact ac8 rfl
theorem gd2 (j:Job):(j.cs.drop 1).take 5=j.dep.cs:=rfl
end Go.Id.Tryz
/- Truth: whether a state satisfies a rich dependency. Conditions: sizes that fit. -/
namespace Go.Id.Tryz
open Go Go.Id Go.Proofs Go.Shelf Go.Id.Md
set_option maxRecDepth 100000
def dn7 (c:Nat→Bool)(n:Nat):List IV:=(List.range n).map fun j=>.bool (c j)
theorem ay7 (c:Nat→Bool)(n:Nat):(dn7 c n).length=n:=by simp[dn7]
theorem fn2:∀ n:Nat,rep [IV.bool false] n=dn7 (fun _=>false) n:=by
 intro n
 have h:∀ m,rep [IV.bool false] m=List.replicate m (.bool false):=by
  intro m
  induction m with
  | zero=>rfl
  | succ m ih=>show [IV.bool false]++rep _ m=_; rw[ih]; rfl
 rw[h]
 exact List.ext_getElem (by simp[dn7]) fun i h1 h2=>by simp[dn7]
theorem ee1 (c:Nat→Bool){n i:Nat}(h:i<(dn7 c n).length):(dn7 c n)[i]=.bool (c i):=by simp[dn7]
theorem gd3 (c:Nat→Bool){n j:Nat}(h:j<n)(x:Bool):ag9 (dn7 c n) j [.bool x]=dn7 (fun i=>if i=j then x else c i) n:=by
 refine List.ext_getElem (by rw[ac1 (by rw[ay7]; simp only[List.length_singleton]; omega),ay7,ay7]) fun i h1 h2=>?_
 rw[ee1]
 rw[ay7] at h2
 unfold ag9
 simp only[List.getElem_append,List.length_take,ay7,List.getElem_take,List.getElem_drop,List.length_append,List.length_singleton,ee1]
 by_cases e:i=j
 ·subst e
  have g1:¬ i<min i n:=by omega
  have g2:i<min i n+1:=by omega
  simp only[g1,g2,dite_false,dite_true,if_true,List.getElem_singleton]
 ·by_cases e2:i<j
  ·have g1:i<min j n:=by omega
   have g2:i<min j n+1:=by omega
   simp only[g1,g2,dite_true,e,if_false]
  ·have g1:¬ i<min j n:=by omega
   have g2:¬ i<min j n+1:=by omega
   have g3:j+1+(i-(min j n+1))=i:=by omega
   simp only[g2,g3,dite_false,e,if_false]
theorem hp9 {pt:PT}{ct:CT}{P:Program}{E:Nat→IV}{e id:Nat}{z:List IV}{x:IX}{fr:Frm}{σ:Store}{K:IV→Store→Prop}:opT pt ct P E (.mksl e z x) id fr σ K=bk1 (cy4 (x.ev E fr)) fun n=>K (.slice id 0 n e) (σ.put id (.row (rep z n))):=rfl
theorem gt1 {K:Nat→Prop}(n:Nat)(h:n≤2147483648):bk1 (cy4 (.int .i64 (n:Int))) K=K n:=by
 have h1:(0:Int)≤n∧(n:Int)≤2147483648:=by omega
 show bk1 (if 0≤(n:Int)∧(n:Int)≤2147483648 then some ((n:Int).toNat) else none) K=K n
 rw[if_pos h1]; rfl
theorem gd4 {s:Store}{S:Nat→Prop}{id n:Nat}{c:Nat→Bool}(hid:¬ S id)(ho:s.obj id=some (.row (dn7 c n))):Frz s S (.slice id 0 n 1) (.tslice (((List.range n).map c).map bi3)):=by
 have hl:(((List.range n).map c).map bi3).length=n:=by simp
 refine .slice id 0 n 1 (dn7 c n) _ hid (.inr ho) hl (by rw[ay7]; omega) (fun i hi=>?_) fun i hi j hj=>?_
 ·simp[List.getD_eq_getElem?_getD,hi,bi3]
 ·have hj0:j=0:=by omega
  subst hj0
  have e2:((((List.range n).map c).map bi3).getD i []).getD 0 .undef=.bool (c i):=by simp[List.getD_eq_getElem?_getD,hi,bi3]
  have e3:(dn7 c n).getD (0+(i*1+0)) .undef=.bool (c i):=by simp[List.getD_eq_getElem?_getD,hi,dn7]
  rw[e2,e3]
  exact .keep _ (.bool _)
abbrev dm3 (st:List Bool):IV:=.tslice (st.map bi3)
def aj7 (l:List Package):IV:=.tptr [(ap9 l).v,.int .i64 l.length]
def ah3 (l:List Package)(st:List Bool):List IV:=[aj7 l,dm3 st]
theorem dm4 (st:List Bool):Bnd 0 (dm3 st):=.tslice _ fun e he c hc=>by
 obtain ⟨b,_,rfl⟩:=List.mem_map.1 he
 cases hc with
 | head=>exact .bool _
 | tail _ h=>cases h
theorem aq2 (l:List Package):Bnd 0 (aj7 l):=.tptr _ (ai3 (cj3 _) (.int _ _))
theorem dm5 (l:List Package)(st:List Bool):∀ c∈ah3 l st,Bnd 0 c:=ai3 (aq2 l) (dm4 st)
theorem ee2 (l:List Package)(zs:List Int)(hl:l.length≤256)(hz:zs.length<2^40):PC Tryz.prog EE 242 [aj7 l,.tslice (zs.map Md.intC)] (.agg (ah3 l (stB l.length zs))):=by
 refine ae9 hE fok242 (Nat.le_of_ble_eq_true rfl) (ai3 (aq2 l) (ao7 zs)) ?_
 have hnc:(aj7 l)=.tptr [(ap9 l).v,.int .i64 l.length]:=rfl
 simp only[ic242,go_sem,aj7]
 simp only[hp9,gt1 _ (show l.length≤2147483648 by omega),go_sem]
 rw[fn2]
 refine aa9 noT (fun i fr t=>∃ c:Nat→Bool,fr=[(0,aj7 l),(4,.ptr 0 0),(5,.ptr 2 0),(15,.tslice (zs.map Md.intC)),(16,.int .i64 zs.length),(17,.int .i64 (i:Int))]∧2<t.next∧t.obj 0=some (.cells [.nilptr,.nilslice])∧t.obj 1=some (.row (dn7 c l.length)) ∧
  t.obj 2=some (.cells [aj7 l,.slice 1 0 l.length 1])∧∀ j,j<l.length→c j=decide ((j:Int)∈zs.take i)) zs.length ⟨fun _=>false,rfl,by show 2<3; omega,rfl,rfl,rfl,fun j hj=>by simp⟩ ?_
 rintro i fr t hle ⟨c,rfl,hnx,o0,o1,o2,hc⟩
 by_cases hlt:i<zs.length
 ·obtain ⟨x,hx,_,hdr,hget,htk⟩:=ad1 zs i hlt
  have c1:(i:Int)<zs.length:=by omega
  have c2:(0:Int)≤i:=by omega
  have w1:=ad5 (i:=i) (by omega)
  by_cases q1:0≤x
  ·by_cases q2:x<(l.length:Nat)
   ·have hxn:x.toNat<l.length:=by omega
    have r2:=gd3 c hxn true
    have r3:x.toNat+1≤(dn7 c l.length).length:=by rw[ay7]; omega
    simp only[go_sem,c1,c2,hget,Md.intC,q1,q2,aj7,o2,o1,Nat.zero_add,Nat.mul_one,r2,r3,w1]
    refine ⟨hlt,fun i=>if i=x.toNat then true else c i,hnx,o0,rfl,fun j hj=>?_⟩
    ·show (if j=x.toNat then true else c j)=_
     rw[htk]
     by_cases e:j=x.toNat
     ·rw[if_pos e]
      have:(j:Int)=x:=by omega
      simp[this]
     ·rw[if_neg e,hc j hj]
      have:¬ (j:Int)=x:=by omega
      simp[this]
   ·simp only[go_sem,c1,c2,hget,Md.intC,q1,q2,aj7,w1]
    refine ⟨hlt,c,hnx,o0,o1,o2,fun j hj=>?_⟩
    have:¬ (j:Int)=x:=by omega
    rw[hc j hj,htk]; simp[this]
  ·simp only[go_sem,c1,c2,hget,Md.intC,q1,w1]
   refine ⟨hlt,c,hnx,o0,o1,o2,fun j hj=>?_⟩
   have:¬ (j:Int)=x:=by omega
   rw[hc j hj,htk]; simp[this]
 ·have hi':i=zs.length:=by omega
  subst hi'
  have c1:¬ (zs.length:Int)<zs.length:=by omega
  have hst:stB l.length zs=(List.range l.length).map c:=by
   unfold stB
   refine List.map_congr_left fun m hm=>?_
   rw[hc m (List.mem_range.1 hm),List.take_length]
  simp only[go_sem,c1,o0,o1,o2]
  rw[hst]
  exact ⟨rfl,.agg2 (.cons (.keep _ (aq2 l)) (.cons (gd4 (Nat.not_lt_zero _) (by rw[aa2,if_neg (by decide)]; exact o1)) .nil))⟩
end Go.Id.Tryz
/- Truth: each Kind. Conditions: sizes that fit. -/
namespace Go.Id.Tryz
open Go Go.Id Go.Proofs Go.Shelf Go.Id.Md
set_option maxRecDepth 100000
theorem dm6 {d:Dep}(h:ah2 d=true):Dep.small d:=by
 obtain ⟨h1,h2,h3,h4⟩:=da6 h
 exact ⟨h1,h2,by have:=h3.1; omega,by have:=h3.2; omega⟩
theorem ab5 (l:List Package)(st:List Bool):(ah3 l st).all IV.leaf=true:=rfl
theorem ab9 (l:List Package)(st:List Bool):(ah3 l st).take 2=ah3 l st:=rfl
theorem ab7 (l:List Package)(st:List Bool):(ah3 l st).length=2:=rfl
theorem fn3 (l:List Package)(st:List Bool):((ah3 l st).drop 1).head? = some (dm3 st):=rfl
theorem fn4 (l:List Package)(st:List Bool):(ah3 l st).head? = some (aj7 l):=rfl
theorem bc8 {st:List Bool}{n:Nat}(h:n<st.length):(st.map bi3).getD n []=[.bool (st.getD n false)]:=by simp[List.getD_eq_getElem?_getD,h,bi3]
abbrev fn5 (l:List Package)(r:Rich):Prop:=∀ st:List Bool,st.length=l.length→PC Tryz.prog EE 243 [.agg (ah3 l st),.agg r.cs] (.bool (r.tr l st))
theorem ai1 (l:List Package)(st:List Bool):Bnd 0 (.agg (ah3 l st)):=.agg _ (dm5 l st)
theorem cx1 (l:List Package)(st:List Bool):Bnd 0 (.tptr (ah3 l st)):=.tptr _ (dm5 l st)
theorem bq6 (r:Rich):Bnd 0 (.tptr r.cs):=.tptr _ (db2 r)
theorem gt2 (d:Dep)(xs:List Rich)(k:Int):((Rich.mk k d xs).cs.drop 1).take 5=d.cs:=by rw[Rich.cs_eq]; rfl
theorem fn6 (d:Dep)(xs:List Rich)(k:Int):((Rich.mk k d xs).cs.drop 1).length=6:=by rw[Rich.cs_eq]; rfl
theorem az5 (d:Dep)(xs:List Rich)(k:Int):((Rich.mk k d xs).cs.drop 6).head? = some (ac5 xs):=by rw[Rich.cs_eq]; rfl
theorem bq7 (d:Dep)(xs:List Rich)(k:Int):(Rich.mk k d xs).cs.head? = some (.int .u8 k):=by rw[Rich.cs_eq]; rfl
theorem dm7 {xs:List Rich}{n:Nat}(h:n<xs.length):(xs.map Rich.cs).getD n []=(xs[n]).cs:=by simp[List.getD_eq_getElem?_getD,h]
theorem gd5 (l:List Package)(st:List Bool)(n:Nat)(h:n<st.length):PC Tryz.prog EE 311 [.int .i64 n,.tptr (ah3 l st)] (.bool (st.getD n false)):=by
 refine ae9 hE fok311 (Nat.le_of_ble_eq_true rfl) (ai3 (.int _ _) (cx1 l st)) ?_
 have c1:(n:Int)<st.length:=by omega
 have c2:(0:Int)≤n:=by omega
 have g:=bc8 h
 simp only[ic311,go_sem,ab7,fn3,c1,c2,g]
 exact ac8 rfl
theorem gt3 (l:List Package)(hl:l.length≤256)(hs:∀ p∈l,Pkg.small p)(st:List Bool)(hst:st.length=l.length)(d:Dep)(hd:ah2 d=true) :
  PC Tryz.prog EE 288 [.agg (ah3 l st),.agg (Rich.mk 1 d []).cs] (.bool ((ag4 l d).any fun n=>st.getD n.toNat false)):=by
 refine ae9 hE fok288 (Nat.le_of_ble_eq_true rfl) (ai3 (ai1 l st) (ae4 _)) ?_
 have h1:=cj7 l d (by omega) hs (dm6 hd)
 have h2:=fm9 (ag4 l d) 311 [] [.tptr (ah3 l st)] (fun n=>st.getD n.toNat false) (by have:=cv2 (fun p=>provides p d) l; unfold ag4; omega) fok311.1 fun x hx=>by
  obtain ⟨m,rfl,hm⟩:=numsOf_at hx
  rw[Int.toNat_natCast]
  exact gd5 l st m (by omega)
 have ht:aj7 l=.tptr [(ap9 l).v,.int .i64 l.length]:=rfl
 have h7:=aa6 (.mk 1 d [])
 simp only[ic288,go_sem,ab7,ab5,fn4,aa8,h7,gt2,fn6,ht]
 first|refine aa1 fok28 (h1) ?_|refine aa3 (h1) ?_
 simp only[go_sem,ab7,ab5]
 first|refine aa1 fok172 (h2) ?_|refine aa3 (h2) ?_
 simp only[go_sem]
 exact ac8 rfl
theorem gt4 (l:List Package)(st:List Bool)(hst:st.length=l.length)(x:Rich)(hx:fn5 l x):PC Tryz.prog EE 312 [.agg x.cs,.tptr (ah3 l st)] (.bool !(x.tr l st)):=by
 refine ae9 hE fok312 (Nat.le_of_ble_eq_true rfl) (ai3 (ae4 _) (cx1 l st)) ?_
 have h:=hx st hst
 simp only[ic312,go_sem,ab7,ab9,ab5,aa8,ab4,aa6]
 first|refine aa1 fok243 (h) ?_|refine aa3 (h) ?_
 simp only[go_sem]
 exact ac8 rfl
theorem gj6 (l:List Package)(st:List Bool)(hst:st.length=l.length)(k:Int)(d:Dep)(xs:List Rich)(hn:xs.length<2^62)(hx:∀ x∈xs,fn5 l x):PC Tryz.prog EE 289 [.agg (ah3 l st),.agg (Rich.mk k d xs).cs] (.bool ((Rich.trs l xs).all fun f=>f st)):=by
 refine ae9 hE fok289 (Nat.le_of_ble_eq_true rfl) (ai3 (ai1 l st) (ae4 _)) ?_
 have h:=bh8 xs 312 [] [.tptr (ah3 l st)] (fun x=>!(x.tr l st)) hn fok312.1 fun x hm=>gt4 l st hst x (hx x hm)
 have e:(Rich.trs l xs).all (fun f=>f st)=!xs.any fun x=>!(x.tr l st):=by
  rw[Rich.trs_map,List.all_map,List.not_any_eq_all_not]
  congr 1; funext x; simp
 have h7:=aa6 (.mk k d xs)
 rw[e]
 simp only[ic289,go_sem,ab7,ab5,aa8,h7,az5]
 first|refine aa1 fok181 (h) ?_|refine aa3 (h) ?_
 simp only[go_sem]
 exact ac8 rfl
theorem hq5 (l:List Package)(st:List Bool)(hst:st.length=l.length)(k:Int)(d:Dep)(xs:List Rich)(hn:xs.length<2^62)(hx:∀ x∈xs,fn5 l x):PC Tryz.prog EE 290 [.agg (ah3 l st),.agg (Rich.mk k d xs).cs] (.bool ((Rich.trs l xs).any fun f=>f st)):=by
 refine ae9 hE fok290 (Nat.le_of_ble_eq_true rfl) (ai3 (ai1 l st) (ae4 _)) ?_
 have h:=bh8 xs 243 [.agg (ah3 l st)] [] (fun x=>x.tr l st) hn fok243.1 fun x hm=>hx x hm st hst
 have e:(Rich.trs l xs).any (fun f=>f st)=xs.any fun x=>x.tr l st:=by
  rw[Rich.trs_map,List.any_map]; rfl
 have h7:=aa6 (.mk k d xs)
 rw[e]
 simp only[ic290,go_sem,ab7,ab5,ab9,aa8,h7,az5]
 first|refine aa1 fok181 (h) ?_|refine aa3 (h) ?_
 simp only[go_sem]
 exact ac8 rfl
theorem dm8 {l:List Package}{xs:List Rich}{n:Nat}(h:n<xs.length)(st:List Bool):((Rich.trs l xs).getD n ff) st=(xs[n]).tr l st:=by rw[Rich.trs_map]; simp[List.getD_eq_getElem?_getD,h]
theorem fn8 (l:List Package)(xs:List Rich):(Rich.trs l xs).length=xs.length:=by rw[Rich.trs_map,List.length_map]
theorem hq6 (l:List Package)(st:List Bool)(hst:st.length=l.length)(k:Int)(d:Dep)(xs:List Rich)(hn:2≤xs.length)(hx:∀ x∈xs,fn5 l x):PC Tryz.prog EE 291 [.agg (ah3 l st),.agg (Rich.mk k d xs).cs]
  (.bool (if ((Rich.trs l xs).getD 1 ff) st then ((Rich.trs l xs).getD 0 ff) st else decide ((Rich.trs l xs).length<3)||((Rich.trs l xs).getD 2 ff) st)):=by
 refine ae9 hE fok291 (Nat.le_of_ble_eq_true rfl) (ai3 (ai1 l st) (ae4 _)) ?_
 have n0:0<xs.length:=by omega
 have n1:1<xs.length:=by omega
 have h0:=hx _ (List.getElem_mem n0) st hst
 have h1:=hx _ (List.getElem_mem n1) st hst
 have g0:=dm7 n0
 have g1:=dm7 n1
 have c0:(0:Int)<xs.length:=by omega
 have c1:(1:Int)<xs.length:=by omega
 have h7:=aa6 (.mk k d xs)
 rw[dm8 n1,dm8 n0,fn8]
 simp only[ic291,go_sem,ab7,ab5,ab9,aa8,h7,az5,c0,c1,g0,g1,ab4,aa6]
 first|refine aa1 fok243 (h1) ?_|refine aa3 (h1) ?_
 cases xs[1].tr l st with
 | true=>
  simp only[go_sem,ab7,ab5,ab9,aa8,h7,az5,c0,c1,g0,g1,ab4,aa6]
  first|refine aa1 fok243 (h0) ?_|refine aa3 (h0) ?_
  simp only[go_sem]
  exact ac8 rfl
 | false=>
  by_cases q:xs.length<3
  ·have q':(xs.length:Int)<3:=by omega
   simp only[go_sem,ab7,ab5,ab9,aa8,h7,az5,q']
   exact ac8 (by simp[q])
  ·have q':¬ (xs.length:Int)<3:=by omega
   have n2:2<xs.length:=by omega
   have h2:=hx _ (List.getElem_mem n2) st hst
   have g2:=dm7 n2
   have c2:(2:Int)<xs.length:=by omega
   rw[dm8 n2]
   simp only[go_sem,ab7,ab5,ab9,aa8,h7,az5,q',c2,g2,ab4,aa6]
   first|refine aa1 fok243 (h2) ?_|refine aa3 (h2) ?_
   simp only[go_sem]
   exact ac8 (by simp[q])
theorem fn9 (l:List Package)(st:List Bool)(hst:st.length=l.length)(k:Int)(d:Dep)(xs:List Rich)(hn:2≤xs.length)(hn2:xs.length<2^31)(hx:∀ x∈xs,fn5 l x):PC Tryz.prog EE 292 [.agg (ah3 l st),.agg (Rich.mk k d xs).cs]
  (.bool (if ((Rich.trs l xs).getD 1 ff) st then decide ((Rich.trs l xs).length=3)&&((Rich.trs l xs).getD 2 ff) st else ((Rich.trs l xs).getD 0 ff) st)):=by
 refine ae9 hE fok292 (Nat.le_of_ble_eq_true rfl) (ai3 (ai1 l st) (ae4 _)) ?_
 have n0:0<xs.length:=by omega
 have n1:1<xs.length:=by omega
 have h0:=hx _ (List.getElem_mem n0) st hst
 have h1:=hx _ (List.getElem_mem n1) st hst
 have g0:=dm7 n0
 have g1:=dm7 n1
 have c0:(0:Int)<xs.length:=by omega
 have c1:(1:Int)<xs.length:=by omega
 have h7:=aa6 (.mk k d xs)
 rw[dm8 n1,dm8 n0,fn8]
 simp only[ic292,go_sem,ab7,ab5,ab9,aa8,h7,az5,c0,c1,g0,g1,ab4,aa6]
 first|refine aa1 fok243 (h1) ?_|refine aa3 (h1) ?_
 cases xs[1].tr l st with
 | false=>
  simp only[go_sem,ab7,ab5,ab9,aa8,h7,az5,c0,c1,g0,g1,ab4,aa6]
  first|refine aa1 fok243 (h0) ?_|refine aa3 (h0) ?_
  simp only[go_sem]
  exact ac8 rfl
 | true=>
  by_cases q:xs.length=3
  ·have q':(xs.length:Int)=3:=by omega
   have n2:2<xs.length:=by omega
   have h2:=hx _ (List.getElem_mem n2) st hst
   have g2:=dm7 n2
   have c2:(2:Int)<3:=by omega
   rw[dm8 n2]
   simp only[go_sem,ab7,ab5,ab9,aa8,h7,az5,q',c2,g2,ab4,aa6]
   first|refine aa1 fok243 (h2) ?_|refine aa3 (h2) ?_
   simp only[go_sem]
   exact ac8 (by simp[q])
  ·have q':¬ (xs.length:Int)=3:=by omega
   simp only[go_sem,ab7,ab5,ab9,aa8,h7,az5,q']
   exact ac8 (by simp[q])
end Go.Id.Tryz
/- Truth: one package of a state alone; all Kinds. Conditions: sizes that fit. -/
namespace Go.Id.Tryz
open Go Go.Id Go.Proofs Go.Shelf Go.Id.Md
set_option maxRecDepth 100000
theorem gt5 (c n:Nat):stB c [(n:Int)]=dj4 c n:=by
 unfold stB dj4
 refine List.map_congr_left fun m _=>decide_eq_decide.2 ?_
 rw[List.mem_singleton]; omega
theorem gd6 (c n:Nat):(dj4 c n).length=c:=by simp[dj4]
theorem gj7 (l:List Package)(hl:l.length≤256)(st:List Bool)(hst:st.length=l.length)(g:Nat)(cap:List IV)(q:List Bool→Bool)(hok:okF Tryz.prog g=true)(hcap:∀ c∈cap,Bnd 0 c)
  (hq:∀ s2:List Bool,s2.length=l.length→PC Tryz.prog EE g (.agg (ah3 l s2)::cap) (.bool (q s2))):PC Tryz.prog EE 313 [.agg (ah3 l st),.func (.func g) [] cap] (.bool (fy7 st fun n=>q (dj4 st.length n))):=by
 have hbf:Bnd 0 (.func (.func g) [] cap):=.func _ _ _ (fun c hc=>by cases hc) hcap
 refine ae9 hE fok313 (Nat.le_of_ble_eq_true rfl) (ai3 (ai1 l st) hbf) ?_
 simp only[ic313,go_sem,ab7,ab5,fn3]
 refine aa9 noT (fun i fr t=>fr=[(1,.func (.func g) [] cap),(2,.tptr (ah3 l st)),(8,dm3 st),(9,.int .i64 st.length),(10,.int .i64 (i:Int))]∧∀ j,j<i→(st.getD j false&&q (dj4 st.length j))=false) st.length ⟨rfl,fun j hj=>absurd hj (Nat.not_lt_zero _)⟩ ?_
 rintro i fr t hle ⟨rfl,hI⟩
 by_cases hlt:i<st.length
 ·have c1:(i:Int)<st.length:=by omega
  have c2:(0:Int)≤i:=by omega
  have w1:=ad5 (i:=i) (by omega)
  have g1:=bc8 hlt
  cases hb:st.getD i false with
  | false=>
   rw[hb] at g1
   simp only[go_sem,c1,c2,g1,w1]
   refine ⟨hlt,fun j hj=>?_⟩
   by_cases e:j=i
   ·subst e; rw[hb]; rfl
   ·exact hI j (by omega)
  | true=>
   rw[hb] at g1
   have hS:=ee2 l [(i:Int)] hl (by show 1<_; decide)
   rw[gt5] at hS
   have hQ:=hq (dj4 l.length i) (gd6 _ _)
   simp only[go_sem,c1,c2,g1,ab7,fn4]
   have hfz:Frz (({ next:=t.next+1,obj:=t.obj }:Store).put t.next (.row [.int .i64 i])) (fun _=>false=true) (.slice t.next 0 1 1) (.tslice ([(i:Int)].map Md.intC)):=
    .slice t.next 0 1 1 [.int .i64 i] _ Bool.false_ne_true (.inr (by rw[aa2,if_pos rfl])) rfl (Nat.le_refl 1) (fun k hk=>by
     have:k=0:=by omega
     subst this; rfl) fun k hk j hj=>by
     have:k=0:=by omega
     have:j=0:=by omega
     subst this; subst k
     exact .keep _ (.int _ _)
   refine af8 fok242 (gh8 (S:=fun _=>false) (args':=[aj7 l,.tslice ([(i:Int)].map Md.intC)]) rfl (fun k hk=>by
    match k,hk with
    | 0,_=>exact .keep _ ((aq2 l).weak fun _ h=>absurd h (Nat.not_lt_zero _))
    | 1,_=>exact hfz) (er3 hS)) ?_
   rintro v s ⟨rfl,rfl⟩
   refine ⟨Nat.le_refl _,?_⟩
   simp only[go_sem]
   refine cj1 hok hQ ?_
   cases hv:q (dj4 l.length i) with
   | true=>
    have e:fy7 st (fun n=>q (dj4 st.length n))=true:=by
     unfold fy7
     exact List.any_eq_true.2 ⟨i,List.mem_range.2 hlt,by rw[hb,hst]; show (true&&q (dj4 l.length i))=true; rw[hv]; rfl⟩
    simp only[go_sem,e]
    exact ab1 _
   | false=>
    simp only[go_sem,w1]
    refine ⟨hlt,fun j hj=>?_⟩
    by_cases e:j=i
    ·subst e; rw[hst,hv,Bool.and_false]
    ·exact hI j (by omega)
 ·have hi':i=st.length:=by omega
  subst hi'
  have c1:¬ (st.length:Int)<st.length:=by omega
  have e:fy7 st (fun n=>q (dj4 st.length n))=false:=by
   unfold fy7
   refine List.any_eq_false.2 fun n hn=>?_
   rw[hI n (List.mem_range.1 hn)]
   exact Bool.false_ne_true
  simp only[go_sem,c1,e]
  exact ab1 _
theorem gd7 (l:List Package)(k:Int)(d:Dep)(xs:List Rich)(hn:xs.length<2^62)(hx:∀ x∈xs,fn5 l x)(st:List Bool)(hst:st.length=l.length) :
  PC Tryz.prog EE 314 [.agg (ah3 l st),.tptr (Rich.mk k d xs).cs] (.bool ((Rich.trs l xs).all fun f=>f st)):=by
 refine ae9 hE fok314 (Nat.le_of_ble_eq_true rfl) (ai3 (ai1 l st) (bq6 _)) ?_
 have h:=gj6 l st hst k d xs hn hx
 simp only[ic314,go_sem,ab7,ab5,ab9,aa8,ab4,aa6]
 first|refine aa1 fok289 (h) ?_|refine aa3 (h) ?_
 simp only[go_sem]
 exact ac8 rfl
theorem dv7 (l:List Package)(k:Int)(d:Dep)(xs:List Rich)(hn:2≤xs.length)(hx:∀ x∈xs,fn5 l x)(st:List Bool)(hst:st.length=l.length) :
  PC Tryz.prog EE 315 [.agg (ah3 l st),.tptr (Rich.mk k d xs).cs] (.bool (((Rich.trs l xs).getD 0 ff) st&&!((Rich.trs l xs).getD 1 ff) st)):=by
 refine ae9 hE fok315 (Nat.le_of_ble_eq_true rfl) (ai3 (ai1 l st) (bq6 _)) ?_
 have n0:0<xs.length:=by omega
 have n1:1<xs.length:=by omega
 have h0:=hx _ (List.getElem_mem n0) st hst
 have h1:=hx _ (List.getElem_mem n1) st hst
 have g0:=dm7 n0
 have g1:=dm7 n1
 have c0:(0:Int)<xs.length:=by omega
 have c1:(1:Int)<xs.length:=by omega
 rw[dm8 n1,dm8 n0]
 simp only[ic315,go_sem,ab7,ab5,ab9,aa8,az5,c0,c1,g0,g1,ab4,aa6]
 first|refine aa1 fok243 (h0) ?_|refine aa3 (h0) ?_
 cases xs[0].tr l st with
 | false=>simp only[go_sem]; exact ac8 rfl
 | true=>
  simp only[go_sem,ab7,ab5,ab9,aa8,az5,c0,c1,g0,g1,ab4,aa6]
  first|refine aa1 fok243 (h1) ?_|refine aa3 (h1) ?_
  simp only[go_sem]
  exact ac8 rfl
theorem gt6 (l:List Package)(hl:l.length≤256)(st:List Bool)(hst:st.length=l.length)(k:Int)(d:Dep)(xs:List Rich)(hn:xs.length<2^62)(hx:∀ x∈xs,fn5 l x) :
  PC Tryz.prog EE 293 [.agg (ah3 l st),.agg (Rich.mk k d xs).cs] (.bool (fy7 st fun n=>(Rich.trs l xs).all fun f=>f (dj4 st.length n))):=by
 refine ae9 hE fok293 (Nat.le_of_ble_eq_true rfl) (ai3 (ai1 l st) (ae4 _)) ?_
 have h:=gj7 l hl st hst 314 [.tptr (Rich.mk k d xs).cs] (fun s2=>(Rich.trs l xs).all fun f=>f s2) fok314.1 (bb8 (bq6 _)) fun s2 h2=>gd7 l k d xs hn hx s2 h2
 have h7:=aa6 (.mk k d xs)
 simp only[ic293,go_sem,ab7,ab5,ab9,aa8,h7]
 first|refine aa1 fok313 (h) ?_|refine aa3 (h) ?_
 simp only[go_sem]
 exact ac8 rfl
theorem ev2 (l:List Package)(hl:l.length≤256)(st:List Bool)(hst:st.length=l.length)(k:Int)(d:Dep)(xs:List Rich)(hn:2≤xs.length)(hx:∀ x∈xs,fn5 l x) :
  PC Tryz.prog EE 294 [.agg (ah3 l st),.agg (Rich.mk k d xs).cs] (.bool (fy7 st fun n=>((Rich.trs l xs).getD 0 ff) (dj4 st.length n)&&!((Rich.trs l xs).getD 1 ff) (dj4 st.length n))):=by
 refine ae9 hE fok294 (Nat.le_of_ble_eq_true rfl) (ai3 (ai1 l st) (ae4 _)) ?_
 have h:=gj7 l hl st hst 315 [.tptr (Rich.mk k d xs).cs] (fun s2=>((Rich.trs l xs).getD 0 ff) s2&&!((Rich.trs l xs).getD 1 ff) s2) fok315.1 (bb8 (bq6 _)) fun s2 h2=>dv7 l k d xs hn hx s2 h2
 have h7:=aa6 (.mk k d xs)
 simp only[ic294,go_sem,ab7,ab5,ab9,aa8,h7]
 first|refine aa1 fok313 (h) ?_|refine aa3 (h) ?_
 simp only[go_sem]
 exact ac8 rfl
theorem if6 (l:List Package)(hl:l.length≤256)(hs:∀ p∈l,Pkg.small p)(r:Rich):r.Good→fn5 l r:=by
 induction r using Rich.ind with
 | h k d xs ih=>
  intro hg st hst
  refine ae9 hE fok243 (Nat.le_of_ble_eq_true rfl) (ai3 (ai1 l st) (ae4 _)) ?_
  have h7:=aa6 (.mk k d xs)
  have h8:=ab4 (.mk k d xs)
  have nfl:IV.nilfunc.leaf=true:=rfl
  have e:(Rich.mk k d xs).tr l st=trK l k d (Rich.trs l xs) st:=by rw[Rich.tr]
  rw[e]
  cases hg with
  | atom _ hd=>
   have h:=gt3 l hl hs st hst d hd
   unfold trK
   simp only[ic243,go_sem,ab7,ab5,ab9,aa8,h7,h8,bq7,nfl]
   first|refine aa1 fok288 (h) ?_|refine aa3 (h) ?_
   simp only[go_sem]
   exact ac8 rfl
  | node _ _ _ h1 h2 h3 h4 h5=>
   have hx:∀ x∈xs,fn5 l x:=fun x hx=>ih x hx (h5 x hx)
   have hn:xs.length≤24:=by
    unfold dt4 at h4
    split at h4
    ·omega
    split at h4
    ·omega
    split at h4<;>omega
   have c2:=gj6 l st hst k d xs (by omega) hx
   have c3:=hq5 l st hst k d xs (by omega) hx
   have c4:=hq6 l st hst k d xs (by omega) hx
   have c5:=fn9 l st hst k d xs (by omega) (by omega) hx
   have c6:=gt6 l hl st hst k d xs (by omega) hx
   have c7:=ev2 l hl st hst k d xs (by omega) hx
   unfold trK
   have hk:k=2∨k=3∨k=4∨k=5∨k=6∨k=7:=by omega
   rcases hk with rfl|rfl|rfl|rfl|rfl|rfl
   ·simp only[ic243,go_sem,ab7,ab5,ab9,aa8,h7,h8,bq7,nfl]
    first|refine aa1 fok289 (c2) ?_|refine aa3 (c2) ?_
    simp only[go_sem]
    exact ac8 rfl
   ·simp only[ic243,go_sem,ab7,ab5,ab9,aa8,h7,h8,bq7,nfl]
    first|refine aa1 fok290 (c3) ?_|refine aa3 (c3) ?_
    simp only[go_sem]
    exact ac8 rfl
   ·simp only[ic243,go_sem,ab7,ab5,ab9,aa8,h7,h8,bq7,nfl]
    first|refine aa1 fok291 (c4) ?_|refine aa3 (c4) ?_
    simp only[go_sem]
    exact ac8 rfl
   ·simp only[ic243,go_sem,ab7,ab5,ab9,aa8,h7,h8,bq7,nfl]
    first|refine aa1 fok292 (c5) ?_|refine aa3 (c5) ?_
    simp only[go_sem]
    exact ac8 rfl
   ·simp only[ic243,go_sem,ab7,ab5,ab9,aa8,h7,h8,bq7,nfl]
    first|refine aa1 fok293 (c6) ?_|refine aa3 (c6) ?_
    simp only[go_sem]
    exact ac8 rfl
   ·simp only[ic243,go_sem,ab7,ab5,ab9,aa8,h7,h8,bq7,nfl]
    first|refine aa1 fok294 (c7) ?_|refine aa3 (c7) ?_
    simp only[go_sem]
    exact ac8 rfl
theorem gt7 (c:Nat)(zs:List Int):(stB c zs).length=c:=by simp[stB]
theorem dm9 (l:List Package)(hl:l.length≤256)(hs:∀ p∈l,Pkg.small p)(zs:List Int)(hz:zs.length<2^40)(r:Rich)(h1:r.fit)(h2:r.count<2^31) :
  PC Tryz.prog EE 183 [aj7 l,.tslice (zs.map Md.intC),.agg r.cs] (.bool (ew2 l zs r)):=by
 refine ae9 hE fok183 (Nat.le_of_ble_eq_true rfl) (aw3 (aq2 l) (ao7 zs) (ae4 _)) ?_
 have hw:=ga3 r h1 h2
 have hS:=ee2 l zs hl hz
 have hnl:∀ d:TypeId,cc5 (.pointer d) (aj7 l)=some false:=fun _=>rfl
 unfold ew2
 simp only[ic183,go_sem,hnl,aa8,ab4,aa6]
 first|refine aa1 fok241 (hw) ?_|refine aa3 (hw) ?_
 cases hq:dj3 r with
 | false=>simp only[go_sem]; exact ac8 rfl
 | true=>
  have hg:r.ms.2.2=true:=by
   unfold dj3 at hq
   simp only[Bool.and_eq_true] at hq
   exact hq.1.1
  have hi:=if6 l hl hs r (Rich.ms_good r hg) (stB l.length zs) (gt7 _ _)
  simp only[go_sem]
  first|refine aa1 fok242 (hS) ?_|refine aa3 (hS) ?_
  simp only[go_sem,aa8,ab4,aa6]
  first|refine aa1 fok243 (hi) ?_|refine aa3 (hi) ?_
  simp only[go_sem]
  exact ac8 rfl
end Go.Id.Tryz
