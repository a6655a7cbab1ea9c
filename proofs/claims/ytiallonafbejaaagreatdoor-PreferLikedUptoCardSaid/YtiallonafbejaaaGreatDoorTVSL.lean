/- The library's sort by a function,of few. Conditions: at most twelve; what is compared is answered by a pure function. -/
import Derived.Test.YtiallonafbejaaaGreatDoorTVTJ
import Derived.Test.YtiallonafbejaaaGreatDoorTVSG
import Derived.Test.YtiallonafbejaaaGreatDoorTVQM
import Derived.Test.YtiallonafbejaaaGreatDoorTVTG
set_option linter.all false
namespace Go.Id.Tryz
open Go Go.Id Go.Proofs
set_option maxRecDepth 100000
section
variable {α:Type} [Inhabited α] (emb:α→Int) (tl:List IV) {cf:α→α→Int} {g:Nat} {first cap:List IV} {id:Nat}
theorem SO.trans {d d':Array α}{σ s t:Store}(h:SO emb tl id d σ s)(h2:SO emb tl id d' s t):SO emb tl id d' σ t :=
 ⟨Nat.le_trans h.next h2.next,fun i hi=>by rw[h2.other i hi,h.other i hi],h2.row⟩
theorem eu1 (hC:CmpOK emb cf g first cap){σ:Store}(d:Array α)(lim:Int)(hz:d.size≤12)(ho:σ.obj id=some (.row (cw9 emb tl d))) :
  C Tryz.prog EE 192 [.slice id 0 d.size 1,.int .i64 0,.int .i64 d.size,.int .i64 lim,.func (.func g) first cap] σ fun v s=>v=.tuple []∧SO emb tl id (Go.Sort.insertionSort (ltOf cf) d 0 d.size) σ s:=by
 refine C_f fok192 (Nat.le_of_ble_eq_true rfl) ?_
 have w0:IntKind.i64.wrap ((d.size:Int)-0)=d.size:=by rw[wrap64 (by omega) (by omega)]; omega
 have c1:(d.size:Int)≤12:=by omega
 simp only[ic192,go_sem]
 refine aa9 noT (fun k fr t=>k=0∧fr=[(0,.slice id 0 d.size 1),(1,.int .i64 0),(2,.int .i64 d.size),(3,.int .i64 lim),(4,.func (.func g) first cap),(10,.bool true),(11,.bool true)]∧t.obj=σ.obj∧σ.next≤t.next) 0 ⟨rfl,rfl,rfl,Nat.le_refl _⟩ ?_
 rintro k fr t _ ⟨rfl,rfl,hto,htn⟩
 simp only[go_sem,w0,c1]
 refine af8 fok244 (fo6 emb tl hC d 0 d.size (Nat.zero_le _) (Nat.le_refl _) (by omega) (by rw[hto]; exact ho)) ?_
 rintro v s ⟨rfl,hs⟩
 refine ⟨hs.next,?_⟩
 simp only[go_sem]
 exact ⟨Nat.le_trans htn hs.next,fun i hi=>by rw[hs.other i hi,hto],hs.row⟩
theorem dv1 (hC:CmpOK emb cf g first cap){σ:Store}(d:Array α)(hz:d.size≤12)(L:Int)(hL:PC Tryz.prog EE 149 [.int .u64 d.size] (.int .i64 L))(ho:σ.obj id=some (.row (cw9 emb tl d))) :
  C Tryz.prog EE 123 [.slice id 0 d.size 1,.func (.func g) first cap] σ fun v s=>v=.tuple []∧SO emb tl id (Go.Sort.insertionSort (ltOf cf) d 0 d.size) σ s:=by
 refine C_f fok123 (Nat.le_of_ble_eq_true rfl) ?_
 have w0:IntKind.u64.wrap (d.size:Int)=d.size:=by
  show (d.size:Int)%18446744073709551616=d.size
  omega
 simp only[ic123,go_sem,w0]
 refine aa1 fok149 hL ?_
 simp only[go_sem]
 refine af8 fok192 (eu1 emb tl hC d L hz ho) ?_
 rintro v s ⟨rfl,hs⟩
 refine ⟨hs.next,?_⟩
 simp only[go_sem]
 exact hs
end
theorem gs2:PC Tryz.prog EE 149 [.int .u64 0] (.int .i64 0):=by
 have h:PC Tryz.prog EE 227 [.int .u64 0] (.int .i64 0):=by
  refine ak4 fok227 (Nat.le_of_ble_eq_true rfl) fun σ=>?_
  simp only[ic227,go_sem]
  show ej7 (some (IV.int .u8 0)) σ _
  have w1:IntKind.i64.wrap 0=0:=by decide
  have w2:IntKind.i64.wrap (0+0)=0:=by decide
  simp only[go_sem,w1,w2,and_self]
 refine ak4 fok149 (Nat.le_of_ble_eq_true rfl) fun σ=>?_
 simp only[ic149,go_sem]
 refine aa1 fok227 h ?_
 simp only[go_sem,and_self]
theorem gs3:PC Tryz.prog EE 149 [.int .u64 1] (.int .i64 1):=by
 have h:PC Tryz.prog EE 227 [.int .u64 1] (.int .i64 1):=by
  refine ak4 fok227 (Nat.le_of_ble_eq_true rfl) fun σ=>?_
  simp only[ic227,go_sem]
  show ej7 (some (IV.int .u8 1)) σ _
  have w1:IntKind.i64.wrap 1=1:=by decide
  have w2:IntKind.i64.wrap (0+1)=1:=by decide
  simp only[go_sem,w1,w2,and_self]
 refine ak4 fok149 (Nat.le_of_ble_eq_true rfl) fun σ=>?_
 simp only[ic149,go_sem]
 refine aa1 fok227 h ?_
 simp only[go_sem,and_self]
theorem gs4:PC Tryz.prog EE 149 [.int .u64 2] (.int .i64 2):=by
 have h:PC Tryz.prog EE 227 [.int .u64 2] (.int .i64 2):=by
  refine ak4 fok227 (Nat.le_of_ble_eq_true rfl) fun σ=>?_
  simp only[ic227,go_sem]
  show ej7 (some (IV.int .u8 2)) σ _
  have w1:IntKind.i64.wrap 2=2:=by decide
  have w2:IntKind.i64.wrap (0+2)=2:=by decide
  simp only[go_sem,w1,w2,and_self]
 refine ak4 fok149 (Nat.le_of_ble_eq_true rfl) fun σ=>?_
 simp only[ic149,go_sem]
 refine aa1 fok227 h ?_
 simp only[go_sem,and_self]
theorem gs5:PC Tryz.prog EE 149 [.int .u64 3] (.int .i64 2):=by
 have h:PC Tryz.prog EE 227 [.int .u64 3] (.int .i64 2):=by
  refine ak4 fok227 (Nat.le_of_ble_eq_true rfl) fun σ=>?_
  simp only[ic227,go_sem]
  show ej7 (some (IV.int .u8 2)) σ _
  have w1:IntKind.i64.wrap 2=2:=by decide
  have w2:IntKind.i64.wrap (0+2)=2:=by decide
  simp only[go_sem,w1,w2,and_self]
 refine ak4 fok149 (Nat.le_of_ble_eq_true rfl) fun σ=>?_
 simp only[ic149,go_sem]
 refine aa1 fok227 h ?_
 simp only[go_sem,and_self]
theorem gs6:PC Tryz.prog EE 149 [.int .u64 4] (.int .i64 3):=by
 have h:PC Tryz.prog EE 227 [.int .u64 4] (.int .i64 3):=by
  refine ak4 fok227 (Nat.le_of_ble_eq_true rfl) fun σ=>?_
  simp only[ic227,go_sem]
  show ej7 (some (IV.int .u8 3)) σ _
  have w1:IntKind.i64.wrap 3=3:=by decide
  have w2:IntKind.i64.wrap (0+3)=3:=by decide
  simp only[go_sem,w1,w2,and_self]
 refine ak4 fok149 (Nat.le_of_ble_eq_true rfl) fun σ=>?_
 simp only[ic149,go_sem]
 refine aa1 fok227 h ?_
 simp only[go_sem,and_self]
theorem gs7:PC Tryz.prog EE 149 [.int .u64 5] (.int .i64 3):=by
 have h:PC Tryz.prog EE 227 [.int .u64 5] (.int .i64 3):=by
  refine ak4 fok227 (Nat.le_of_ble_eq_true rfl) fun σ=>?_
  simp only[ic227,go_sem]
  show ej7 (some (IV.int .u8 3)) σ _
  have w1:IntKind.i64.wrap 3=3:=by decide
  have w2:IntKind.i64.wrap (0+3)=3:=by decide
  simp only[go_sem,w1,w2,and_self]
 refine ak4 fok149 (Nat.le_of_ble_eq_true rfl) fun σ=>?_
 simp only[ic149,go_sem]
 refine aa1 fok227 h ?_
 simp only[go_sem,and_self]
theorem gs8 (k:Nat)(hk:k≤5):∃ L:Int,PC Tryz.prog EE 149 [.int .u64 k] (.int .i64 L):=by
 match k,hk with
 | 0,_=>exact ⟨_,gs2⟩
 | 1,_=>exact ⟨_,gs3⟩
 | 2,_=>exact ⟨_,gs4⟩
 | 3,_=>exact ⟨_,gs5⟩
 | 4,_=>exact ⟨_,gs6⟩
 | 5,_=>exact ⟨_,gs7⟩
end Go.Id.Tryz
/- The better ahead: Sort,walked. Conditions: sizes that fit. -/
namespace Go.Id.Tryz
open Go Go.Id Go.Proofs Go.Shelf Go.Id.Md
set_option maxRecDepth 100000
theorem dv2 (zs:List Int)(hz:zs≠[])(hl:zs.length<2^30)(σ:Store):C Tryz.prog EE 72 [.tslice (zs.map Md.intC)] σ (gr5 σ zs):=by
 refine C_f fok72 (Nat.le_of_ble_eq_true rfl) ?_
 have hnil:∀ (d:TypeId),cc5 (.slice d) (.tslice (zs.map Md.intC))=some false:=fun d=>by
  cases zs with
  | nil=>exact absurd rfl hz
  | cons z zs=>rfl
 simp only[ic72,go_sem,hnil]
 generalize hS:Store.put _ σ.next (IObj.row [])=S
 have hSn:S.next=σ.next+2:=by rw[← hS]; rfl
 have hSo:S.obj σ.next=some (.row []):=by rw[← hS]; simp only[aa2,if_true]
 have hSk:∀ i,i<σ.next→S.obj i=σ.obj i:=fun i hi=>by
  have:¬ i=σ.next:=by omega
  rw[← hS]; simp only[aa2,this,if_false]
 have hg:ar2 S σ.next (.slice σ.next 0 0 1) []:=.inr ⟨σ.next,Nat.le_refl _,by omega,rfl,hSo⟩
 obtain ⟨v',σ',h1,h2,h3,h4⟩:=gb3 (nid:=σ.next+1) (xs:=zs) hg (by simp only[List.length_nil]; omega)
 simp only[go_sem,h1]
 have h5:=h4 σ' rfl (by omega) (by omega) (by omega)
 rw[List.nil_append] at h5
 exact ⟨⟨by omega,fun i hi=>by rw[h3 i hi (by omega)]; exact hSk i hi⟩,h5⟩
abbrev gs9 (o:OrdM):={ k:Nat // k<o.a.l.length }
def aw9 (o:OrdM)(x:gs9 o):Int:=((x.1:Nat):Int)
def cfO (o:OrdM)(x y:gs9 o):Int:=o.cmp (aw9 o x) (aw9 o y)
theorem ie9 (o:OrdM)(hO:OOK o):CmpOK (aw9 o) (cfO o) 121 [o.v] []:=⟨fok121.1,fun x y=>cw8 o hO x.2 y.2⟩
theorem gb6 (o:OrdM)(n:Int):PC Tryz.prog EE 122 [.int .i64 n,.tptr [o.v]] (.bool (!o.a.is n)):=by
 refine ae9 hE fok122 (Nat.le_of_ble_eq_true rfl) (ai3 (.int _ _) (aq3 (an5 o))) ?_
 have h:=ce2 o n
 simp only[ic122,go_sem]
 first|refine aa1 fok120 (h) ?_|refine aa3 (h) ?_
 simp only[go_sem]
 exact ac8 rfl
theorem im7 (o:OrdM)(hr:∀ n,o.a.is n=true→(o.a.pk n).evr.rel≠[]):Go.Sort.SWO (ltOf (cfO o)):=by
 have hs:∀ x:gs9 o,(o.a.pk (aw9 o x)).evr.rel≠[]:=fun x=>hr _ (by unfold aw9; rw[AskM.is_nat]; exact decide_eq_true x.2)
 refine ⟨fun x=>?_,fun x y z h1 h2=>?_,fun x y z h1 h2=>?_⟩
 ·unfold ltOf cfO; rw[o.cmp_self]; rfl
 ·unfold ltOf cfO at *
  have t1:=o.wo.tr (aw9 o x) (aw9 o y) (aw9 o z) (hs x) (hs y) (hs z)
  have t2:=o.wo.tr (aw9 o z) (aw9 o x) (aw9 o y) (hs z) (hs x) (hs y)
  have n1:=o.wo.neg (aw9 o x) (aw9 o y)
  have n2:=o.wo.neg (aw9 o y) (aw9 o z)
  have n3:=o.wo.neg (aw9 o x) (aw9 o z)
  simp only[decide_eq_true_eq] at h1 h2 ⊢
  omega
 ·unfold ltOf cfO at *
  have t1:=o.wo.tr (aw9 o z) (aw9 o y) (aw9 o x) (hs z) (hs y) (hs x)
  have n1:=o.wo.neg (aw9 o x) (aw9 o y)
  have n2:=o.wo.neg (aw9 o y) (aw9 o z)
  have n3:=o.wo.neg (aw9 o x) (aw9 o z)
  simp only[decide_eq_false_iff_not] at h1 h2 ⊢
  omega
theorem dv3 (o:OrdM)(hO:OOK o)(hr:∀ n,o.a.is n=true→(o.a.pk n).evr.rel≠[])(l:List Int)(hl0:l≠[])(hl:l.length<2^30)
  (hSF:∀ (inst:Inhabited (gs9 o)) (σ:Store) (id:Nat) (tl:List IV) (d:Array (gs9 o)),d.size≤l.length→σ.obj id=some (.row (cw9 (aw9 o) tl d)) →
   C Tryz.prog EE 123 [.slice id 0 d.size 1,.func (.func 121) [o.v] []] σ fun v s=>v=.tuple []∧∃ d',Go.Sort.PermIn 0 d.size d d'∧Go.Sort.SortedIn (ltOf (cfO o)) 0 d.size d'∧SO (aw9 o) tl id d' σ s) :
  PC Tryz.prog EE 52 [o.v,.tslice (l.map Md.intC)] (.tslice ((o.sortM l).map Md.intC)):=by
 refine ae9 hE fok52 (Nat.le_of_ble_eq_true rfl) (ai3 (an5 o) (ao8 l)) ?_
 have olf:o.v.leaf=true:=rfl
 have ocs:o.v.cs=[o.v]:=rfl
 simp only[ic52,go_sem,olf,ocs]
 refine af8 fok72 (dv2 l hl0 hl _) ?_
 rintro v s ⟨hk,hrow⟩
 refine ⟨hk.next,?_⟩
 rcases hrow with ⟨_,h0⟩|⟨id,hid1,hid2,rfl,ho⟩
 ·exact absurd h0 hl0
 simp only[go_sem]
 refine af8 fok101 (fl5 (fun z=>!o.a.is z) (by omega) ho (by rw[List.take_of_length_le (by simp)]) (by simp) fok122.1 (bc6 (aq3 (an5 o))) fun z _=>gb6 o z) ?_
 rintro v s2 ⟨hn2,_,cs,rfl,ho2,hct,hcl⟩
 refine ⟨hn2,?_⟩
 have hff:(l.filter fun x=>!(!o.a.is x))=l.filter o.a.is:=List.filter_congr fun x _=>by rw[Bool.not_not]
 simp only[hff] at hct hcl ho2 ⊢
 have hfl:(l.filter o.a.is).length≤l.length:=List.length_filter_le _ _
 by_cases h0:(l.filter o.a.is).length=0
 ·have h0':((l.filter o.a.is).length:Int)=0:=by omega
  simp only[go_sem,h0']
  have:o.sortM l=[]:=List.eq_nil_iff_forall_not_mem.2 fun x hx=>by
   obtain ⟨h1,h2⟩:=o.sortM_mem.1 hx
   have:=List.mem_filter.2 ⟨h1,h2⟩
   rw[List.length_eq_zero_iff.1 h0] at this
   cases this
  rw[this]
  exact .nils
 have h0':¬ ((l.filter o.a.is).length:Int)=0:=by omega
 simp only[go_sem,h0']
 obtain ⟨zs,hzs⟩:∃ zs,l.filter o.a.is=zs:=⟨_,rfl⟩
 rw[hzs] at h0 h0' hct hcl hfl ⊢
 have hall:∀ z∈zs,∃ k:Nat,z=k∧k<o.a.l.length:=fun z hz=>fo2 (List.mem_filter.1 (by rw[hzs]; exact hz)).2
 obtain ⟨ds,hds⟩:∃ ds:List (gs9 o),ds.map (aw9 o)=zs:=by
  clear hzs h0 h0' hct hcl hfl
  induction zs with
  | nil=>exact ⟨[],rfl⟩
  | cons z zs ih=>
   obtain ⟨ds,h⟩:=ih fun y hy=>hall y (List.mem_cons_of_mem _ hy)
   obtain ⟨k,rfl,hk⟩:=hall z List.mem_cons_self
   exact ⟨⟨k,hk⟩::ds,by rw[List.map_cons,h]; rfl⟩
 have hdl:ds.length=zs.length:=by rw[← hds,List.length_map]
 have inst:Inhabited (gs9 o):=⟨ds[0]'(by omega)⟩
 have hrw:s2.obj id=some (.row (cw9 (aw9 o) (cs.drop zs.length) ds.toArray)):=by
  rw[ho2,cw9,ev4]
  have h2:ds.toArray.toList.map (fun x=>IV.int .i64 (aw9 o x))=zs.map ck6:=by rw[← hds,List.map_map]; rfl
  rw[h2,← hct,List.take_append_drop]
 have hsz:ds.toArray.size=zs.length:=hdl
 have hS:=hSF inst s2 id (cs.drop zs.length) ds.toArray (by omega) hrw
 rw[hsz] at hS
 refine af8 fok123 hS ?_
 rintro v s3 ⟨rfl,d',hP,hU,hSO⟩
 refine ⟨hSO.next,?_⟩
 simp only[go_sem]
 obtain ⟨zs2,hz2⟩:∃ zs2,d'.toList.map (aw9 o)=zs2:=⟨_,rfl⟩
 have hd's:d'.size=zs.length:=by rw[hP.1]; exact hdl
 have hz2l:zs2.length=zs.length:=by rw[← hz2,List.length_map,Array.length_toList,hd's]
 have hpm:d'.toList.Perm ds:=by
  have h3:=hP.2.2
  have e1:d'.extract 0 zs.length=d':=by rw[← hd's]; exact Array.extract_size
  have e2:ds.toArray.extract 0 zs.length=ds.toArray:=by rw[← hsz]; exact Array.extract_size
  rw[e1,e2] at h3
  exact h3
 have hmem:∀ x,x∈zs2↔x∈l∧o.a.is x=true:=fun x=>by
  rw[← hz2,(hpm.map _).mem_iff,hds,← hzs,List.mem_filter]
 have hup:zs2.Pairwise fun x y=>x=y∨o.cmp x y<0:=by
  refine List.pairwise_iff_getElem.2 fun i j hi hj hij=>?_
  have hi2:i<d'.size:=by rw[hd's]; omega
  have hj2:j<d'.size:=by rw[hd's]; omega
  have h4:=hU i j (Nat.zero_le _) hij (by omega)
  rw[getElem!_pos d' i hi2,getElem!_pos d' j hj2] at h4
  have g1:zs2[i]=aw9 o d'[i]:=by simp[← hz2]
  have g2:zs2[j]=aw9 o d'[j]:=by simp[← hz2]
  rw[g1,g2]
  unfold ltOf cfO at h4
  have h5:¬ o.cmp (aw9 o d'[j]) (aw9 o d'[i])<0:=of_decide_eq_false h4
  have n1:=o.wo.neg (aw9 o d'[i]) (aw9 o d'[j])
  by_cases e:o.cmp (aw9 o d'[i]) (aw9 o d'[j])=0
  ·exact .inl (o.cmp_zero e)
  ·exact .inr (by omega)
 have hrow2:s3.obj id=some (.row (zs2.map iv++cs.drop zs.length)):=by
  rw[hSO.row,cw9,ev4,← hz2,List.map_map]; rfl
 have hc:=et7 (R:=fun x y=>o.cmp x y<0) (σ:=s3) (id:=id) (zs:=zs2) (fun a ha b hb c hc h1 h2=>o.lt_trans hr ((hmem a).1 ha).2 ((hmem b).1 hb).2 ((hmem c).1 hc).2 h1 h2) (by omega) hrow2 hup
 rw[hz2l] at hc
 refine af8 fok85 hc ?_
 rintro v s4 ⟨⟨D,cs2,hD1,hD2,rfl,ho4,hct2,hcl2⟩,hn4,_⟩
 refine ⟨hn4,?_⟩
 simp only[go_sem]
 have hDs:D=o.sortM l:=o.sortM_one hr hD1 fun x=>(hD2 x).trans (hmem x)
 rw[← hDs]
 exact ec3 ho4 hct2 hcl2
theorem fl6 (o:OrdM)(hO:OOK o)(hr:∀ n,o.a.is n=true→(o.a.pk n).evr.rel≠[])(l:List Int)(hl0:l.length=5)(hlen:∀ k:Nat,k≤5→∃ L:Int,PC Tryz.prog EE 149 [.int .u64 k] (.int .i64 L)) :
  PC Tryz.prog EE 52 [o.v,.tslice (l.map Md.intC)] (.tslice ((o.sortM l).map Md.intC)):=
 dv3 o hO hr l (fun h=>by rw[h] at hl0; cases hl0) (by omega) fun inst σ id tl d hd ho=>by
  obtain ⟨L,hL⟩:=hlen d.size (by omega)
  have hw:=im7 o hr
  obtain ⟨h1,h2⟩:=@Go.Sort.insertionSort_holds _ inst (ltOf (cfO o)) hw d 0 d.size (Nat.zero_le _) (Nat.le_refl _)
  exact (dv1 (aw9 o) tl (ie9 o hO) d (by omega) L hL ho).mono fun v s ⟨e,h⟩=>⟨e,_,h1,h2,h⟩
end Go.Id.Tryz
/- The law's own: how much is handed in. Conditions: sizes that fit. -/
namespace Go.Id.Tryz
open Go Go.Id Go.Proofs Go.Id.Md
set_option maxRecDepth 100000
theorem dk5 (l:List Rich)(n:Int)(hl:l.length<2^62)(ih:∀ r∈l,∀ m:Int,PC Tryz.prog EE 175 [ac5 r.args,.int .i64 m] (.int .i64 (ptR r m))) :
  PC Tryz.prog EE 175 [ac5 l,.int .i64 n] (.int .i64 (ptL l n 0)):=by
 refine ak4 fok175 (Nat.le_of_ble_eq_true rfl) fun σ=>?_
 simp only[ic175,go_sem]
 refine aa9 noT (fun i fr t=>∃ w:Int,t.obj=σ.obj∧t.next=σ.next∧fr=[(0,ac5 l),(1,.int .i64 n),(5,.int .i64 w),(6,.int .i64 i)]∧ptL l n 0=ptL (l.drop i) n w) l.length ⟨0,rfl,rfl,rfl,rfl⟩ ?_
 rintro i fr t hi ⟨w,ho,hn,rfl,hf⟩
 have ht:t=σ:=by cases t; cases σ; simp only at ho hn; rw[ho,hn]
 subst ht
 by_cases hlt:i<l.length
 ·obtain ⟨r,ha,_,hdr,hget,_⟩:=ad1 l i hlt
  have c1:(i:Int)<l.length:=by omega
  have c2:(0:Int)≤i:=by omega
  have w1:=ad5 (i:=i) (by omega)
  rw[hdr,ptL] at hf
  by_cases hw:w<n
  ·rw[if_pos hw] at hf
   simp only[go_sem,c1,c2,hw,hget,aa8,ga7]
   refine aa1 fok175 (ih r ha _) ?_
   simp only[go_sem,w1]
   exact ⟨hlt,_,rfl,hf⟩
  ·rw[if_neg hw] at hf
   simp only[go_sem,c1,hw]
   rw[hf]
 ·have hi':i=l.length:=by omega
  subst hi'
  have c1:¬ (l.length:Int)<l.length:=by omega
  rw[List.drop_length,ptL] at hf
  simp only[go_sem,c1,hf,and_self]
theorem gb7 (r:Rich):r.ok→∀ m:Int,PC Tryz.prog EE 175 [ac5 r.args,.int .i64 m] (.int .i64 (ptR r m)):=by
 induction r using Rich.ind with
 | h k d xs ih=>
  intro ho m
  obtain ⟨_,_,_,h4,h5⟩:=Rich.ok_mk.1 ho
  rw[hm4]
  exact dk5 xs m h4 fun r hr m=>ih r hr (h5 r hr) m
theorem gb8 (l:List Rich)(hl:l.length<2^62)(h:∀ r∈l,r.ok)(n:Int):PC Tryz.prog EE 175 [ac5 l,.int .i64 n] (.int .i64 (ptL l n 0)):=
 dk5 l n hl fun r hr m=>gb7 r (h r hr) m
theorem bh7 (l:List Package)(n:Int)(hl:l.length<2^62)(h:∀ p∈l,p.Ok):PC Tryz.prog EE 118 [ak6 l,.int .i64 n] (.int .i64 (szL l n 0)):=by
 refine ae9 hE fok118 (Nat.le_of_ble_eq_true rfl) (aj8 (ap3 l) (.int _ _)) ?_
 simp only[ic118,go_sem]
 refine aa9 noT (fun i fr t=>∃ w:Int,fr=[(0,ak6 l),(1,.int .i64 n),(5,.int .i64 w),(6,.int .i64 i)]∧szL l n 0=szL (l.drop i) n w) l.length ⟨0,rfl,rfl⟩ ?_
 rintro i fr t hi ⟨w,rfl,hf⟩
 by_cases hlt:i<l.length
 ·obtain ⟨p,ha,_,hdr,hget,_⟩:=ad1 l i hlt
  have c1:(i:Int)<l.length:=by omega
  have c2:(0:Int)≤i:=by omega
  have w1:=ad5 (i:=i) (by omega)
  rw[hdr,szL] at hf
  by_cases hw:w<n
  ·rw[if_pos hw] at hf
   have f6:(p.cs.drop 6).head? = some (deps p.provides):=rfl
   have f7:(p.cs.drop 7).head? = some (ac5 p.requires):=rfl
   have f8:(p.cs.drop 8).head? = some (ac5 p.conflicts):=rfl
   have f9:(p.cs.drop 9).head? = some (deps p.obsoletes):=rfl
   have f10:(p.cs.drop 10).head? = some (ac5 p.recommends):=rfl
   have f11:(p.cs.drop 11).head? = some (ac5 p.supplements):=rfl
   have f12:(p.cs.drop 12).head? = some (ac5 p.suggests):=rfl
   have f13:(p.cs.drop 13).head? = some (ac5 p.enhances):=rfl
   have f14:(p.cs.drop 14).head? = some (strs p.files):=rfl
   simp only[go_sem,c1,c2,hw,hget,bn6,bb3,bb4,f6,f7,f8,f9,f10,f11,f12,f13,f14,ax9]
   have hL:∀ (k:Nat) (hk:k<(as2 p).length),((as2 p).map lR).getD k []=[ac5 (as2 p)[k]]:=fun k hk=>by simp[List.getD_eq_getElem?_getD,hk,lR]
   have hok:=fk9 (h p ha)
   have hlen:(as2 p).length=6:=rfl
   unfold szP wr at hf
   generalize hw0:IntKind.i64.wrap (IntKind.i64.wrap (IntKind.i64.wrap (IntKind.i64.wrap (w+1)+p.provides.length)+p.obsoletes.length)+p.files.length)=w0 at *
   have hl6:IV.tslice [[ac5 p.requires],[ac5 p.conflicts],[ac5 p.recommends],[ac5 p.supplements],[ac5 p.suggests],[ac5 p.enhances]]=.tslice ((as2 p).map lR):=rfl
   rw[hl6]
   have hf':szL l n 0=szL (l.drop (i+1)) n (gr3 (as2 p) n w0):=hf
   clear hf hdr hget f6 f7 f8 f9 f10 f11 f12 f13 f14 hl6
   refine aa9 noT (fun k fr u=>∃ v:Int,fr=[(0,ak6 l),(1,.int .i64 n),(5,.int .i64 v),(6,.int .i64 i),(51,.tslice ((as2 p).map lR)),(52,.int .i64 6),(53,.int .i64 k)]∧gr3 (as2 p) n w0=gr3 ((as2 p).drop k) n v) 6 ⟨w0,rfl,rfl⟩ ?_
   rintro k fr u hk ⟨v,rfl,hs⟩
   by_cases hlt2:k<6
   ·have d1:(k:Int)<6:=by omega
    have d2:(0:Int)≤k:=by omega
    have d3:(k:Int)<(as2 p).length:=by omega
    have w2:=ad5 (i:=k) (by omega)
    have hk2:k<(as2 p).length:=by omega
    have hgk:=hL k hk2
    obtain ⟨o1,o2⟩:=hok _ (List.getElem_mem hk2)
    rw[List.drop_eq_getElem_cons hk2,gr3] at hs
    generalize (as2 p)[k]=x at *
    simp only[go_sem,d1,d2,d3,hgk]
    refine aa1 fok175 (gb8 x o1 o2 n) ?_
    simp only[go_sem,w2]
    exact ⟨hlt2,_,rfl,hs⟩
   ·have hk':k=6:=by omega
    subst hk'
    have d1:¬ ((6:Nat):Int)<6:=by omega
    rw[List.drop_of_length_le (by omega),gr3] at hs
    rw[hs] at hf'
    simp only[go_sem,d1,w1]
    exact ⟨hlt,_,rfl,hf'⟩
  ·rw[if_neg hw] at hf
   simp only[go_sem,c1,hw]
   rw[hf]
   exact ab8 _ _
 ·have hi':i=l.length:=by omega
  subst hi'
  have c1:¬ (l.length:Int)<l.length:=by omega
  rw[List.drop_length,szL] at hf
  simp only[go_sem,c1]
  rw[hf]
  exact ab8 _ _
end Go.Id.Tryz
/- The law's own: what is asked for over a pool; what is too large; rows compared. Conditions: sizes that fit. -/
namespace Go.Id.Tryz
open Go Go.Id Go.Proofs Go.Shelf Go.Id.Md
set_option maxRecDepth 100000
theorem dk6 (xs ys:List Int)(h1:xs.length<2^62)(h2:ys.length<2^62):PC Tryz.prog EE 37 [.tslice (xs.map Md.intC),.tslice (ys.map Md.intC)] (.bool (decide (xs=ys))):=by
 refine ae9 hE fok37 (Nat.le_of_ble_eq_true rfl) (aj8 (ao8 xs) (ao8 ys)) ?_
 by_cases hl:xs.length=ys.length
 case neg=>
  have hl':¬ (xs.length:Int)=ys.length:=by omega
  have:decide (xs=ys)=false:=decide_eq_false fun e=>hl (by rw[e])
  simp only[ic37,go_sem,hl',this]
  exact ab1 _
 have hl':(xs.length:Int)=ys.length:=by omega
 have hl2:decide ((xs.length:Int)=ys.length)=true:=decide_eq_true hl'
 simp only[ic37,go_sem,hl2]
 refine aa9 noT (fun i fr s=>fr=[(0,.tslice (xs.map Md.intC)),(1,.tslice (ys.map Md.intC)),(5,.int .i64 i)]∧xs.take i=ys.take i) xs.length ⟨rfl,rfl⟩ ?_
 rintro i fr s hi ⟨rfl,hf⟩
 by_cases hlt:i<xs.length
 ·obtain ⟨x,hx,hxi,hdr,hget,htk⟩:=ad1 xs i hlt
  obtain ⟨y,hy,hyi,hdr2,hget2,htk2⟩:=ad1 ys i (by omega)
  have c1:(i:Int)<xs.length:=by omega
  have c3:(i:Int)<ys.length:=by omega
  have c2:(0:Int)≤i:=by omega
  have w1:=ad5 (i:=i) (by omega)
  simp only[go_sem,c1,c2,c3,hget,hget2,Md.intC,w1]
  by_cases hxy:x=y
  ·have hd:decide (x=y)=true:=decide_eq_true hxy
   simp only[go_sem,hd,w1]
   refine ⟨hlt,?_⟩
   rw[htk,htk2,hf,hxy]
  ·have hd:decide (x=y)=false:=decide_eq_false hxy
   have hne:decide (xs=ys)=false:=decide_eq_false fun e=>hxy (by rw[e] at hxi; rw[hxi] at hyi; cases hyi; rfl)
   simp only[go_sem,hd,hne]
   exact ab1 _
 ·have hi':i=xs.length:=by omega
  subst hi'
  have c1:¬ (xs.length:Int)<xs.length:=by omega
  rw[List.take_length,hl,List.take_length] at hf
  have:decide (xs=ys)=true:=decide_eq_true hf
  simp only[go_sem,c1,this]
  exact ab1 _
theorem aok {repos:List Repo}{inst:List Package}{p:Pool}{r:Req}(hI:InOK repos inst)(hn:az9 repos inst=.inl p)(hR:ReqOK r)(he:aj6 r p.inst=0):AOK ⟨p,r⟩:=by
 have hf:=gi9 hI hn
 have hlen:(ab2 p).length≤256:=by simp only[ab2,List.length_map]; exact ec6 hn
 unfold aj6 at he
 split at he
 ·cases he
 split at he
 ·cases he
 rename_i hb
 split at he
 ·cases he
 rename_i hj
 refine ⟨hlen,fun x hx=>(hf x hx).2.1,fun x hx=>(hf x hx).1,fun x hx=>(hf x hx).2.2,?_,?_,?_,fun j hj=>(hR.jdep j hj).1,fun j hjm=>?_⟩
 ·have h1:=cj6 hn
  have h2:p.inst=inst.length:=by
   unfold az9 at hn
   split at hn
   ·cases hn
   split at hn
   ·cases hn
   split at hn
   ·cases hn; rfl
   ·cases hn
  show p.inst≤((ab2 p).length:Nat)
  rw[h2,h1,List.length_append]; omega
 ·show r.jobs.length≤64; omega
 ·show r.edits.length≤128; omega
 ·have h1:r.jobs.all cb1=true:=by simpa using hj
  have h2:=List.all_eq_true.1 h1 j hjm
  unfold cb1 at h2
  simp only[Bool.and_eq_true,decide_eq_true_eq] at h2
  exact ⟨h2.1.1,h2.1.2⟩
theorem fl7 {repos:List Repo}{inst:List Package}{p:Pool}(hn:az9 repos inst=.inl p):p.inst=inst.length:=by
 unfold az9 at hn
 split at hn
 ·cases hn
 split at hn
 ·cases hn
 split at hn
 ·cases hn; rfl
 ·cases hn
end Go.Id.Tryz
/- The examples of what is asked for,walked. Conditions: none. -/
namespace Go.Id.Tryz
open Go Go.Id Go.Proofs Go.Shelf Go.Id.Md
set_option maxRecDepth 100000
def cc2 (name ver:Str):Package:={ name:=name,evr:=⟨0,ver,[49]⟩,arch:=2,vendor:=[],provides:=[],requires:=[],conflicts:=[],obsoletes:=[],recommends:=[],supplements:=[],suggests:=[],enhances:=[],files:=[] }
theorem dk7 {s:Store}(x:Str):cg9 s 0 (.str x) (.str x):=.keep _ (.str _)
theorem fl8 {s:Store}(k:IntKind)(n:Int):cg9 s 0 (.int k n) (.int k n):=.keep _ (.int _ _)
def bp9 (repos:List Repo)(inst:List Package):Pool:=match az9 repos inst with
 | .inl p=>p
 | .inr _=>⟨[],0,[]⟩
def r15:Req:=⟨2,false,[],[],0⟩
def ec4 (d:Dep):Bool:=decide (d.name.length<100)&&decide (d.evr.ver.length<100)&&decide (d.evr.rel.length<100)
def ec5 (p:Package):Bool:=decide (p.name.length<100)&&decide (p.vendor.length<100)&&decide (p.evr.ver.length<100)&&decide (p.evr.rel.length<100)&&decide (p.provides.length<100)&&p.provides.all ec4&&decide (p.obsoletes.length<100)&&p.obsoletes.all ec4 &&
 decide (p.files.length<100)&&p.files.all (fun s=>decide (s.length<100))&&p.rows.all fun x=>x.2.isEmpty
theorem cd6 {p:Package}(h:ec5 p=true):p.Fit∧p.Ok:=by
 unfold ec5 at h
 simp only[Bool.and_eq_true,decide_eq_true_eq,List.all_eq_true] at h
 obtain ⟨⟨⟨⟨⟨⟨⟨⟨⟨⟨h1,h2⟩,h3⟩,h4⟩,h5⟩,h6⟩,h7⟩,h8⟩,h9⟩,h10⟩,h11⟩:=h
 have hd:∀ d:Dep,ec4 d=true→d.fit:=fun d hd=>by
  unfold ec4 at hd
  simp only[Bool.and_eq_true,decide_eq_true_eq] at hd
  exact ⟨by omega,by omega,by omega⟩
 have hr:∀ x∈p.rows,x.2=[]:=fun x hx=>List.isEmpty_iff.1 (h11 x hx)
 exact ⟨⟨by omega,⟨by omega,by omega⟩,⟨by omega,fun d hx=>hd d (h6 d hx)⟩,⟨by omega,fun d hx=>hd d (h8 d hx)⟩,⟨by omega,fun x hx=>by have:=h10 x hx; omega⟩,fun x hx=>by rw[hr x hx]; exact ⟨by simp,fun r h=>by cases h⟩⟩,
  ⟨by omega,by omega,⟨by omega,by omega⟩,⟨by omega,fun d hx=>hd d (h6 d hx)⟩,⟨by omega,fun d hx=>hd d (h8 d hx)⟩,⟨by omega,fun x hx=>by have:=h10 x hx; omega⟩,fun x hx=>by rw[hr x hx]; exact ⟨by simp,fun r h=>by cases h⟩⟩⟩
def fl9 (repos:List Repo)(inst:List Package):Bool:=decide (repos.length<100)&&decide (inst.length<1000)&&inst.all ec5&&repos.all (fun r=>decide (r.packages.length<1000)&&r.packages.all ec5)&&decide (af1 repos<100000)
theorem gb9 {repos:List Repo}{inst:List Package}(h:fl9 repos inst=true):InOK repos inst:=by
 unfold fl9 at h
 simp only[Bool.and_eq_true,decide_eq_true_eq,List.all_eq_true] at h
 obtain ⟨⟨⟨⟨h1,h2⟩,h3⟩,h4⟩,h5⟩:=h
 exact ⟨by omega,by omega,by omega,fun r hr=>⟨by have:=(h4 r hr).1; omega,fun p hp=>(cd6 ((h4 r hr).2 p hp)).1⟩,fun p hp=>(cd6 (h3 p hp)).1,fun r hr=>⟨by have:=(h4 r hr).1; omega,fun p hp=>(cd6 ((h4 r hr).2 p hp)).2⟩,fun p hp=>(cd6 (h3 p hp)).2⟩
theorem hm8:ReqOK r15:=⟨by decide,by decide,fun j h=>by cases h⟩
end Go.Id.Tryz
