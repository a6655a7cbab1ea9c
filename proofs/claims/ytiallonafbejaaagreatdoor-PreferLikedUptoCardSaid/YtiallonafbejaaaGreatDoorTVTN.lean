/- The better ahead: Sort,walked. Conditions: sizes that fit. -/
import Derived.Test.YtiallonafbejaaaGreatDoorTVTK
import Derived.Test.YtiallonafbejaaaGreatDoorTVTF
import Derived.Test.YtiallonafbejaaaGreatDoorTVQL
set_option linter.all false
namespace Go.Id.Tryz
open Go Go.Id Go.Proofs Go.Shelf Go.Id.Md
set_option maxRecDepth 100000
theorem dw6 (zs:List Int)(hz:zs≠[])(hl:zs.length<2^30)(σ:Store):C Tryz.prog EE 72 [.tslice (zs.map Md.intC)] σ (go3 σ zs):=by
 refine C_f fok72 (Nat.le_of_ble_eq_true rfl) ?_
 have hnil:∀ (d:TypeId),cc5 (.slice d) (.tslice (zs.map Md.intC))=some false:=fun d=>by
  cases zs with
  | nil=>exact absurd rfl hz
  | cons z zs=>rfl
 simp only[ic72,go_sem,hnil]
 generalize hS:Store.put _ σ.next (IObj.row [])=S
 have hSn:S.next=σ.next+2:=by rw[← hS]; rfl
 have hSo:S.obj σ.next=some (.row []):=by rw[← hS]; simp only[aa2,if_true]
 have hSk:∀ i,i<σ.next→S.obj i=σ.obj i:=fun i hi=>by
  have:¬ i=σ.next:=by omega
  rw[← hS]; simp only[aa2,this,if_false]
 have hg:ar2 S σ.next (.slice σ.next 0 0 1) []:=.inr ⟨σ.next,Nat.le_refl _,by omega,rfl,hSo⟩
 obtain ⟨v',σ',h1,h2,h3,h4⟩:=fw3 (nid:=σ.next+1) (xs:=zs) hg (by simp only[List.length_nil]; omega)
 simp only[go_sem,h1]
 have h5:=h4 σ' rfl (by omega) (by omega) (by omega)
 rw[List.nil_append] at h5
 exact ⟨⟨by omega,fun i hi=>by rw[h3 i hi (by omega)]; exact hSk i hi⟩,h5⟩
abbrev gv8 (o:OrdM):={ k:Nat // k<o.a.l.length }
def ax3 (o:OrdM)(x:gv8 o):Int:=((x.1:Nat):Int)
def cfO (o:OrdM)(x y:gv8 o):Int:=o.cmp (ax3 o x) (ax3 o y)
theorem if7 (o:OrdM)(hO:OOK o):CmpOK (ax3 o) (cfO o) 121 [o.v] []:=⟨fok121.1,fun x y=>cx3 o hO x.2 y.2⟩
theorem ge4 (o:OrdM)(n:Int):PC Tryz.prog EE 122 [.int .i64 n,.tptr [o.v]] (.bool (!o.a.is n)):=by
 refine ae9 hE fok122 (Nat.le_of_ble_eq_true rfl) (ai3 (.int _ _) (aq3 (an4 o))) ?_
 have h:=ce2 o n
 simp only[ic122,go_sem]
 first|refine aa1 fok120 (h) ?_|refine aa3 (h) ?_
 simp only[go_sem]
 exact ac8 rfl
theorem in1 (o:OrdM)(hr:∀ n,o.a.is n=true→(o.a.pk n).evr.rel≠[]):Go.Sort.SWO (ltOf (cfO o)):=by
 have hs:∀ x:gv8 o,(o.a.pk (ax3 o x)).evr.rel≠[]:=fun x=>hr _ (by unfold ax3; rw[AskM.is_nat]; exact decide_eq_true x.2)
 refine ⟨fun x=>?_,fun x y z h1 h2=>?_,fun x y z h1 h2=>?_⟩
 ·unfold ltOf cfO; rw[o.cmp_self]; rfl
 ·unfold ltOf cfO at *
  have t1:=o.wo.tr (ax3 o x) (ax3 o y) (ax3 o z) (hs x) (hs y) (hs z)
  have t2:=o.wo.tr (ax3 o z) (ax3 o x) (ax3 o y) (hs z) (hs x) (hs y)
  have n1:=o.wo.neg (ax3 o x) (ax3 o y)
  have n2:=o.wo.neg (ax3 o y) (ax3 o z)
  have n3:=o.wo.neg (ax3 o x) (ax3 o z)
  simp only[decide_eq_true_eq] at h1 h2 ⊢
  omega
 ·unfold ltOf cfO at *
  have t1:=o.wo.tr (ax3 o z) (ax3 o y) (ax3 o x) (hs z) (hs y) (hs x)
  have n1:=o.wo.neg (ax3 o x) (ax3 o y)
  have n2:=o.wo.neg (ax3 o y) (ax3 o z)
  have n3:=o.wo.neg (ax3 o x) (ax3 o z)
  simp only[decide_eq_false_iff_not] at h1 h2 ⊢
  omega
theorem dw7 (o:OrdM)(hO:OOK o)(hr:∀ n,o.a.is n=true→(o.a.pk n).evr.rel≠[])(l:List Int)(hl0:l≠[])(hl:l.length<2^30)
  (hSF:∀ (inst:Inhabited (gv8 o)) (σ:Store) (id:Nat) (tl:List IV) (d:Array (gv8 o)),d.size≤l.length→σ.obj id=some (.row (cx4 (ax3 o) tl d)) →
   C Tryz.prog EE 123 [.slice id 0 d.size 1,.func (.func 121) [o.v] []] σ fun v s=>v=.tuple []∧∃ d',Go.Sort.PermIn 0 d.size d d'∧Go.Sort.SortedIn (ltOf (cfO o)) 0 d.size d'∧SO (ax3 o) tl id d' σ s) :
  PC Tryz.prog EE 52 [o.v,.tslice (l.map Md.intC)] (.tslice ((o.sortM l).map Md.intC)):=by
 refine ae9 hE fok52 (Nat.le_of_ble_eq_true rfl) (ai3 (an4 o) (ao7 l)) ?_
 have olf:o.v.leaf=true:=rfl
 have ocs:o.v.cs=[o.v]:=rfl
 simp only[ic52,go_sem,olf,ocs]
 refine af8 fok72 (dw6 l hl0 hl _) ?_
 rintro v s ⟨hk,hrow⟩
 refine ⟨hk.next,?_⟩
 rcases hrow with ⟨_,h0⟩|⟨id,hid1,hid2,rfl,ho⟩
 ·exact absurd h0 hl0
 simp only[go_sem]
 refine af8 fok101 (fo1 (fun z=>!o.a.is z) (by omega) ho (by rw[List.take_of_length_le (by simp)]) (by simp) fok122.1 (bb8 (aq3 (an4 o))) fun z _=>ge4 o z) ?_
 rintro v s2 ⟨hn2,_,cs,rfl,ho2,hct,hcl⟩
 refine ⟨hn2,?_⟩
 have hff:(l.filter fun x=>!(!o.a.is x))=l.filter o.a.is:=List.filter_congr fun x _=>by rw[Bool.not_not]
 simp only[hff] at hct hcl ho2 ⊢
 have hfl:(l.filter o.a.is).length≤l.length:=List.length_filter_le _ _
 by_cases h0:(l.filter o.a.is).length=0
 ·have h0':((l.filter o.a.is).length:Int)=0:=by omega
  simp only[go_sem,h0']
  have:o.sortM l=[]:=List.eq_nil_iff_forall_not_mem.2 fun x hx=>by
   obtain ⟨h1,h2⟩:=o.sortM_mem.1 hx
   have:=List.mem_filter.2 ⟨h1,h2⟩
   rw[List.length_eq_zero_iff.1 h0] at this
   cases this
  rw[this]
  exact .nils
 have h0':¬ ((l.filter o.a.is).length:Int)=0:=by omega
 simp only[go_sem,h0']
 obtain ⟨zs,hzs⟩:∃ zs,l.filter o.a.is=zs:=⟨_,rfl⟩
 rw[hzs] at h0 h0' hct hcl hfl ⊢
 have hall:∀ z∈zs,∃ k:Nat,z=k∧k<o.a.l.length:=fun z hz=>fo6 (List.mem_filter.1 (by rw[hzs]; exact hz)).2
 obtain ⟨ds,hds⟩:∃ ds:List (gv8 o),ds.map (ax3 o)=zs:=by
  clear hzs h0 h0' hct hcl hfl
  induction zs with
  | nil=>exact ⟨[],rfl⟩
  | cons z zs ih=>
   obtain ⟨ds,h⟩:=ih fun y hy=>hall y (List.mem_cons_of_mem _ hy)
   obtain ⟨k,rfl,hk⟩:=hall z List.mem_cons_self
   exact ⟨⟨k,hk⟩::ds,by rw[List.map_cons,h]; rfl⟩
 have hdl:ds.length=zs.length:=by rw[← hds,List.length_map]
 have inst:Inhabited (gv8 o):=⟨ds[0]'(by omega)⟩
 have hrw:s2.obj id=some (.row (cx4 (ax3 o) (cs.drop zs.length) ds.toArray)):=by
  rw[ho2,cx4,ev6]
  have h2:ds.toArray.toList.map (fun x=>IV.int .i64 (ax3 o x))=zs.map ck6:=by rw[← hds,List.map_map]; rfl
  rw[h2,← hct,List.take_append_drop]
 have hsz:ds.toArray.size=zs.length:=hdl
 have hS:=hSF inst s2 id (cs.drop zs.length) ds.toArray (by omega) hrw
 rw[hsz] at hS
 refine af8 fok123 hS ?_
 rintro v s3 ⟨rfl,d',hP,hU,hSO⟩
 refine ⟨hSO.next,?_⟩
 simp only[go_sem]
 obtain ⟨zs2,hz2⟩:∃ zs2,d'.toList.map (ax3 o)=zs2:=⟨_,rfl⟩
 have hd's:d'.size=zs.length:=by rw[hP.1]; exact hdl
 have hz2l:zs2.length=zs.length:=by rw[← hz2,List.length_map,Array.length_toList,hd's]
 have hpm:d'.toList.Perm ds:=by
  have h3:=hP.2.2
  have e1:d'.extract 0 zs.length=d':=by rw[← hd's]; exact Array.extract_size
  have e2:ds.toArray.extract 0 zs.length=ds.toArray:=by rw[← hsz]; exact Array.extract_size
  rw[e1,e2] at h3
  exact h3
 have hmem:∀ x,x∈zs2↔x∈l∧o.a.is x=true:=fun x=>by
  rw[← hz2,(hpm.map _).mem_iff,hds,← hzs,List.mem_filter]
 have hup:zs2.Pairwise fun x y=>x=y∨o.cmp x y<0:=by
  refine List.pairwise_iff_getElem.2 fun i j hi hj hij=>?_
  have hi2:i<d'.size:=by rw[hd's]; omega
  have hj2:j<d'.size:=by rw[hd's]; omega
  have h4:=hU i j (Nat.zero_le _) hij (by omega)
  rw[getElem!_pos d' i hi2,getElem!_pos d' j hj2] at h4
  have g1:zs2[i]=ax3 o d'[i]:=by simp[← hz2]
  have g2:zs2[j]=ax3 o d'[j]:=by simp[← hz2]
  rw[g1,g2]
  unfold ltOf cfO at h4
  have h5:¬ o.cmp (ax3 o d'[j]) (ax3 o d'[i])<0:=of_decide_eq_false h4
  have n1:=o.wo.neg (ax3 o d'[i]) (ax3 o d'[j])
  by_cases e:o.cmp (ax3 o d'[i]) (ax3 o d'[j])=0
  ·exact .inl (o.cmp_zero e)
  ·exact .inr (by omega)
 have hrow2:s3.obj id=some (.row (zs2.map iv++cs.drop zs.length)):=by
  rw[hSO.row,cx4,ev6,← hz2,List.map_map]; rfl
 have hc:=eu9 (R:=fun x y=>o.cmp x y<0) (σ:=s3) (id:=id) (zs:=zs2) (fun a ha b hb c hc h1 h2=>o.lt_trans hr ((hmem a).1 ha).2 ((hmem b).1 hb).2 ((hmem c).1 hc).2 h1 h2) (by omega) hrow2 hup
 rw[hz2l] at hc
 refine af8 fok85 hc ?_
 rintro v s4 ⟨⟨D,cs2,hD1,hD2,rfl,ho4,hct2,hcl2⟩,hn4,_⟩
 refine ⟨hn4,?_⟩
 simp only[go_sem]
 have hDs:D=o.sortM l:=o.sortM_one hr hD1 fun x=>(hD2 x).trans (hmem x)
 rw[← hDs]
 exact ee3 ho4 hct2 hcl2
theorem fp3 (o:OrdM)(hO:OOK o)(hr:∀ n,o.a.is n=true→(o.a.pk n).evr.rel≠[])(l:List Int)(hl0:l.length=5)(hlen:∀ k:Nat,k≤5→∃ L:Int,PC Tryz.prog EE 149 [.int .u64 k] (.int .i64 L)) :
  PC Tryz.prog EE 52 [o.v,.tslice (l.map Md.intC)] (.tslice ((o.sortM l).map Md.intC)):=
 dw7 o hO hr l (fun h=>by rw[h] at hl0; cases hl0) (by omega) fun inst σ id tl d hd ho=>by
  obtain ⟨L,hL⟩:=hlen d.size (by omega)
  have hw:=in1 o hr
  obtain ⟨h1,h2⟩:=@Go.Sort.insertionSort_holds _ inst (ltOf (cfO o)) hw d 0 d.size (Nat.zero_le _) (Nat.le_refl _)
  exact (dw5 (ax3 o) tl (if7 o hO) d (by omega) L hL ho).mono fun v s ⟨e,h⟩=>⟨e,_,h1,h2,h⟩
end Go.Id.Tryz
/- The law's own: how much is handed in. Conditions: sizes that fit. -/
namespace Go.Id.Tryz
open Go Go.Id Go.Proofs Go.Id.Md
set_option maxRecDepth 100000
theorem dn2 (l:List Rich)(n:Int)(hl:l.length<2^62)(ih:∀ r∈l,∀ m:Int,PC Tryz.prog EE 175 [ac5 r.args,.int .i64 m] (.int .i64 (ptR r m))) :
  PC Tryz.prog EE 175 [ac5 l,.int .i64 n] (.int .i64 (ptL l n 0)):=by
 refine ak4 fok175 (Nat.le_of_ble_eq_true rfl) fun σ=>?_
 simp only[ic175,go_sem]
 refine aa9 noT (fun i fr t=>∃ w:Int,t.obj=σ.obj∧t.next=σ.next∧fr=[(0,ac5 l),(1,.int .i64 n),(5,.int .i64 w),(6,.int .i64 i)]∧ptL l n 0=ptL (l.drop i) n w) l.length ⟨0,rfl,rfl,rfl,rfl⟩ ?_
 rintro i fr t hi ⟨w,ho,hn,rfl,hf⟩
 have ht:t=σ:=by cases t; cases σ; simp only at ho hn; rw[ho,hn]
 subst ht
 by_cases hlt:i<l.length
 ·obtain ⟨r,ha,_,hdr,hget,_⟩:=ad1 l i hlt
  have c1:(i:Int)<l.length:=by omega
  have c2:(0:Int)≤i:=by omega
  have w1:=ad5 (i:=i) (by omega)
  rw[hdr,ptL] at hf
  by_cases hw:w<n
  ·rw[if_pos hw] at hf
   simp only[go_sem,c1,c2,hw,hget,aa8,gc4]
   refine aa1 fok175 (ih r ha _) ?_
   simp only[go_sem,w1]
   exact ⟨hlt,_,rfl,hf⟩
  ·rw[if_neg hw] at hf
   simp only[go_sem,c1,hw]
   rw[hf]
 ·have hi':i=l.length:=by omega
  subst hi'
  have c1:¬ (l.length:Int)<l.length:=by omega
  rw[List.drop_length,ptL] at hf
  simp only[go_sem,c1,hf,and_self]
theorem ge5 (r:Rich):r.ok→∀ m:Int,PC Tryz.prog EE 175 [ac5 r.args,.int .i64 m] (.int .i64 (ptR r m)):=by
 induction r using Rich.ind with
 | h k d xs ih=>
  intro ho m
  obtain ⟨_,_,_,h4,h5⟩:=Rich.ok_mk.1 ho
  rw[ho5]
  exact dn2 xs m h4 fun r hr m=>ih r hr (h5 r hr) m
theorem ge6 (l:List Rich)(hl:l.length<2^62)(h:∀ r∈l,r.ok)(n:Int):PC Tryz.prog EE 175 [ac5 l,.int .i64 n] (.int .i64 (ptL l n 0)):=
 dn2 l n hl fun r hr m=>ge5 r (h r hr) m
theorem bh9 (l:List Package)(n:Int)(hl:l.length<2^62)(h:∀ p∈l,p.Ok):PC Tryz.prog EE 118 [ak7 l,.int .i64 n] (.int .i64 (szL l n 0)):=by
 refine ae9 hE fok118 (Nat.le_of_ble_eq_true rfl) (aj9 (ao9 l) (.int _ _)) ?_
 simp only[ic118,go_sem]
 refine aa9 noT (fun i fr t=>∃ w:Int,fr=[(0,ak7 l),(1,.int .i64 n),(5,.int .i64 w),(6,.int .i64 i)]∧szL l n 0=szL (l.drop i) n w) l.length ⟨0,rfl,rfl⟩ ?_
 rintro i fr t hi ⟨w,rfl,hf⟩
 by_cases hlt:i<l.length
 ·obtain ⟨p,ha,_,hdr,hget,_⟩:=ad1 l i hlt
  have c1:(i:Int)<l.length:=by omega
  have c2:(0:Int)≤i:=by omega
  have w1:=ad5 (i:=i) (by omega)
  rw[hdr,szL] at hf
  by_cases hw:w<n
  ·rw[if_pos hw] at hf
   have f6:(p.cs.drop 6).head? = some (deps p.provides):=rfl
   have f7:(p.cs.drop 7).head? = some (ac5 p.requires):=rfl
   have f8:(p.cs.drop 8).head? = some (ac5 p.conflicts):=rfl
   have f9:(p.cs.drop 9).head? = some (deps p.obsoletes):=rfl
   have f10:(p.cs.drop 10).head? = some (ac5 p.recommends):=rfl
   have f11:(p.cs.drop 11).head? = some (ac5 p.supplements):=rfl
   have f12:(p.cs.drop 12).head? = some (ac5 p.suggests):=rfl
   have f13:(p.cs.drop 13).head? = some (ac5 p.enhances):=rfl
   have f14:(p.cs.drop 14).head? = some (strs p.files):=rfl
   simp only[go_sem,c1,c2,hw,hget,bq1,bc5,bc6,f6,f7,f8,f9,f10,f11,f12,f13,f14,ay2]
   have hL:∀ (k:Nat) (hk:k<(as2 p).length),((as2 p).map lR).getD k []=[ac5 (as2 p)[k]]:=fun k hk=>by simp[List.getD_eq_getElem?_getD,hk,lR]
   have hok:=fm4 (h p ha)
   have hlen:(as2 p).length=6:=rfl
   unfold szP wr at hf
   generalize hw0:IntKind.i64.wrap (IntKind.i64.wrap (IntKind.i64.wrap (IntKind.i64.wrap (w+1)+p.provides.length)+p.obsoletes.length)+p.files.length)=w0 at *
   have hl6:IV.tslice [[ac5 p.requires],[ac5 p.conflicts],[ac5 p.recommends],[ac5 p.supplements],[ac5 p.suggests],[ac5 p.enhances]]=.tslice ((as2 p).map lR):=rfl
   rw[hl6]
   have hf':szL l n 0=szL (l.drop (i+1)) n (gs4 (as2 p) n w0):=hf
   clear hf hdr hget f6 f7 f8 f9 f10 f11 f12 f13 f14 hl6
   refine aa9 noT (fun k fr u=>∃ v:Int,fr=[(0,ak7 l),(1,.int .i64 n),(5,.int .i64 v),(6,.int .i64 i),(51,.tslice ((as2 p).map lR)),(52,.int .i64 6),(53,.int .i64 k)]∧gs4 (as2 p) n w0=gs4 ((as2 p).drop k) n v) 6 ⟨w0,rfl,rfl⟩ ?_
   rintro k fr u hk ⟨v,rfl,hs⟩
   by_cases hlt2:k<6
   ·have d1:(k:Int)<6:=by omega
    have d2:(0:Int)≤k:=by omega
    have d3:(k:Int)<(as2 p).length:=by omega
    have w2:=ad5 (i:=k) (by omega)
    have hk2:k<(as2 p).length:=by omega
    have hgk:=hL k hk2
    obtain ⟨o1,o2⟩:=hok _ (List.getElem_mem hk2)
    rw[List.drop_eq_getElem_cons hk2,gs4] at hs
    generalize (as2 p)[k]=x at *
    simp only[go_sem,d1,d2,d3,hgk]
    refine aa1 fok175 (ge6 x o1 o2 n) ?_
    simp only[go_sem,w2]
    exact ⟨hlt2,_,rfl,hs⟩
   ·have hk':k=6:=by omega
    subst hk'
    have d1:¬ ((6:Nat):Int)<6:=by omega
    rw[List.drop_of_length_le (by omega),gs4] at hs
    rw[hs] at hf'
    simp only[go_sem,d1,w1]
    exact ⟨hlt,_,rfl,hf'⟩
  ·rw[if_neg hw] at hf
   simp only[go_sem,c1,hw]
   rw[hf]
   exact ab8 _ _
 ·have hi':i=l.length:=by omega
  subst hi'
  have c1:¬ (l.length:Int)<l.length:=by omega
  rw[List.drop_length,szL] at hf
  simp only[go_sem,c1]
  rw[hf]
  exact ab8 _ _
end Go.Id.Tryz
/- The law's own: what is asked for over a pool; what is too large; rows compared. Conditions: sizes that fit. -/
namespace Go.Id.Tryz
open Go Go.Id Go.Proofs Go.Shelf Go.Id.Md
set_option maxRecDepth 100000
theorem dn3 (xs ys:List Int)(h1:xs.length<2^62)(h2:ys.length<2^62):PC Tryz.prog EE 37 [.tslice (xs.map Md.intC),.tslice (ys.map Md.intC)] (.bool (decide (xs=ys))):=by
 refine ae9 hE fok37 (Nat.le_of_ble_eq_true rfl) (aj9 (ao7 xs) (ao7 ys)) ?_
 by_cases hl:xs.length=ys.length
 case neg=>
  have hl':¬ (xs.length:Int)=ys.length:=by omega
  have:decide (xs=ys)=false:=decide_eq_false fun e=>hl (by rw[e])
  simp only[ic37,go_sem,hl',this]
  exact ab1 _
 have hl':(xs.length:Int)=ys.length:=by omega
 have hl2:decide ((xs.length:Int)=ys.length)=true:=decide_eq_true hl'
 simp only[ic37,go_sem,hl2]
 refine aa9 noT (fun i fr s=>fr=[(0,.tslice (xs.map Md.intC)),(1,.tslice (ys.map Md.intC)),(5,.int .i64 i)]∧xs.take i=ys.take i) xs.length ⟨rfl,rfl⟩ ?_
 rintro i fr s hi ⟨rfl,hf⟩
 by_cases hlt:i<xs.length
 ·obtain ⟨x,hx,hxi,hdr,hget,htk⟩:=ad1 xs i hlt
  obtain ⟨y,hy,hyi,hdr2,hget2,htk2⟩:=ad1 ys i (by omega)
  have c1:(i:Int)<xs.length:=by omega
  have c3:(i:Int)<ys.length:=by omega
  have c2:(0:Int)≤i:=by omega
  have w1:=ad5 (i:=i) (by omega)
  simp only[go_sem,c1,c2,c3,hget,hget2,Md.intC,w1]
  by_cases hxy:x=y
  ·have hd:decide (x=y)=true:=decide_eq_true hxy
   simp only[go_sem,hd,w1]
   refine ⟨hlt,?_⟩
   rw[htk,htk2,hf,hxy]
  ·have hd:decide (x=y)=false:=decide_eq_false hxy
   have hne:decide (xs=ys)=false:=decide_eq_false fun e=>hxy (by rw[e] at hxi; rw[hxi] at hyi; cases hyi; rfl)
   simp only[go_sem,hd,hne]
   exact ab1 _
 ·have hi':i=xs.length:=by omega
  subst hi'
  have c1:¬ (xs.length:Int)<xs.length:=by omega
  rw[List.take_length,hl,List.take_length] at hf
  have:decide (xs=ys)=true:=decide_eq_true hf
  simp only[go_sem,c1,this]
  exact ab1 _
theorem aok {repos:List Repo}{inst:List Package}{p:Pool}{r:Req}(hI:InOK repos inst)(hn:az9 repos inst=.inl p)(hR:ReqOK r)(he:aj6 r p.inst=0):AOK ⟨p,r⟩:=by
 have hf:=gj3 hI hn
 have hlen:(ab2 p).length≤256:=by simp only[ab2,List.length_map]; exact dz9 hn
 unfold aj6 at he
 split at he
 ·cases he
 split at he
 ·cases he
 rename_i hb
 split at he
 ·cases he
 rename_i hj
 refine ⟨hlen,fun x hx=>(hf x hx).2.1,fun x hx=>(hf x hx).1,fun x hx=>(hf x hx).2.2,?_,?_,?_,fun j hj=>(hR.jdep j hj).1,fun j hjm=>?_⟩
 ·have h1:=ci3 hn
  have h2:p.inst=inst.length:=by
   unfold az9 at hn
   split at hn
   ·cases hn
   split at hn
   ·cases hn
   split at hn
   ·cases hn; rfl
   ·cases hn
  show p.inst≤((ab2 p).length:Nat)
  rw[h2,h1,List.length_append]; omega
 ·show r.jobs.length≤64; omega
 ·show r.edits.length≤128; omega
 ·have h1:r.jobs.all ca7=true:=by simpa using hj
  have h2:=List.all_eq_true.1 h1 j hjm
  unfold ca7 at h2
  simp only[Bool.and_eq_true,decide_eq_true_eq] at h2
  exact ⟨h2.1.1,h2.1.2⟩
theorem fp4 {repos:List Repo}{inst:List Package}{p:Pool}(hn:az9 repos inst=.inl p):p.inst=inst.length:=by
 unfold az9 at hn
 split at hn
 ·cases hn
 split at hn
 ·cases hn
 split at hn
 ·cases hn; rfl
 ·cases hn
end Go.Id.Tryz
/- The examples of what is asked for,walked. Conditions: none. -/
namespace Go.Id.Tryz
open Go Go.Id Go.Proofs Go.Shelf Go.Id.Md
set_option maxRecDepth 100000
def cc4 (name ver:Str):Package:={ name:=name,evr:=⟨0,ver,[49]⟩,arch:=2,vendor:=[],provides:=[],requires:=[],conflicts:=[],obsoletes:=[],recommends:=[],supplements:=[],suggests:=[],enhances:=[],files:=[] }
theorem dn4 {s:Store}(x:Str):ch1 s 0 (.str x) (.str x):=.keep _ (.str _)
theorem fp5 {s:Store}(k:IntKind)(n:Int):ch1 s 0 (.int k n) (.int k n):=.keep _ (.int _ _)
def bq9 (repos:List Repo)(inst:List Package):Pool:=match az9 repos inst with
 | .inl p=>p
 | .inr _=>⟨[],0,[]⟩
def r15:Req:=⟨2,false,[],[],0⟩
def ef1 (d:Dep):Bool:=decide (d.name.length<100)&&decide (d.evr.ver.length<100)&&decide (d.evr.rel.length<100)
def ef2 (p:Package):Bool:=decide (p.name.length<100)&&decide (p.vendor.length<100)&&decide (p.evr.ver.length<100)&&decide (p.evr.rel.length<100)&&decide (p.provides.length<100)&&p.provides.all ef1&&decide (p.obsoletes.length<100)&&p.obsoletes.all ef1 &&
 decide (p.files.length<100)&&p.files.all (fun s=>decide (s.length<100))&&p.rows.all fun x=>x.2.isEmpty
theorem ce4 {p:Package}(h:ef2 p=true):p.Fit∧p.Ok:=by
 unfold ef2 at h
 simp only[Bool.and_eq_true,decide_eq_true_eq,List.all_eq_true] at h
 obtain ⟨⟨⟨⟨⟨⟨⟨⟨⟨⟨h1,h2⟩,h3⟩,h4⟩,h5⟩,h6⟩,h7⟩,h8⟩,h9⟩,h10⟩,h11⟩:=h
 have hd:∀ d:Dep,ef1 d=true→d.fit:=fun d hd=>by
  unfold ef1 at hd
  simp only[Bool.and_eq_true,decide_eq_true_eq] at hd
  exact ⟨by omega,by omega,by omega⟩
 have hr:∀ x∈p.rows,x.2=[]:=fun x hx=>List.isEmpty_iff.1 (h11 x hx)
 exact ⟨⟨by omega,⟨by omega,by omega⟩,⟨by omega,fun d hx=>hd d (h6 d hx)⟩,⟨by omega,fun d hx=>hd d (h8 d hx)⟩,⟨by omega,fun x hx=>by have:=h10 x hx; omega⟩,fun x hx=>by rw[hr x hx]; exact ⟨by simp,fun r h=>by cases h⟩⟩,
  ⟨by omega,by omega,⟨by omega,by omega⟩,⟨by omega,fun d hx=>hd d (h6 d hx)⟩,⟨by omega,fun d hx=>hd d (h8 d hx)⟩,⟨by omega,fun x hx=>by have:=h10 x hx; omega⟩,fun x hx=>by rw[hr x hx]; exact ⟨by simp,fun r h=>by cases h⟩⟩⟩
def fp6 (repos:List Repo)(inst:List Package):Bool:=decide (repos.length<100)&&decide (inst.length<1000)&&inst.all ef2&&repos.all (fun r=>decide (r.packages.length<1000)&&r.packages.all ef2)&&decide (af1 repos<100000)
theorem ge7 {repos:List Repo}{inst:List Package}(h:fp6 repos inst=true):InOK repos inst:=by
 unfold fp6 at h
 simp only[Bool.and_eq_true,decide_eq_true_eq,List.all_eq_true] at h
 obtain ⟨⟨⟨⟨h1,h2⟩,h3⟩,h4⟩,h5⟩:=h
 exact ⟨by omega,by omega,by omega,fun r hr=>⟨by have:=(h4 r hr).1; omega,fun p hp=>(ce4 ((h4 r hr).2 p hp)).1⟩,fun p hp=>(ce4 (h3 p hp)).1,fun r hr=>⟨by have:=(h4 r hr).1; omega,fun p hp=>(ce4 ((h4 r hr).2 p hp)).2⟩,fun p hp=>(ce4 (h3 p hp)).2⟩
theorem hq9:ReqOK r15:=⟨by decide,by decide,fun j h=>by cases h⟩
end Go.Id.Tryz
/- The law's own: an order over a pool; what is too large; the examples. Conditions: sizes that fit. -/
namespace Go.Id.Tryz
open Go Go.Id Go.Proofs Go.Shelf Go.Id.Md
set_option maxRecDepth 100000
def lgP (m:Int):List Repo→Int→Int→Int×Int
 | [],w,n=>(w,n)
 | r::rs,w,n=>if w<m then lgP m rs (wr (wr (w+1)+szL r.packages m 0)) (wr (n+r.packages.length)) else (w,n)
def dd2 (repos:List Repo)(inst:List Package)(r:Req):Bool:=decide (800≤(lgP 800 repos (szL inst 800 0) inst.length).1)||decide (40<(lgP 800 repos (szL inst 800 0) inst.length).2)||decide (20<r.jobs.length)||decide (20<r.edits.length)
theorem ev8 (repos:List Repo)(inst:List Package)(r:Req)(h1:repos.length<2^62)(h2:inst.length<2^62)(hr:∀ r∈repos,Repo.Ok r)(hi:∀ p∈inst,p.Ok) :
  PC Tryz.prog EE 48 [am5 repos,ak7 inst,.agg r.cs] (.bool (dd2 repos inst r)):=by
 refine ae9 hE fok48 (Nat.le_of_ble_eq_true rfl) (aw3 (bc3 repos) (ao9 inst) (.agg _ (bc9 r))) ?_
 have k2:(r.cs.drop 2).head? = some (cc2 r.jobs):=rfl
 have k3:(r.cs.drop 3).head? = some (bc1 r.edits):=rfl
 unfold dd2
 simp only[ic48,go_sem,al1]
 first|refine aa1 fok118 (bh9 inst 800 h2 hi) ?_|refine aa3 (bh9 inst 800 h2 hi) ?_
 simp only[go_sem]
 refine aa9 noT (fun i fr t=>∃ w n:Int,fr=[(0,am5 repos),(5,.tptr r.cs),(7,.int .i64 w),(8,.int .i64 n),(9,.int .i64 i)]∧lgP 800 repos (szL inst 800 0) inst.length=lgP 800 (repos.drop i) w n) repos.length ⟨_,_,rfl,rfl⟩ ?_
 rintro i fr t hle ⟨w,n,rfl,hf⟩
 by_cases hlt:i<repos.length∧w<800
 ·obtain ⟨hlt,hw⟩:=hlt
  obtain ⟨x,ha,_,hdr,hget,_⟩:=ad1 repos i hlt
  have c1:(i:Int)<repos.length:=by omega
  have c2:(0:Int)≤i:=by omega
  have w1:=ad5 (i:=i) (by omega)
  rw[hdr,lgP,if_pos hw] at hf
  have f1:(x.cs.drop 1).head? = some (ak7 x.packages):=rfl
  simp only[go_sem,c1,c2,hw,hget,ay4,f1]
  first|refine aa1 fok118 (bh9 x.packages 800 (hr x ha).1 (hr x ha).2) ?_|refine aa3 (bh9 x.packages 800 (hr x ha).1 (hr x ha).2) ?_
  simp only[go_sem,c1,c2,hget,ay4,f1,w1]
  exact ⟨hlt,_,_,rfl,hf⟩
 have hw2:lgP 800 (repos.drop i) w n=(w,n):=by
  by_cases hl2:i<repos.length
  ·obtain ⟨x,ha,_,hdr,hget,_⟩:=ad1 repos i hl2
   rw[hdr,lgP,if_neg (fun h=>hlt ⟨hl2,h⟩)]
  ·rw[List.drop_of_length_le (by omega)]; rfl
 rw[hw2] at hf
 rw[hf]
 simp only
 by_cases hl2:i<repos.length
 case' pos=>
  have c1:(i:Int)<repos.length:=by omega
  have hw:¬ w<800:=fun h=>hlt ⟨hl2,h⟩
  have hw':800≤w:=by omega
  simp only[go_sem,c1,hw,hw']
  exact ac8 (by simp)
 have c1:¬ (i:Int)<repos.length:=by omega
 by_cases hw:800≤w
 ·simp only[go_sem,c1,hw]
  exact ac8 (by simp)
 by_cases hn:40<n
 ·simp only[go_sem,c1,hw,hn]
  exact ac8 (by simp)
 by_cases hj:20<r.jobs.length
 ·have hj':(20:Int)<r.jobs.length:=by omega
  simp only[go_sem,c1,hw,hn,k2,hj']
  exact ac8 (by simp[hj])
 have hj':¬ (20:Int)<r.jobs.length:=by omega
 by_cases he:20<r.edits.length
 ·have he':(20:Int)<r.edits.length:=by omega
  simp only[go_sem,c1,hw,hn,k2,k3,hj',he']
  exact ac8 (by simp[he])
 ·have he':¬ (20:Int)<r.edits.length:=by omega
  simp only[go_sem,c1,hw,hn,k2,k3,hj',he']
  exact ac8 (by simp[he,hj])
def ak2 (p:Pool)(r:Req)(n:Nat):OrdM:=⟨⟨p,r⟩,as7 (ab2 p) n⟩
def fp7 (repos:List Repo)(inst:List Package)(r:Req):IV:=match az9 repos inst with
 | .inl p=>if aj6 r p.inst=0 then .tuple [(ak2 p r inst.length).v,(AskM.mk p r).v,p.v,.bool true] else .tuple [.nilptr,.nilptr,.nilptr,.bool false]
 | .inr _=>.tuple [.nilptr,.nilptr,.nilptr,.bool false]
theorem fp8 {repos:List Repo}{inst:List Package}{p:Pool}(hn:az9 repos inst=.inl p):∀ q∈ab2 p,ac3 q=true:=fun q hq=>(ea1 hn q hq).1
theorem dd3 (repos:List Repo)(inst:List Package)(r:Req)(hI:InOK repos inst)(hR:ReqOK r):PC Tryz.prog EE 49 [am5 repos,ak7 inst,.agg r.cs] (fp7 repos inst r):=by
 refine ae9 hE fok49 (Nat.le_of_ble_eq_true rfl) (aw3 (bc3 repos) (ao9 inst) (.agg _ (bc9 r))) ?_
 have hp:=bz7 repos inst hI.r1 hI.i1 hI.s1 hI.rf hI.pf
 unfold fp7
 cases hn:az9 repos inst with
 | inr e=>
  rw[hn] at hp
  have he:¬ e=0:=by rcases fy2 hn with rfl|rfl<;>decide
  simp only[hj5] at hp
  simp only[ic49,go_sem,al1]
  first|refine aa1 fok15 (hp) ?_|refine aa3 (hp) ?_
  simp only[go_sem,he]
  exact .keep _ (.tuple _ (go8 .nilptr .nilptr .nilptr (.bool _)))
 | inl p=>
  rw[hn] at hp
  have hf:=gj3 hI hn
  have hlen:(ab2 p).length≤256:=by simp only[ab2,List.length_map]; exact dz9 hn
  have ha:=fo3 p r hR hlen fun x hx=>⟨(hf x hx).1,(hf x hx).2.2⟩
  have hb:=ay6 ⟨p,r⟩
  simp only[hj5] at hp
  unfold hj8 at ha
  simp only[ic49,go_sem,al1]
  first|refine aa1 fok15 (hp) ?_|refine aa3 (hp) ?_
  by_cases he:aj6 r p.inst=0
  ·rw[if_pos he] at ha
   have hA:=aok hI hn hR he
   have hP:=ev5 ⟨p,r⟩ inst.length hA (fp8 hn) (fp4 hn)
   have hbo:=an4 (ak2 p r inst.length)
   have hnl:∀ d:TypeId,cc5 (.pointer d) (ak2 p r inst.length).v=some false:=fun _=>rfl
   have hP:PC Tryz.prog EE 119 [(AskM.mk p r).v] (.tuple [(ak2 p r inst.length).v,.int .i64 0]):=hP
   simp only[go_sem,he,as6,ar3]
   first|refine aa1 fok98 (ha) ?_|refine aa3 (ha) ?_
   simp only[go_sem]
   first|refine aa1 fok119 (hP) ?_|refine aa3 (hP) ?_
   simp only[go_sem,hnl]
   exact .keep _ (.tuple _ (go8 hbo hb (ak9 p) (.bool _)))
  ·rw[if_neg he] at ha
   simp only[go_sem,as6,ar3]
   first|refine aa1 fok98 (ha) ?_|refine aa3 (ha) ?_
   simp only[go_sem,he]
   exact .keep _ (.tuple _ (go8 .nilptr .nilptr .nilptr (.bool _)))
theorem ook {repos:List Repo}{inst:List Package}{p:Pool}{r:Req}(hI:InOK repos inst)(hn:az9 repos inst=.inl p)(hR:ReqOK r)(he:aj6 r p.inst=0)(n:Nat):OOK (ak2 p r n):=⟨aok hI hn hR he,List.length_map ..⟩
theorem hr6 {q:Package}(h:ac3 q=true):q.evr.rel≠[]:=by
 unfold ac3 az2 az1 at h
 simp only[Bool.and_eq_true,Bool.or_eq_true,decide_eq_true_eq] at h
 intro e
 rw[e] at h
 simp at h
theorem gv9 {p:Pool}{r:Req}{n:Nat}(h:∀ q∈ab2 p,ac3 q=true):∀ k,(ak2 p r n).a.is k=true→((ak2 p r n).a.pk k).evr.rel≠[]:=fun k hk=>by
 obtain ⟨m,rfl,hm⟩:=fo6 hk
 rw[gu2 _ hm]
 exact hr6 (h _ (List.getElem_mem hm))
theorem ck5 (name ver:Str):PC Tryz.prog EE 116 [.str name,.str ver] (.agg (cc4 name ver).cs):=by
 refine ae9 hE fok116 (Nat.le_of_ble_eq_true rfl) (ai3 (.str _) (.str _)) ?_
 simp only[ic116,go_sem]
 exact .agg2 (.cons (dn4 _) (.cons (fp5 _ _) (.cons (dn4 _) (.cons (dn4 _) (.cons (fp5 _ _) (.cons (dn4 _) (.cons .nils (.cons .nils (.cons .nils (.cons .nils (.cons .nils (.cons .nils (.cons .nils (.cons .nils (.cons .nils .nil)))))))))))))))
theorem ge8 (a b:List Int)(h1:a.length<2^62)(h2:b.length<2^62):PC Tryz.prog EE 117 [.tslice (a.map Md.intC),.tslice (b.map Md.intC)] (.bool (decide (a=b))):=by
 refine ae9 hE fok117 (Nat.le_of_ble_eq_true rfl) (ai3 (ao7 _) (ao7 _)) ?_
 have h:=dn3 a b h1 h2
 simp only[ic117,go_sem]
 first|refine aa1 fok37 (h) ?_|refine aa3 (h) ?_
 simp only[go_sem]
 exact ac8 rfl
end Go.Id.Tryz
/- The examples of who is better,walked. Conditions: none. -/
namespace Go.Id.Tryz
open Go Go.Id Go.Proofs Go.Shelf Go.Id.Md
set_option maxRecDepth 100000
def bi5:List Repo:=[⟨1,[cc4 [97] [49],cc4 [97] [50]]⟩,⟨9,[cc4 [97] [49]]⟩]
def dn8:List Package:=[cc4 [122] [48]]
def ar5:OrdM:=ak2 (bq9 bi5 dn8) r15 1
theorem gw1:az9 bi5 dn8=.inl (bq9 bi5 dn8):=by kernel_rfl
theorem hr7:aj6 r15 (bq9 bi5 dn8).inst=0:=by kernel_rfl
theorem gj9:InOK bi5 dn8:=ge7 (by kernel_rfl)
theorem if8:ar5.a.l.length=4:=by kernel_rfl
theorem b21:ar5.better 2 1=true:=by kernel_rfl
theorem b12:ar5.better 1 2=false:=by kernel_rfl
theorem b32:ar5.better 3 2=true:=by kernel_rfl
theorem b03:ar5.better 0 3=true:=by kernel_rfl
theorem c03:decide (ar5.cmp 0 3<0)=true:=by kernel_rfl
theorem c02:decide (ar5.cmp 0 2<0)=true:=by kernel_rfl
theorem c01:decide (ar5.cmp 0 1<0)=true:=by kernel_rfl
theorem c32:decide (ar5.cmp 3 2<0)=true:=by kernel_rfl
theorem c31:decide (ar5.cmp 3 1<0)=true:=by kernel_rfl
theorem c21:decide (ar5.cmp 2 1<0)=true:=by kernel_rfl
theorem fp9:OOK ar5:=ook gj9 gw1 hq9 hr7 1
theorem hr8:∀ k,ar5.a.is k=true→(ar5.a.pk k).evr.rel≠[]:=gv9 (fp8 gw1)
theorem hr9:ar5.sortM [1,2,3,0,1]=[0,3,2,1]:=by
 refine (ar5.sortM_one hr8 ?_ fun x=>?_).symm
 ·have h1:=of_decide_eq_true c03
  have h2:=of_decide_eq_true c02
  have h3:=of_decide_eq_true c01
  have h4:=of_decide_eq_true c32
  have h5:=of_decide_eq_true c31
  have h6:=of_decide_eq_true c21
  simp[h1,h2,h3,h4,h5,h6]
 ·unfold AskM.is
  rw[if8]
  simp only[List.mem_cons,List.not_mem_nil,or_false,Bool.and_eq_true,decide_eq_true_eq]
  omega
theorem if9:PC Tryz.prog EE 49 [am5 bi5,ak7 dn8,.agg r15.cs] (.tuple [ar5.v,(AskM.mk (bq9 bi5 dn8) r15).v,(bq9 bi5 dn8).v,.bool true]):=by
 have h:=dd3 bi5 dn8 r15 gj9 hq9
 unfold fp7 at h
 rw[gw1] at h
 simp only[hr7,if_true] at h
 exact h
theorem bi1:PC Tryz.prog EE 47 [] (.bool true):=by
 refine ae9 hE fok47 (Nat.le_of_ble_eq_true rfl) (fun a h=>by cases h) ?_
 have b1:=ck5 [97] [49]
 have b2:=ck5 [97] [50]
 have b3:=ck5 [122] [48]
 have ho:=if9
 have m21:=ax2 ar5 fp9 2 1
 have m12:=ax2 ar5 fp9 1 2
 have m32:=ax2 ar5 fp9 3 2
 have m03:=ax2 ar5 fp9 0 3
 rw[b21] at m21
 rw[b12] at m12
 rw[b32] at m32
 rw[b03] at m03
 have hs:=fp3 ar5 fp9 hr8 [1,2,3,0,1] rfl gv7
 rw[hr9] at hs
 have ha:=ge8 [0,3,2,1] [0,3,2,1] (by decide) (by decide)
 rw[decide_eq_true rfl] at ha
 have hi:ak7 dn8=.tslice [(cc4 [122] [48]).cs]:=rfl
 have hrep:am5 bi5=.tslice [[.int .i64 1,.tslice [(cc4 [97] [49]).cs,(cc4 [97] [50]).cs]],[.int .i64 9,.tslice [(cc4 [97] [49]).cs]]]:=rfl
 have hr5:r15.cs=[.int .u8 2,.bool false,cc2 [],bc1 [],.int .i64 0]:=rfl
 have hw:∀ {v:IV} {σ:Store},Bnd 0 v→Frz σ (fun _=>true=true) v v:=fun h=>.keep _ (h.weak fun _ _=>rfl)
 have ho2:PC Tryz.prog EE 49 [am5 bi5,ak7 dn8,.agg [.int .u8 2,.bool false,.nilslice,.nilslice,.int .i64 0]] (.tuple [ar5.v,(AskM.mk (bq9 bi5 dn8) r15).v,(bq9 bi5 dn8).v,.bool true]):=dr3 (args':=[am5 bi5,ak7 dn8,.agg r15.cs]) rfl (fun σ i hi=>by
  match i,hi with
  | 0,_=>exact hw (bc3 _)
  | 1,_=>exact hw (ao9 _)
  | 2,_=>
   rw[hr5]
   exact .agg2 (.cons (hw (.int _ _)) (.cons (hw (.bool _)) (.cons .nils (.cons .nils (.cons (hw (.int _ _)) .nil)))))) ho
 have hcs1:(cc4 [97] [49]).cs=[.str [97],.int .i64 0,.str [49],.str [49],.int .u8 2,.str [],.tslice [],.tslice [],.tslice [],.tslice [],.tslice [],.tslice [],.tslice [],.tslice [],.tslice []]:=rfl
 have hcs2:(cc4 [97] [50]).cs=[.str [97],.int .i64 0,.str [50],.str [49],.int .u8 2,.str [],.tslice [],.tslice [],.tslice [],.tslice [],.tslice [],.tslice [],.tslice [],.tslice [],.tslice []]:=rfl
 have hcs3:(cc4 [122] [48]).cs=[.str [122],.int .i64 0,.str [48],.str [49],.int .u8 2,.str [],.tslice [],.tslice [],.tslice [],.tslice [],.tslice [],.tslice [],.tslice [],.tslice [],.tslice []]:=rfl
 rw[hi,hrep,hcs1,hcs2,hcs3] at ho2
 rw[hcs1] at b1
 rw[hcs2] at b2
 rw[hcs3] at b3
 generalize ar5.v=O at *
 generalize (AskM.mk (bq9 bi5 dn8) r15).v=A1 at *
 generalize (bq9 bi5 dn8).v=P1 at *
 simp only[List.map_cons,List.map_nil,Md.intC] at hs ha
 simp only[ic47,go_sem]
 first|refine aa1 fok116 (b1) ?_|refine aa3 (b1) ?_
 simp only[go_sem]
 first|refine aa1 fok116 (b2) ?_|refine aa3 (b2) ?_
 simp only[go_sem]
 first|refine aa1 fok116 (b1) ?_|refine aa3 (b1) ?_
 simp only[go_sem]
 first|refine aa1 fok116 (b3) ?_|refine aa3 (b3) ?_
 simp only[go_sem]
 first|refine aa1 fok49 (ho2) ?_|refine aa3 (ho2) ?_
 simp only[go_sem]
 first|refine aa1 fok51 (m21) ?_|refine aa3 (m21) ?_
 simp only[go_sem]
 first|refine aa1 fok51 (m12) ?_|refine aa3 (m12) ?_
 simp only[go_sem]
 first|refine aa1 fok51 (m32) ?_|refine aa3 (m32) ?_
 simp only[go_sem]
 first|refine aa1 fok51 (m03) ?_|refine aa3 (m03) ?_
 simp only[go_sem]
 first|refine aa1 fok52 (hs) ?_|refine aa3 (hs) ?_
 simp only[go_sem]
 first|refine aa1 fok117 (ha) ?_|refine aa3 (ha) ?_
 simp only[go_sem]
 exact ac8 rfl
end Go.Id.Tryz
