/- What a state must hold to: whether it does,walked. Conditions: sizes that fit. -/
import Derived.Test.YtebfbbjghhagbaaGreatDoorTMSJ
import Derived.Test.YtebfbbjghhagbaaGreatDoorTMTG
import Derived.Test.YtebfbbjghhagbaaGreatDoorMv
import Derived.Test.YtebfbbjghhagbaaGreatDoorFwZb
set_option linter.all false
namespace Go.Id.Tryz
open Go Go.Id Go.Proofs Go.Shelf Go.Id.Md
set_option maxRecDepth 100000
set_option maxHeartbeats 1000000
theorem ak1 (d:Itm):d.cs.length=3:=rfl
theorem ai3 (d:Itm):d.cs.all IV.leaf=true:=rfl
theorem ai4 (d:Itm):d.cs.take 3=d.cs:=rfl
theorem cw5 (d:Itm):d.cs.head? = some (.int .u8 d.kind):=rfl
theorem dq9 (d:Itm):∀ c∈d.cs,Bnd 0 c:=az8 (.int _ _) (.int _ _) (.int _ _)
theorem bn8 (d:Itm):Bnd 0 (.agg d.cs):=.agg _ (dq9 d)
theorem bb9 (l:List Itm):Bnd 0 (bk2 l):=.aa5 _ fun e he c hc=>by
 obtain ⟨d,_,rfl⟩:=List.mem_map.1 he; exact dq9 d c hc
theorem gc3 (l:List Itm):Bnd 0 (.al6 (ba1 l)):=.al6 _ (fun e he=>by
 obtain ⟨d,_,rfl⟩:=List.mem_map.1 he; exact bn8 d) fun e he=>by
 obtain ⟨d,_,rfl⟩:=List.mem_map.1 he; exact .agg _ fun c hc=>by cases hc
end Go.Id.Tryz
namespace Go.Id.Md
open Go Go.Id
def ac4.mcs (a:ac4):List IV:=[a.v,Go.Id.Tryz.al5 a.l,.aa5 (a.l.map aa3.cs),bk2 a.items,.al6 (ba1 a.items)]
def ac4.mv (a:ac4):IV:=.ac1 a.mcs
def ac4.held (a:ac4)(st:List Int)(x:Itm):List IV:=[a.mv,.aa5 (st.map Md.ah8),.int .u8 x.kind,.int .i64 x.p,.int .i64 x.q]
end Go.Id.Md
namespace Go.Id.Tryz
open Go Go.Id Go.Proofs Go.Shelf Go.Id.Md
open Go.Id.Md.ac4 (inS less)
theorem av7 (a:ac4):Bnd 0 a.mv:=.ac1 _ fun c hc=>by
 simp only[ac4.mcs,List.mem_cons,List.not_mem_nil,or_false] at hc;rcases hc with rfl|rfl|rfl|rfl|rfl
 ·exact ag8 a
 ·exact as7 _
 ·exact av8 _
 ·exact bb9 _
 ·exact gc3 _
theorem ba2 (a:ac4)(st:List Int)(x:Itm):Bnd 0 (.agg (a.held st x)):=.agg _ fun c hc=>by
 simp only[ac4.held,List.mem_cons,List.not_mem_nil,or_false] at hc;rcases hc with rfl|rfl|rfl|rfl|rfl
 ·exact av7 a
 ·exact ag9 st
 ·exact .int _ _
 ·exact .int _ _
 ·exact .int _ _
theorem aq6 (a:ac4)(st:List Int)(x:Itm):(a.held st x).length=5:=rfl
theorem am5 (a:ac4)(st:List Int)(x:Itm):(a.held st x).all IV.leaf=true:=rfl
theorem an6 (a:ac4)(st:List Int)(x:Itm):(a.held st x).take 5=a.held st x:=rfl
theorem dk5 (a:ac4)(st:List Int)(x:Itm):(a.held st x).head? = some a.mv:=rfl
theorem cw6 (a:ac4)(st:List Int)(x:Itm):((a.held st x).drop 1).head? = some (.aa5 (st.map Md.ah8)):=rfl
theorem bk4 (a:ac4)(st:List Int)(x:Itm):(((a.held st x).drop 2).drop 1).head? = some (.int .i64 x.p):=rfl
theorem ea8 (a:ac4)(st:List Int)(x:Itm):(((a.held st x).drop 2).drop 2).head? = some (.int .i64 x.q):=rfl
theorem is7 (a:ac4)(x:Itm):PC Tryz.prog EE 21 [a.mv,.agg x.cs] (.bool (a.isI x)):=by
 refine ae8 hE fok21 (nZ rfl) (aj6 (av7 a) (bn8 x)) ?_;have hl:=ga3 x a.items;unfold ac4.mv ac4.mcs ac4.isI
 have hk:∀ σ:Store,cr3 σ 6 (.agg []) true (.al6 (ba1 a.items)) (.agg x.cs)=some (.tuple [.agg [],.bool (decide (x∈a.items))]):=fun σ=>by
  simp only[cr3,cb2,hl];by_cases h:x∈a.items<;>simp[h]
 simp only[ic21,go_sem,ai3,ak1,ai4,ar9,hk];exact ab2 rfl
theorem ay6 (a:ac4)(st:List Int)(x:Itm)(n:Int)(hs:st.length<2^40):PC Tryz.prog EE 96 [.agg (a.held st x),.int .i64 n] (.bool (inS st n)):=by
 refine ae8 hE fok96 (nZ rfl) (aj6 (ba2 a st x) (.int _ _)) ?_;have h:=bz7 st n hs;simp only[ic96,go_sem,am5,cw6]
 first|refine aa4 fok151 (h) ?_|refine aa2 (h) ?_
 simp only[go_sem];exact ab2 rfl
theorem ej9 (a:ac4)(st:List Int)(x:Itm)(hs:st.length<2^40):PC Tryz.prog EE 44 [.agg (a.held st x)] (.bool (!inS st x.p)):=by
 refine ae8 hE fok44 (nZ rfl) (aj1 (ba2 a st x)) ?_;have h:=ay6 a st x x.p hs;simp only[ic44,go_sem,am5,aq6,an6,bk4]
 first|refine aa4 fok96 (h) ?_|refine aa2 (h) ?_
 simp only[go_sem];exact ab2 rfl
theorem ek1 (a:ac4)(st:List Int)(x:Itm)(hs:st.length<2^40):PC Tryz.prog EE 48 [.agg (a.held st x)] (.bool (!inS st x.p || !inS st x.q)):=by
 refine ae8 hE fok48 (nZ rfl) (aj1 (ba2 a st x)) ?_;have h:=ay6 a st x x.p hs;have h2:=ay6 a st x x.q hs;simp only[ic48,go_sem,am5,aq6,an6,bk4]
 first|refine aa4 fok96 (h) ?_|refine aa2 (h) ?_
 cases inS st x.p with
 | false=>simp only[go_sem]; exact ab2 rfl
 | true=>
  simp only[go_sem,am5,aq6,an6,ea8]
  first|refine aa4 fok96 (h2) ?_|refine aa2 (h2) ?_
  simp only[go_sem];exact ab2 rfl
theorem gv9 (zs:List Int)(hl:zs.length<2^30)(σ:Store):C Tryz.prog EE 162 [.aa5 (zs.map Md.ah8)] σ (cz8 σ zs):=by
 cases hz:zs with
 | nil=>
  refine eq5 ?_ ?_
  ·refine C_f fok162 (nZ rfl) ?_;simp only[ic162,go_sem,aj5];exact ⟨Kept.refl σ,.inl ⟨rfl,rfl⟩⟩
  ·refine C_f fok162 (nZ rfl) ?_;simp only[ic162,go_sem,aj5];rw[bh8 (by simp only[aa7,if_true]) rfl];simp only[go_sem];refine ⟨⟨by show σ.next<=σ.next+2; omega,fun i hi=>?_⟩,.inr ⟨σ.next,Nat.le_refl _,by show σ.next<σ.next+2; omega,rfl,by simp only[aa7,if_true]; rfl⟩⟩;have:¬ i=σ.next:=by omega
   simp only[aa7,this,if_false]
 | cons z ys=>
  have hne:zs≠[]:=by rw[hz]; exact fun h=>by cases h
  rw[<- hz];refine C_f fok162 (nZ rfl) ?_;have hnil:∀ (d:TypeId),bv7 (.slice d) (.aa5 (zs.map Md.ah8))=some false:=fun d=>by rw[hz]; rfl
  simp only[ic162,go_sem,hnil];generalize hS:Store.put _ σ.next (ak5.row [])=S;have hSn:S.next=σ.next+2:=by rw[<- hS]; rfl
  have hSo:S.obj σ.next=some (.row []):=by rw[<- hS]; simp only[aa7,if_true]
  have hSk:∀ i,i<σ.next->S.obj i=σ.obj i:=fun i hi=>by
   have:¬ i=σ.next:=by omega
   rw[<- hS]; simp only[aa7,this,if_false]
  have hg:ay3 S σ.next (.slice σ.next 0 0 1) []:=.inr ⟨σ.next,Nat.le_refl _,by omega,rfl,hSo⟩;obtain ⟨v',σ',h1,h2,h3,h4⟩:=gq8 (nid:=σ.next+1) (xs:=zs) hg (by simp only[List.length_nil]; omega);simp only[go_sem,h1];have h5:=h4 σ' rfl (by omega) (by omega) (by omega);rw[List.nil_append] at h5;exact ⟨⟨by omega,fun i hi=>by rw[h3 i hi (by omega)]; exact hSk i hi⟩,h5⟩
theorem da2 (n m:Int):PC Tryz.prog EE 163 [.int .i64 n,.ac1 [.int .i64 m]] (.bool (decide (n=m))):=by
 refine ae8 hE fok163 (nZ rfl) (aj6 (.int _ _) (.ac1 _ (aj1 (.int _ _)))) ?_;simp only[ic163,go_sem];exact ab2 rfl
theorem cw7 (l:List aa3)(hl:l.length<=256)(hs:∀ p∈l,Pkg.small p)(zs:List Int)(hz:zs.length<2^30)(n:Int)(r:aa8)(h1:r.fit)(h2:r.count<2^31) :
  PC Tryz.prog EE 98 [al5 l,.aa5 (zs.map Md.ah8),.int .i64 n,.agg r.cs] (.bool (ia9 l (less zs n) r)):=by
 refine hx8 hE fok98 (nZ rfl) (hz4 (as7 l) (ag9 zs) (.int _ _) (af7 _)) ?_;have hlen:(less zs n).length<=zs.length:=List.length_filter_le _ _;have hS:=cm9 l hl hs (less zs n) (by omega) r h1 h2;have tcs:(al5 l).cs=[al5 l]:=rfl;have tlf:(al5 l).leaf=true:=rfl;simp only[ic98];refine ae5 (ah7 ?_);simp only[go_sem,ab4];refine ae5 (gp1 ?_);simp only[go_sem,ab4,ab9,ac6,tcs,tlf];refine ah1 fok162 (gv9 zs hz _) ?_;rintro v s ⟨k1,hr⟩;refine ⟨k1.next,?_⟩;simp only[go_sem];refine ah1 fok161 (if7 (fun m=>decide (m=n)) (by omega) hr.w fok163.1 (aj1 (.ac1 _ (aj1 (.int _ _)))) fun z _=>da2 z n) ?_;rintro v2 s2 ⟨⟨k2,k3⟩,hr2⟩;refine ⟨k2,?_⟩;simp only[go_sem]
 refine ah1 fok97 (ct8 (args':=[al5 l,.aa5 ((less zs n).map Md.ah8),.agg r.cs]) hE rfl (fun z hz=>by
  match z,hz with
  | 0,_=>exact .keep _ (as7 l)
  | 1,_=>exact hr2.frz fun _ _=>Nat.not_lt_zero _
  | 2,_=>exact .keep _ (af7 _)) (by simp[IV.plain]) hS) ?_
 rintro v3 s3 ⟨rfl,rfl⟩;refine ⟨Nat.le_refl _,?_⟩;simp only[go_sem];refine ah7 ?_;simp only[go_sem];exact ab2 rfl
theorem et1 (a:ac4){p:Nat}(h:p<a.l.length):a.pk p∈a.l:=by
 have:a.pk p=a.l[p]:=by simp[ac4.pk,List.getD_eq_getElem?_getD,h]
 rw[this]; exact List.getElem_mem h
theorem gw1 (a:ac4){p:Nat}(h:p<a.l.length):(a.l.map aa3.cs).getD p []=(a.pk p).cs:=by
 simp[ac4.pk,List.getD_eq_getElem?_getD,h]
theorem gc4 (l:List aa8){q:Nat}(h:q<l.length):(l.map aa8.cs).getD q []=(l.getD q default).cs:=by
 simp[List.getD_eq_getElem?_getD,h]
theorem is8 (l:List Dep){q:Nat}(h:q<l.length):(l.map Dep.cs).getD q []=(l.getD q default).cs:=by
 simp[List.getD_eq_getElem?_getD,h]
theorem getD_in {α:Type}[Inhabited α](l:List α){q:Nat}(h:q<l.length):l.getD q default∈l:=by
 have:l.getD q default=l[q]:=by simp[List.getD_eq_getElem?_getD,h]
 rw[this]; exact List.getElem_mem h
theorem gw2 (a:ac4):(ac4.mcs a).head? = some a.v:=rfl
theorem is9 (a:ac4):((ac4.mcs a).drop 1).head? = some (al5 a.l):=rfl
theorem gw3 (a:ac4):((ac4.mcs a).drop 2).head? = some (.aa5 (a.l.map aa3.cs)):=rfl
theorem it1 (a:ac4):((ac4.mcs a).drop 3).head? = some (bk2 a.items):=rfl
theorem ek2 (a:ac4)(hA:AOK a)(st:List Int)(hs:st.length<2^30)(p q:Nat)(hp:p<a.l.length)(hq:q<(a.pk p).requires.length):PC Tryz.prog EE 45 [.agg (a.held st ⟨2,p,q⟩)] (.bool (a.keeps st ⟨2,p,q⟩)):=by
 refine ae8 hE fok45 (nZ rfl) (aj1 (ba2 a st _)) ?_;have h:=ay6 a st ⟨2,p,q⟩ p (by omega);have hf:=(hA.fit _ (et1 a hp)).rich (1,(a.pk p).requires) (by simp[aa3.rows]);obtain ⟨f1,f2⟩:=hf.2 _ (getD_in _ hq);have hsat:=cm9 a.l hA.len hA.small st (by omega) _ f1 f2;have e1:=gw1 a hp;have e2:=gc4 (a.pk p).requires hq;have e3:((a.pk p).cs.drop 7).head? = some (ai5 (a.pk p).requires):=rfl
 have hk:a.keeps st ⟨2,p,q⟩=(!inS st p||ia9 a.l st ((a.pk p).requires.getD q default)):=by
  unfold ac4.keeps ac4.iq7;simp
 rw[hk];have d1:(0:Int)<=(p:Int):=by omega
 have d2:(p:Int)<a.l.length:=by omega
 have d3:(0:Int)<=(q:Int):=by omega
 have d4:(q:Int)<(a.pk p).requires.length:=by omega
 have hm:a.mv=.ac1 a.mcs:=rfl;generalize (a.pk p).requires.getD q default=r at *;simp only[ic45,go_sem,am5,aq6,an6,bk4]
 first|refine aa4 fok96 (h) ?_|refine aa2 (h) ?_
 cases inS st p with
 | false=>simp only[go_sem]; exact ab2 rfl
 | true=>
  simp only[go_sem,am5,aq6,an6,dk5,cw6,bk4,ea8,hm,is9,gw3,ar9,d1,d2,d3,d4,e1,e2,e3,ag4,ab9,ac6,ab4]
  first|refine aa4 fok97 (hsat) ?_|refine aa2 (hsat) ?_
  simp only[go_sem];exact ab2 rfl
theorem ea9 (a:ac4)(hA:AOK a)(st:List Int)(hs:st.length<2^30)(p q:Nat)(hp:p<a.l.length)(hq:q<(a.pk p).conflicts.length):PC Tryz.prog EE 46 [.agg (a.held st ⟨3,p,q⟩)] (.bool (a.keeps st ⟨3,p,q⟩)):=by
 refine ae8 hE fok46 (nZ rfl) (aj1 (ba2 a st _)) ?_;have h:=ay6 a st ⟨3,p,q⟩ p (by omega);have hf:=(hA.fit _ (et1 a hp)).rich (2,(a.pk p).conflicts) (by simp[aa3.rows]);obtain ⟨f1,f2⟩:=hf.2 _ (getD_in _ hq);have hsat:=cw7 a.l hA.len hA.small st hs p _ f1 f2;have e1:=gw1 a hp;have e2:=gc4 (a.pk p).conflicts hq;have e3:((a.pk p).cs.drop 8).head? = some (ai5 (a.pk p).conflicts):=rfl
 have hk:a.keeps st ⟨3,p,q⟩=(!inS st p || !ia9 a.l (less st p) ((a.pk p).conflicts.getD q default)):=by
  unfold ac4.keeps ac4.hk6;simp
 rw[hk];have d1:(0:Int)<=(p:Int):=by omega
 have d2:(p:Int)<a.l.length:=by omega
 have d3:(0:Int)<=(q:Int):=by omega
 have d4:(q:Int)<(a.pk p).conflicts.length:=by omega
 have hm:a.mv=.ac1 a.mcs:=rfl;generalize (a.pk p).conflicts.getD q default=r at *;simp only[ic46,go_sem,am5,aq6,an6,bk4]
 first|refine aa4 fok96 (h) ?_|refine aa2 (h) ?_
 cases inS st p with
 | false=>simp only[go_sem]; exact ab2 rfl
 | true=>
  simp only[go_sem,am5,aq6,an6,dk5,cw6,bk4,ea8,hm,is9,gw3,ar9,d1,d2,d3,d4,e1,e2,e3,ag4,ab9,ac6,ab4]
  first|refine aa4 fok98 (hsat) ?_|refine aa2 (hsat) ?_
  simp only[go_sem];exact ab2 rfl
theorem ek3 (a:ac4):PC Tryz.prog EE 100 [a.v] (ah3 a.l).v:=by
 refine ae8 hE fok100 (nZ rfl) (aj1 (ag8 a)) ?_;have hb:=bc2 (ah3 a.l);unfold ac4.v ac4.cs;simp only[ic100,go_sem,ar9];exact .keep _ hb
theorem gw4 (a:ac4)(st:List Int)(x:Itm)(n:Int)(hs:st.length<2^40):PC Tryz.prog EE 102 [.int .i64 n,.ac1 (a.held st x)] (.bool (!decide (n=x.p)&&inS st n)):=by
 refine ae8 hE fok102 (nZ rfl) (aj6 (.int _ _) (by cases ba2 a st x with|agg _ h=>exact .ac1 _ h)) ?_;have h:=ay6 a st x n hs;by_cases e:n=x.p
 ·simp only[ic102,go_sem,bk4,e];exact ab2 rfl
 ·simp only[ic102,go_sem,am5,aq6,an6,bk4,e]
  first|refine aa4 fok96 (h) ?_|refine aa2 (h) ?_
  simp only[go_sem];exact ab2 rfl
theorem ek4 (a:ac4)(hA:AOK a)(st:List Int)(hs:st.length<2^30)(p q:Nat)(hp:p<a.l.length)(hq:q<(a.pk p).aa9.length):PC Tryz.prog EE 47 [.agg (a.held st ⟨4,p,q⟩)] (.bool (a.keeps st ⟨4,p,q⟩)):=by
 refine ae8 hE fok47 (nZ rfl) (aj1 (ba2 a st _)) ?_;have h:=ay6 a st ⟨4,p,q⟩ p (by omega);have hsm:=hA.small _ (et1 a hp);have hds:Dep.small ((a.pk p).aa9.getD q default):=hsm.2.2.1 _ (getD_in _ hq);have hI:=ek3 a;have hN:=bv3 a.l ((a.pk p).aa9.getD q default) (by have:=hA.len; omega) hA.small hds;have hnl:(ao9 a.l ((a.pk p).aa9.getD q default)).length<=a.l.length:=al8 _ _;have hA1:=hA.len;have hC:=bg9 (ao9 a.l ((a.pk p).aa9.getD q default)) 102 [] [.ac1 (a.held st ⟨4,p,q⟩)] (fun n=>!decide (n=(p:Int))&&inS st n) (by omega) fok102.1 fun n _=>gw4 a st ⟨4,p,q⟩ n (by omega)
 have e1:=gw1 a hp;have e2:=is8 (a.pk p).aa9 hq;have e3:((a.pk p).cs.drop 9).head? = some (deps (a.pk p).aa9):=rfl
 have hk:a.keeps st ⟨4,p,q⟩=(!inS st p || !((ao9 a.l ((a.pk p).aa9.getD q default)).any fun n=>!decide (n=(p:Int))&&inS st n)):=by
  unfold ac4.keeps ac4.gt4;simp
 rw[hk];have d1:(0:Int)<=(p:Int):=by omega
 have d2:(p:Int)<a.l.length:=by omega
 have d3:(0:Int)<=(q:Int):=by omega
 have d4:(q:Int)<(a.pk p).aa9.length:=by omega
 have hm:a.mv=.ac1 a.mcs:=rfl;have vcs:a.v.cs=[a.v]:=rfl;have vlf:a.v.leaf=true:=rfl;generalize hdd:(a.pk p).aa9.getD q default=d at *;generalize (ao9 a.l d).any (fun n=>!decide (n=(p:Int))&&inS st n)=R at *;simp only[ic47,go_sem,am5,aq6,an6,dk5,cw6,bk4,ea8,hm,gw2,gw3,ar9,d1,d2,d3,d4,e1,e2,e3,ag4,ar5,ao2,am8]
 first|refine aa4 fok96 (h) ?_|refine aa2 (h) ?_
 cases inS st p with
 | false=>simp only[go_sem]; exact ab2 rfl
 | true=>
  simp only[go_sem,am5,aq6,an6,dk5,cw6,bk4,ea8,hm,gw2,gw3,ar9,vcs,vlf]
  first|refine aa4 fok100 (hI) ?_|refine aa2 (hI) ?_
  simp only[go_sem,ar5,ao2,am8]
  first|refine aa4 fok101 (hN) ?_|refine aa2 (hN) ?_
  simp only[go_sem]
  first|refine aa4 fok99 (hC) ?_|refine aa2 (hC) ?_
  simp only[go_sem];exact ab2 rfl
theorem ek5 (a:ac4)(hA:AOK a)(st:List Int)(hs:st.length<2^30)(p:Nat):PC Tryz.prog EE 49 [.agg (a.held st ⟨6,p,0⟩)] (.bool (a.keeps st ⟨6,p,0⟩)):=by
 refine ae8 hE fok49 (nZ rfl) (aj1 (ba2 a st _)) ?_;have hS:=cy6 a p hA;have hl:=a.bz1 p;have hA1:=hA.len;have hC:=bg9 (a.bi5 p) 96 [.agg (a.held st ⟨6,p,0⟩)] [] (fun n=>inS st n) (by omega) fok96.1 fun n _=>ay6 a st ⟨6,p,0⟩ n (by omega)
 have hk:a.keeps st ⟨6,p,0⟩=(a.bi5 p).any fun n=>inS st n:=by
  unfold ac4.keeps;simp;rfl
 rw[hk];have hm:a.mv=.ac1 a.mcs:=rfl;have vcs:a.v.cs=[a.v]:=rfl;have vlf:a.v.leaf=true:=rfl;generalize (a.bi5 p).any (fun n=>inS st n)=R at *;simp only[ic49,go_sem,am5,aq6,an6,dk5,cw6,bk4,hm,gw2,ar9,vcs,vlf]
 first|refine aa4 fok103 (hS) ?_|refine aa2 (hS) ?_
 simp only[go_sem,am5,aq6,an6]
 first|refine aa4 fok99 (hC) ?_|refine aa2 (hC) ?_
 simp only[go_sem];exact ab2 rfl
theorem fm3 (a:ac4)(hA:AOK a)(st:List Int)(hs:st.length<2^30)(p:Nat):PC Tryz.prog EE 50 [.agg (a.held st ⟨7,p,0⟩)] (.bool (a.keeps st ⟨7,p,0⟩)):=by
 refine ae8 hE fok50 (nZ rfl) (aj1 (ba2 a st _)) ?_;have hF:=ca6 a p st hA (by omega)
 have hk:a.keeps st ⟨7,p,0⟩=a.bv1 p st:=by
  unfold ac4.keeps;simp
 rw[hk];have hm:a.mv=.ac1 a.mcs:=rfl;have vcs:a.v.cs=[a.v]:=rfl;have vlf:a.v.leaf=true:=rfl;simp only[ic50,go_sem,am5,aq6,an6,dk5,cw6,bk4,hm,gw2,ar9,vcs,vlf]
 first|refine aa4 fok33 (hF) ?_|refine aa2 (hF) ?_
 simp only[go_sem];exact ab2 rfl
theorem cw8 (a:ac4)(hA:AOK a)(st:List Int)(hs:st.length<2^30)(x:Itm):PC Tryz.prog EE 12 [a.mv,.aa5 (st.map Md.ah8),.agg x.cs] (.bool (a.holds st x)):=by
 refine ae8 hE fok12 (nZ rfl) (az8 (av7 a) (ag9 st) (bn8 x)) ?_;have hi:=is7 a x;have hnl:∀ d:TypeId,bv7 (.pointer d) a.mv=some false:=fun _=>rfl
 have vcs:a.mv.cs=[a.mv]:=rfl;have vlf:a.mv.leaf=true:=rfl
 cases hx:a.isI x with
 | false=>
  rw[hx] at hi;have hh:a.holds st x=true:=by unfold ac4.holds; rw[hx]; rfl
  simp only[ic12,go_sem,ai3,ak1,ai4,hnl]
  first|refine aa4 fok21 (hi) ?_|refine aa2 (hi) ?_
  simp only[go_sem]
  exact ab2 hh.symm
 | true=>
  rw[hx] at hi;have hmem:x∈a.items:=of_decide_eq_true hx;have hh:a.holds st x=a.keeps st x:=a.holds_of hmem;rw[hh]
  cases a.cu8.1 hmem with
  | aq4 p hp hf=>
   have hF:=ej9 a st ⟨1,p,0⟩ (by omega);have hk:a.keeps st ⟨1,p,0⟩=!inS st (p:Int):=by unfold ac4.keeps; simp
   rw[hk];simp only[ic12,go_sem,ai3,ak1,ai4,hnl,vcs,vlf]
   first|refine aa4 fok21 (hi) ?_|refine aa2 (hi) ?_
   simp only[go_sem,ai3,ak1,ai4,cw5,vcs,vlf];refine ⟨rfl,?_⟩;refine aa4 fok44 hF ?_;simp only[go_sem]
   exact ab2 rfl
  | need p q hp hq=>
   have hF:=ek2 a hA st hs p q hp hq;generalize a.keeps st ⟨2,p,q⟩=R at *;simp only[ic12,go_sem,ai3,ak1,ai4,hnl,vcs,vlf]
   first|refine aa4 fok21 (hi) ?_|refine aa2 (hi) ?_
   simp only[go_sem,ai3,ak1,ai4,cw5,vcs,vlf];refine ⟨rfl,?_⟩;refine aa4 fok45 hF ?_;simp only[go_sem]
   exact ab2 rfl
  | clash p q hp hq=>
   have hF:=ea9 a hA st hs p q hp hq;generalize a.keeps st ⟨3,p,q⟩=R at *;simp only[ic12,go_sem,ai3,ak1,ai4,hnl,vcs,vlf]
   first|refine aa4 fok21 (hi) ?_|refine aa2 (hi) ?_
   simp only[go_sem,ai3,ak1,ai4,cw5,vcs,vlf];refine ⟨rfl,?_⟩;refine aa4 fok46 hF ?_;simp only[go_sem]
   exact ab2 rfl
  | over p q hp hq=>
   have hF:=ek4 a hA st hs p q hp hq;generalize a.keeps st ⟨4,p,q⟩=R at *;simp only[ic12,go_sem,ai3,ak1,ai4,hnl,vcs,vlf]
   first|refine aa4 fok21 (hi) ?_|refine aa2 (hi) ?_
   simp only[go_sem,ai3,ak1,ai4,cw5,vcs,vlf];refine ⟨rfl,?_⟩;refine aa4 fok47 hF ?_;simp only[go_sem]
   exact ab2 rfl
  | twin p q hp hq ht=>
   have hF:=ek1 a st ⟨5,p,q⟩ (by omega);have hk:a.keeps st ⟨5,p,q⟩=(!inS st (p:Int) || !inS st (q:Int)):=by unfold ac4.keeps; simp
   rw[hk];simp only[ic12,go_sem,ai3,ak1,ai4,hnl,vcs,vlf]
   first|refine aa4 fok21 (hi) ?_|refine aa2 (hi) ?_
   simp only[go_sem,ai3,ak1,ai4,cw5,vcs,vlf];refine ⟨rfl,?_⟩;refine aa4 fok48 hF ?_;simp only[go_sem]
   exact ab2 rfl
  | keep p hp hg=>
   have hF:=ek5 a hA st hs p;generalize a.keeps st ⟨6,p,0⟩=R at *;simp only[ic12,go_sem,ai3,ak1,ai4,hnl,vcs,vlf]
   first|refine aa4 fok21 (hi) ?_|refine aa2 (hi) ?_
   simp only[go_sem,ai3,ak1,ai4,cw5,vcs,vlf];refine ⟨rfl,?_⟩;refine aa4 fok49 hF ?_;simp only[go_sem]
   exact ab2 rfl
  | job p hp hd=>
   have hF:=fm3 a hA st hs p;generalize a.keeps st ⟨7,p,0⟩=R at *;simp only[ic12,go_sem,ai3,ak1,ai4,hnl,vcs,vlf]
   first|refine aa4 fok21 (hi) ?_|refine aa2 (hi) ?_
   simp only[go_sem,ai3,ak1,ai4,cw5,vcs,vlf];refine ⟨rfl,?_⟩;refine aa4 fok50 hF ?_;simp only[go_sem];exact ab2 rfl
theorem eb1 (xs:List Itm)(g:Nat)(first cap:List IV)(q:Itm->Bool)(hn:xs.length<2^62)(hok:okF Tryz.prog g=true)
  (hq:∀ x∈xs,PC Tryz.prog EE g (first++[IV.agg (Itm.cs x)]++cap) (.bool (q x))):PC Tryz.prog EE 104 [.aa5 (xs.map Itm.cs),.func (.func g) first cap] (.int .i64 (ai1 q xs 0)):=by
 refine ay9 fok104 (nZ rfl) fun σ=>?_
 simp only[ic104,go_sem];refine ab7 noT (fun i fr s=>s=σ/\fr=[(0,.aa5 (xs.map Itm.cs)),(1,.func (.func g) first cap),(7,.int .i64 xs.length),(8,.int .i64 i)]/\ai1 q xs 0=ai1 q (xs.drop i) i) xs.length ⟨rfl,rfl,rfl⟩ ?_;rintro i fr s hi ⟨rfl,rfl,hf⟩;by_cases hlt:i<xs.length
 ·obtain ⟨x,ha,_,hdr,hget,_⟩:=ae3 xs i hlt;have c1:(i:Int)<xs.length:=by omega
  have c2:(0:Int)<=i:=by omega
  have w1:=ad6 (i:=i) (by omega);rw[hdr] at hf;simp only[go_sem,c1,c2,hget,ak1,ai4,ai3];refine ao1 hok (eh8 (hq x ha)) ?_;rintro v s ⟨rfl,rfl⟩;refine ⟨Nat.le_refl _,?_⟩
  cases hqe:q x with
  | true=>simp only[go_sem,hf,ai1,hqe,and_self]
  | false=>
   simp only[go_sem,w1];exact ⟨hlt,by rw[hf]; simp only[ai1,hqe,Bool.false_eq_true,if_false,Int.natCast_add,Int.natCast_one]⟩
 ·have hi':i=xs.length:=by omega
  subst hi';have c1:¬ (xs.length:Int)<xs.length:=by omega
  rw[List.drop_length] at hf;simp only[go_sem,c1,hf,ai1,and_self]
theorem gc5 (xs:List Itm)(g:Nat)(first cap:List IV)(q:Itm->Bool)(hn:xs.length<2^62)(hok:okF Tryz.prog g=true)
  (hq:∀ x∈xs,PC Tryz.prog EE g (first++[IV.agg (Itm.cs x)]++cap) (.bool (q x))):PC Tryz.prog EE 57 [.aa5 (xs.map Itm.cs),.func (.func g) first cap] (.bool (xs.any q)):=by
 refine ay9 fok57 (nZ rfl) fun σ=>?_
 simp only[ic57,go_sem]
 first|refine aa4 fok104 (eb1 xs g first cap q hn hok hq) ?_|refine aa2 (eb1 xs g first cap q hn hok hq) ?_
 simp only[go_sem,aq7,and_self]
theorem ek6 (xs:List Itm)(hn:xs.length<=2147483648):PC Tryz.prog EE 43 [.aa5 (xs.map Itm.cs)] (.aa5 (xs.map Itm.cs)):=by
 cases hx:xs with
 | nil=>
  rw[List.map_nil];refine bm5 ?_ ?_
  ·refine ae8 hE fok43 (nZ rfl) (ae2 .aa1) ?_;simp only[ic43,go_sem,aj5];exact .cb8
  ·refine ae8 hE fok43 (nZ rfl) (ae2 .af3) ?_;simp only[ic43,go_sem,aj5];rw[bh8 (by simp only[aa7,if_true]) rfl];simp only[go_sem]
   exact .db4 _ _ _ (by simp only[aa7,if_true]; exact fun h=>(by cases h))
 | cons a as'=>
  have hne:xs.map Itm.cs≠[]:=by rw[hx]; exact fun h=>(by cases h)
  have hall:∀ e∈xs.map Itm.cs,e.length=3/\e.all IV.leaf=true:=fun e he=>by
   obtain ⟨x,_,rfl⟩:=List.mem_map.1 he;exact ⟨ak1 x,ai3 x⟩
  rw[<- hx];refine ae8 hE fok43 (nZ rfl) (ae2 (bb9 xs)) ?_;have hnil:∀ d,bv7 (.slice d) (.aa5 (xs.map Itm.cs))=some false:=fun d=>by rw[hx]; rfl
  simp only[ic43,go_sem,aj5,hnil];rw[cc3 (by simp only[aa7,if_true]) hne hall (by rw[List.length_map]; exact hn)];simp only[go_sem];refine Grow.frz (esz:=3) (es:=xs.map Itm.cs) (.inr ⟨1,by rw[List.length_map],by simp only[aa7,if_true],Nat.lt_succ_self _⟩) (fun x hx=>(hall x hx).1) (fun _ _=>Nat.not_lt_zero _) (ak6 (bb9 xs))
theorem gw5 (a:ac4)(hA:AOK a)(st:List Int)(hs:st.length<2^30)(x:Itm):PC Tryz.prog EE 58 [.agg x.cs,.ac1 [a.mv],.ac1 [.aa5 (st.map Md.ah8)]] (.bool (!a.holds st x)):=by
 refine ae8 hE fok58 (nZ rfl) (az8 (bn8 x) (.ac1 _ (aj1 (av7 a))) (.ac1 _ (aj1 (ag9 st)))) ?_;have h:=cw8 a hA st hs x;have vcs:a.mv.cs=[a.mv]:=rfl;have vlf:a.mv.leaf=true:=rfl;simp only[ic58,go_sem,ai3,ak1,ai4,vcs,vlf]
 first|refine aa4 fok12 (h) ?_|refine aa2 (h) ?_
 simp only[go_sem];exact ab2 rfl
theorem gw6 (a:ac4)(hA:AOK a)(st:List Int)(hs:st.length<2^30)(l:List Itm)(hl:l.length<2^62):PC Tryz.prog EE 19 [a.mv,.aa5 (st.map Md.ah8),bk2 l] (.bool (a.kept st l)):=by
 refine ae8 hE fok19 (nZ rfl) (az8 (av7 a) (ag9 st) (bb9 l)) ?_;have hC:=gc5 l 58 [] [.ac1 [a.mv],.ac1 [.aa5 (st.map Md.ah8)]] (fun x=>!a.holds st x) hl fok58.1 fun x _=>gw5 a hA st hs x
 have vcs:a.mv.cs=[a.mv]:=rfl;have vlf:a.mv.leaf=true:=rfl;have hnl:∀ d:TypeId,bv7 (.pointer d) a.mv=some false:=fun _=>rfl
 simp only[ic19,go_sem,vcs,vlf,hnl,List.all_cons,List.all_nil,List.head?_cons]
 first|refine aa4 fok57 (hC) ?_|refine aa2 (hC) ?_
 simp only[go_sem];exact ab2 rfl
theorem dr1 (a:ac4)(hA:AOK a)(st:List Int)(hs:st.length<2^30)(hl:a.items.length<2^62):PC Tryz.prog EE 17 [a.mv,.aa5 (st.map Md.ah8)] (.bool (a.good st)):=by
 refine ae8 hE fok17 (nZ rfl) (aj6 (av7 a) (ag9 st)) ?_;have h:=gw6 a hA st hs a.items hl;have hnl:∀ d:TypeId,bv7 (.pointer d) (.ac1 a.mcs)=some false:=fun _=>rfl
 unfold ac4.good;unfold ac4.mv at *;simp only[ic17,go_sem,hnl,it1,ar9]
 first|refine aa4 fok19 (h) ?_|refine aa2 (h) ?_
 simp only[go_sem];exact ab2 rfl
theorem gc6 (a:ac4)(hl:a.items.length<=2147483648):PC Tryz.prog EE 11 [a.mv] (bk2 a.items):=by
 refine ae8 hE fok11 (nZ rfl) (aj1 (av7 a)) ?_;have h:=ek6 a.items hl;have hnl:∀ d:TypeId,bv7 (.pointer d) (.ac1 a.mcs)=some false:=fun _=>rfl
 unfold ac4.mv at *;simp only[ic11,go_sem,hnl,it1,ar9]
 first|refine aa4 fok43 (h) ?_|refine aa2 (h) ?_
 simp only[go_sem];exact .keep _ (bb9 _)
set_option maxHeartbeats 1000000
structure MO (s:Store) (pp mid:Nat) (av tv allv itv:IV) (P:List aa3) (D:List Itm):Prop where
 cell:s.obj pp=some (.cells [av,tv,allv,itv,.map mid])
 grow:Grow s itv 3 (D.map Itm.cs)
 map:s.obj mid=some (.map (ba1 D))
 all:Grow s allv 15 (P.map aa3.cs)
 ne:∀ i k j l,itv=.slice i 0 k 3->allv=.slice j 0 l 15->i≠j
 lt:pp<s.next/\mid<s.next
theorem MO.mono {s s':Store}{pp mid:Nat}{av tv allv itv:IV}{P:List aa3}{D:List Itm}(h:MO s pp mid av tv allv itv P D)(hn:s.next<=s'.next)(ho:∀ i,i<s.next->s'.obj i=s.obj i):MO s' pp mid av tv allv itv P D where
 cell:=by rw[ho _ h.lt.1]; exact h.cell
 grow:=h.grow.mono hn fun id _ hid=>ho id hid
 map:=by rw[ho _ h.lt.2]; exact h.map
 all:=h.all.mono hn fun id _ hid=>ho id hid
 ne:=h.ne
 lt:=⟨by have:=h.lt.1; omega,by have:=h.lt.2; omega⟩
theorem et2 (l:List Itm):∀ e∈l.map Itm.cs,e.length=3/\e.all IV.leaf=true:=fun e he=>by
 obtain ⟨x,_,rfl⟩:=List.mem_map.1 he;exact ⟨rfl,rfl⟩
theorem gc7 {τ:Store}{mid:Nat}{D:List Itm}{x:Itm}(h:τ.obj mid=some (.map (ba1 D)))(hx:x ∉ D):at1 τ 6 (.map mid) (.agg [.int .u8 x.kind,.int .i64 x.p,.int .i64 x.q]) (.agg [])=some (τ.put mid (.map (ba1 (D++[x])))):=by
 have h2:=gs7 hx;have hxc:x.cs=[.int .u8 x.kind,.int .i64 x.p,.int .i64 x.q]:=rfl;rw[hxc] at h2;simp only[at1,h,h2,Option.map]
def ic4 (pp:Nat)(σ s:Store):Prop:=σ.next<=s.next/\∀ i cs,i<σ.next->i≠pp->σ.obj i=some (.cells cs)->s.obj i=some (.cells cs)
theorem eb2 (σ:Store)(pp mid:Nat)(av tv allv itv:IV)(P:List aa3)(D:List Itm)(x:Itm)(h:MO σ pp mid av tv allv itv P D)(hx:x ∉ D)(hD:D.length<2^30) :
  C Tryz.prog EE 155 [.ptr pp 0,.int .u8 x.kind,.int .i64 x.p,.int .i64 x.q] σ (fun v s=>ic4 pp σ s/\∃ itv',MO s pp mid av tv allv itv' P (D++[x])):=by
 refine C_f fok155 (nZ rfl) ?_;have hxc:x.cs=[.int .u8 x.kind,.int .i64 x.p,.int .i64 x.q]:=rfl;have npp:¬ pp=σ.next:=by have:=h.lt.1; omega
 have nmid:¬ mid=σ.next:=by have:=h.lt.2; omega
 have npn:¬ pp=σ.next+1+7:=by have:=h.lt.1; omega
 have nmn:¬ mid=σ.next+1+7:=by have:=h.lt.2; omega
 have nmp:¬ mid=pp:=fun e=>by have h1:=h.cell; have h2:=h.map; rw[<- e,h2] at h1; cases h1
 have nsn:¬ σ.next=σ.next+1+7:=by omega
 have nsp:¬ σ.next=pp:=fun e=>npp e.symm
 have hc:=h.cell;have hm:=h.map;obtain ⟨S,hS⟩:∃ S:Store,S=(({ next:=σ.next+1,obj:=σ.obj }:Store).put σ.next (ak5.cells [.int .u8 0,.int .i64 0,.int .i64 0])).put σ.next (ak5.cells [.int .u8 x.kind,.int .i64 x.p,.int .i64 x.q]):=⟨_,rfl⟩;have So:∀ i,¬ i=σ.next->S.obj i=σ.obj i:=fun i hi=>by rw[hS]; simp only[aa7,hi,if_false]
 have Sb:S.obj σ.next=some (.cells [.int .u8 x.kind,.int .i64 x.p,.int .i64 x.q]):=by rw[hS]; simp only[aa7,if_true]
 have hg1:Grow (⟨σ.next+1+11,S.obj⟩:Store) itv 3 (D.map Itm.cs):=h.grow.mono (by show σ.next<=σ.next+1+11; omega) fun id _ hid=>So id (by omega)
 have ha1:Grow (⟨σ.next+1+11,S.obj⟩:Store) allv 15 (P.map aa3.cs):=h.all.mono (by show σ.next<=σ.next+1+11; omega) fun id _ hid=>So id (by omega)
 have hap:=al4 (nid:=σ.next+1+7) (e:=x.cs) hg1 (et2 D) ⟨rfl,rfl⟩ (by rw[List.length_map]; omega);rw[List.length_map,hxc] at hap;have kp:=af4 hg1 pp _ (by rw[<- hc]; exact So pp npp) (fun _ e=>by cases e);have km:=af4 hg1 mid _ (by rw[<- hm]; exact So mid nmid) (fun _ e=>by cases e);have kb:=af4 hg1 σ.next _ Sb (fun _ e=>by cases e);have kn:(ai2 itv (⟨σ.next+1+11,S.obj⟩:Store)).next=σ.next+1+11:=ad9 itv;have hcp:S.obj pp=some (.cells [av,tv,allv,itv,.map mid]):=by rw[So pp npp]; exact hc
 have kall:∀ i cs,i<σ.next->σ.obj i=some (.cells cs)->(ai2 itv (⟨σ.next+1+11,S.obj⟩:Store)).obj i=some (.cells cs):=fun i cs hi ho=>af4 hg1 i _ (by rw[<- ho]; exact So i (by omega)) (fun _ e=>by cases e)
 have hkall:Grow (ai2 itv (⟨σ.next+1+11,S.obj⟩:Store)) allv 15 (P.map aa3.cs):=by
  refine ha1.mono (by rw[kn]; exact Nat.le_refl _) fun id hv _=>?_
  rcases hg1 with ⟨h0,_⟩|⟨j,hj,_,_⟩
  ·rw[h0]; rfl
  ·have hne:=h.ne _ _ _ _ hj hv;rw[hj];show (if id=j then none else S.obj id)=_;rw[if_neg fun e=>hne e.symm]
 simp only[ic155,go_sem,npp,hc,b_o,b_p,b_t];rw[<- hS];generalize ai2 itv (⟨σ.next+1+11,S.obj⟩:Store)=K at *;simp only[show σ.next+1+1+1+1+1+1+1+1=σ.next+1+7 from rfl,hap,go_sem,npn,nmn,nmp,nsn,nsp,kp,km,kb];generalize hK2:(⟨K.next+7,_⟩:Store)=K2;have K2o:K2.obj=((K.put (σ.next+1+7) (ak5.row (List.map Itm.cs D++[[IV.int IntKind.u8 x.kind,IV.int IntKind.i64 x.p,IV.int IntKind.i64 x.q]]).flatten)).put pp (ak5.cells [av,tv,allv,IV.slice (σ.next+1+7) 0 (D.length+1) 3,IV.map mid])).obj:=by rw[<- hK2]
 have K2n:K2.next=σ.next+1+11+7:=by rw[<- hK2]; show K.next+7=_; rw[kn]
 have hmk:K2.obj mid=some (.map (ba1 D)):=by rw[K2o]; simp only[aa7,nmp,nmn,if_false]; exact km
 have npm:¬ pp=mid:=fun e=>nmp e.symm
 rw[gc7 hmk hx];simp only[go_sem];refine ⟨⟨by rw[ab5,K2n]; omega,fun i cs hi hip ho=>?_⟩,.slice (σ.next+1+7) 0 (D.length+1) 3,?_⟩
 ·have him:¬ i=mid:=fun e=>by rw[e,hm] at ho; cases ho
  have hin:¬ i=σ.next+1+7:=by omega
  rw[aa7,if_neg him,K2o];simp only[aa7,hip,hin,if_false];exact kall i cs hi ho
 ·have hrow:∀ id,id≠mid->id≠pp->id≠σ.next+1+7->(K2.put mid (.map (ba1 (D++[x])))).obj id=K.obj id:=fun id h1 h2 h3=>by
   rw[aa7,if_neg h1,K2o];simp only[aa7,h2,h3,if_false]
  exact {
   cell:=by rw[aa7,if_neg npm,K2o]; simp only[aa7,if_true]
   grow:=by
    refine .inr ⟨σ.next+1+7,by rw[List.map_append,List.length_append,List.length_map]; rfl,?_,by rw[ab5,K2n]; omega⟩;rw[aa7,if_neg (fun e=>nmn e.symm),K2o];simp only[aa7,if_true];rw[if_neg (fun e=>npn e.symm),List.map_append]; rfl
   map:=by rw[aa7,if_pos rfl]
   all:=by
    refine hkall.mono (by rw[ab5,K2n,kn]; omega) fun id hv hid=>?_
    rw[kn] at hid
    have hr:K.obj id=some (.row (P.map aa3.cs).flatten):=by
     rcases hkall with ⟨h0,_⟩|⟨j,hj,ho,_⟩
     ·rw[h0] at hv; cases hv
     ·rw[hj] at hv; cases hv; exact ho
    refine hrow id (fun e=>by rw[e,km] at hr; cases hr) (fun e=>by rw[e,kp] at hr; cases hr) fun e=>?_
    rw[e] at hv;rcases h.all with ⟨h0,_⟩|⟨j,hj,_,hjl⟩
    ·rw[h0] at hv; cases hv
    ·rw[hj] at hv; cases hv; omega
   ne:=fun i k j l e1 e2=>by
    cases e1;rcases h.all with ⟨h0,_⟩|⟨j',hj,_,hjl⟩
    ·rw[h0] at e2; cases e2
    ·rw[hj] at e2; cases e2; omega
   lt:=⟨by rw[ab5,K2n]; have:=h.lt.1; omega,by rw[ab5,K2n]; have:=h.lt.2; omega⟩ }
set_option maxHeartbeats 1000000
theorem ic4.refl (pp:Nat)(σ:Store):ic4 pp σ σ:=⟨Nat.le_refl _,fun _ _ _ _ h=>h⟩
theorem ic4.trans {pp:Nat}{a b c:Store}(h1:ic4 pp a b)(h2:ic4 pp b c):ic4 pp a c:=⟨Nat.le_trans h1.1 h2.1,fun i cs hi hp ho=>h2.2 i cs (Nat.lt_of_lt_of_le hi h1.1) hp (h1.2 i cs hi hp ho)⟩
theorem it2 (a:ac4){i:Nat}(h:i<a.l.length):((a.l.map aa3.cs).flatten.drop (i*15)).take 15=(a.pk i).cs/\15<=((a.l.map aa3.cs).flatten.drop (i*15)).length:=by
 have hl:∀ e∈a.l.map aa3.cs,e.length=15:=fun e he=>(bc1 _ e he).1
 have h1:=ay2 hl i (by rw[List.length_map]; exact h);have h2:=av1 hl;refine ⟨by rw[h1]; exact gw1 a h,?_⟩;rw[List.length_drop,h2,List.length_map]; omega
theorem it3 (a:ac4) (hA:AOK a) (hI:0<=a.p.inst) (σ:Store) (pp mid:Nat) (tv allv itv:IV) (h:MO σ pp mid a.v tv allv itv a.l []) (hIt:a.items.length<2^30) :
  C Tryz.prog EE 95 [.ptr pp 0] σ (fun v s=>σ.next<=s.next/\∃ itv',MO s pp mid a.v tv allv itv' a.l a.items):=by
 refine io6 fok95 (nZ rfl) ?_;have hlen:=hA.len;have vcs:a.v.cs=[a.v]:=rfl;have vlf:a.v.leaf=true:=rfl;simp only[ic95]
 have hlen0:cn3 0 σ allv=some (.int .i64 a.l.length):=by
  have:=ds4 (s':=σ) h.all;rw[List.length_map] at this; exact this
 have hc:=h.cell;refine ae5 (ae5 (ah7 ?_));simp only[go_sem,hc,hlen0];have x1:∀ (p k:Int) (q:Int),(⟨k,p,q⟩:Itm).cs=[.int .u8 k,.int .i64 p,.int .i64 q]:=fun _ _ _=>rfl
 refine av3 (az1 (Q:=fun e f s=>e=.exit 0/\σ.next<=s.next/\(∃ itv,MO s pp mid a.v tv allv itv a.l (a.owns a.l.length))/\∃ rst:Frm,f=(0,.ptr pp 0)::rst)
  (dn6 (fun p fr s=>fr=[(0,.ptr pp 0),(14,allv),(15,.int .i64 a.l.length),(16,.int .i64 (p:Int))]/\σ.next<=s.next/\∃ itv,MO s pp mid a.v tv allv itv a.l (a.owns p)) a.l.length ⟨rfl,Nat.le_refl _,itv,h⟩ ?_) ?_)
 ·clear h hc hlen0 itv;rintro p fr t hp ⟨rfl,hn,itv,hM⟩;refine ae5 (ah7 ?_);by_cases hpl:p<a.l.length
  ·have c1:(p:Int)<a.l.length:=by omega
   have c2:(0:Int)<=(p:Int):=by omega
   have w1:=ad6 (i:=p) (by omega);obtain ⟨r1,r2⟩:=it2 a hpl
   obtain ⟨ga,hga,hgo,hgl⟩:∃ ga,allv=.slice ga 0 a.l.length 15/\t.obj ga=some (.row (a.l.map aa3.cs).flatten)/\ga<t.next:=by
    rcases hM.all with ⟨_,h1⟩|⟨ga,h1,h2,h3⟩
    ·have:=congrArg List.length h1; rw[List.length_map,List.length_nil] at this; omega
    ·exact ⟨ga,by rw[h1,List.length_map],h2,h3⟩
   subst hga;simp only[go_sem,c1];refine ae5 (ah7 ?_);simp only[go_sem];refine ae5 (av3 (ae5 (ah7 ?_)));simp only[go_sem,c1,c2,hgo,r1,r2,Nat.zero_add,Int.toNat_natCast,ag4,ag6,ac9];generalize hT:Store.put _ t.next (ak5.cells (a.pk p).cs)=T;have Tn:T.next=t.next+1:=by rw[<- hT]; rfl
   have To:∀ i,i<t.next->T.obj i=t.obj i:=fun i hi=>by
    have:¬ i=t.next:=by omega
    rw[<- hT]; simp only[aa7,this,if_false]
   have Tb:T.obj t.next=some (.cells (a.pk p).cs):=by rw[<- hT]; simp only[aa7,if_true]
   have hMT:=hM.mono (s':=T) (by omega) To;have hpt:=hM.lt.1;have hfit:=cl3 a p;have hcT:=hMT.cell
   refine ae5 (az1 (Q:=fun e f s=>e=.normal/\(∃ rst:Frm,f=(0,.ptr pp 0)::(2,.int .i64 (p:Int))::(3,.ptr t.next 0)::(14,.slice ga 0 a.l.length 15)::(15,.int .i64 a.l.length)::(16,.int .i64 (p:Int))::rst)/\t.next+1<=s.next/\s.obj t.next=some (.cells (a.pk p).cs) /\
    ∃ itv,MO s pp mid a.v tv (.slice ga 0 a.l.length 15) itv a.l (a.owns p++a.bn3 p)) (ah7 ?_) ?_)
   ·simp only[go_sem,hcT,vcs,vlf]
    first|refine aa4 fok29 (hfit) ?_|refine aa2 (hfit) ?_
    cases hf:a.fits p with
    | true=>
     have e:a.bn3 p=[]:=by unfold ac4.bn3; rw[hf]; rfl
     simp only[go_sem]
     exact ⟨⟨_,rfl⟩,by omega,Tb,itv,by rw[e,List.append_nil]; exact hMT⟩
    | false=>
     have e:a.bn3 p=[⟨1,p,0⟩]:=by unfold ac4.bn3; rw[hf]; rfl
     simp only[go_sem];refine ah1 fok155 (eb2 T pp mid a.v tv _ itv a.l (a.owns p) ⟨1,p,0⟩ hMT (fun hm=>by obtain ⟨_,_,p',hp',e'⟩:=a.cu9 hm; simp only at e'; omega) (by have:=a.gt1 hpl; omega)) ?_;rintro v s ⟨⟨s1,s2⟩,itv2,hM2⟩;refine ⟨s1,?_⟩;simp only[go_sem];exact ⟨⟨_,rfl⟩,by omega,s2 t.next _ (by omega) (by omega) Tb,itv2,by rw[e]; exact hM2⟩
   clear hMT hcT hT Tn To Tb T hM;rintro e f T ⟨rfl,⟨rst,rfl⟩,Tn,Tb,itv,hM⟩;simp only[go_sem];obtain ⟨K,hK⟩:∃ K,K=[IV.int .u8 2,.int .i64 ((a.pk p).requires.length:Nat),.int .u8 3,.int .i64 ((a.pk p).conflicts.length:Nat),.int .u8 4,.int .i64 ((a.pk p).aa9.length:Nat)]:=⟨_,rfl⟩;have g7:((a.pk p).cs.drop 7).head? = some (ai5 (a.pk p).requires):=rfl;have g8:((a.pk p).cs.drop 8).head? = some (ai5 (a.pk p).conflicts):=rfl;have g9:((a.pk p).cs.drop 9).head? = some (deps (a.pk p).aa9):=rfl;refine ae5 (ah7 ?_);simp only[go_sem,Tb,g7,g8,g9];rw[<- hK]
   have hKj:∀ j,j<3->(K.drop (j*2)).take 2=[.int .u8 ((2+j:Nat):Int),.int .i64 (a.nsI p j)]/\2<=(K.drop (j*2)).length:=fun j hj=>by
    have:j=0\/j=1\/j=2:=by omega
    rcases this with rfl|rfl|rfl<;>(rw[hK]; exact ⟨rfl,by simp⟩)
   have hKl:K.length=6:=by rw[hK]; rfl
   refine av3 (az1 (Q:=fun e f s=>e=.exit 2/\σ.next<=s.next/\(∃ itv,MO s pp mid a.v tv (.slice ga 0 a.l.length 15) itv a.l (a.owns p++a.bn3 p++a.dp8 p 3))/\∃ rst:Frm,f=(0,.ptr pp 0)::(2,.int .i64 (p:Int))::(14,.slice ga 0 a.l.length 15)::(15,.int .i64 a.l.length)::(16,.int .i64 (p:Int))::rst)
    (dn6 (fun j fr s=>fr=[(0,.ptr pp 0),(2,.int .i64 (p:Int)),(14,.slice ga 0 a.l.length 15),(15,.int .i64 a.l.length),(16,.int .i64 (p:Int)),(43,.agg K),(44,.int .i64 (j:Int))]/\σ.next<=s.next/\∃ itv,MO s pp mid a.v tv (.slice ga 0 a.l.length 15) itv a.l (a.owns p++a.bn3 p++a.dp8 p j)) 3 ⟨rfl,by omega,itv,by simpa [ac4.dp8] using hM⟩ ?_) ?_)
   ·clear hM Tb Tn itv g7 g8 g9 hK;rintro j fr u hj ⟨rfl,un,itv,hM⟩;refine ae5 (ah7 ?_);by_cases hj3:j<3
    ·have d1:(j:Int)<3:=by omega
     have d2:(0:Int)<=(j:Int):=by omega
     have w2:=ad6 (i:=j) (by omega);obtain ⟨k1,k2⟩:=hKj j hj3;simp only[go_sem,d1];refine ae5 (ah7 ?_);simp only[go_sem];refine ae5 (av3 (ae5 (ah7 ?_)));simp only[go_sem,d1,d2,k1,k2,hKl];refine ⟨by omega,?_⟩;generalize hU:Store.put _ u.next (ak5.cells [IV.int .u8 ((2+j:Nat):Int),IV.int .i64 (a.nsI p j)])=U;have Un:U.next=u.next+1:=by rw[<- hU]; rfl
     have Uo:∀ i,i<u.next->U.obj i=u.obj i:=fun i hi=>by
      have:¬ i=u.next:=by omega
      rw[<- hU]; simp only[aa7,this,if_false]
     have Ub:U.obj u.next=some (.cells [IV.int .u8 ((2+j:Nat):Int),IV.int .i64 (a.nsI p j)]):=by rw[<- hU]; simp only[aa7,if_true]
     have hMU:=hM.mono (s':=U) (by omega) Uo;have hpu:=hM.lt.1
     have hnn:a.nsI p j<2^30:=by
      have:=a.ga8 hpl hj3 (Nat.le_refl (a.nsI p j));rw[List.length_append,ac4.by5] at this; omega
     refine ae5 (ah7 ?_);simp only[go_sem,Ub]
     refine av3 (az1 (Q:=fun e f s=>e=.exit 4/\σ.next<=s.next/\(∃ itv,MO s pp mid a.v tv (.slice ga 0 a.l.length 15) itv a.l (a.owns p++a.bn3 p++a.dp8 p (j+1)))/\∃ rst:Frm,f=(0,.ptr pp 0)::(2,.int .i64 (p:Int))::(5,.ptr u.next 0)::(14,.slice ga 0 a.l.length 15)::(15,.int .i64 a.l.length)::(16,.int .i64 (p:Int))::(43,.agg K)::(44,.int .i64 (j:Int))::rst)
      (ab7 noT (fun q fr s=>fr=[(0,.ptr pp 0),(2,.int .i64 (p:Int)),(5,.ptr u.next 0),(14,.slice ga 0 a.l.length 15),(15,.int .i64 a.l.length),(16,.int .i64 (p:Int)),(43,.agg K),(44,.int .i64 (j:Int)),(48,.int .i64 (a.nsI p j)),(49,.int .i64 (q:Int))]/\u.next+1<=s.next/\s.obj u.next=some (.cells [IV.int .u8 ((2+j:Nat):Int),IV.int .i64 (a.nsI p j)]) /\
       ∃ itv,MO s pp mid a.v tv (.slice ga 0 a.l.length 15) itv a.l (a.owns p++a.bn3 p++a.dp8 p j++bl4 ((2+j:Nat):Int) p q)) (a.nsI p j) ⟨rfl,by omega,Ub,itv,by simpa [bl4] using hMU⟩ ?_) ?_)
     ·clear hM hMU Un Uo Ub hU U itv;rintro q fr U hq ⟨rfl,Un,Ub,itv,hM⟩;by_cases hql:q<a.nsI p j
      ·have e1:(q:Int)<(a.nsI p j:Nat):=by omega
       have w3:=ad6 (i:=q) (by omega);simp only[go_sem,e1,Ub];refine ah1 fok155 (eb2 U pp mid a.v tv _ itv a.l _ ⟨((2+j:Nat):Int),p,q⟩ hM (fun hm=>?_) ?_) ?_
       ·rcases List.mem_append.1 hm with hm|hm
        ·rcases List.mem_append.1 hm with hm|hm
         ·rcases List.mem_append.1 hm with hm|hm
          ·obtain ⟨_,_,p',hp',e'⟩:=a.cu9 hm; simp only at e'; omega
          ·have:=a.ia3 hm; simp only at this; omega
         ·have:=a.iq6 hm; simp only at this; omega
        ·obtain ⟨q',hq',e'⟩:=av6.1 hm;have:=congrArg Itm.q e';simp only at this; omega
       ·have:=a.ga8 hpl hj3 hq; omega
       rintro v s ⟨⟨s1,s2⟩,itv2,hM2⟩;refine ⟨s1,?_⟩;simp only[go_sem,w3];refine ⟨hql,by omega,s2 u.next _ (by omega) (by omega) Ub,itv2,?_⟩;rw[fk4,<- List.append_assoc]; exact hM2
      ·have e1:¬ (q:Int)<(a.nsI p j:Nat):=by omega
       have e:q=a.nsI p j:=by omega
       simp only[go_sem,e1];refine ⟨by omega,⟨itv,?_⟩,_,rfl⟩;rw[a.as3,<- List.append_assoc,<- e]; exact hM
     ·rintro e f U ⟨rfl,Un,⟨itv,hM⟩,rst,rfl⟩;simp only[go_sem];refine ah7 ?_;simp only[go_sem,w2];exact ⟨hj3,Un,itv,hM⟩
    ·have d1:¬ (j:Int)<3:=by omega
     have e:j=3:=by omega
     subst e;simp only[go_sem,d1];refine ae5 (ah7 ?_);simp only[go_sem];exact ⟨un,⟨itv,hM⟩,_,rfl⟩
   ·rintro e f u ⟨rfl,un,⟨itv,hM⟩,rst,rfl⟩;simp only[go_sem];refine ah7 ?_;simp only[go_sem,w1];refine ⟨hpl,un,itv,?_⟩;rw[a.cu7,a.hj9,<- List.append_assoc];exact hM
  ·have c1:¬ (p:Int)<a.l.length:=by omega
   have e:p=a.l.length:=by omega
   simp only[go_sem,c1];refine ae5 (ah7 ?_);simp only[go_sem];exact ⟨hn,⟨itv,by rw[<- e]; exact hM⟩,_,rfl⟩
 rintro e f t ⟨rfl,hn,⟨itv2,hM⟩,rst,rfl⟩;simp only[go_sem];clear h hc hlen0;have hc:=hM.cell
 have hlen0:∀ s:Store,cn3 0 s allv=some (.int .i64 a.l.length):=fun s=>by
  have:=ds4 (s':=s) hM.all;rw[List.length_map] at this; exact this
 refine ae5 (ae5 (ah7 ?_));simp only[go_sem,hc,hlen0]
 refine av3 (az1 (Q:=fun e f s=>e=.exit 6/\σ.next<=s.next/\(∃ itv,MO s pp mid a.v tv allv itv a.l (a.owns a.l.length++a.as2 a.l.length))/\∃ rst:Frm,f=(0,.ptr pp 0)::rst)
  (dn6 (fun p fr s=>fr=[(0,.ptr pp 0),(65,.int .i64 a.l.length),(66,.int .i64 (p:Int))]/\σ.next<=s.next/\∃ itv,MO s pp mid a.v tv allv itv a.l (a.owns a.l.length++a.as2 p)) a.l.length ⟨rfl,hn,itv2,by simpa [ac4.as2] using hM⟩ ?_) ?_)
 ·clear hM hc itv2;rintro p fr t hp ⟨rfl,hn,itv,hM⟩;refine ae5 (ah7 ?_);by_cases hpl:p<a.l.length
  ·have c1:(p:Int)<a.l.length:=by omega
   have w1:=ad6 (i:=p) (by omega);simp only[go_sem,c1];refine ae5 (ah7 ?_);simp only[go_sem];refine ae5 (av3 (ae5 (ah7 ?_)));simp only[go_sem];refine ae5 (ah7 ?_);simp only[go_sem,w1]
   refine av3 (az1 (Q:=fun e f s=>e=.exit 8/\σ.next<=s.next/\(∃ itv,MO s pp mid a.v tv allv itv a.l (a.owns a.l.length++a.as2 (p+1)))/\∃ rst:Frm,f=(0,.ptr pp 0)::(7,.int .i64 (p:Int))::(8,.int .i64 (a.l.length:Nat))::(65,.int .i64 a.l.length)::(66,.int .i64 (p:Int))::rst)
    (ab7 noT (fun d fr s=>fr=[(0,.ptr pp 0),(7,.int .i64 (p:Int)),(8,.int .i64 ((p+1+d:Nat):Int)),(65,.int .i64 a.l.length),(66,.int .i64 (p:Int))]/\σ.next<=s.next/\∃ itv,MO s pp mid a.v tv allv itv a.l (a.owns a.l.length++a.as2 p++a.cu6 p (p+1+d))) (a.l.length-(p+1)) ⟨rfl,hn,itv,by rw[Nat.add_zero,a.ei4,List.append_nil]; exact hM⟩ ?_) ?_)
   ·clear hM itv hn;rintro d fr u hd ⟨rfl,hn,itv,hM⟩;have hcu:=hM.cell;by_cases hdl:p+1+d<a.l.length
    ·have d1:((p+1+d:Nat):Int)<a.l.length:=by omega
     have w2:=ad6 (i:=p+1+d) (by omega);have hdl2:d<a.l.length-(p+1):=by omega
     have htw:=cy2 a p ((p+1+d:Nat):Int) hA
     have hsn:a.cu6 p (p+1+(d+1))=a.cu6 p (p+1+d)++if a.twins p ((p+1+d:Nat):Int) then [⟨5,p,((p+1+d:Nat):Int)⟩] else []:=by
      have e:p+1+(d+1)=p+1+d+1:=by omega
      have l1:p<p+1+d:=by omega
      rw[e];unfold ac4.cu6;rw[bs4];simp[l1]
     simp only[go_sem,hcu,hlen0,d1,vcs,vlf]
     first|refine aa4 fok30 (htw) ?_|refine aa2 (htw) ?_
     cases ht:a.twins p ((p+1+d:Nat):Int) with
     | false=>
      rw[ht] at hsn;simp only[go_sem,w2];refine ⟨hdl2,by rw[show p+1+(d+1)=p+1+d+1 by omega],hn,itv,?_⟩
      rw[hsn]; simpa using hM
     | true=>
      rw[ht] at hsn;simp only[go_sem];refine ah1 fok155 (eb2 u pp mid a.v tv _ itv a.l _ ⟨5,p,((p+1+d:Nat):Int)⟩ hM (fun hm=>?_) ?_) ?_
      ·rcases List.mem_append.1 hm with hm|hm
       ·rcases List.mem_append.1 hm with hm|hm
        ·obtain ⟨_,h4,_⟩:=a.cu9 hm; simp only at h4; omega
        ·obtain ⟨_,p',hp',e'⟩:=a.dp7 hm; simp only at e'; omega
       ·obtain ⟨_,_,q',hq',e'⟩:=a.gs9 hm; simp only at e'; omega
      ·have:=a.gt2 hpl (show p+1+d<=a.l.length by omega); omega
      rintro v s ⟨⟨s1,s2⟩,itv2,hM2⟩;refine ⟨s1,?_⟩;simp only[go_sem,w2];refine ⟨hdl2,by rw[show p+1+(d+1)=p+1+d+1 by omega],by omega,itv2,?_⟩;rw[hsn,if_pos rfl,<- List.append_assoc]; exact hM2
    ·have d1:¬ ((p+1+d:Nat):Int)<a.l.length:=by omega
     have e:p+1+d=a.l.length:=by omega
     simp only[go_sem,hcu,hlen0,d1];refine ⟨hn,⟨itv,?_⟩,_,by rw[e]⟩;rw[a.bu6,<- List.append_assoc];unfold ac4.gs8;rw[e] at hM; exact hM
   ·rintro e f u ⟨rfl,un,⟨itv,hM⟩,rst,rfl⟩;simp only[go_sem];refine ah7 ?_;simp only[go_sem,w1];exact ⟨hpl,un,itv,hM⟩
  ·have c1:¬ (p:Int)<a.l.length:=by omega
   have e:p=a.l.length:=by omega
   simp only[go_sem,c1];refine ae5 (ah7 ?_);simp only[go_sem];exact ⟨hn,⟨itv,by rw[e] at hM; exact hM⟩,_,rfl⟩
 clear hM hc itv2 hn;rintro e f t ⟨rfl,hn,⟨itv2,hM⟩,rst,rfl⟩;simp only[go_sem];have hP:=cl4 a;have hIn:=az4 a.p;have pvl:a.p.v.leaf=true:=rfl;have pvc:a.p.v.cs=[a.p.v]:=rfl;have hin:(a.p.inst:Int)=((a.p.inst.toNat:Nat):Int):=by omega
 have hin2:a.p.inst.toNat<=a.l.length:=by have:=hA.inst; omega
 rw[hin] at hIn;have hc:=hM.cell;refine ae5 (ae5 (ah7 ?_));simp only[go_sem,hc,vcs,vlf]
 first|refine aa4 fok26 (hP) ?_|refine aa2 (hP) ?_
 simp only[go_sem,pvl,pvc]
 first|refine aa4 fok88 (hIn) ?_|refine aa2 (hIn) ?_
 simp only[go_sem]
 refine av3 (az1 (Q:=fun e f s=>e=.exit 10/\σ.next<=s.next/\(∃ itv,MO s pp mid a.v tv allv itv a.l (a.owns a.l.length++a.as2 a.l.length++a.bu5 a.p.inst.toNat))/\∃ rst:Frm,f=(0,.ptr pp 0)::rst)
  (ab7 noT (fun i fr s=>fr=[(0,.ptr pp 0),(97,.int .i64 ((a.p.inst.toNat:Nat):Int)),(98,.int .i64 (i:Int))]/\σ.next<=s.next/\∃ itv,MO s pp mid a.v tv allv itv a.l (a.owns a.l.length++a.as2 a.l.length++a.bu5 i)) a.p.inst.toNat ⟨rfl,hn,itv2,by rw[show a.bu5 0=[] from rfl,List.append_nil]; exact hM⟩ ?_) ?_)
 ·clear hM hc itv2 hn;rintro i fr u hi ⟨rfl,hn,itv,hM⟩;have hcu:=hM.cell;by_cases hil:i<a.p.inst.toNat
  ·have d1:(i:Int)<((a.p.inst.toNat:Nat):Int):=by omega
   have w1:=ad6 (i:=i) (by omega);have hg:=fo8 a i hA;have hsn:a.bu5 (i+1)=a.bu5 i++if !a.goes i then [⟨6,i,0⟩] else []:=bs4 _ _ _
   simp only[go_sem,hcu,d1,vcs,vlf]
   first|refine aa4 fok156 (hg) ?_|refine aa2 (hg) ?_
   cases hgo:a.goes i with
   | true=>
    rw[hgo] at hsn;simp only[go_sem,w1];refine ⟨hil,hn,itv,?_⟩
    rw[hsn]; simpa using hM
   | false=>
    rw[hgo] at hsn;simp only[go_sem];refine ah1 fok155 (eb2 u pp mid a.v tv _ itv a.l _ ⟨6,i,0⟩ hM (fun hm=>?_) ?_) ?_
    ·rcases List.mem_append.1 hm with hm|hm
     ·rcases List.mem_append.1 hm with hm|hm
      ·obtain ⟨_,h4,_⟩:=a.cu9 hm; simp only at h4; omega
      ·obtain ⟨h4,_⟩:=a.dp7 hm; simp only at h4; omega
     ·obtain ⟨_,q',hq',e'⟩:=a.ga7 hm; simp only at e'; omega
    ·have:=a.gt3 hi; omega
    rintro v s ⟨⟨s1,s2⟩,itv2,hM2⟩;refine ⟨s1,?_⟩;simp only[go_sem,w1];refine ⟨hil,by omega,itv2,?_⟩;rw[hsn,<- List.append_assoc]; exact hM2
  ·have d1:¬ (i:Int)<((a.p.inst.toNat:Nat):Int):=by omega
   have e:i=a.p.inst.toNat:=by omega
   simp only[go_sem,d1];exact ⟨hn,⟨itv,by rw[<- e]; exact hM⟩,_,rfl⟩
 clear hM hc itv2 hn;rintro e f t ⟨rfl,hn,⟨itv2,hM⟩,rst,rfl⟩;simp only[go_sem];have hR:=du3 a hA;have hc:=hM.cell;have r2:a.r.cs[2]? = some (be4 a.r.ah4):=rfl;refine ae5 (ah7 ?_);simp only[go_sem,hc,vcs,vlf]
 first|refine aa4 fok157 (hR) ?_|refine aa2 (hR) ?_
 simp only[go_sem,r2];refine av3 ?_;refine ab7 noT (fun j fr s=>fr=[(0,.ptr pp 0),(118,.int .i64 a.r.ah4.length),(119,.int .i64 (j:Int))]/\σ.next<=s.next/\∃ itv,MO s pp mid a.v tv allv itv a.l (a.owns a.l.length++a.as2 a.l.length++a.bu5 a.p.inst.toNat++a.fq3 j)) a.r.ah4.length ⟨rfl,hn,itv2,by rw[show a.fq3 0=[] from rfl,List.append_nil]; exact hM⟩ ?_;clear hM hc itv2 hn;rintro j fr u hj ⟨rfl,hn,itv,hM⟩;have hcu:=hM.cell;have hjb:=hA.ah4;by_cases hjl:j<a.r.ah4.length
 ·have d1:(j:Int)<a.r.ah4.length:=by omega
  have w1:=ad6 (i:=j) (by omega);have hg:=bj3 a j hA;have hsn:a.fq3 (j+1)=a.fq3 j++if !a.dropped j then [⟨7,j,0⟩] else []:=bs4 _ _ _
  simp only[go_sem,hcu,d1,vcs,vlf]
  first|refine aa4 fok32 (hg) ?_|refine aa2 (hg) ?_
  cases hgo:a.dropped j with
  | true=>
   rw[hgo] at hsn;simp only[go_sem,w1];refine ⟨hjl,hn,itv,?_⟩
   rw[hsn]; simpa using hM
  | false=>
   rw[hgo] at hsn;simp only[go_sem];refine ah1 fok155 (eb2 u pp mid a.v tv _ itv a.l _ ⟨7,j,0⟩ hM (fun hm=>?_) ?_) ?_
   ·rcases List.mem_append.1 hm with hm|hm
    ·rcases List.mem_append.1 hm with hm|hm
     ·rcases List.mem_append.1 hm with hm|hm
      ·obtain ⟨_,h4,_⟩:=a.cu9 hm; simp only at h4; omega
      ·obtain ⟨h4,_⟩:=a.dp7 hm; simp only at h4; omega
     ·obtain ⟨h4,_⟩:=a.ga7 hm; simp only at h4; omega
    ·obtain ⟨_,q',hq',e'⟩:=a.iq5 hm; simp only at e'; omega
   ·have:=a.ia4 hj; omega
   rintro v s ⟨⟨s1,s2⟩,itv2,hM2⟩;refine ⟨s1,?_⟩;simp only[go_sem,w1];refine ⟨hjl,by omega,itv2,?_⟩;rw[hsn,<- List.append_assoc]; exact hM2
 ·have d1:¬ (j:Int)<a.r.ah4.length:=by omega
  have e:j=a.r.ah4.length:=by omega
  simp only[go_sem,d1];exact ⟨hn,itv,by unfold ac4.items; rw[<- e]; exact hM⟩
end Go.Id.Tryz
