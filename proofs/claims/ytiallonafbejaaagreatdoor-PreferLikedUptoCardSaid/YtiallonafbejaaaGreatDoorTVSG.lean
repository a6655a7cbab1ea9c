/- Truth: one package of a state alone; all Kinds. Conditions: sizes that fit. -/
import Derived.Test.YtiallonafbejaaaGreatDoorTVTD
import Derived.Test.YtiallonafbejaaaGreatDoorTVSC
set_option linter.all false
namespace Go.Id.Tryz
open Go Go.Id Go.Proofs Go.Shelf Go.Id.Md
set_option maxRecDepth 100000
theorem gr7 (c n:Nat):stB c [(n:Int)]=dl6 c n:=by
 unfold stB dl6
 refine List.map_congr_left fun m _=>decide_eq_decide.2 ?_
 rw[List.mem_singleton]; omega
theorem gb4 (c n:Nat):(dl6 c n).length=c:=by simp[dl6]
theorem gj2 (l:List Package)(hl:l.length≤256)(st:List Bool)(hst:st.length=l.length)(g:Nat)(cap:List IV)(q:List Bool→Bool)(hok:okF Tryz.prog g=true)(hcap:∀ c∈cap,Bnd 0 c)
  (hq:∀ s2:List Bool,s2.length=l.length→PC Tryz.prog EE g (.agg (ah3 l s2)::cap) (.bool (q s2))):PC Tryz.prog EE 313 [.agg (ah3 l st),.func (.func g) [] cap] (.bool (gc6 st fun n=>q (dl6 st.length n))):=by
 have hbf:Bnd 0 (.func (.func g) [] cap):=.func _ _ _ (fun c hc=>by cases hc) hcap
 refine ae9 hE fok313 (Nat.le_of_ble_eq_true rfl) (ai3 (ai1 l st) hbf) ?_
 simp only[ic313,go_sem,ab7,ab5,fm9]
 refine aa9 noT (fun i fr t=>fr=[(1,.func (.func g) [] cap),(2,.tptr (ah3 l st)),(8,dm2 st),(9,.int .i64 st.length),(10,.int .i64 (i:Int))]∧∀ j,j<i→(st.getD j false&&q (dl6 st.length j))=false) st.length ⟨rfl,fun j hj=>absurd hj (Nat.not_lt_zero _)⟩ ?_
 rintro i fr t hle ⟨rfl,hI⟩
 by_cases hlt:i<st.length
 ·have c1:(i:Int)<st.length:=by omega
  have c2:(0:Int)≤i:=by omega
  have w1:=ad5 (i:=i) (by omega)
  have g1:=bc8 hlt
  cases hb:st.getD i false with
  | false=>
   rw[hb] at g1
   simp only[go_sem,c1,c2,g1,w1]
   refine ⟨hlt,fun j hj=>?_⟩
   by_cases e:j=i
   ·subst e; rw[hb]; rfl
   ·exact hI j (by omega)
  | true=>
   rw[hb] at g1
   have hS:=ed8 l [(i:Int)] hl (by show 1<_; decide)
   rw[gr7] at hS
   have hQ:=hq (dl6 l.length i) (gb4 _ _)
   simp only[go_sem,c1,c2,g1,ab7,fn1]
   have hfz:Frz (({ next:=t.next+1,obj:=t.obj }:Store).put t.next (.row [.int .i64 i])) (fun _=>false=true) (.slice t.next 0 1 1) (.tslice ([(i:Int)].map Md.intC)):=
    .slice t.next 0 1 1 [.int .i64 i] _ Bool.false_ne_true (.inr (by rw[aa2,if_pos rfl])) rfl (Nat.le_refl 1) (fun k hk=>by
     have:k=0:=by omega
     subst this; rfl) fun k hk j hj=>by
     have:k=0:=by omega
     have:j=0:=by omega
     subst this; subst k
     exact .keep _ (.int _ _)
   refine af8 fok242 (gh7 (S:=fun _=>false) (args':=[aj7 l,.tslice ([(i:Int)].map Md.intC)]) rfl (fun k hk=>by
    match k,hk with
    | 0,_=>exact .keep _ ((aq2 l).weak fun _ h=>absurd h (Nat.not_lt_zero _))
    | 1,_=>exact hfz) (er1 hS)) ?_
   rintro v s ⟨rfl,rfl⟩
   refine ⟨Nat.le_refl _,?_⟩
   simp only[go_sem]
   refine ci6 hok hQ ?_
   cases hv:q (dl6 l.length i) with
   | true=>
    have e:gc6 st (fun n=>q (dl6 st.length n))=true:=by
     unfold gc6
     exact List.any_eq_true.2 ⟨i,List.mem_range.2 hlt,by rw[hb,hst]; show (true&&q (dl6 l.length i))=true; rw[hv]; rfl⟩
    simp only[go_sem,e]
    exact ab1 _
   | false=>
    simp only[go_sem,w1]
    refine ⟨hlt,fun j hj=>?_⟩
    by_cases e:j=i
    ·subst e; rw[hst,hv,Bool.and_false]
    ·exact hI j (by omega)
 ·have hi':i=st.length:=by omega
  subst hi'
  have c1:¬ (st.length:Int)<st.length:=by omega
  have e:gc6 st (fun n=>q (dl6 st.length n))=false:=by
   unfold gc6
   refine List.any_eq_false.2 fun n hn=>?_
   rw[hI n (List.mem_range.1 hn)]
   exact Bool.false_ne_true
  simp only[go_sem,c1,e]
  exact ab1 _
theorem gb5 (l:List Package)(k:Int)(d:Dep)(xs:List Rich)(hn:xs.length<2^62)(hx:∀ x∈xs,fn2 l x)(st:List Bool)(hst:st.length=l.length) :
  PC Tryz.prog EE 314 [.agg (ah3 l st),.tptr (Rich.mk k d xs).cs] (.bool ((Rich.trs l xs).all fun f=>f st)):=by
 refine ae9 hE fok314 (Nat.le_of_ble_eq_true rfl) (ai3 (ai1 l st) (bq4 _)) ?_
 have h:=gj5 l st hst k d xs hn hx
 simp only[ic314,go_sem,ab7,ab5,ab9,aa8,ab4,aa6]
 first|refine aa1 fok289 (h) ?_|refine aa3 (h) ?_
 simp only[go_sem]
 exact ac8 rfl
theorem du8 (l:List Package)(k:Int)(d:Dep)(xs:List Rich)(hn:2≤xs.length)(hx:∀ x∈xs,fn2 l x)(st:List Bool)(hst:st.length=l.length) :
  PC Tryz.prog EE 315 [.agg (ah3 l st),.tptr (Rich.mk k d xs).cs] (.bool (((Rich.trs l xs).getD 0 ff) st&&!((Rich.trs l xs).getD 1 ff) st)):=by
 refine ae9 hE fok315 (Nat.le_of_ble_eq_true rfl) (ai3 (ai1 l st) (bq4 _)) ?_
 have n0:0<xs.length:=by omega
 have n1:1<xs.length:=by omega
 have h0:=hx _ (List.getElem_mem n0) st hst
 have h1:=hx _ (List.getElem_mem n1) st hst
 have g0:=dm6 n0
 have g1:=dm6 n1
 have c0:(0:Int)<xs.length:=by omega
 have c1:(1:Int)<xs.length:=by omega
 rw[dm7 n1,dm7 n0]
 simp only[ic315,go_sem,ab7,ab5,ab9,aa8,az5,c0,c1,g0,g1,ab4,aa6]
 first|refine aa1 fok243 (h0) ?_|refine aa3 (h0) ?_
 cases xs[0].tr l st with
 | false=>simp only[go_sem]; exact ac8 rfl
 | true=>
  simp only[go_sem,ab7,ab5,ab9,aa8,az5,c0,c1,g0,g1,ab4,aa6]
  first|refine aa1 fok243 (h1) ?_|refine aa3 (h1) ?_
  simp only[go_sem]
  exact ac8 rfl
theorem gr8 (l:List Package)(hl:l.length≤256)(st:List Bool)(hst:st.length=l.length)(k:Int)(d:Dep)(xs:List Rich)(hn:xs.length<2^62)(hx:∀ x∈xs,fn2 l x) :
  PC Tryz.prog EE 293 [.agg (ah3 l st),.agg (Rich.mk k d xs).cs] (.bool (gc6 st fun n=>(Rich.trs l xs).all fun f=>f (dl6 st.length n))):=by
 refine ae9 hE fok293 (Nat.le_of_ble_eq_true rfl) (ai3 (ai1 l st) (ae4 _)) ?_
 have h:=gj2 l hl st hst 314 [.tptr (Rich.mk k d xs).cs] (fun s2=>(Rich.trs l xs).all fun f=>f s2) fok314.1 (bc6 (bq4 _)) fun s2 h2=>gb5 l k d xs hn hx s2 h2
 have h7:=aa6 (.mk k d xs)
 simp only[ic293,go_sem,ab7,ab5,ab9,aa8,h7]
 first|refine aa1 fok313 (h) ?_|refine aa3 (h) ?_
 simp only[go_sem]
 exact ac8 rfl
theorem et9 (l:List Package)(hl:l.length≤256)(st:List Bool)(hst:st.length=l.length)(k:Int)(d:Dep)(xs:List Rich)(hn:2≤xs.length)(hx:∀ x∈xs,fn2 l x) :
  PC Tryz.prog EE 294 [.agg (ah3 l st),.agg (Rich.mk k d xs).cs] (.bool (gc6 st fun n=>((Rich.trs l xs).getD 0 ff) (dl6 st.length n)&&!((Rich.trs l xs).getD 1 ff) (dl6 st.length n))):=by
 refine ae9 hE fok294 (Nat.le_of_ble_eq_true rfl) (ai3 (ai1 l st) (ae4 _)) ?_
 have h:=gj2 l hl st hst 315 [.tptr (Rich.mk k d xs).cs] (fun s2=>((Rich.trs l xs).getD 0 ff) s2&&!((Rich.trs l xs).getD 1 ff) s2) fok315.1 (bc6 (bq4 _)) fun s2 h2=>du8 l k d xs hn hx s2 h2
 have h7:=aa6 (.mk k d xs)
 simp only[ic294,go_sem,ab7,ab5,ab9,aa8,h7]
 first|refine aa1 fok313 (h) ?_|refine aa3 (h) ?_
 simp only[go_sem]
 exact ac8 rfl
theorem ie8 (l:List Package)(hl:l.length≤256)(hs:∀ p∈l,Pkg.small p)(r:Rich):r.Good→fn2 l r:=by
 induction r using Rich.ind with
 | h k d xs ih=>
  intro hg st hst
  refine ae9 hE fok243 (Nat.le_of_ble_eq_true rfl) (ai3 (ai1 l st) (ae4 _)) ?_
  have h7:=aa6 (.mk k d xs)
  have h8:=ab4 (.mk k d xs)
  have nfl:IV.nilfunc.leaf=true:=rfl
  have e:(Rich.mk k d xs).tr l st=trK l k d (Rich.trs l xs) st:=by rw[Rich.tr]
  rw[e]
  cases hg with
  | atom _ hd=>
   have h:=gu1 l hl hs st hst d hd
   unfold trK
   simp only[ic243,go_sem,ab7,ab5,ab9,aa8,h7,h8,bq5,nfl]
   first|refine aa1 fok288 (h) ?_|refine aa3 (h) ?_
   simp only[go_sem]
   exact ac8 rfl
  | node _ _ _ h1 h2 h3 h4 h5=>
   have hx:∀ x∈xs,fn2 l x:=fun x hx=>ih x hx (h5 x hx)
   have hn:xs.length≤24:=by
    unfold dv8 at h4
    split at h4
    ·omega
    split at h4
    ·omega
    split at h4<;>omega
   have c2:=gj5 l st hst k d xs (by omega) hx
   have c3:=hq5 l st hst k d xs (by omega) hx
   have c4:=hq6 l st hst k d xs (by omega) hx
   have c5:=fn5 l st hst k d xs (by omega) (by omega) hx
   have c6:=gr8 l hl st hst k d xs (by omega) hx
   have c7:=et9 l hl st hst k d xs (by omega) hx
   unfold trK
   have hk:k=2∨k=3∨k=4∨k=5∨k=6∨k=7:=by omega
   rcases hk with rfl|rfl|rfl|rfl|rfl|rfl
   ·simp only[ic243,go_sem,ab7,ab5,ab9,aa8,h7,h8,bq5,nfl]
    first|refine aa1 fok289 (c2) ?_|refine aa3 (c2) ?_
    simp only[go_sem]
    exact ac8 rfl
   ·simp only[ic243,go_sem,ab7,ab5,ab9,aa8,h7,h8,bq5,nfl]
    first|refine aa1 fok290 (c3) ?_|refine aa3 (c3) ?_
    simp only[go_sem]
    exact ac8 rfl
   ·simp only[ic243,go_sem,ab7,ab5,ab9,aa8,h7,h8,bq5,nfl]
    first|refine aa1 fok291 (c4) ?_|refine aa3 (c4) ?_
    simp only[go_sem]
    exact ac8 rfl
   ·simp only[ic243,go_sem,ab7,ab5,ab9,aa8,h7,h8,bq5,nfl]
    first|refine aa1 fok292 (c5) ?_|refine aa3 (c5) ?_
    simp only[go_sem]
    exact ac8 rfl
   ·simp only[ic243,go_sem,ab7,ab5,ab9,aa8,h7,h8,bq5,nfl]
    first|refine aa1 fok293 (c6) ?_|refine aa3 (c6) ?_
    simp only[go_sem]
    exact ac8 rfl
   ·simp only[ic243,go_sem,ab7,ab5,ab9,aa8,h7,h8,bq5,nfl]
    first|refine aa1 fok294 (c7) ?_|refine aa3 (c7) ?_
    simp only[go_sem]
    exact ac8 rfl
theorem gr9 (c:Nat)(zs:List Int):(stB c zs).length=c:=by simp[stB]
theorem dk4 (l:List Package)(hl:l.length≤256)(hs:∀ p∈l,Pkg.small p)(zs:List Int)(hz:zs.length<2^40)(r:Rich)(h1:r.fit)(h2:r.count<2^31) :
  PC Tryz.prog EE 183 [aj7 l,.tslice (zs.map Md.intC),.agg r.cs] (.bool (ew2 l zs r)):=by
 refine ae9 hE fok183 (Nat.le_of_ble_eq_true rfl) (ax2 (aq2 l) (ao8 zs) (ae4 _)) ?_
 have hw:=gc7 r h1 h2
 have hS:=ed8 l zs hl hz
 have hnl:∀ d:TypeId,cc5 (.pointer d) (aj7 l)=some false:=fun _=>rfl
 unfold ew2
 simp only[ic183,go_sem,hnl,aa8,ab4,aa6]
 first|refine aa1 fok241 (hw) ?_|refine aa3 (hw) ?_
 cases hq:dl5 r with
 | false=>simp only[go_sem]; exact ac8 rfl
 | true=>
  have hg:r.ms.2.2=true:=by
   unfold dl5 at hq
   simp only[Bool.and_eq_true] at hq
   exact hq.1.1
  have hi:=ie8 l hl hs r (Rich.ms_good r hg) (stB l.length zs) (gr9 _ _)
  simp only[go_sem]
  first|refine aa1 fok242 (hS) ?_|refine aa3 (hS) ?_
  simp only[go_sem,aa8,ab4,aa6]
  first|refine aa1 fok243 (hi) ?_|refine aa3 (hi) ?_
  simp only[go_sem]
  exact ac8 rfl
end Go.Id.Tryz
/- Numbers struck from a row; who may follow; who obsoletes,as a row of one's own. Conditions: sizes that fit. -/
namespace Go.Id.Tryz
open Go Go.Id Go.Proofs Go.Shelf Go.Id.Md
set_option maxRecDepth 100000
theorem du9 {α:Type}(q:α→Bool):∀ (l:List α) (i:Int),af2 q l i=-1∧(∀ x∈l,q x=false)∨∃ k,∃ h:k<l.length,af2 q l i=i+k∧q l[k]=true∧∀ x∈l.take k,q x=false:=by
 intro l
 induction l with
 | nil=>intro i; exact .inl ⟨rfl,fun x h=>by cases h⟩
 | cons a l ih=>
  intro i
  simp only[af2]
  cases hq:q a with
  | true=>exact .inr ⟨0,by simp,by simp,by simpa using hq,fun x h=>by cases h⟩
  | false=>
   simp only[Bool.false_eq_true,if_false]
   rcases ih (i+1) with ⟨h1,h2⟩|⟨k,h,h1,h2,h3⟩
   ·exact .inl ⟨h1,fun x hx=>by
     rcases List.mem_cons.1 hx with rfl|hx
     ·exact hq
     ·exact h2 x hx⟩
   ·refine .inr ⟨k+1,by simp only[List.length_cons]; omega,by rw[h1]; omega,by simpa using h2,fun x hx=>?_⟩
    rw[List.take_succ_cons] at hx
    rcases List.mem_cons.1 hx with rfl|hx
    ·exact hq
    ·exact h3 x hx
theorem cj4 {q:Int→Bool}{l:List Int}(h:∀ x∈l,q x=false):(l.filter fun x=>!q x)=l:=List.filter_eq_self.2 fun x hx=>by rw[h x hx]; rfl
theorem ec3 {σ:Store}{id:Nat}{cs:List IV}{zs:List Int}(ho:σ.obj id=some (.row cs))(hct:cs.take zs.length=zs.map ck6)(hcl:zs.length≤cs.length):cg9 σ 0 (.slice id 0 zs.length 1) (.tslice (zs.map Md.intC)):=by
 refine .slice id 0 zs.length 1 cs (zs.map Md.intC) (Nat.not_lt_zero _) (.inr ho) (by rw[List.length_map]) (by omega) (fun i hi=>?_) fun i hi j hj=>?_
 ·simp[List.getD_eq_getElem?_getD,hi,Md.intC]
 ·have hj0:j=0:=by omega
  subst hj0
  have e2:((zs.map Md.intC).getD i []).getD 0 .undef=ck6 zs[i]:=by simp[List.getD_eq_getElem?_getD,hi,Md.intC]
  rw[e2,Nat.zero_add,Nat.mul_one,Nat.add_zero,du7 hct hi]
  exact .keep _ (.int _ _)
theorem fl5 {σ:Store}{id g:Nat}{cap cs0:List IV}{zs:List Int}(q:Int→Bool)(hz:zs.length<2^40)(ho:σ.obj id=some (.row cs0))(hct:cs0.take zs.length=zs.map ck6)(hcl:zs.length≤cs0.length)
  (hok:okF Tryz.prog g=true) (hcap:∀ c∈cap,Bnd 0 c) (hq:∀ z∈zs,PC Tryz.prog EE g (.int .i64 z::cap) (.bool (q z))) :
  C Tryz.prog EE 101 [.slice id 0 zs.length 1,.func (.func g) [] cap] σ (fun v s=>σ.next≤s.next∧(∀ i,i≠id→s.obj i=σ.obj i) ∧
   ∃ cs,v=.slice id 0 (zs.filter fun x=>!q x).length 1∧s.obj id=some (.row cs)∧cs.take (zs.filter fun x=>!q x).length=(zs.filter fun x=>!q x).map ck6∧(zs.filter fun x=>!q x).length≤cs.length):=by
 refine C_f fok101 (Nat.le_of_ble_eq_true rfl) ?_
 simp only[ic101,go_sem]
 have hI:=by2 (σ:=σ) (args:=[.slice id 0 zs.length 1,.func (.func g) [] cap]) (args':=[.tslice (zs.map Md.intC),.func (.func g) [] cap]) hE rfl (fun i hi=>by
  match i,hi with
  | 0,_=>exact ec3 ho hct hcl
  | 1,_=>exact .keep _ (.func _ _ _ (fun c hc=>by cases hc) hcap)) (by simp[IV.plain]) (ck3 zs g [] cap q (by omega) hok hq)
 refine af8 fok163 hI ?_
 rintro v s ⟨rfl,rfl⟩
 refine ⟨Nat.le_refl _,?_⟩
 rcases du9 q zs 0 with ⟨h1,h2⟩|⟨i0,hi0,h1,h2,h3⟩
 ·simp only[go_sem,h1,cj4 h2]
  exact ⟨Nat.le_refl _,fun _ _=>trivial,cs0,ho,hct,hcl⟩
 have h1':af2 q zs 0=(i0:Int):=by rw[h1]; omega
 have d1:¬ (i0:Int)=-1:=by omega
 have w0:=ad5 (i:=i0) (by omega)
 simp only[go_sem,h1',d1,w0]
 refine aa9 noT (fun j fr t=>∃ (k:Nat) (cs:List IV),fr=[(0,.slice id 0 zs.length 1),(1,.func (.func g) [] cap),(5,.int .i64 (k:Int)),(6,.int .i64 ((i0+1+j:Nat):Int))] ∧
  (s.next≤t.next∧∀ q,q≠id→t.obj q=s.obj q)∧t.obj id=some (.row cs)∧cs.length=cs0.length∧k≤i0+j∧i0+1+j≤zs.length∧k=((zs.take (i0+1+j)).filter fun x=>!q x).length∧cs.take k=((zs.take (i0+1+j)).filter fun x=>!q x).map ck6 ∧
  ∀ (x:Nat) (h:x<zs.length),i0+j<x→(cs.drop x).head? = some (.int .i64 zs[x])) (zs.length-(i0+1)) ?_ ?_
 ·have e:((zs.take (i0+1)).filter fun x=>!q x)=zs.take i0:=by
   rw[List.take_add_one,List.getElem?_eq_getElem hi0,List.filter_append,cj4 h3]
   simp[h2]
  refine ⟨i0,cs0,rfl,⟨Nat.le_refl _,fun _ _=>rfl⟩,ho,rfl,by omega,by omega,?_,?_,fun x h _=>?_⟩
  ·rw[Nat.add_zero,e,List.length_take]; omega
  ·rw[Nat.add_zero,e,List.map_take,← hct,List.take_take]
   congr 1; omega
  ·have:=du7 hct h
   rw[List.head?_drop]
   rw[List.getD_eq_getElem?_getD,List.getElem?_eq_getElem (by omega)] at this
   rw[List.getElem?_eq_getElem (by omega)]
   exact congrArg some this
 rintro j fr t hj ⟨k,cs,rfl,⟨un,uo⟩,hoc,hcl2,hk1,hk2,hk3,hk4,hcs⟩
 by_cases hlt:j<zs.length-(i0+1)
 ·have e1:((i0+1+j:Nat):Int)<zs.length:=by omega
  have e2:(0:Int)≤((i0+1+j:Nat):Int):=by omega
  have hx:i0+1+j<zs.length:=by omega
  have g1:=hcs (i0+1+j) hx (by omega)
  have w1:=ad5 (i:=i0+1+j) (by omega)
  have w2:=ad5 (i:=k) (by omega)
  have hqz:=hq _ (List.getElem_mem hx)
  have e3:(0:Int)≤(k:Int):=by omega
  have e4:(k:Int)<zs.length:=by omega
  have e5:k+1≤cs.length:=by omega
  have htk:(zs.take (i0+1+j+1)).filter (fun x=>!q x)=(zs.take (i0+1+j)).filter (fun x=>!q x)++if q zs[i0+1+j] then [] else [zs[i0+1+j]]:=by
   rw[List.take_add_one,List.getElem?_eq_getElem hx,List.filter_append]
   congr 1
   simp only[Option.toList,List.filter_cons,List.filter_nil]
   cases q zs[i0+1+j]<;>rfl
  simp only[go_sem,e1,e2,hoc,g1,Int.toNat_natCast,Nat.zero_add,Nat.mul_one]
  refine aj2 hok (er1 hqz) ?_
  rintro v u ⟨rfl,rfl⟩
  refine ⟨Nat.le_refl _,?_⟩
  cases hb:q zs[i0+1+j] with
  | true=>
   rw[hb,if_pos rfl,List.append_nil] at htk
   simp only[go_sem,w1]
   exact ⟨hlt,k,cs,rfl,⟨un,uo⟩,hoc,hcl2,by omega,by omega,by rw[show i0+1+(j+1)=i0+1+j+1 by omega,htk]; exact hk3,by rw[show i0+1+(j+1)=i0+1+j+1 by omega,htk]; exact hk4,fun x h hx=>hcs x h (by omega)⟩
  | false=>
   rw[hb,if_neg (by simp)] at htk
   simp only[go_sem,w1,w2,e3,e4,e5,hoc,Int.toNat_natCast,Nat.zero_add,Nat.mul_one]
   refine ⟨hlt,k+1,ag9 cs k [.int .i64 zs[i0+1+j]],rfl,⟨un,fun q hq=>?_⟩,?_,?_,by omega,by omega,?_,?_,fun x h hx=>?_⟩
   ·simp only[if_neg hq]; exact uo q hq
   ·rfl
   ·rw[ac1 (by rw[List.length_singleton]; omega)]; exact hcl2
   ·rw[show i0+1+(j+1)=i0+1+j+1 by omega,htk,List.length_append,← hk3]; rfl
   ·rw[show i0+1+(j+1)=i0+1+j+1 by omega,htk,cv7 (by omega),hk4,List.map_append]; rfl
   ·rw[cv8 (by omega) (by omega)]
    exact hcs x h (by omega)
 ·have hj':i0+1+j=zs.length:=by omega
  have e1:¬ ((i0+1+j:Nat):Int)<zs.length:=by omega
  rw[hj',List.take_length] at hk3 hk4
  have hkn:k<zs.length:=by omega
  simp only[go_sem,e1,fl1 (show k≤zs.length by omega),gj1 (show k≤zs.length by omega),hoc,hm5,fl2 hoc hkn (by omega)]
  have hrl:(rep [IV.int .i64 0] (zs.length-k)).length=zs.length-k:=by rw[am1]; simp
  refine ⟨un,fun q hq=>?_,ag9 cs k (rep [IV.int .i64 0] (zs.length-k)),by rw[hk3],by simp only[aa2,if_true],?_,?_⟩
  ·simp only[aa2,if_neg hq]; exact uo q hq
  ·rw[← hk3,dj7 (by omega)]; exact hk4
  ·rw[ac1 (by rw[hrl]; omega),← hk3]; omega
end Go.Id.Tryz
/- Successors,newcomers,whom a job means. Conditions: sizes that fit. -/
namespace Go.Id.Tryz
open Go Go.Id Go.Proofs Go.Shelf Go.Id.Md
set_option maxRecDepth 100000
end Go.Id.Tryz
