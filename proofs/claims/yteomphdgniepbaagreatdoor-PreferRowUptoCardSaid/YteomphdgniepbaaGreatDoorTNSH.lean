/- Truth: one package of a state alone; all Kinds. Conditions: sizes that fit. -/
import Derived.Test.YteomphdgniepbaaGreatDoorTNTD
set_option linter.all false
namespace Go.Id.Tryz
open Go Go.Id Go.Proofs Go.Shelf Go.Id.Md
set_option maxRecDepth 100000
theorem hh7 (c n:Nat):stB c [(n:Int)]=ds2 c n:=by
 unfold stB ds2;refine List.map_congr_left fun m _=>decide_eq_decide.2 ?_
 rw[List.mem_singleton]; omega
theorem gm4 (c n:Nat):(ds2 c n).length=c:=by simp[ds2]
theorem gt9 (l:List aa2)(hl:l.length≤256)(st:List Bool)(hst:st.length=l.length)(g:Nat)(cap:List IV)(q:List Bool→Bool)(hok:okF Tryz.prog g=true)(hcap:∀ c∈cap,Bnd 0 c)
  (hq:∀ s2:List Bool,s2.length=l.length→PC Tryz.prog EE g (.agg (aj8 l s2)::cap) (.bool (q s2))):PC Tryz.prog EE 324 [.agg (aj8 l st),.func (.func g) [] cap] (.bool (gi6 st fun n=>q (ds2 st.length n))):=by
 have hbf:Bnd 0 (.func (.func g) [] cap):=.func _ _ _ (fun c hc=>by cases hc) hcap;refine ai1 hE fok324 (nZ rfl) (al2 (ak7 l st) hbf) ?_;simp only[ic324,go_sem,ad7,ad2,fx4];refine ab3 noT (fun i fr t=>fr=[(1,.func (.func g) [] cap),(2,.ac2 (aj8 l st)),(8,dv6 st),(9,.int .i64 st.length),(10,.int .i64 (i:Int))]∧∀ j,j<i→(st.getD j false&&q (ds2 st.length j))=false) st.length ⟨rfl,fun j hj=>absurd hj (Nat.not_lt_zero _)⟩ ?_;rintro i fr t hle ⟨rfl,hI⟩;by_cases hlt:i<st.length
 ·have c1:(i:Int)<st.length:=by omega
  have c2:(0:Int)≤i:=by omega
  have w1:=ad6 (i:=i) (by omega);have g1:=bx2 hlt
  cases hb:st.getD i false with
  | false=>
   rw[hb] at g1;simp only[go_sem,c1,c2,g1,w1];refine ⟨hlt,fun j hj=>?_⟩;by_cases e:j=i
   ·subst e; rw[hb]; rfl
   ·exact hI j (by omega)
  | true=>
   rw[hb] at g1;have hS:=eo1 l [(i:Int)] hl (by show 1<_; decide);rw[hh7] at hS;have hQ:=hq (ds2 l.length i) (gm4 _ _);simp only[go_sem,c1,c2,g1,ad7,fx5]
   have hfz:Frz (({ next:=t.next+1,obj:=t.obj }:Store).put t.next (.row [.int .i64 i])) (fun _=>false=true) (.slice t.next 0 1 1) (.aa3 ([(i:Int)].map Md.ag3)):=
    .slice t.next 0 1 1 [.int .i64 i] _ Bool.false_ne_true (.inr (by rw[aa4,if_pos rfl])) rfl (Nat.le_refl 1) (fun k hk=>by
     have:k=0:=by omega
     subst this; rfl) fun k hk j hj=>by
     have:k=0:=by omega
     have:j=0:=by omega
     subst this; subst k;exact .keep _ (.int _ _)
   refine ad3 fok220 (ej1 (S:=fun _=>false) (args':=[an6 l,.aa3 ([(i:Int)].map Md.ag3)]) rfl (fun k hk=>by
    match k,hk with
    | 0,_=>exact .keep _ ((aw1 l).weak fun _ h=>absurd h (Nat.not_lt_zero _))
    | 1,_=>exact hfz) (eb1 hS)) ?_
   rintro v s ⟨rfl,rfl⟩;refine ⟨Nat.le_refl _,?_⟩;simp only[go_sem];refine ak6 hok hQ ?_
   cases hv:q (ds2 l.length i) with
   | true=>
    have e:gi6 st (fun n=>q (ds2 st.length n))=true:=by
     unfold gi6;exact List.any_eq_true.2 ⟨i,List.mem_range.2 hlt,by rw[hb,hst]; show (true&&q (ds2 l.length i))=true; rw[hv]; rfl⟩
    simp only[go_sem,e]
    exact ac3 _
   | false=>
    simp only[go_sem,w1];refine ⟨hlt,fun j hj=>?_⟩;by_cases e:j=i
    ·subst e; rw[hst,hv,Bool.and_false]
    ·exact hI j (by omega)
 ·have hi':i=st.length:=by omega
  subst hi';have c1:¬ (st.length:Int)<st.length:=by omega
  have e:gi6 st (fun n=>q (ds2 st.length n))=false:=by
   unfold gi6;refine List.any_eq_false.2 fun n hn=>?_
   rw[hI n (List.mem_range.1 hn)];exact Bool.false_ne_true
  simp only[go_sem,c1,e];exact ac3 _
theorem gm5 (l:List aa2)(k:Int)(d:Dep)(xs:List aa7)(hn:xs.length<2^62)(hx:∀ x∈xs,fx6 l x)(st:List Bool)(hst:st.length=l.length) :
  PC Tryz.prog EE 325 [.agg (aj8 l st),.ac2 (aa7.mk k d xs).cs] (.bool ((aa7.trs l xs).all fun f=>f st)):=by
 refine ai1 hE fok325 (nZ rfl) (al2 (ak7 l st) (bx3 _)) ?_;have h:=gu2 l st hst k d xs hn hx;simp only[ic325,go_sem,ad7,ad2,ae3,ab9,ac9,ab7]
 first|refine aa5 fok284 (h) ?_|refine aa6 (h) ?_
 simp only[go_sem];exact af7 rfl
theorem ee7 (l:List aa2)(k:Int)(d:Dep)(xs:List aa7)(hn:2≤xs.length)(hx:∀ x∈xs,fx6 l x)(st:List Bool)(hst:st.length=l.length) :
  PC Tryz.prog EE 326 [.agg (aj8 l st),.ac2 (aa7.mk k d xs).cs] (.bool (((aa7.trs l xs).getD 0 ff) st&&!((aa7.trs l xs).getD 1 ff) st)):=by
 refine ai1 hE fok326 (nZ rfl) (al2 (ak7 l st) (bx3 _)) ?_;have n0:0<xs.length:=by omega
 have n1:1<xs.length:=by omega
 have h0:=hx _ (List.getElem_mem n0) st hst;have h1:=hx _ (List.getElem_mem n1) st hst;have g0:=dw1 n0;have g1:=dw1 n1;have c0:(0:Int)<xs.length:=by omega
 have c1:(1:Int)<xs.length:=by omega
 rw[dw2 n1,dw2 n0];simp only[ic326,go_sem,ad7,ad2,ae3,ab9,bf7,c0,c1,g0,g1,ac9,ab7]
 first|refine aa5 fok221 (h0) ?_|refine aa6 (h0) ?_
 cases xs[0].tr l st with
 | false=>simp only[go_sem]; exact af7 rfl
 | true=>
  simp only[go_sem,ad7,ad2,ae3,ab9,bf7,c0,c1,g0,g1,ac9,ab7]
  first|refine aa5 fok221 (h1) ?_|refine aa6 (h1) ?_
  simp only[go_sem];exact af7 rfl
theorem hh8 (l:List aa2)(hl:l.length≤256)(st:List Bool)(hst:st.length=l.length)(k:Int)(d:Dep)(xs:List aa7)(hn:xs.length<2^62)(hx:∀ x∈xs,fx6 l x) :
  PC Tryz.prog EE 288 [.agg (aj8 l st),.agg (aa7.mk k d xs).cs] (.bool (gi6 st fun n=>(aa7.trs l xs).all fun f=>f (ds2 st.length n))):=by
 refine ai1 hE fok288 (nZ rfl) (al2 (ak7 l st) (ah1 _)) ?_;have h:=gt9 l hl st hst 325 [.ac2 (aa7.mk k d xs).cs] (fun s2=>(aa7.trs l xs).all fun f=>f s2) fok325.1 (bh9 (bx3 _)) fun s2 h2=>gm5 l k d xs hn hx s2 h2
 have h7:=ab7 (.mk k d xs);simp only[ic288,go_sem,ad7,ad2,ae3,ab9,h7]
 first|refine aa5 fok324 (h) ?_|refine aa6 (h) ?_
 simp only[go_sem];exact af7 rfl
theorem fe4 (l:List aa2)(hl:l.length≤256)(st:List Bool)(hst:st.length=l.length)(k:Int)(d:Dep)(xs:List aa7)(hn:2≤xs.length)(hx:∀ x∈xs,fx6 l x) :
  PC Tryz.prog EE 289 [.agg (aj8 l st),.agg (aa7.mk k d xs).cs] (.bool (gi6 st fun n=>((aa7.trs l xs).getD 0 ff) (ds2 st.length n)&&!((aa7.trs l xs).getD 1 ff) (ds2 st.length n))):=by
 refine ai1 hE fok289 (nZ rfl) (al2 (ak7 l st) (ah1 _)) ?_;have h:=gt9 l hl st hst 326 [.ac2 (aa7.mk k d xs).cs] (fun s2=>((aa7.trs l xs).getD 0 ff) s2&&!((aa7.trs l xs).getD 1 ff) s2) fok326.1 (bh9 (bx3 _)) fun s2 h2=>ee7 l k d xs hn hx s2 h2
 have h7:=ab7 (.mk k d xs);simp only[ic289,go_sem,ad7,ad2,ae3,ab9,h7]
 first|refine aa5 fok324 (h) ?_|refine aa6 (h) ?_
 simp only[go_sem];exact af7 rfl
theorem it4 (l:List aa2)(hl:l.length≤256)(hs:∀ p∈l,Pkg.small p)(r:aa7):r.Good→fx6 l r:=by
 induction r using aa7.ind with
 | h k d xs ih=>
  intro hg st hst;refine ai1 hE fok221 (nZ rfl) (al2 (ak7 l st) (ah1 _)) ?_;have h7:=ab7 (.mk k d xs);have h8:=ac9 (.mk k d xs);have nfl:IV.ac8.leaf=true:=rfl;have e:(aa7.mk k d xs).tr l st=trK l k d (aa7.trs l xs) st:=by rw[aa7.tr]
  rw[e]
  cases hg with
  | atom _ hd=>
   have h:=hn9 l hl hs st hst d hd;unfold trK;simp only[ic221,go_sem,ad7,ad2,ae3,ab9,h7,h8,bx4,nfl]
   first|refine aa5 fok283 (h) ?_|refine aa6 (h) ?_
   simp only[go_sem]
   exact af7 rfl
  | node _ _ _ h1 h2 h3 h4 h5=>
   have hx:∀ x∈xs,fx6 l x:=fun x hx=>ih x hx (h5 x hx)
   have hn:xs.length≤24:=by
    unfold ec5 at h4;split at h4
    ·omega
    split at h4
    ·omega
    split at h4<;>omega
   have c2:=gu2 l st hst k d xs (by omega) hx;have c3:=ij8 l st hst k d xs (by omega) hx;have c4:=ij9 l st hst k d xs (by omega) hx;have c5:=fx9 l st hst k d xs (by omega) (by omega) hx;have c6:=hh8 l hl st hst k d xs (by omega) hx;have c7:=fe4 l hl st hst k d xs (by omega) hx;unfold trK;have hk:k=2∨k=3∨k=4∨k=5∨k=6∨k=7:=by omega
   rcases hk with rfl|rfl|rfl|rfl|rfl|rfl
   ·simp only[ic221,go_sem,ad7,ad2,ae3,ab9,h7,h8,bx4,nfl]
    first|refine aa5 fok284 (c2) ?_|refine aa6 (c2) ?_
    simp only[go_sem];exact af7 rfl
   ·simp only[ic221,go_sem,ad7,ad2,ae3,ab9,h7,h8,bx4,nfl]
    first|refine aa5 fok285 (c3) ?_|refine aa6 (c3) ?_
    simp only[go_sem];exact af7 rfl
   ·simp only[ic221,go_sem,ad7,ad2,ae3,ab9,h7,h8,bx4,nfl]
    first|refine aa5 fok286 (c4) ?_|refine aa6 (c4) ?_
    simp only[go_sem];exact af7 rfl
   ·simp only[ic221,go_sem,ad7,ad2,ae3,ab9,h7,h8,bx4,nfl]
    first|refine aa5 fok287 (c5) ?_|refine aa6 (c5) ?_
    simp only[go_sem];exact af7 rfl
   ·simp only[ic221,go_sem,ad7,ad2,ae3,ab9,h7,h8,bx4,nfl]
    first|refine aa5 fok288 (c6) ?_|refine aa6 (c6) ?_
    simp only[go_sem];exact af7 rfl
   ·simp only[ic221,go_sem,ad7,ad2,ae3,ab9,h7,h8,bx4,nfl]
    first|refine aa5 fok289 (c7) ?_|refine aa6 (c7) ?_
    simp only[go_sem];exact af7 rfl
theorem hh9 (c:Nat)(zs:List Int):(stB c zs).length=c:=by simp[stB]
theorem du6 (l:List aa2)(hl:l.length≤256)(hs:∀ p∈l,Pkg.small p)(zs:List Int)(hz:zs.length<2^40)(r:aa7)(h1:r.fit)(h2:r.count<2^31) :
  PC Tryz.prog EE 142 [an6 l,.aa3 (zs.map Md.ag3),.agg r.cs] (.bool (hd8 l zs r)):=by
 refine ai1 hE fok142 (nZ rfl) (bc6 (aw1 l) (ap3 zs) (ah1 _)) ?_;have hw:=gj9 r h1 h2;have hS:=eo1 l zs hl hz;have hnl:∀ d:TypeId,ck5 (.pointer d) (an6 l)=some false:=fun _=>rfl
 unfold hd8;simp only[ic142,go_sem,hnl,ab9,ac9,ab7]
 first|refine aa5 fok219 (hw) ?_|refine aa6 (hw) ?_
 cases hq:dr9 r with
 | false=>simp only[go_sem]; exact af7 rfl
 | true=>
  have hg:r.ms.2.2=true:=by
   unfold dr9 at hq;simp only[Bool.and_eq_true] at hq;exact hq.1.1
  have hi:=it4 l hl hs r (aa7.hc9 r hg) (stB l.length zs) (hh9 _ _);simp only[go_sem]
  first|refine aa5 fok220 (hS) ?_|refine aa6 (hS) ?_
  simp only[go_sem,ab9,ac9,ab7]
  first|refine aa5 fok221 (hi) ?_|refine aa6 (hi) ?_
  simp only[go_sem];exact af7 rfl
theorem ee8 {α:Type}(q:α→Bool):∀ (l:List α) (i:Int),ai3 q l i=-1∧(∀ x∈l,q x=false)∨∃ k,∃ h:k<l.length,ai3 q l i=i+k∧q l[k]=true∧∀ x∈l.take k,q x=false:=by
 intro l
 induction l with
 | nil=>intro i; exact .inl ⟨rfl,fun x h=>by cases h⟩
 | cons a l ih=>
  intro i;simp only[ai3]
  cases hq:q a with
  | true=>exact .inr ⟨0,by simp,by simp,by simpa using hq,fun x h=>by cases h⟩
  | false=>
   simp only[Bool.false_eq_true,if_false];rcases ih (i+1) with ⟨h1,h2⟩|⟨k,h,h1,h2,h3⟩
   ·exact .inl ⟨h1,fun x hx=>by
     rcases List.mem_cons.1 hx with rfl|hx
     ·exact hq
     ·exact h2 x hx⟩
   ·refine .inr ⟨k+1,by simp only[List.length_cons]; omega,by rw[h1]; omega,by simpa using h2,fun x hx=>?_⟩;rw[List.take_succ_cons] at hx;rcases List.mem_cons.1 hx with rfl|hx
    ·exact hq
    ·exact h3 x hx
theorem cs5 {q:Int→Bool}{l:List Int}(h:∀ x∈l,q x=false):(l.filter fun x=>!q x)=l:=List.filter_eq_self.2 fun x hx=>by rw[h x hx]; rfl
theorem em8 {σ:Store}{id:Nat}{cs:List IV}{zs:List Int}(ho:σ.obj id=some (.row cs))(hct:cs.take zs.length=zs.map ct8)(hcl:zs.length≤cs.length):co8 σ 0 (.slice id 0 zs.length 1) (.aa3 (zs.map Md.ag3)):=by
 refine .slice id 0 zs.length 1 cs (zs.map Md.ag3) (Nat.not_lt_zero _) (.inr ho) (by rw[List.length_map]) (by omega) (fun i hi=>?_) fun i hi j hj=>?_
 ·simp[List.getD_eq_getElem?_getD,hi,Md.ag3]
 ·have hj0:j=0:=by omega
  subst hj0;have e2:((zs.map Md.ag3).getD i []).getD 0 .undef=ct8 zs[i]:=by simp[List.getD_eq_getElem?_getD,hi,Md.ag3]
  rw[e2,Nat.zero_add,Nat.mul_one,Nat.add_zero,dz9 hct hi];exact .keep _ (.int _ _)
theorem du7 {σ:Store}{id g:Nat}{cap cs0:List IV}{zs:List Int}(q:Int→Bool)(hz:zs.length<2^40)(ho:σ.obj id=some (.row cs0))(hct:cs0.take zs.length=zs.map ct8)(hcl:zs.length≤cs0.length)
  (hok:okF Tryz.prog g=true) (hcap:∀ c∈cap,Bnd 0 c) (hq:∀ z∈zs,PC Tryz.prog EE g (.int .i64 z::cap) (.bool (q z))) :
  C Tryz.prog EE 58 [.slice id 0 zs.length 1,.func (.func g) [] cap] σ (fun v s=>σ.next≤s.next∧(∀ i,i≠id→s.obj i=σ.obj i) ∧
   ∃ cs,v=.slice id 0 (zs.filter fun x=>!q x).length 1∧s.obj id=some (.row cs)∧cs.take (zs.filter fun x=>!q x).length=(zs.filter fun x=>!q x).map ct8∧(zs.filter fun x=>!q x).length≤cs.length):=by
 refine C_f fok58 (nZ rfl) ?_;simp only[ic58,go_sem]
 have hI:=cf5 (σ:=σ) (args:=[.slice id 0 zs.length 1,.func (.func g) [] cap]) (args':=[.aa3 (zs.map Md.ag3),.func (.func g) [] cap]) hE rfl (fun i hi=>by
  match i,hi with
  | 0,_=>exact em8 ho hct hcl
  | 1,_=>exact .keep _ (.func _ _ _ (fun c hc=>by cases hc) hcap)) (by simp[IV.plain]) (bw9 zs g [] cap q (by omega) hok hq)
 refine ad3 fok152 hI ?_;rintro v s ⟨rfl,rfl⟩;refine ⟨Nat.le_refl _,?_⟩;rcases ee8 q zs 0 with ⟨h1,h2⟩|⟨i0,hi0,h1,h2,h3⟩
 ·simp only[go_sem,h1,cs5 h2];exact ⟨Nat.le_refl _,fun _ _=>trivial,cs0,ho,hct,hcl⟩
 have h1':ai3 q zs 0=(i0:Int):=by rw[h1]; omega
 have d1:¬ (i0:Int)=-1:=by omega
 have w0:=ad6 (i:=i0) (by omega);simp only[go_sem,h1',d1,w0]
 refine ab3 noT (fun j fr t=>∃ (k:Nat) (cs:List IV),fr=[(0,.slice id 0 zs.length 1),(1,.func (.func g) [] cap),(5,.int .i64 (k:Int)),(6,.int .i64 ((i0+1+j:Nat):Int))] ∧
  (s.next≤t.next∧∀ q,q≠id→t.obj q=s.obj q)∧t.obj id=some (.row cs)∧cs.length=cs0.length∧k≤i0+j∧i0+1+j≤zs.length∧k=((zs.take (i0+1+j)).filter fun x=>!q x).length∧cs.take k=((zs.take (i0+1+j)).filter fun x=>!q x).map ct8 ∧
  ∀ (x:Nat) (h:x<zs.length),i0+j<x→(cs.drop x).head? = some (.int .i64 zs[x])) (zs.length-(i0+1)) ?_ ?_
 ·have e:((zs.take (i0+1)).filter fun x=>!q x)=zs.take i0:=by
   rw[List.take_add_one,List.getElem?_eq_getElem hi0,List.filter_append,cs5 h3];simp[h2]
  refine ⟨i0,cs0,rfl,⟨Nat.le_refl _,fun _ _=>rfl⟩,ho,rfl,by omega,by omega,?_,?_,fun x h _=>?_⟩
  ·rw[Nat.add_zero,e,List.length_take]; omega
  ·rw[Nat.add_zero,e,List.map_take,← hct,List.take_take];congr 1; omega
  ·have:=dz9 hct h;rw[List.head?_drop];rw[List.getD_eq_getElem?_getD,List.getElem?_eq_getElem (by omega)] at this;rw[List.getElem?_eq_getElem (by omega)];exact congrArg some this
 rintro j fr t hj ⟨k,cs,rfl,⟨un,uo⟩,hoc,hcl2,hk1,hk2,hk3,hk4,hcs⟩;by_cases hlt:j<zs.length-(i0+1)
 ·have e1:((i0+1+j:Nat):Int)<zs.length:=by omega
  have e2:(0:Int)≤((i0+1+j:Nat):Int):=by omega
  have hx:i0+1+j<zs.length:=by omega
  have g1:=hcs (i0+1+j) hx (by omega);have w1:=ad6 (i:=i0+1+j) (by omega);have w2:=ad6 (i:=k) (by omega);have hqz:=hq _ (List.getElem_mem hx);have e3:(0:Int)≤(k:Int):=by omega
  have e4:(k:Int)<zs.length:=by omega
  have e5:k+1≤cs.length:=by omega
  have htk:(zs.take (i0+1+j+1)).filter (fun x=>!q x)=(zs.take (i0+1+j)).filter (fun x=>!q x)++if q zs[i0+1+j] then [] else [zs[i0+1+j]]:=by
   rw[List.take_add_one,List.getElem?_eq_getElem hx,List.filter_append];congr 1;simp only[Option.toList,List.filter_cons,List.filter_nil];cases q zs[i0+1+j]<;>rfl
  simp only[go_sem,e1,e2,hoc,g1,Int.toNat_natCast,Nat.zero_add,Nat.mul_one];refine am8 hok (eb1 hqz) ?_;rintro v u ⟨rfl,rfl⟩;refine ⟨Nat.le_refl _,?_⟩
  cases hb:q zs[i0+1+j] with
  | true=>
   rw[hb,if_pos rfl,List.append_nil] at htk;simp only[go_sem,w1]
   exact ⟨hlt,k,cs,rfl,⟨un,uo⟩,hoc,hcl2,by omega,by omega,by rw[show i0+1+(j+1)=i0+1+j+1 by omega,htk]; exact hk3,by rw[show i0+1+(j+1)=i0+1+j+1 by omega,htk]; exact hk4,fun x h hx=>hcs x h (by omega)⟩
  | false=>
   rw[hb,if_neg (by simp)] at htk;simp only[go_sem,w1,w2,e3,e4,e5,hoc,Int.toNat_natCast,Nat.zero_add,Nat.mul_one];refine ⟨hlt,k+1,ao8 cs k [.int .i64 zs[i0+1+j]],rfl,⟨un,fun q hq=>?_⟩,?_,?_,by omega,by omega,?_,?_,fun x h hx=>?_⟩
   ·simp only[if_neg hq]; exact uo q hq
   ·rfl
   ·rw[ae1 (by rw[List.length_singleton]; omega)]; exact hcl2
   ·rw[show i0+1+(j+1)=i0+1+j+1 by omega,htk,List.length_append,← hk3]; rfl
   ·rw[show i0+1+(j+1)=i0+1+j+1 by omega,htk,de4 (by omega),hk4,List.map_append]; rfl
   ·rw[de5 (by omega) (by omega)];exact hcs x h (by omega)
 ·have hj':i0+1+j=zs.length:=by omega
  have e1:¬ ((i0+1+j:Nat):Int)<zs.length:=by omega
  rw[hj',List.take_length] at hk3 hk4;have hkn:k<zs.length:=by omega
  simp only[go_sem,e1,fv9 (show k≤zs.length by omega),gt8 (show k≤zs.length by omega),hoc,ii4,fw1 hoc hkn (by omega)];have hrl:(rep [IV.int .i64 0] (zs.length-k)).length=zs.length-k:=by rw[aq7]; simp
  refine ⟨un,fun q hq=>?_,ao8 cs k (rep [IV.int .i64 0] (zs.length-k)),by rw[hk3],by simp only[aa4,if_true],?_,?_⟩
  ·simp only[aa4,if_neg hq]; exact uo q hq
  ·rw[← hk3,du5 (by omega)]; exact hk4
  ·rw[ae1 (by rw[hrl]; omega),← hk3]; omega
theorem gm6 {σ:Store}{g:Nat}{cap:List IV}(hok:okF Tryz.prog g=true)(hcap:∀ c∈cap,Bnd 0 c):C Tryz.prog EE 58 [.aa1,.func (.func g) [] cap] σ (iv2 σ []):=by
 refine C_f fok58 (nZ rfl) ?_;simp only[ic58,go_sem]
 have hI:C Tryz.prog EE 152 [.aa1,.func (.func g) [] cap] σ (il7 (.int .i64 (-1)) σ):=by
  refine ij6 (args':=[.aa3 (([]:List Int).map Md.ag3),.func (.func g) [] cap]) rfl (fun i hi=>?_) (eb1 (bw9 [] g [] cap (fun _=>true) (by simp) hok (fun z hz=>by cases hz)))
  match i,hi with
  | 0,_=>exact .ch1
  | 1,_=>exact .keep _ ((Nm.func _ _ _ (fun c hc=>by cases hc) hcap:Bnd 0 (.func (.func g) [] cap)).weak fun _ _=>rfl)
 refine ad3 fok152 hI ?_;rintro v s ⟨rfl,rfl⟩;refine ⟨Nat.le_refl _,?_⟩;simp only[go_sem];exact ⟨Kept.refl _,.inl ⟨rfl,rfl⟩⟩
theorem it5 {σ:Store}{v:IV}{lo g:Nat}{cap:List IV}{zs:List Int}(q:Int→Bool)(hz:zs.length<2^40)(hr:gf4 σ lo v zs)(hok:okF Tryz.prog g=true)(hcap:∀ c∈cap,Bnd 0 c)(hq:∀ z∈zs,PC Tryz.prog EE g (.int .i64 z::cap) (.bool (q z))) :
  C Tryz.prog EE 58 [v,.func (.func g) [] cap] σ (fun v s=>(σ.next≤s.next∧∀ i,i<lo→i<σ.next→s.obj i=σ.obj i)∧gf4 s (min lo σ.next) v (zs.filter fun x=>!q x)):=by
 rcases hr with ⟨rfl,rfl⟩|⟨id,cs,h1,h2,rfl,h4,h5,h6⟩
 ·exact (gm6 hok hcap).mono fun v s ⟨h1,h2⟩=>⟨⟨h1.next,fun i _ hi=>h1.obj i hi⟩,h2.low (Nat.min_le_right _ _)⟩
 ·refine (du7 q hz h4 h5 h6 hok hcap hq).mono fun v s ⟨k1,k2,cs',k3,k4,k5,k6⟩=>⟨⟨k1,fun i hi _=>k2 i (by omega)⟩,.inr ⟨id,cs',by omega,by omega,k3,k4,k5,k6⟩⟩
end Go.Id.Tryz
