/- Successors,newcomers,whom a job means. Conditions: sizes that fit. -/
import Derived.Test.YtphnnoolpagclaaGreatDoorTQSF
import Derived.Test.YtphnnoolpagclaaGreatDoorTQQN
set_option linter.all false
namespace Go.Id.Tryz
open Go Go.Id Go.Proofs Go.Shelf Go.Id.Md
set_option maxRecDepth 100000
theorem di3 {σ:Store}{id:Nat}{cs:List IV}(ho:σ.obj id=some (.cells cs))(hb:∀ c∈cs,Bnd 0 c):dj1 σ 0 (.ptr id 0) (.ab7 cs):=by
 refine .ptr id 0 cs cs (Nat.not_lt_zero _) (.inl ho) (by omega) (fun j hj=>?_);rw[Nat.zero_add];exact .keep _ (hb _ (ac9 _ hj))
theorem ht7 (zs:List Int):(gw2 zs).Pairwise (·<=·):=by
 refine List.Pairwise.imp (fun h=>of_decide_eq_true h) (List.pairwise_mergeSort (le:=fun x y:Int=>decide (x<=y)) (fun a b c h1 h2=>?_) (fun a b=>?_) _)
 ·exact decide_eq_true (Int.le_trans (of_decide_eq_true h1) (of_decide_eq_true h2))
 ·rcases Int.le_total a b with h|h
  ·simp[h]
  ·simp[h]
theorem db7 (a:ab9)(i:Int)(hA:AOK a)(σ:Store):C Tryz.prog EE 25 [a.v,.int .i64 i] σ (hy5 σ (a.aq4 i)):=by
 have hin:=bd8 a i;refine C_f fok25 (nZ rfl) ?_;unfold ab9.aq4
 cases hi:a.inst i with
 | false=>
  rw[hi] at hin;unfold ab9.v ab9.cs at *;simp only[ic25,go_sem]
  first|refine aa4 fok63 (hin) ?_|refine aa2 (hin) ?_
  simp only[go_sem]
  exact ⟨Kept.refl σ,.inl ⟨rfl,rfl⟩⟩
 | true=>
 rw[hi] at hin;have his:a.is i=true:=by unfold ab9.inst at hi; exact (Bool.and_eq_true _ _▸hi).1
 obtain ⟨i1,i2,i3,i4⟩:=gg7 a his;obtain ⟨m,rfl⟩:∃ m:Nat,i=m:=⟨i.toNat,by omega⟩;have hml:m<a.l.length:=by rw[List.length_map] at i2; omega
 have e3:=ba4 a 3 m hA;have e4:=ba4 a 4 m hA;have n4:=co4 a 4 m hA;have hob:=co6 a.l m (by have:=hA.len; omega) hml hA.small;have hlen:=hA.len
 have hall:∀ n (h:n<a.l.length),(a.l.map aa3.cs).getD n []=(a.pk n).cs/\a.pk (n:Int)∈a.l:=fun n h=>by
  have hn:a.is (n:Int)=true:=by rw[ab9.hn6]; exact decide_eq_true h
  obtain ⟨_,_,h3,h4⟩:=gg7 a hn;exact ⟨by simpa using h3,h4⟩
 have hfl:∀ down other n (h:n<a.l.length),PC Tryz.prog EE 66 [.agg (a.pk n).cs,.ab7 (a.pk m).cs,.ab7 [.bool down],.ab7 [.bool other],.ab7 [a.v]] (.bool (ab9.df7 a.r.vendor down other (a.pk m) (a.pk n))):=
  fun down other n h=>eb8 a down other _ _ (hA.small _ i4) (hA.small _ (hall n h).2)
 have hba:=ah1 a;unfold ab9.hy7;unfold ab9.v ab9.cs at *;generalize (ae2 a.l).v=X at *;generalize a.p.v=Pv at *;have c0:(0:Int)<=m:=by omega
 have c2:(m:Int)<a.l.length:=by omega
 have hgm:=(hall m hml).1;generalize hdn:(a.aw1 3 m||a.at6 4 m)=down;generalize hot:a.aw1 4 m=other at *;simp only[ic25,go_sem]
 first|refine aa4 fok63 (hin) ?_|refine aa2 (hin) ?_
 simp only[go_sem,c0,c2,hgm,al9,al2,ah9];cases h3:a.aw1 3 m
 case' true=>
  rw[h3] at hdn e3;have hd:true=down:=by simpa using hdn
  first|refine aa4 fok61 (e3) ?_|refine aa2 (e3) ?_
  simp only[go_sem]
 case' false=>
  rw[h3] at hdn e3;have hd:a.at6 4 m=down:=by simpa using hdn
  first|refine aa4 fok61 (e3) ?_|refine aa2 (e3) ?_
  simp only[go_sem]
  first|refine aa4 fok64 (n4) ?_|refine aa2 (n4) ?_
  simp only[go_sem]
 all_goals
  first|refine aa4 fok61 (e4) ?_|refine aa2 (e4) ?_
  simp only[go_sem];refine aj9 fok15 (hob _) ?_;rintro v s ⟨hk0,hr0⟩;refine ⟨hk0.next,?_⟩;simp only[go_sem];have g1:¬ σ.next=σ.next+1+1:=by omega
  have g2:¬ σ.next=σ.next+1:=by omega
  have g3:¬ σ.next+1=σ.next+1+1:=by omega
  have b5:s.obj σ.next=some (.cells (a.pk m).cs):=(hk0.obj σ.next (by show σ.next<σ.next+_; omega)).trans (by simp only[aa7,g1,g2,if_true,if_false]);have b6:s.obj (σ.next+1)=some (.cells [.bool down]):=(hk0.obj (σ.next+1) (by show σ.next+1<σ.next+_; omega)).trans (by simp only[aa7,g3,if_true,if_false,hd]);have b7:s.obj (σ.next+1+1)=some (.cells [.bool other]):=(hk0.obj (σ.next+1+1) (by show σ.next+1+1<σ.next+_; omega)).trans (by simp only[aa7,if_true])
  have blo:∀ i,i<σ.next->s.obj i=σ.obj i:=fun i hi=>(hk0.obj i (by show i<σ.next+_; omega)).trans (by
   have u1:¬ i=σ.next:=by omega
   have u2:¬ i=σ.next+1:=by omega
   have u3:¬ i=σ.next+1+1:=by omega
   simp only[aa7,u1,u2,u3,if_false])
  have bnx:σ.next+1+1+1<=s.next:=Nat.le_trans (by show σ.next+1+1+1<=σ.next+_; omega) hk0.next;have hr1:ax4 s (σ.next+1+1+1) v (ad2 a.l m):=hr0.low (by show σ.next+1+1+1<=σ.next+_; omega);clear hk0 hr0 hob e3 e4 n4 hin;generalize hq:(fun n:Nat=>decide ((n:Int)=m)||ab9.df7 a.r.vendor down other (a.pk m) (a.pk n))=qq;have hqn:∀ n,qq n=(decide ((n:Int)=m)||ab9.df7 a.r.vendor down other (a.pk m) (a.pk n)):=fun n=>by rw[<- hq]
  have hobl:=cn8 a.l m;have obm:=fun k=>bh9 (l:=a.l) (n:=m) (k:=k)
  generalize ad2 a.l m=ob at *
  refine ab5 noT (fun n fr t=>∃ gv,fr=[(1,.int .i64 (m:Int)),(8,.func (.func 66) [] [.ptr σ.next 0,.ptr (σ.next+1) 0,.ptr (σ.next+1+1) 0,.ab7 [.ab7 [Pv,X,.int .u8 a.r.ao9,.bool a.r.vendor,av1 a.r.af3,am1 a.r.ae1,.int .i64 a.r.budget,.aa5 (a.l.map aa3.cs)]]]),(9,gv),(44,.aa5 (a.l.map aa3.cs)),(45,.int .i64 a.l.length),(46,.int .i64 (n:Int))] /\
   Kept ⟨σ.next+1+1+1,s.obj⟩ t/\ax4 t (σ.next+1+1+1) gv (ob++ar6 qq n)) a.l.length ⟨v,rfl,⟨bnx,fun _ _=>rfl⟩,by rw[show ar6 qq 0=[] from rfl,List.append_nil]; exact hr1⟩ ?_
  rintro n fr t hn ⟨gv,rfl,hk,hg⟩;by_cases hlt:n<a.l.length
  ·have d1:(n:Int)<a.l.length:=by omega
   have d2:(0:Int)<=n:=by omega
   have w1:=ad9 (i:=n) (by omega);have hgn:=(hall n hlt).1;have hpn:=hfl down other n hlt;have hsn:=cd1 qq n;have hln:=ax9 qq n;have hzl:(ob++ar6 qq n).length<2147483648:=by rw[List.length_append]; omega
   have n5:¬ σ.next=t.next:=by have:=hk.next; show ¬ _; intro e; have:σ.next+1+1+1<=t.next:=this; omega
   have n6:¬ σ.next+1=t.next:=by have:=hk.next; intro e; have:σ.next+1+1+1<=t.next:=this; omega
   have n7:¬ σ.next+1+1=t.next:=by have:=hk.next; intro e; have:σ.next+1+1+1<=t.next:=this; omega
   have t5:=(hk.obj σ.next (by show σ.next<σ.next+1+1+1; omega)).trans b5;have t6:=(hk.obj (σ.next+1) (by show σ.next+1<σ.next+1+1+1; omega)).trans b6;have t7:=(hk.obj (σ.next+1+1) (by show σ.next+1+1<σ.next+1+1+1; omega)).trans b7;by_cases e:(n:Int)=m
   case' pos=>
    have hqt:qq n=true:=by rw[hqn,e]; simp
    have e':n=m:=by omega
    subst e';simp only[go_sem,d1,d2,hgn,al9,al2,ah9,eq_self]
   case' neg=>
    simp only[go_sem,d1,d2,hgn,al9,al2,ah9,e]
    refine an2 fok66.1 (de9 (args':=[.agg (a.pk n).cs,.ab7 (a.pk m).cs,.ab7 [.bool down],.ab7 [.bool other],.ab7 [.ab7 [Pv,X,.int .u8 a.r.ao9,.bool a.r.vendor,av1 a.r.af3,am1 a.r.ae1,.int .i64 a.r.budget,.aa5 (a.l.map aa3.cs)]]]) hE rfl (fun i hi=>by
     match i,hi with
     | 0,_=>exact .keep _ (aj7 _)
     | 1,_=>exact di3 (by simp only[aa7,n5,if_false]; exact t5) (ay6 _)
     | 2,_=>exact di3 (by simp only[aa7,n6,if_false]; exact t6) (am3 (.bool _))
     | 3,_=>exact di3 (by simp only[aa7,n7,if_false]; exact t7) (am3 (.bool _))
     | 4,_=>exact .keep _ (.ab7 _ (am3 hba))) (by simp[IV.plain]) hpn) ?_
    rintro v' u ⟨rfl,rfl⟩;refine ⟨Nat.le_refl _,?_⟩;cases hfb:ab9.df7 a.r.vendor down other (a.pk m) (a.pk n)
    case' false=>
     have hqt:qq n=false:=by rw[hqn,hfb]; simp[e]
     rw[hqt] at hsn;simp only[go_sem,w1];rw[if_neg (by simp),List.append_nil] at hsn;exact ⟨hlt,gv,rfl,hk.trans (Kept.box t _ _),by rw[hsn]; exact hg.kept (Kept.box t _ _)⟩
    have hqt:qq n=true:=by rw[hqn,hfb]; simp
    simp only[go_sem]
   all_goals
    rw[hqt,if_pos rfl] at hsn;rw[fj5 (s:=⟨t.next+1+1,_⟩) (lo:=σ.next+1+1+1) (zs:=ob++ar6 qq n) ((hg.kept (Kept.box t _ _)).up 1) (n:Int) hzl];simp only[go_sem,w1];have hz:=ee6 (hk.trans (Kept.box t (.cells [.str [],.int .i64 0,.str [],.str [],.int .u8 0,.str [],.aa1,.aa1,.aa1,.aa1,.aa1,.aa1,.aa1,.aa1,.aa1]) (.cells (a.pk n).cs))) (hg.kept (Kept.box t _ _)) (n:Int) (a:=1) (nid:=t.next+1) (Nat.le_refl _) (Nat.lt_succ_self _) rfl;rw[hsn,<- List.append_assoc];exact ⟨hlt,_,rfl,hz.1,hz.2⟩
  ·have hn':n=a.l.length:=by omega
   subst hn';have d1:¬ (a.l.length:Int)<(a.l.length:Int):=by omega
   simp only[go_sem,d1];have hln:=ax9 qq a.l.length;have hzl:(ob++ar6 qq a.l.length).length<2^20:=by rw[List.length_append]; omega
   have hmm:(m:Int)∈ob++ar6 qq a.l.length:=List.mem_append_right _ (bh4.2 ⟨m,rfl,hml,by rw[hqn]; simp⟩)
   have hfin:∀ D:List Int,D.Pairwise (· < ·)->(∀ x,x∈D↔x∈ob++ar6 qq a.l.length)->D=ar6 (fun n=>decide ((n:Int)=m)||ab9.df7 a.r.vendor down other (a.pk m) (a.pk n)||(!decide ((n:Int)=m)&&aa8 (a.pk n) (a.pk m))) a.l.length:=fun D h1 h2=>dr8 h1 (ef9 _ _) fun x=>by
    rw[h2,List.mem_append,obm,bh4,bh4];constructor
    ·rintro (⟨u,rfl,h3,h4,h5⟩|⟨u,rfl,h3,h4⟩)
     ·refine ⟨u,rfl,h3,?_⟩;have h6:¬ (u:Int)=m:=by omega
      simp only[ab9.pk,Int.toNat_natCast,h5,h6,decide_false,Bool.not_false,Bool.and_self,Bool.or_true]
     ·rw[hqn] at h4;exact ⟨u,rfl,h3,by rw[h4,Bool.true_or]⟩
    ·rintro ⟨u,rfl,h3,h4⟩;rw[Bool.or_eq_true] at h4;rcases h4 with h4|h4
     ·exact .inr ⟨u,rfl,h3,by rw[hqn]; exact h4⟩
     ·simp only[Bool.and_eq_true,Bool.not_eq_true',decide_eq_false_iff_not,ab9.pk,Int.toNat_natCast] at h4;exact .inl ⟨u,rfl,h3,by omega,h4.2⟩
   generalize ob++ar6 qq a.l.length=zs at *;rcases hg with ⟨_,h0⟩|⟨id,hid1,hid2,rfl,ho⟩
   ·rw[h0] at hmm; cases hmm
   refine aj9 fok68 (fa8 (zs:=zs) (by omega) ho) ?_;rintro v s' ⟨rfl,rfl⟩;refine ⟨by show t.next<=_; exact Nat.le_refl _,?_⟩;simp only[go_sem];have hsl:(gw2 zs).length=zs.length:=List.length_mergeSort _;have hc:=fr6 (σ:=t.put id (.row ((gw2 zs).map (IV.int .i64)))) (id:=id) (zs:=gw2 zs) (by omega) (by simp only[aa7,if_true]) (ht7 zs);rw[hsl] at hc;refine aj9 fok69 hc ?_;rintro v s' ⟨⟨D,cs,q1,q2,rfl,q4,q5,q6⟩,hsn,hso⟩;refine ⟨hsn,?_⟩;have hD:=hfin D q1 fun x=>(q2 x).trans List.mem_mergeSort
   simp only[go_sem];have hsn':t.next<=s'.next:=hsn;have hkn:σ.next+1+1+1<=t.next:=hk.next;rw[<- hD];refine ⟨⟨by omega,fun i hi=>?_⟩,.inr ⟨id,cs,by omega,by omega,rfl,q4,q5,q6⟩⟩;have hne:i≠id:=by omega
   rw[hso i hne];show (if i=id then _ else t.obj i)=_;rw[if_neg hne,hk.obj i (by show i<σ.next+1+1+1; omega)];exact blo i hi
theorem co7 (a:ab9)(i:Int)(hA:AOK a):PC Tryz.prog EE 25 [a.v,.int .i64 i] (.aa5 ((a.aq4 i).map Md.af2)):=hj7 fun σ=>db7 a i hA σ
theorem gh7 {σ:Store}{g:Nat}{cap:List IV}(hok:okF Tryz.prog g=true)(hcap:∀ c∈cap,Bnd 0 c):C Tryz.prog EE 71 [.aa1,.func (.func g) [] cap] σ (hy5 σ []):=by
 refine C_f fok71 (nZ rfl) ?_;simp only[ic71,go_sem]
 have hI:C Tryz.prog EE 119 [.aa1,.func (.func g) [] cap] σ (hk8 (.int .i64 (-1)) σ):=by
  refine fr7 (args':=[.aa5 (([]:List Int).map Md.af2),.func (.func g) [] cap]) rfl (fun i hi=>?_) (ew4 (bu8 [] g [] cap (fun _=>true) (by simp) hok (fun z hz=>by cases hz)))
  match i,hi with
  | 0,_=>exact .dd3
  | 1,_=>exact .keep _ ((Nm.func _ _ _ (fun c hc=>by cases hc) hcap:Bnd 0 (.func (.func g) [] cap)).weak fun _ _=>rfl)
 refine aj9 fok119 hI ?_;rintro v s ⟨rfl,rfl⟩;refine ⟨Nat.le_refl _,?_⟩;simp only[go_sem];exact ⟨Kept.refl _,.inl ⟨rfl,rfl⟩⟩
theorem ht8 {σ:Store}{v:IV}{lo g:Nat}{cap:List IV}{zs:List Int}(q:Int->Bool)(hz:zs.length<2^40)(hr:dw2 σ lo v zs)(hok:okF Tryz.prog g=true)(hcap:∀ c∈cap,Bnd 0 c)(hq:∀ z∈zs,PC Tryz.prog EE g (.int .i64 z::cap) (.bool (q z))) :
  C Tryz.prog EE 71 [v,.func (.func g) [] cap] σ (fun v s=>(σ.next<=s.next/\∀ i,i<lo->i<σ.next->s.obj i=σ.obj i)/\dw2 s (min lo σ.next) v (zs.filter fun x=>!q x)):=by
 rcases hr with ⟨rfl,rfl⟩|⟨id,cs,h1,h2,rfl,h4,h5,h6⟩
 ·exact (gh7 hok hcap).mono fun v s ⟨h1,h2⟩=>⟨⟨h1.next,fun i _ hi=>h1.obj i hi⟩,h2.low (Nat.min_le_right _ _)⟩
 ·refine (fs4 q hz h4 h5 h6 hok hcap hq).mono fun v s ⟨k1,k2,cs',k3,k4,k5,k6⟩=>⟨⟨k1,fun i hi _=>k2 i (by omega)⟩,.inr ⟨id,cs',by omega,by omega,k3,k4,k5,k6⟩⟩
theorem gh8 (a:ab9)(n:Int):PC Tryz.prog EE 72 [.int .i64 n,.ab7 [a.v]] (.bool (a.inst n || !a.fits n)):=by
 refine af5 hE fok72 (nZ rfl) (aj2 (.int _ _) (.ab7 _ (am3 (ah1 a)))) ?_;have h1:=bd8 a n;have h2:=db5 a n;simp only[ic72,go_sem]
 first|refine aa4 fok63 (h1) ?_|refine aa2 (h1) ?_
 cases a.inst n with
 | true=>simp only[go_sem]; exact ab2 rfl
 | false=>
  simp only[go_sem]
  first|refine aa4 fok17 (h2) ?_|refine aa2 (h2) ?_
  simp only[go_sem];exact ab2 rfl
theorem fs5 (a:ab9)(n:Int):PC Tryz.prog EE 75 [.int .i64 n,.ab7 [a.v]] (.bool (!a.inst n)):=by
 refine af5 hE fok75 (nZ rfl) (aj2 (.int _ _) (.ab7 _ (am3 (ah1 a)))) ?_;have h1:=bd8 a n;simp only[ic75,go_sem]
 first|refine aa4 fok63 (h1) ?_|refine aa2 (h1) ?_
 simp only[go_sem];exact ab2 rfl
theorem db8 (a:ab9)(i:Int)(hA:AOK a):PC Tryz.prog EE 27 [a.v,.int .i64 i] (.aa5 ((a.bn5 i).map Md.af2)):=by
 refine af5 hE fok27 (nZ rfl) (aj2 (ah1 a) (.int _ _)) ?_;have h1:=bd8 a i;have h2:=db7 a i hA;have hba:=ah1 a;have hcl:=gh8 a;have hsl:=a.cm1 i;have hA1:=hA.len;have vcs:a.v.cs=[a.v]:=rfl;have vlf:a.v.leaf=true:=rfl;unfold ab9.bn5
 cases hi:a.inst i with
 | false=>
  rw[hi] at h1;have e:a.aq4 i=[]:=by unfold ab9.aq4; rw[hi]; rfl
  rw[e];generalize a.v=V at *;simp only[ic27,go_sem,vcs,List.all_cons,vlf,List.all_nil,List.head?_cons]
  first|refine aa4 fok63 (h1) ?_|refine aa2 (h1) ?_
  simp only[go_sem]
  exact .dd3
 | true=>
  rw[hi] at h1;generalize a.v=V at *;generalize a.aq4 i=zs at *;simp only[ic27,go_sem,vcs,List.all_cons,vlf,List.all_nil,List.head?_cons]
  first|refine aa4 fok63 (h1) ?_|refine aa2 (h1) ?_
  simp only[go_sem];refine aj9 fok25 (h2 _) ?_;rintro v s ⟨hk,hr⟩;refine ⟨hk.next,?_⟩;simp only[go_sem];refine aj9 fok71 (ht8 (fun n=>a.inst n || !a.fits n) (by omega) hr fok72.1 (am3 (.ab7 _ (am3 hba))) fun z hz=>hcl z) ?_;rintro v s ⟨⟨h1,_⟩,hr⟩;refine ⟨h1,?_⟩;simp only[go_sem];exact hr.frz fun i _=>Nat.not_lt_zero i
theorem fb5 (l:List aa3)(d:Dep)(hl:l.length<2^20)(hs:∀ p∈l,Pkg.small p)(hd:Dep.small d)(σ:Store):C Tryz.prog EE 74 [(ae2 l).v,.agg d.cs] σ (de5 σ (al8 l d)):=by
 have hi:=av5 l;have hlook:=hi.names d.name
 have hsift:∀ (σ:Store) v,(v=.aa5 ((ac6 (ae2 l).names d.name).map Md.af2)\/v=.aa1/\ac6 (ae2 l).names d.name=[])->C Tryz.prog EE 49 [(ae2 l).v,v,.func (.func 122) [] [.ab7 d.cs]] σ (de5 σ (al8 l d)):=by
  intro σ v hv
  have h:=gm7 (ae2 l) (ac6 (ae2 l).names d.name) (by rw[hlook]; have:=ag7 (fun p=>decide (p.name=d.name)) l; omega) 122 [.ab7 d.cs] (fun n=>named (l.getD n.toNat default) d) fok122.1 (fun n hn=>by
   rw[hlook] at hn;obtain ⟨m,rfl,hm⟩:=numsOf_at hn;refine ⟨m,rfl,by rw[hi.all]; exact hm,?_⟩;have e:(ae2 l).all[m]'(by rw[hi.all]; exact hm)=l[m]:=by simp only[hi.all]
   rw[e,Int.toNat_natCast,getD_at l m hm];exact cn5 l[m] m d (hs _ (List.getElem_mem hm)) hd) σ
  rw[ef2] at h;rcases hv with rfl|⟨rfl,h0⟩
  ·exact h
  ·rw[h0] at h;refine fr7 (args':=[(ae2 l).v,.aa5 [],.func (.func 122) [] [.ab7 d.cs]]) rfl (fun i hi=>?_) h;have hw:∀ {v:IV} {σ:Store},Bnd 0 v->Frz σ (fun _=>true=true) v v:=fun h=>.keep _ (h.weak fun _ _=>rfl)
   match i,hi with
   | 0,_=>exact hw (av7 (ae2 l))
   | 1,_=>exact .dd3
   | 2,_=>exact hw (.func _ _ _ (fun c hc=>by cases hc) (ae6 (ba3 d)))
 have hx:(ae2 l).v=.ab7 [.aa5 ((ae2 l).all.map aa3.cs),.ak1 (nmV (ae2 l).as2),.ak1 (nmV (ae2 l).names),.ak1 (nmV (ae2 l).over)]:=rfl;have d0:d.cs.head? = some (.str d.name):=rfl
 have hk0:∀ σ:Store,∃ v,co8 σ 2 .aa1 false (.ak1 (nmV (ae2 l).names)) (.str d.name)=some v/\∀ τ,C Tryz.prog EE 49 [(ae2 l).v,v,.func (.func 122) [] [.ab7 d.cs]] τ (de5 τ (al8 l d)):=fun σ=>
  let ⟨v,h1,h2⟩:=dr5 (ae2 l).names σ d.name
  ⟨v,h1,fun τ=>hsift τ v h2⟩
 clear hsift hlook;rw[hx] at hk0 ⊢;generalize (ae2 l).all.map aa3.cs=a0 at *;refine C_f fok74 (nZ rfl) ?_;simp only[ic74,go_sem,ai9,ag5,af9,d0];obtain ⟨v,hk,hsv⟩:=hk0 ⟨σ.next+11,σ.obj⟩;simp only[go_sem,hk];refine aj9 fok49 (hsv _) ?_;rintro v' s ⟨hkp,hr⟩;refine ⟨hkp.next,?_⟩;simp only[go_sem];exact ⟨hkp.low,hr.low (Nat.le_add_right _ _)⟩
theorem ht9 (a:ab9){n:Int}(h:a.job n=true):0<=n/\n<a.r.af3.length/\(a.r.af3.map Job.cs).getD n.toNat []=(a.jb n).cs/\a.jb n∈a.r.af3:=by
 unfold ab9.job at h;simp only[Bool.and_eq_true,decide_eq_true_eq] at h;have c1:n.toNat<a.r.af3.length:=by omega
 have e:a.jb n=a.r.af3[n.toNat]:=by simp[ab9.jb,List.getD_eq_getElem?_getD,c1]
 exact ⟨h.1,h.2,by rw[e]; simp[List.getD_eq_getElem?_getD,c1],by rw[e]; exact List.getElem_mem c1⟩
theorem ay9 (a:ab9)(j:Int)(hA:AOK a):PC Tryz.prog EE 29 [a.v,.int .i64 j] (.aa5 ((a.meant j).map Md.af2)):=by
 refine af5 hE fok29 (nZ rfl) (aj2 (ah1 a) (.int _ _)) ?_;have h1:=co3 a j;have hba:=ah1 a;have hcl:=fs5 a;have hlen:=hA.len;unfold ab9.meant
 cases hj:a.job j with
 | false=>
  rw[hj] at h1;unfold ab9.v ab9.cs at *;simp only[ic29,go_sem]
  first|refine aa4 fok60 (h1) ?_|refine aa2 (h1) ?_
  simp only[go_sem]
  exact .dd3
 | true=>
  rw[hj] at h1;obtain ⟨j1,j2,j3,j4⟩:=ht9 a hj;have hds:=hA.gm9 _ j4;have hP:=cn6 a.l (a.jb j).dep (by omega) hA.small hds;have hN:=cn7 a.l (a.jb j).dep (by omega) hA.small hds;have hNc:=fb5 a.l (a.jb j).dep (by omega) hA.small hds;have b1:=ag1 (al7 a.l (a.jb j).dep);have b2:=ag1 (al8 a.l (a.jb j).dep);have nl:(al8 a.l (a.jb j).dep).length<=a.l.length:=ag7 _ _;have k0:(a.jb j).cs.head? = some (.int .u8 (a.jb j).kind):=rfl;have k1:=ci5 (a.jb j);have k2:((a.jb j).cs.drop 1).length=5:=rfl;generalize a.jb j=x at *;generalize al8 a.l x.dep=nm at *;generalize al7 a.l x.dep=pv at *;unfold ab9.v ab9.cs at *;generalize (ae2 a.l).v=X at *;have c21:¬ (2:Int)=1:=by decide
  by_cases e1:x.kind=1
  ·rw[if_pos rfl,if_pos e1];simp only[ic29,go_sem]
   first|refine aa4 fok60 (h1) ?_|refine aa2 (h1) ?_
   simp only[go_sem,j1,j2,j3,au1,aw6,ao7,k0,k1,k2,e1]
   first|refine aa4 fok73 (hP) ?_|refine aa2 (hP) ?_
   simp only[go_sem];exact .keep _ b1
  by_cases e2:x.kind=2
  ·rw[if_pos rfl,if_neg e1,if_pos e2];simp only[ic29,go_sem]
   first|refine aa4 fok60 (h1) ?_|refine aa2 (h1) ?_
   simp only[go_sem,j1,j2,j3,au1,aw6,ao7,k0,k1,k2,e2,c21]
   first|refine aa4 fok74 (hN) ?_|refine aa2 (hN) ?_
   simp only[go_sem,k0,e2];exact .keep _ b2
  ·rw[if_pos rfl,if_neg e1,if_neg e2];simp only[ic29,go_sem]
   first|refine aa4 fok60 (h1) ?_|refine aa2 (h1) ?_
   simp only[go_sem,j1,j2,j3,au1,aw6,ao7,k0,k1,k2,e1];refine aj9 fok74 (hNc _) ?_;rintro v s ⟨hk,hr⟩;refine ⟨hk.next,?_⟩;have o0:s.obj 0=some (.cells x.cs):=(hk.obj 0 (Nat.succ_pos _)).trans (by simp only[aa7,if_true]);simp only[go_sem,o0,k0,e2];refine aj9 fok71 (ht8 (fun n=>!a.inst n) (by omega) hr.w fok75.1 (am3 (.ab7 _ (am3 hba))) fun z hz=>hcl z) ?_;rintro v s ⟨⟨h1,_⟩,hr⟩;refine ⟨h1,?_⟩;have ef:(nm.filter fun x=>!(!a.inst x))=nm.filter fun n=>a.inst n:=List.filter_congr fun x _=>Bool.not_not _
   rw[ef] at hr;simp only[go_sem];exact hr.frz fun i _=>Nat.not_lt_zero i
theorem gh9 (state:List Int)(n:Int)(hs:state.length<2^40):PC Tryz.prog EE 173 [.int .i64 n,.ab7 [.aa5 (state.map Md.af2)]] (.bool (decide (n∈state))):=by
 refine af5 hE fok173 (nZ rfl) (aj2 (.int _ _) (.ab7 _ (am3 (ag1 state)))) ?_;have h:=cn4 state n hs;simp only[ic173,go_sem]
 first|refine aa4 fok94 (h) ?_|refine aa2 (h) ?_
 simp only[go_sem];exact ab2 rfl
theorem di4 (state l:List Int)(hs:state.length<2^40)(hl:l.length<2^40):PC Tryz.prog EE 124 [.aa5 (state.map Md.af2),.aa5 (l.map Md.af2)] (.bool (ab9.some state l)):=by
 refine af5 hE fok124 (nZ rfl) (aj2 (ag1 _) (ag1 _)) ?_;have h:=co2 l 173 [] [.ab7 [.aa5 (state.map Md.af2)]] (fun n=>decide (n∈state)) (by omega) fok173.1 fun x hx=>gh9 state x hs
 simp only[ic124,go_sem]
 first|refine aa4 fok125 (h) ?_|refine aa2 (h) ?_
 simp only[go_sem];exact ab2 rfl
theorem bv2 (a:ab9)(j:Int):(a.meant j).length<=a.l.length:=by
 unfold ab9.meant;split
 ·split
  ·exact ag7 _ _
  ·split
   ·exact ag7 _ _
   ·exact Nat.le_trans (List.length_filter_le _ _) (ag7 _ _)
 ·exact Nat.zero_le _
theorem di5 (a:ab9)(j:Int)(state:List Int)(hA:AOK a)(hs:state.length<2^40):PC Tryz.prog EE 78 [a.v,.int .i64 j,.aa5 (state.map Md.af2)] (.bool (ab9.some state (a.meant j))):=by
 refine af5 hE fok78 (nZ rfl) (bc8 (ah1 a) (.int _ _) (ag1 _)) ?_;have h1:=ay9 a j hA;have h2:=di4 state (a.meant j) hs (by have:=bv2 a j; have:=hA.len; omega);simp only[ic78,go_sem]
 first|refine aa4 fok29 (h1) ?_|refine aa2 (h1) ?_
 simp only[go_sem]
 first|refine aa4 fok124 (h2) ?_|refine aa2 (h2) ?_
 simp only[go_sem];exact ab2 rfl
theorem eb9 (a:ab9)(j:Int)(state:List Int)(hA:AOK a)(hs:state.length<2^40):PC Tryz.prog EE 79 [a.v,.int .i64 j,.aa5 (state.map Md.af2)] (.bool (!ab9.some state (a.meant j))):=by
 refine af5 hE fok79 (nZ rfl) (bc8 (ah1 a) (.int _ _) (ag1 _)) ?_;have h1:=ay9 a j hA;have h2:=di4 state (a.meant j) hs (by have:=bv2 a j; have:=hA.len; omega);simp only[ic79,go_sem]
 first|refine aa4 fok29 (h1) ?_|refine aa2 (h1) ?_
 simp only[go_sem]
 first|refine aa4 fok124 (h2) ?_|refine aa2 (h2) ?_
 simp only[go_sem];exact ab2 rfl
theorem ec1 (a:ab9)(i:Int)(state:List Int)(hA:AOK a)(hs:state.length<2^40):PC Tryz.prog EE 126 [.int .i64 i,.ab7 [.aa5 (state.map Md.af2)],.ab7 [a.v]] (.bool (!ab9.some state (a.aq4 i))):=by
 refine af5 hE fok126 (nZ rfl) (bc8 (.int _ _) (.ab7 _ (am3 (ag1 _))) (.ab7 _ (am3 (ah1 a)))) ?_;have h1:=co7 a i hA;have h2:=di4 state (a.aq4 i) hs (by have:=a.cm1 i; have:=hA.len; omega);simp only[ic126,go_sem]
 first|refine aa4 fok25 (h1) ?_|refine aa2 (h1) ?_
 simp only[go_sem]
 first|refine aa4 fok124 (h2) ?_|refine aa2 (h2) ?_
 simp only[go_sem];exact ab2 rfl
theorem gi1 (a:ab9)(i:Int)(state:List Int)(hA:AOK a)(hs:state.length<2^40):PC Tryz.prog EE 127 [.int .i64 i,.ab7 [a.v],.ab7 [.aa5 (state.map Md.af2)]] (.bool (decide (0<(a.bn5 i).length)&&!ab9.some state (a.bn5 i))):=by
 refine af5 hE fok127 (nZ rfl) (bc8 (.int _ _) (.ab7 _ (am3 (ah1 a))) (.ab7 _ (am3 (ag1 _)))) ?_;have h1:=db8 a i hA;have h2:=di4 state (a.bn5 i) hs (by have:=a.gb6 i; have:=hA.len; omega);simp only[ic127,go_sem]
 first|refine aa4 fok27 (h1) ?_|refine aa2 (h1) ?_
 by_cases e:0<(a.bn5 i).length
 ·have e':(0:Int)<(a.bn5 i).length:=by omega
  simp only[go_sem,e']
  first|refine aa4 fok124 (h2) ?_|refine aa2 (h2) ?_
  simp only[go_sem];exact ab2 (by simp[e])
 ·have e':¬ (0:Int)<(a.bn5 i).length:=by omega
  simp only[go_sem,e'];exact ab2 (by simp[e])
theorem di6 (a:ab9)(j:Int)(state:List Int)(hA:AOK a)(hs:state.length<2^40):PC Tryz.prog EE 80 [a.v,.int .i64 j,.aa5 (state.map Md.af2)] (.bool (!(a.meant j).any fun i=>!ab9.some state (a.aq4 i))):=by
 refine af5 hE fok80 (nZ rfl) (bc8 (ah1 a) (.int _ _) (ag1 _)) ?_;have h1:=ay9 a j hA;have h2:=co2 (a.meant j) 126 [] [.ab7 [.aa5 (state.map Md.af2)],.ab7 [a.v]] (fun i=>!ab9.some state (a.aq4 i)) (by have:=bv2 a j; have:=hA.len; omega) fok126.1 fun x hx=>ec1 a x state hA hs
 have vcs:a.v.cs=[a.v]:=rfl;have vlf:a.v.leaf=true:=rfl;simp only[ic80,go_sem,vcs,List.all_cons,vlf,List.all_nil,List.head?_cons]
 first|refine aa4 fok29 (h1) ?_|refine aa2 (h1) ?_
 simp only[go_sem]
 first|refine aa4 fok125 (h2) ?_|refine aa2 (h2) ?_
 simp only[go_sem];exact ab2 rfl
theorem fb6 (a:ab9)(j:Int)(state:List Int)(hA:AOK a)(hs:state.length<2^40):PC Tryz.prog EE 81 [a.v,.int .i64 j,.aa5 (state.map Md.af2)] (.bool (!(a.meant j).any fun i=>decide (0<(a.bn5 i).length)&&!ab9.some state (a.bn5 i))):=by
 refine af5 hE fok81 (nZ rfl) (bc8 (ah1 a) (.int _ _) (ag1 _)) ?_;have h1:=ay9 a j hA;have h2:=co2 (a.meant j) 127 [] [.ab7 [a.v],.ab7 [.aa5 (state.map Md.af2)]] (fun i=>decide (0<(a.bn5 i).length)&&!ab9.some state (a.bn5 i)) (by have:=bv2 a j; have:=hA.len; omega) fok127.1 fun x hx=>gi1 a x state hA hs
 have vcs:a.v.cs=[a.v]:=rfl;have vlf:a.v.leaf=true:=rfl;simp only[ic81,go_sem,vcs,List.all_cons,vlf,List.all_nil,List.head?_cons]
 first|refine aa4 fok29 (h1) ?_|refine aa2 (h1) ?_
 simp only[go_sem]
 first|refine aa4 fok125 (h2) ?_|refine aa2 (h2) ?_
 simp only[go_sem];exact ab2 rfl
theorem di7 (a:ab9)(j:Int)(state:List Int)(hA:AOK a)(hs:state.length<2^40):PC Tryz.prog EE 31 [a.v,.int .i64 j,.aa5 (state.map Md.af2)] (.bool (a.av6 j state)):=by
 refine af5 hE fok31 (nZ rfl) (bc8 (ah1 a) (.int _ _) (ag1 _)) ?_;have h1:=co3 a j;have c1:=di5 a j state hA hs;have c2:=eb9 a j state hA hs;have c3:=di6 a j state hA hs;have c4:=fb6 a j state hA hs;unfold ab9.av6
 cases hj:a.job j with
 | false=>
  rw[hj] at h1;simp only[ic31,go_sem]
  first|refine aa4 fok60 (h1) ?_|refine aa2 (h1) ?_
  simp only[go_sem]
  exact ab2 rfl
 | true=>
  rw[hj] at h1;obtain ⟨j1,j2,j3,j4⟩:=ht9 a hj;have hk:=hA.ht5 _ j4;have k0:(a.jb j).cs.head? = some (.int .u8 (a.jb j).kind):=rfl;generalize ab9.some state (a.meant j)=B1 at *;generalize ((a.meant j).any fun i=>!ab9.some state (a.aq4 i))=B3 at *;generalize ((a.meant j).any fun i=>decide (0<(a.bn5 i).length)&&!ab9.some state (a.bn5 i))=B4 at *;generalize a.jb j=x at *;unfold ab9.v ab9.cs at *;have hk4:x.kind=1\/x.kind=2\/x.kind=3\/x.kind=4:=by omega
  simp only[ic31,go_sem]
  first|refine aa4 fok60 (h1) ?_|refine aa2 (h1) ?_
  have nfl:IV.ad4.leaf=true:=rfl;have q1:¬ (2:Int)=1:=by decide
  have q2:¬ (3:Int)=1:=by decide
  have q3:¬ (3:Int)=2:=by decide
  have q4:¬ (4:Int)=1:=by decide
  have q5:¬ (4:Int)=2:=by decide
  have q6:¬ (4:Int)=3:=by decide
  rcases hk4 with e|e|e|e
  ·simp only[go_sem,j1,j2,j3,au1,aw6,ao7,k0,e,nfl]
   first|refine aa4 fok78 (c1) ?_|refine aa2 (c1) ?_
   simp only[go_sem];exact ab2 rfl
  ·simp only[go_sem,j1,j2,j3,au1,aw6,ao7,k0,e,nfl,q1]
   first|refine aa4 fok79 (c2) ?_|refine aa2 (c2) ?_
   simp only[go_sem];exact ab2 rfl
  ·simp only[go_sem,j1,j2,j3,au1,aw6,ao7,k0,e,nfl,q2,q3]
   first|refine aa4 fok80 (c3) ?_|refine aa2 (c3) ?_
   simp only[go_sem];exact ab2 rfl
  ·simp only[go_sem,j1,j2,j3,au1,aw6,ao7,k0,e,nfl,q4,q5,q6]
   first|refine aa4 fok81 (c4) ?_|refine aa2 (c4) ?_
   simp only[go_sem];exact ab2 rfl
structure fs6 (r:Req):Prop where
 af3:r.af3.length<2^20
 ae1:r.ae1.length<2^20
 gm9:∀ j∈r.af3,Dep.small j.dep/\j.dep.name.length<2^30
theorem av8 (r:Req):∀ c∈r.cs,Bnd 0 c:=gs7 (.int _ _) (.bool _) (bu6 _) (ay8 _) (.int _ _)
theorem gx4 (r:Req):r.cs.length=5:=rfl
theorem ai1 (r:Req):r.cs.all IV.leaf=true:=rfl
theorem bf1 (r:Req):r.cs.take 5=r.cs:=rfl
theorem fs7 (j:Job)(h:Dep.small j.dep/\j.dep.name.length<2^30):PC Tryz.prog EE 37 [.agg j.cs] (.bool (!av2 j)):=by
 refine af5 hE fok37 (nZ rfl) (am3 (gg6 j)) ?_;have hd:=bt8 j.dep (by omega) (by have:=h.1.2.2.1; omega) (by have:=h.1.2.2.2; omega);have k0:j.cs.head? = some (.int .u8 j.kind):=rfl;have k1:=ci5 j;have k2:(j.cs.drop 1).length=5:=rfl;unfold av2;by_cases e1:j.kind<1
 ·have e1':¬ 1<=j.kind:=by omega
  simp only[ic37,go_sem,ao7,k0,e1];exact ab2 (by simp[e1'])
 have e1':1<=j.kind:=by omega
 by_cases e2:4<j.kind
 ·have e2':¬ j.kind<=4:=by omega
  simp only[ic37,go_sem,ao7,k0,e1,e2];exact ab2 (by simp[e2'])
 have e2':j.kind<=4:=by omega
 simp only[ic37,go_sem,ao7,k0,k1,k2,e1,e2]
 first|refine aa4 fok38 (hd) ?_|refine aa2 (hd) ?_
 simp only[go_sem];exact ab2 (by simp[e1',e2'])
theorem fb7 (e:at5)(af3 inst:Int):PC Tryz.prog EE 41 [.agg e.cs,.int .i64 af3,.int .i64 inst] (.bool (aq5 e af3 inst)):=by
 refine af5 hE fok41 (nZ rfl) (bc8 (bu7 e) (.int _ _) (.int _ _)) ?_;have k0:e.cs.head? = some (.int .u8 e.kind):=rfl;have k1:(e.cs.drop 1).head? = some (.int .i64 e.n):=rfl;unfold aq5;by_cases d1:e.kind=1
 case' pos=>
  have f1:(1:Int)<=1:=by decide
  have f2:(1:Int)<=4:=by decide
  rw[d1] at k0 ⊢;simp only[ic41,go_sem,ah4,k0,f1,f2,k1];generalize af3=most
 case' neg=>
  rw[if_neg d1];by_cases d2:1<=e.kind
  case' neg=>
   simp only[ic41,go_sem,ah4,k0,d1,d2];exact ab2 (by simp)
  by_cases d3:e.kind<=4
  case' neg=>
   simp only[ic41,go_sem,ah4,k0,d1,d2,d3];exact ab2 (by simp)
  simp only[ic41,go_sem,ah4,k0,d1,d2,d3,k1];generalize inst=most
 all_goals
  by_cases d4:0<=e.n
  ·simp only[go_sem,d4,k1];exact ab2 (by simp)
  ·simp only[go_sem,d4];exact ab2 (by simp)
theorem gx5 (e:at5)(p:Pool)(r:Req):PC Tryz.prog EE 40 [.agg e.cs,.ab7 r.cs,.ab7 [p.v]] (.bool (!aq5 e r.af3.length p.inst)):=by
 refine af5 hE fok40 (nZ rfl) (bc8 (bu7 e) (.ab7 _ (av8 r)) (.ab7 _ (am3 (be8 p)))) ?_;have h1:=bf4 p;have h2:=fb7 e r.af3.length p.inst;have k2:(r.cs.drop 2).head? = some (av1 r.af3):=rfl;simp only[ic40,go_sem,ah4,ak9,am6,k2]
 first|refine aa4 fok42 (h1) ?_|refine aa2 (h1) ?_
 simp only[go_sem]
 first|refine aa4 fok41 (h2) ?_|refine aa2 (h2) ?_
 simp only[go_sem];exact ab2 rfl
theorem gn1 (r:Req)(h1:r.af3.length<=2147483648)(h2:r.ae1.length<=2147483648):PC Tryz.prog EE 44 [.agg r.cs] (.agg r.cs):=by
 refine af5 hE fok44 (nZ rfl) (am3 (.agg _ (av8 r))) ?_;have c1:=eb3 r.af3 h1;have c2:=ds5 r.ae1 h2;have hb:=av8 r;unfold Req.cs at *;simp only[ic44,go_sem]
 first|refine aa4 fok95 (c1) ?_|refine aa2 (c1) ?_
 simp only[go_sem]
 first|refine aa4 fok96 (c2) ?_|refine aa2 (c2) ?_
 simp only[go_sem];exact .keep _ (.agg _ hb)
theorem gx6 {α:Type}(q:α->Bool)(l:List α):(l.any fun x=>!q x)=!l.all q:=by
 induction l with
 | nil=>rfl
 | cons x l ih=>simp only[List.any_cons,List.all_cons,ih,Bool.not_and]
theorem fs8 (p:Pool)(r:Req)(hR:fs6 r)(hl:(ae5 p).length<=256)(hf:∀ x∈ae5 p,x.Fit/\x.Tiny):PC Tryz.prog EE 6 [p.v,.agg r.cs] (gz7 p r):=by
 refine af5 hE fok6 (nZ rfl) (aj2 (be8 p) (.agg _ (av8 r))) ?_;have hm:=cd8 r.ao9;have hJ:=fr9 r.af3 37 [] [] (fun j=>!av2 j) (by have:=hR.af3; omega) fok37.1 fun j hj=>fs7 j (hR.gm9 j hj)
 have hEd:=fb1 r.ae1 40 [] [.ab7 r.cs,.ab7 [p.v]] (fun e=>!aq5 e r.af3.length p.inst) (by have:=hR.ae1; omega) fok40.1 fun e he=>gx5 e p r
 rw[gx6] at hJ hEd;have hrl:p.rows.length=(ae5 p).length:=by simp[ae5]
 have hM:=bq1 p (fun x hx=>(hf _ (List.mem_map_of_mem (f:=fun x:bb5=>x.pkg) hx)).1) (by omega) (fun x hx=>by
  have:=(hf _ (List.mem_map_of_mem (f:=fun x:bb5=>x.pkg) hx)).2;have a:=this.as2.1; have b:=this.obs.1; have c:=this.files; omega)
 have hM:PC Tryz.prog EE 43 [p.v] (.tuple [(ae2 (ae5 p)).v,.int .i64 0]):=hM;have hO:=gn1 r (by have:=hR.af3; omega) (by have:=hR.ae1; omega);have hC:=bh7 p;rw[hrl] at hC
 have hpk:∀ j (h:j<(ae5 p).length),PC Tryz.prog EE 45 [p.v,.int .i64 j] (.tuple [.agg (ae5 p)[j].cs,.int .i64 0]):=fun j h=>by
  have hq:p.rows[j].pkg=(ae5 p)[j]:=by simp[ae5]
  have h1:=bo1 p j (by omega) (by rw[hq]; exact (hf _ (List.getElem_mem h)).1);rw[hq] at h1; exact h1
 have hbA:=ah1 ⟨p,r⟩;have k0:r.cs.head? = some (.int .u8 r.ao9):=rfl;have k2:(r.cs.drop 2).head? = some (av1 r.af3):=rfl;have k3:(r.cs.drop 3).head? = some (am1 r.ae1):=rfl;have k4:(r.cs.drop 4).head? = some (.int .i64 r.budget):=rfl;obtain ⟨V,hV⟩:∃ V,gz7 p r=V:=⟨_,rfl⟩
 have herr:∀ (s:Store) (e:Int),ak8 r p.inst=e->e≠0->dj1 s 0 (.tuple [.ac2,.int .i64 e]) V:=fun s e h1 h2=>by
  rw[<- hV];unfold gz7;rw[h1,if_neg h2];exact .keep _ (.tuple _ (aj2 .ac2 (.int _ _)))
 rw[hV];have vcs:p.v.cs=[p.v]:=rfl;have vlf:p.v.leaf=true:=rfl;have vnl:∀ d:TypeId,co9 (.pointer d) p.v=some false:=fun _=>rfl
 by_cases c1:bb3 r.ao9=false
 ·simp only[ic6,go_sem,vcs,List.all_cons,vlf,List.all_nil,List.head?_cons,ai1,vnl,k0]
  first|refine aa4 fok35 (hm) ?_|refine aa2 (hm) ?_
  simp only[go_sem,c1];exact herr _ 1 (by unfold ak8; rw[if_pos (.inl c1)]) (by decide)
 have c1':bb3 r.ao9=true:=by simpa using c1
 by_cases c2:r.budget<0
 ·simp only[ic6,go_sem,vcs,List.all_cons,vlf,List.all_nil,List.head?_cons,ai1,vnl,k0]
  first|refine aa4 fok35 (hm) ?_|refine aa2 (hm) ?_
  simp only[go_sem,c1',k4,c2];exact herr _ 1 (by unfold ak8; rw[if_pos (.inr (.inl c2))]) (by decide)
 by_cases c3:1099511627776<r.budget
 ·simp only[ic6,go_sem,vcs,List.all_cons,vlf,List.all_nil,List.head?_cons,ai1,vnl,k0]
  first|refine aa4 fok35 (hm) ?_|refine aa2 (hm) ?_
  simp only[go_sem,c1',k4,c2,c3];exact herr _ 1 (by unfold ak8; rw[if_pos (.inr (.inr c3))]) (by decide)
 have q1:¬ (bb3 r.ao9=false\/r.budget<0\/1099511627776<r.budget):=fun h=>h.elim c1 fun h=>h.elim c2 c3
 by_cases c4:64<r.af3.length
 ·have c4':(64:Int)<r.af3.length:=by omega
  simp only[ic6,go_sem,vcs,List.all_cons,vlf,List.all_nil,List.head?_cons,ai1,vnl,k0]
  first|refine aa4 fok35 (hm) ?_|refine aa2 (hm) ?_
  simp only[go_sem,c1',k4,c2,c3,k2,c4'];exact herr _ 40 (by unfold ak8; rw[if_neg q1,if_pos (.inl c4)]) (by decide)
 have c4':¬ (64:Int)<r.af3.length:=by omega
 by_cases c5:64<r.ae1.length
 ·have c5':(64:Int)<r.ae1.length:=by omega
  simp only[ic6,go_sem,vcs,List.all_cons,vlf,List.all_nil,List.head?_cons,ai1,vnl,k0]
  first|refine aa4 fok35 (hm) ?_|refine aa2 (hm) ?_
  simp only[go_sem,c1',k4,c2,c3,k2,k3,c4',c5'];exact herr _ 40 (by unfold ak8; rw[if_neg q1,if_pos (.inr c5)]) (by decide)
 have c5':¬ (64:Int)<r.ae1.length:=by omega
 have q2:¬ (64<r.af3.length\/64<r.ae1.length):=fun h=>h.elim c4 c5
 by_cases c6:r.af3.all av2=false
 ·simp only[ic6,go_sem,vcs,List.all_cons,vlf,List.all_nil,List.head?_cons,ai1,vnl,k0]
  first|refine aa4 fok35 (hm) ?_|refine aa2 (hm) ?_
  simp only[go_sem,c1',k4,c2,c3,k2,k3,c4',c5']
  first|refine aa4 fok36 (hJ) ?_|refine aa2 (hJ) ?_
  simp only[go_sem,c6,Bool.not_false];exact herr _ 4 (by unfold ak8; rw[if_neg q1,if_neg q2,if_pos c6]) (by decide)
 have c6':r.af3.all av2=true:=by simpa using c6
 simp only[ic6,go_sem,vcs,List.all_cons,vlf,List.all_nil,List.head?_cons,ai1,vnl,k0]
 first|refine aa4 fok35 (hm) ?_|refine aa2 (hm) ?_
 simp only[go_sem,c1',k4,c2,c3,k2,k3,c4',c5']
 first|refine aa4 fok36 (hJ) ?_|refine aa2 (hJ) ?_
 simp only[go_sem,c6',Bool.not_true,k3]
 first|refine aa4 fok39 (hEd) ?_|refine aa2 (hEd) ?_
 by_cases c7:(r.ae1.all fun e=>aq5 e r.af3.length p.inst)=false
 ·simp only[go_sem,c7,Bool.not_false];exact herr _ 5 (by unfold ak8; rw[if_neg q1,if_neg q2,if_neg c6,if_pos c7]) (by decide)
 have c7':(r.ae1.all fun e=>aq5 e r.af3.length p.inst)=true:=by simpa using c7
 have hV0:V=.tuple [.ab7 [p.v,(ae2 (ae5 p)).v,.int .u8 r.ao9,.bool r.vendor,av1 r.af3,am1 r.ae1,.int .i64 r.budget,.aa5 ((ae5 p).map aa3.cs)],.int .i64 0]:=by
  rw[<- hV];unfold gz7;rw[if_pos (by unfold ak8; rw[if_neg q1,if_neg q2,if_neg c6,if_neg c7])];rfl
 have hbX:=av7 (ae2 (ae5 p));have hbP:=be8 p;rw[hV0];clear herr hV hV0 hJ hEd;simp only[go_sem,c7',Bool.not_true]
 first|refine aa4 fok43 (hM) ?_|refine aa2 (hM) ?_
 simp only[go_sem,gx4,bf1]
 first|refine aa4 fok44 (hO) ?_|refine aa2 (hO) ?_
 have hrc:r.cs=[.int .u8 r.ao9,.bool r.vendor,av1 r.af3,am1 r.ae1,.int .i64 r.budget]:=rfl;rw[hrc];have xlf:(ae2 (ae5 p)).v.leaf=true:=rfl;have xcs:(ae2 (ae5 p)).v.cs=[(ae2 (ae5 p)).v]:=rfl;generalize (ae2 (ae5 p)).v=X at *;generalize hPv:p.v=Pv at *;simp only[go_sem,vcs,vlf,xlf,xcs]
 first|refine aa4 fok13 (hC) ?_|refine aa2 (hC) ?_
 simp only[go_sem];refine ab5 noT (fun n fr s=>∃ gv,fr=[(2,.ab7 [Pv]),(8,.ptr 5 0),(65,.int .i64 (ae5 p).length),(66,.int .i64 (n:Int))]/\7<=s.next/\s.obj 5=some (.cells [Pv,X,.int .u8 r.ao9,.bool r.vendor,av1 r.af3,am1 r.ae1,.int .i64 r.budget,gv])/\Grow s gv 15 (((ae5 p).take n).map aa3.cs)) (ae5 p).length ⟨.aa1,rfl,Nat.le_refl _,by simp only[aa7,if_true],.inl ⟨rfl,rfl⟩⟩ ?_;rintro n fr s hn ⟨gv,rfl,hnx,ho,hg⟩;by_cases hlt:n<(ae5 p).length
 ·have d1:(n:Int)<((ae5 p).length:Int):=by omega
  have w1:=ad9 (i:=n) (by omega);have hp:=hpk n hlt;have n5:¬ 5=s.next:=by omega
  have htk:(ae5 p).take (n+1)=(ae5 p).take n++[(ae5 p)[n]]:=by
   rw[List.take_add_one,List.getElem?_eq_getElem hlt]; rfl
  have hgl:gv.leaf=true:=by rcases hg with ⟨rfl,_⟩|⟨id,rfl,_⟩<;>rfl
  have hgc:gv.cs=[gv]:=by rcases hg with ⟨rfl,_⟩|⟨id,rfl,_⟩<;>rfl
  simp only[go_sem,d1]
  first|refine aa4 fok45 (hp) ?_|refine aa2 (hp) ?_
  simp only[go_sem,al9,al2,ah9,n5,ho,b_o,b_p,b_t];obtain ⟨s1,a1,a2,a3,a4⟩:=fz3 (k:=11) (nid:=s.next+1+1+1+1+1+1+1+1) (e:=(ae5 p)[n].cs) (A:=.cells [.str [],.int .i64 0,.str [],.str [],.int .u8 0,.str [],.aa1,.aa1,.aa1,.aa1,.aa1,.aa1,.aa1,.aa1,.aa1]) (B:=.cells (ae5 p)[n].cs) hg (bh8 _) ⟨rfl,rfl⟩ (by rw[List.length_map,List.length_take]; omega) ho (by omega) (by omega);simp only[go_sem,a1,a3,b_o,b_p,b_t,w1];refine ⟨hlt,_,by rw[a2]; omega,rfl,?_⟩;rw[htk,List.map_append];have a5:=a4 [Pv,X,.int .u8 r.ao9,.bool r.vendor,av1 r.af3,am1 r.ae1,.int .i64 r.budget,.slice (s.next+1+1+1+1+1+1+1+1) 0 (((ae5 p).take n).length+1) 15] s1.next (by rw[a2]; omega);rw[List.length_map] at a5;exact a5
 ·have hn':n=(ae5 p).length:=by omega
  subst hn';have d1:¬ ((ae5 p).length:Int)<((ae5 p).length:Int):=by omega
  rw[List.take_length] at hg;simp only[go_sem,d1]
  have hbe:∀ e∈(ae5 p).map aa3.cs,∀ c∈e,Bnd 0 c:=fun e he c hc=>by
   obtain ⟨y,_,rfl⟩:=List.mem_map.1 he;exact ay6 y c hc
  refine .cs6 (.cons (.ptr 5 0 _ _ (Nat.not_lt_zero _) (.inl ho) (Nat.le_refl _) (fun j hj=>?_)) (.cons (co1 rfl) .nil))
  match j,hj with
  | 0,_=>exact .keep _ hbP
  | 1,_=>exact .keep _ hbX
  | 2,_=>exact .keep _ (.int _ _)
  | 3,_=>exact .keep _ (.bool _)
  | 4,_=>exact .keep _ (bu6 _)
  | 5,_=>exact .keep _ (ay8 _)
  | 6,_=>exact .keep _ (.int _ _)
  | 7,_=>exact hg.frz (fun x hx=>(bh8 _ x hx).1) (fun _ _=>Nat.not_lt_zero _) hbe
open Go Go.Id Go.Proofs Go.Id.Md
theorem ds6 (l:List ab1)(n:Int)(hl:l.length<2^62)(ih:∀ r∈l,∀ m:Int,PC Tryz.prog EE 83 [af8 r.args,.int .i64 m] (.int .i64 (ptR r m))) :
  PC Tryz.prog EE 83 [af8 l,.int .i64 n] (.int .i64 (ptL l n 0)):=by
 refine av4 fok83 (nZ rfl) fun σ=>?_
 simp only[ic83,go_sem];refine ab5 noT (fun i fr t=>∃ w:Int,t.obj=σ.obj/\t.next=σ.next/\fr=[(0,af8 l),(1,.int .i64 n),(5,.int .i64 w),(6,.int .i64 i)]/\ptL l n 0=ptL (l.drop i) n w) l.length ⟨0,rfl,rfl,rfl,rfl⟩ ?_;rintro i fr t hi ⟨w,ho,hn,rfl,hf⟩;have ht:t=σ:=by cases t; cases σ; simp only at ho hn; rw[ho,hn]
 subst ht;by_cases hlt:i<l.length
 ·obtain ⟨r,ha,_,hdr,hget,_⟩:=ad5 l i hlt;have c1:(i:Int)<l.length:=by omega
  have c2:(0:Int)<=i:=by omega
  have w1:=ad9 (i:=i) (by omega);rw[hdr,ptL] at hf;by_cases hw:w<n
  ·rw[if_pos hw] at hf;simp only[go_sem,c1,c2,hw,hget,ae3,gf8];refine aa4 fok83 (ih r ha _) ?_;simp only[go_sem,w1];exact ⟨hlt,_,rfl,hf⟩
  ·rw[if_neg hw] at hf;simp only[go_sem,c1,hw];rw[hf]
 ·have hi':i=l.length:=by omega
  subst hi';have c1:¬ (l.length:Int)<l.length:=by omega
  rw[List.drop_length,ptL] at hf;simp only[go_sem,c1,hf,and_self]
theorem gi2 (r:ab1):r.ok->∀ m:Int,PC Tryz.prog EE 83 [af8 r.args,.int .i64 m] (.int .i64 (ptR r m)):=by
 induction r using ab1.ind with
 | h k d xs ih=>
  intro ho m;obtain ⟨_,_,_,h4,h5⟩:=ab1.gt6.1 ho;rw[hr9];exact ds6 xs m h4 fun r hr m=>ih r hr (h5 r hr) m
theorem gi3 (l:List ab1)(hl:l.length<2^62)(h:∀ r∈l,r.ok)(n:Int):PC Tryz.prog EE 83 [af8 l,.int .i64 n] (.int .i64 (ptL l n 0)):=
 ds6 l n hl fun r hr m=>gi2 r (h r hr) m
theorem bn2 (l:List aa3)(n:Int)(hl:l.length<2^62)(h:∀ p∈l,p.Ok):PC Tryz.prog EE 33 [ar8 l,.int .i64 n] (.int .i64 (szL l n 0)):=by
 refine af5 hE fok33 (nZ rfl) (ag9 (ao6 l) (.int _ _)) ?_;simp only[ic33,go_sem];refine ab5 noT (fun i fr t=>∃ w:Int,fr=[(0,ar8 l),(1,.int .i64 n),(5,.int .i64 w),(6,.int .i64 i)]/\szL l n 0=szL (l.drop i) n w) l.length ⟨0,rfl,rfl⟩ ?_;rintro i fr t hi ⟨w,rfl,hf⟩;by_cases hlt:i<l.length
 ·obtain ⟨p,ha,_,hdr,hget,_⟩:=ad5 l i hlt;have c1:(i:Int)<l.length:=by omega
  have c2:(0:Int)<=i:=by omega
  have w1:=ad9 (i:=i) (by omega);rw[hdr,szL] at hf;by_cases hw:w<n
  ·rw[if_pos hw] at hf;have f6:(p.cs.drop 6).head? = some (deps p.provides):=rfl;have f7:(p.cs.drop 7).head? = some (af8 p.requires):=rfl;have f8:(p.cs.drop 8).head? = some (af8 p.conflicts):=rfl;have f9:(p.cs.drop 9).head? = some (deps p.aa8):=rfl;have f10:(p.cs.drop 10).head? = some (af8 p.ac1):=rfl;have f11:(p.cs.drop 11).head? = some (af8 p.ab8):=rfl;have f12:(p.cs.drop 12).head? = some (af8 p.suggests):=rfl;have f13:(p.cs.drop 13).head? = some (af8 p.ad6):=rfl;have f14:(p.cs.drop 14).head? = some (strs p.files):=rfl;simp only[go_sem,c1,c2,hw,hget,ag3,ae8,ae4,f6,f7,f8,f9,f10,f11,f12,f13,f14,be5];have hL:∀ (k:Nat) (hk:k<(ax7 p).length),((ax7 p).map lR).getD k []=[af8 (ax7 p)[k]]:=fun k hk=>by simp[List.getD_eq_getElem?_getD,hk,lR]
   have hok:=fr3 (h p ha);have hlen:(ax7 p).length=6:=rfl;unfold szP wr at hf;generalize hw0:IntKind.i64.wrap (IntKind.i64.wrap (IntKind.i64.wrap (IntKind.i64.wrap (w+1)+p.provides.length)+p.aa8.length)+p.files.length)=w0 at *;have hl6:IV.aa5 [[af8 p.requires],[af8 p.conflicts],[af8 p.ac1],[af8 p.ab8],[af8 p.suggests],[af8 p.ad6]]=.aa5 ((ax7 p).map lR):=rfl;rw[hl6];have hf':szL l n 0=szL (l.drop (i+1)) n (gw1 (ax7 p) n w0):=hf;clear hf hdr hget f6 f7 f8 f9 f10 f11 f12 f13 f14 hl6;refine ab5 noT (fun k fr u=>∃ v:Int,fr=[(0,ar8 l),(1,.int .i64 n),(5,.int .i64 v),(6,.int .i64 i),(51,.aa5 ((ax7 p).map lR)),(52,.int .i64 6),(53,.int .i64 k)]/\gw1 (ax7 p) n w0=gw1 ((ax7 p).drop k) n v) 6 ⟨w0,rfl,rfl⟩ ?_;rintro k fr u hk ⟨v,rfl,hs⟩;by_cases hlt2:k<6
   ·have d1:(k:Int)<6:=by omega
    have d2:(0:Int)<=k:=by omega
    have d3:(k:Int)<(ax7 p).length:=by omega
    have w2:=ad9 (i:=k) (by omega);have hk2:k<(ax7 p).length:=by omega
    have hgk:=hL k hk2;obtain ⟨o1,o2⟩:=hok _ (List.getElem_mem hk2);rw[List.drop_eq_getElem_cons hk2,gw1] at hs;generalize (ax7 p)[k]=x at *;simp only[go_sem,d1,d2,d3,hgk];refine aa4 fok83 (gi3 x o1 o2 n) ?_;simp only[go_sem,w2];exact ⟨hlt2,_,rfl,hs⟩
   ·have hk':k=6:=by omega
    subst hk';have d1:¬ ((6:Nat):Int)<6:=by omega
    rw[List.drop_of_length_le (by omega),gw1] at hs;rw[hs] at hf';simp only[go_sem,d1,w1];exact ⟨hlt,_,rfl,hf'⟩
  ·rw[if_neg hw] at hf;simp only[go_sem,c1,hw];rw[hf];exact ac7 _ _
 ·have hi':i=l.length:=by omega
  subst hi';have c1:¬ (l.length:Int)<l.length:=by omega
  rw[List.drop_length,szL] at hf;simp only[go_sem,c1];rw[hf];exact ac7 _ _
theorem ba5 (xs ys:List Int)(h1:xs.length<2^62)(h2:ys.length<2^62):PC Tryz.prog EE 9 [.aa5 (xs.map Md.af2),.aa5 (ys.map Md.af2)] (.bool (decide (xs=ys))):=by
 refine af5 hE fok9 (nZ rfl) (ag9 (ag1 xs) (ag1 ys)) ?_;by_cases hl:xs.length=ys.length
 case neg=>
  have hl':¬ (xs.length:Int)=ys.length:=by omega
  have:decide (xs=ys)=false:=decide_eq_false fun e=>hl (by rw[e])
  simp only[ic9,go_sem,hl',this];exact ab6 _
 have hl':(xs.length:Int)=ys.length:=by omega
 have hl2:decide ((xs.length:Int)=ys.length)=true:=decide_eq_true hl';simp only[ic9,go_sem,hl2];refine ab5 noT (fun i fr s=>fr=[(0,.aa5 (xs.map Md.af2)),(1,.aa5 (ys.map Md.af2)),(5,.int .i64 i)]/\xs.take i=ys.take i) xs.length ⟨rfl,rfl⟩ ?_;rintro i fr s hi ⟨rfl,hf⟩;by_cases hlt:i<xs.length
 ·obtain ⟨x,hx,hxi,hdr,hget,htk⟩:=ad5 xs i hlt;obtain ⟨y,hy,hyi,hdr2,hget2,htk2⟩:=ad5 ys i (by omega);have c1:(i:Int)<xs.length:=by omega
  have c3:(i:Int)<ys.length:=by omega
  have c2:(0:Int)<=i:=by omega
  have w1:=ad9 (i:=i) (by omega);simp only[go_sem,c1,c2,c3,hget,hget2,Md.af2,w1];by_cases hxy:x=y
  ·have hd:decide (x=y)=true:=decide_eq_true hxy;simp only[go_sem,hd,w1];refine ⟨hlt,?_⟩;rw[htk,htk2,hf,hxy]
  ·have hd:decide (x=y)=false:=decide_eq_false hxy;have hne:decide (xs=ys)=false:=decide_eq_false fun e=>hxy (by rw[e] at hxi; rw[hxi] at hyi; cases hyi; rfl)
   simp only[go_sem,hd,hne];exact ab6 _
 ·have hi':i=xs.length:=by omega
  subst hi';have c1:¬ (xs.length:Int)<xs.length:=by omega
  rw[List.take_length,hl,List.take_length] at hf;have:decide (xs=ys)=true:=decide_eq_true hf;simp only[go_sem,c1,this];exact ab6 _
def lgN (m:Int):List ao8->Int->Int
 | [],w=>w
 | r::rs,w=>if w<m then lgN m rs (wr (wr (w+1)+szL r.packages m 0)) else w
theorem fb8 (repos:List ao8)(inst:List aa3)(r:Req)(h1:repos.length<2^62)(h2:inst.length<2^62)(hr:∀ r∈repos,ao8.Ok r)(hi:∀ p∈inst,p.Ok) :
  PC Tryz.prog EE 4 [bf3 repos,ar8 inst,.agg r.cs] (.bool (decide (2000<=lgN 2000 repos (szL inst 2000 0))||decide (100<r.af3.length)||decide (100<r.ae1.length))):=by
 refine af5 hE fok4 (nZ rfl) (bc8 (bu3 repos) (ao6 inst) (.agg _ (av8 r))) ?_;have k2:(r.cs.drop 2).head? = some (av1 r.af3):=rfl;have k3:(r.cs.drop 3).head? = some (am1 r.ae1):=rfl;simp only[ic4,go_sem,ai1]
 first|refine aa4 fok33 (bn2 inst 2000 h2 hi) ?_|refine aa2 (bn2 inst 2000 h2 hi) ?_
 simp only[go_sem];refine ab5 noT (fun i fr t=>∃ w:Int,fr=[(0,bf3 repos),(5,.ab7 r.cs),(7,.int .i64 w),(8,.int .i64 i)]/\lgN 2000 repos (szL inst 2000 0)=lgN 2000 (repos.drop i) w) repos.length ⟨_,rfl,rfl⟩ ?_;rintro i fr t hle ⟨w,rfl,hf⟩;by_cases hlt:i<repos.length/\w<2000
 ·obtain ⟨hlt,hw⟩:=hlt;obtain ⟨x,ha,_,hdr,hget,_⟩:=ad5 repos i hlt;have c1:(i:Int)<repos.length:=by omega
  have c2:(0:Int)<=i:=by omega
  have w1:=ad9 (i:=i) (by omega);rw[hdr,lgN,if_pos hw] at hf;have f1:(x.cs.drop 1).head? = some (ar8 x.packages):=rfl;simp only[go_sem,c1,c2,hw,hget,ci2,f1]
  first|refine aa4 fok33 (bn2 x.packages 2000 (hr x ha).1 (hr x ha).2) ?_|refine aa2 (bn2 x.packages 2000 (hr x ha).1 (hr x ha).2) ?_
  simp only[go_sem,w1];exact ⟨hlt,_,rfl,hf⟩
 have hw2:lgN 2000 (repos.drop i) w=w:=by
  by_cases hl2:i<repos.length
  ·obtain ⟨x,ha,_,hdr,hget,_⟩:=ad5 repos i hl2;rw[hdr,lgN,if_neg (fun h=>hlt ⟨hl2,h⟩)]
  ·rw[List.drop_of_length_le (by omega)]; rfl
 rw[hw2] at hf;rw[hf];by_cases hl2:i<repos.length
 case' pos=>
  have c1:(i:Int)<repos.length:=by omega
  have hw:¬ w<2000:=fun h=>hlt ⟨hl2,h⟩
  have hw':2000<=w:=by omega
  simp only[go_sem,c1,hw,hw'];exact ab2 (by simp)
 have c1:¬ (i:Int)<repos.length:=by omega
 by_cases hw:2000<=w
 ·simp only[go_sem,c1,hw];exact ab2 (by simp)
 by_cases hj:100<r.af3.length
 ·have hj':(100:Int)<r.af3.length:=by omega
  simp only[go_sem,c1,hw,k2,hj'];exact ab2 (by simp[hj])
 have hj':¬ (100:Int)<r.af3.length:=by omega
 by_cases he:100<r.ae1.length
 ·have he':(100:Int)<r.ae1.length:=by omega
  simp only[go_sem,c1,hw,k2,k3,hj',he'];exact ab2 (by simp[he])
 ·have he':¬ (100:Int)<r.ae1.length:=by omega
  simp only[go_sem,c1,hw,k2,k3,hj',he'];exact ab2 (by simp[he,hj])
theorem aok {repos:List ao8}{inst:List aa3}{p:Pool}{r:Req}(hI:hz6 repos inst)(hn:cq1 repos inst=.inl p)(hR:fs6 r)(he:ak8 r p.inst=0):AOK ⟨p,r⟩:=by
 have hf:=gm4 hI hn;have hlen:(ae5 p).length<=256:=by simp only[ae5,List.length_map]; exact ef4 hn
 unfold ak8 at he;split at he
 ·cases he
 split at he
 ·cases he
 rename_i hb;split at he
 ·cases he
 rename_i hj;refine ⟨hlen,fun x hx=>(hf x hx).2.1,fun x hx=>(hf x hx).1,fun x hx=>(hf x hx).2.2,?_,?_,?_,fun j hj=>(hR.gm9 j hj).1,fun j hjm=>?_⟩
 ·have h1:=bt2 hn
  have h2:p.inst=inst.length:=by
   unfold cq1 at hn;split at hn
   ·cases hn
   split at hn
   ·cases hn
   split at hn
   ·cases hn; rfl
   ·cases hn
  show p.inst<=((ae5 p).length:Nat);rw[h2,h1,List.length_append]; omega
 ·show r.af3.length<=64; omega
 ·show r.ae1.length<=128; omega
 ·have h1:r.af3.all av2=true:=by simpa using hj
  have h2:=List.all_eq_true.1 h1 j hjm;unfold av2 at h2;simp only[Bool.and_eq_true,decide_eq_true_eq] at h2;exact ⟨h2.1.1,h2.1.2⟩
end Go.Id.Tryz
