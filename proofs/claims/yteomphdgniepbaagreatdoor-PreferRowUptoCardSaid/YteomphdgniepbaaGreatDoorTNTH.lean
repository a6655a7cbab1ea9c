/- What is asked for,made. Conditions: sizes that fit. -/
import Derived.Test.YteomphdgniepbaaGreatDoorTNSH
import Derived.Test.YteomphdgniepbaaGreatDoorTNQF
set_option linter.all false
namespace Go.Id.Tryz
open Go Go.Id Go.Proofs Go.Shelf Go.Id.Md
set_option maxRecDepth 100000
structure ef3 (r:Req):Prop where
 au3:r.au3.length<2^20
 am2:r.am2.length<2^20
 it8:∀ j∈r.au3,Dep.small j.dep∧j.dep.name.length<2^30
theorem bj6 (r:Req):∀ c∈r.cs,Bnd 0 c:=is1 (.int _ _) (.bool _) (bw8 _) (bj5 _) (.int _ _)
theorem bs2 (r:Req):r.cs.length=5:=rfl
theorem ap4 (r:Req):r.cs.all IV.leaf=true:=rfl
theorem bo9 (r:Req):r.cs.take 5=r.cs:=rfl
theorem fy1 (j:Job)(h:Dep.small j.dep∧j.dep.name.length<2^30):PC Tryz.prog EE 126 [.agg j.cs] (.bool (!ch6 j)):=by
 refine ai1 hE fok126 (nZ rfl) (bh9 (gn9 j)) ?_;have hd:=bi7 j.dep (by omega) (by have:=h.1.2.2.1; omega) (by have:=h.1.2.2.2; omega);have k0:j.cs.head? = some (.int .u8 j.kind):=rfl;have k1:=go3 j;have k2:(j.cs.drop 1).length=5:=rfl;unfold ch6;by_cases e1:j.kind<1
 ·have e1':¬ 1≤j.kind:=by omega
  simp only[ic126,go_sem,bw7,k0,e1];exact af7 (by simp[e1'])
 have e1':1≤j.kind:=by omega
 by_cases e2:4<j.kind
 ·have e2':¬ j.kind≤4:=by omega
  simp only[ic126,go_sem,bw7,k0,e1,e2];exact af7 (by simp[e2'])
 have e2':j.kind≤4:=by omega
 simp only[ic126,go_sem,bw7,k0,k1,k2,e1,e2]
 first|refine aa5 fok127 (hd) ?_|refine aa6 (hd) ?_
 simp only[go_sem];exact af7 (by simp[e1',e2'])
theorem fe9 (e:bf9)(au3 inst:Int):PC Tryz.prog EE 130 [.agg e.cs,.int .i64 au3,.int .i64 inst] (.bool (br5 e au3 inst)):=by
 refine ai1 hE fok130 (nZ rfl) (bc6 (dv3 e) (.int _ _) (.int _ _)) ?_;have k0:e.cs.head? = some (.int .u8 e.kind):=rfl;have k1:(e.cs.drop 1).head? = some (.int .i64 e.n):=rfl;unfold br5;by_cases d1:e.kind=1
 case' pos=>
  have f1:(1:Int)≤1:=by decide
  have f2:(1:Int)≤4:=by decide
  rw[d1] at k0 ⊢;simp only[ic130,go_sem,az1,k0,f1,f2,k1];generalize au3=most
 case' neg=>
  rw[if_neg d1];by_cases d2:1≤e.kind
  case' neg=>
   simp only[ic130,go_sem,az1,k0,d1,d2];exact af7 (by simp)
  by_cases d3:e.kind≤4
  case' neg=>
   simp only[ic130,go_sem,az1,k0,d1,d2,d3];exact af7 (by simp)
  simp only[ic130,go_sem,az1,k0,d1,d2,d3,k1];generalize inst=most
 all_goals
  by_cases d4:0≤e.n
  ·simp only[go_sem,d4,k1];exact af7 (by simp)
  ·simp only[go_sem,d4];exact af7 (by simp)
theorem ho6 (e:bf9)(p:Pool)(r:Req):PC Tryz.prog EE 129 [.agg e.cs,.ac2 r.cs,.ac2 [p.v]] (.bool (!br5 e r.au3.length p.inst)):=by
 refine ai1 hE fok129 (nZ rfl) (bc6 (dv3 e) (.ac2 _ (bj6 r)) (.ac2 _ (bh9 (ar9 p)))) ?_;have h1:=bf5 p;have h2:=fe9 e r.au3.length p.inst;have k2:(r.cs.drop 2).head? = some (cj5 r.au3):=rfl;simp only[ic129,go_sem,az1,dl5,dv2,k2]
 first|refine aa5 fok131 (h1) ?_|refine aa6 (h1) ?_
 simp only[go_sem]
 first|refine aa5 fok130 (h2) ?_|refine aa6 (h2) ?_
 simp only[go_sem];exact af7 rfl
theorem gu3 (r:Req)(h1:r.au3.length≤2147483648)(h2:r.am2.length≤2147483648):PC Tryz.prog EE 133 [.agg r.cs] (.agg r.cs):=by
 refine ai1 hE fok133 (nZ rfl) (bh9 (.agg _ (bj6 r))) ?_;have c1:=ef2 r.au3 h1;have c2:=dv5 r.am2 h2;have hb:=bj6 r;unfold Req.cs at *;simp only[ic133,go_sem]
 first|refine aa5 fok211 (c1) ?_|refine aa6 (c1) ?_
 simp only[go_sem]
 first|refine aa5 fok212 (c2) ?_|refine aa6 (c2) ?_
 simp only[go_sem];exact .keep _ (.agg _ hb)
theorem ho7 {α:Type}(q:α→Bool)(l:List α):(l.any fun x=>!q x)=!l.all q:=by
 induction l with
 | nil=>rfl
 | cons x l ih=>simp only[List.any_cons,List.all_cons,ih,Bool.not_and]
theorem fy2 (p:Pool)(r:Req)(hR:ef3 r)(hl:(ad1 p).length≤256)(hf:∀ x∈ad1 p,x.Fit∧x.Tiny):PC Tryz.prog EE 54 [p.v,.agg r.cs] (if2 p r):=by
 refine ai1 hE fok54 (nZ rfl) (al2 (ar9 p) (.agg _ (bj6 r))) ?_;have hm:=fd3 r.ao2;have hJ:=fx2 r.au3 126 [] [] (fun j=>!ch6 j) (by have:=hR.au3; omega) fok126.1 fun j hj=>fy1 j (hR.it8 j hj)
 have hEd:=fe8 r.am2 129 [] [.ac2 r.cs,.ac2 [p.v]] (fun e=>!br5 e r.au3.length p.inst) (by have:=hR.am2; omega) fok129.1 fun e he=>ho6 e p r
 rw[ho7] at hJ hEd;have hrl:p.rows.length=(ad1 p).length:=by simp[ad1]
 have hM:=be5 p (fun x hx=>(hf _ (List.mem_map_of_mem (f:=fun x:az3=>x.pkg) hx)).1) (by omega) (fun x hx=>by
  have:=(hf _ (List.mem_map_of_mem (f:=fun x:az3=>x.pkg) hx)).2;have a:=this.ax1.1; have b:=this.obs.1; have c:=this.files; omega)
 have hM:PC Tryz.prog EE 132 [p.v] (.tuple [(av5 (ad1 p)).v,.int .i64 0]):=hM;have hO:=gu3 r (by have:=hR.au3; omega) (by have:=hR.am2; omega);have hC:=av9 p;rw[hrl] at hC
 have hpk:∀ j (h:j<(ad1 p).length),PC Tryz.prog EE 48 [p.v,.int .i64 j] (.tuple [.agg (ad1 p)[j].cs,.int .i64 0]):=fun j h=>by
  have hq:p.rows[j].pkg=(ad1 p)[j]:=by simp[ad1]
  have h1:=ba7 p j (by omega) (by rw[hq]; exact (hf _ (List.getElem_mem h)).1);rw[hq] at h1; exact h1
 have hbA:=be7 ⟨p,r⟩;have k0:r.cs.head? = some (.int .u8 r.ao2):=rfl;have k2:(r.cs.drop 2).head? = some (cj5 r.au3):=rfl;have k3:(r.cs.drop 3).head? = some (bi5 r.am2):=rfl;have k4:(r.cs.drop 4).head? = some (.int .i64 r.budget):=rfl;obtain ⟨V,hV⟩:∃ V,if2 p r=V:=⟨_,rfl⟩
 have herr:∀ (s:Store) (e:Int),as4 r p.inst=e→e≠0→co8 s 0 (.tuple [.ab6,.int .i64 e]) V:=fun s e h1 h2=>by
  rw[← hV];unfold if2;rw[h1,if_neg h2];exact .keep _ (.tuple _ (al2 .ab6 (.int _ _)))
 rw[hV];have vcs:p.v.cs=[p.v]:=rfl;have vlf:p.v.leaf=true:=rfl;have vnl:∀ d:TypeId,ck5 (.pointer d) p.v=some false:=fun _=>rfl
 by_cases c1:fc2 r.ao2=false
 ·simp only[ic54,go_sem,vcs,List.all_cons,vlf,List.all_nil,List.head?_cons,ap4,vnl,k0]
  first|refine aa5 fok124 (hm) ?_|refine aa6 (hm) ?_
  simp only[go_sem,c1];exact herr _ 1 (by unfold as4; rw[if_pos (.inl c1)]) (by decide)
 have c1':fc2 r.ao2=true:=by simpa using c1
 by_cases c2:r.budget<0
 ·simp only[ic54,go_sem,vcs,List.all_cons,vlf,List.all_nil,List.head?_cons,ap4,vnl,k0]
  first|refine aa5 fok124 (hm) ?_|refine aa6 (hm) ?_
  simp only[go_sem,c1',k4,c2];exact herr _ 1 (by unfold as4; rw[if_pos (.inr (.inl c2))]) (by decide)
 by_cases c3:1099511627776<r.budget
 ·simp only[ic54,go_sem,vcs,List.all_cons,vlf,List.all_nil,List.head?_cons,ap4,vnl,k0]
  first|refine aa5 fok124 (hm) ?_|refine aa6 (hm) ?_
  simp only[go_sem,c1',k4,c2,c3];exact herr _ 1 (by unfold as4; rw[if_pos (.inr (.inr c3))]) (by decide)
 have q1:¬ (fc2 r.ao2=false∨r.budget<0∨1099511627776<r.budget):=fun h=>h.elim c1 fun h=>h.elim c2 c3
 by_cases c4:64<r.au3.length
 ·have c4':(64:Int)<r.au3.length:=by omega
  simp only[ic54,go_sem,vcs,List.all_cons,vlf,List.all_nil,List.head?_cons,ap4,vnl,k0]
  first|refine aa5 fok124 (hm) ?_|refine aa6 (hm) ?_
  simp only[go_sem,c1',k4,c2,c3,k2,c4'];exact herr _ 40 (by unfold as4; rw[if_neg q1,if_pos (.inl c4)]) (by decide)
 have c4':¬ (64:Int)<r.au3.length:=by omega
 by_cases c5:64<r.am2.length
 ·have c5':(64:Int)<r.am2.length:=by omega
  simp only[ic54,go_sem,vcs,List.all_cons,vlf,List.all_nil,List.head?_cons,ap4,vnl,k0]
  first|refine aa5 fok124 (hm) ?_|refine aa6 (hm) ?_
  simp only[go_sem,c1',k4,c2,c3,k2,k3,c4',c5'];exact herr _ 40 (by unfold as4; rw[if_neg q1,if_pos (.inr c5)]) (by decide)
 have c5':¬ (64:Int)<r.am2.length:=by omega
 have q2:¬ (64<r.au3.length∨64<r.am2.length):=fun h=>h.elim c4 c5
 by_cases c6:r.au3.all ch6=false
 ·simp only[ic54,go_sem,vcs,List.all_cons,vlf,List.all_nil,List.head?_cons,ap4,vnl,k0]
  first|refine aa5 fok124 (hm) ?_|refine aa6 (hm) ?_
  simp only[go_sem,c1',k4,c2,c3,k2,k3,c4',c5']
  first|refine aa5 fok125 (hJ) ?_|refine aa6 (hJ) ?_
  simp only[go_sem,c6,Bool.not_false];exact herr _ 4 (by unfold as4; rw[if_neg q1,if_neg q2,if_pos c6]) (by decide)
 have c6':r.au3.all ch6=true:=by simpa using c6
 simp only[ic54,go_sem,vcs,List.all_cons,vlf,List.all_nil,List.head?_cons,ap4,vnl,k0]
 first|refine aa5 fok124 (hm) ?_|refine aa6 (hm) ?_
 simp only[go_sem,c1',k4,c2,c3,k2,k3,c4',c5']
 first|refine aa5 fok125 (hJ) ?_|refine aa6 (hJ) ?_
 simp only[go_sem,c6',Bool.not_true,k3]
 first|refine aa5 fok128 (hEd) ?_|refine aa6 (hEd) ?_
 by_cases c7:(r.am2.all fun e=>br5 e r.au3.length p.inst)=false
 ·simp only[go_sem,c7,Bool.not_false];exact herr _ 5 (by unfold as4; rw[if_neg q1,if_neg q2,if_neg c6,if_pos c7]) (by decide)
 have c7':(r.am2.all fun e=>br5 e r.au3.length p.inst)=true:=by simpa using c7
 have hV0:V=.tuple [.ac2 [p.v,(av5 (ad1 p)).v,.int .u8 r.ao2,.bool r.vendor,cj5 r.au3,bi5 r.am2,.int .i64 r.budget,.aa3 ((ad1 p).map aa2.cs)],.int .i64 0]:=by
  rw[← hV];unfold if2;rw[if_pos (by unfold as4; rw[if_neg q1,if_neg q2,if_neg c6,if_neg c7])];rfl
 have hbX:=cr6 (av5 (ad1 p));have hbP:=ar9 p;rw[hV0];clear herr hV hV0 hJ hEd;simp only[go_sem,c7',Bool.not_true]
 first|refine aa5 fok132 (hM) ?_|refine aa6 (hM) ?_
 simp only[go_sem,bs2,bo9]
 first|refine aa5 fok133 (hO) ?_|refine aa6 (hO) ?_
 have hrc:r.cs=[.int .u8 r.ao2,.bool r.vendor,cj5 r.au3,bi5 r.am2,.int .i64 r.budget]:=rfl;rw[hrc];have xlf:(av5 (ad1 p)).v.leaf=true:=rfl;have xcs:(av5 (ad1 p)).v.cs=[(av5 (ad1 p)).v]:=rfl;generalize (av5 (ad1 p)).v=X at *;generalize hPv:p.v=Pv at *;simp only[go_sem,vcs,vlf,xlf,xcs]
 first|refine aa5 fok15 (hC) ?_|refine aa6 (hC) ?_
 simp only[go_sem];refine ab3 noT (fun n fr s=>∃ gv,fr=[(2,.ac2 [Pv]),(8,.ptr 5 0),(65,.int .i64 (ad1 p).length),(66,.int .i64 (n:Int))]∧7≤s.next∧s.obj 5=some (.cells [Pv,X,.int .u8 r.ao2,.bool r.vendor,cj5 r.au3,bi5 r.am2,.int .i64 r.budget,gv])∧Grow s gv 15 (((ad1 p).take n).map aa2.cs)) (ad1 p).length ⟨.aa1,rfl,Nat.le_refl _,by simp only[aa4,if_true],.inl ⟨rfl,rfl⟩⟩ ?_;rintro n fr s hn ⟨gv,rfl,hnx,ho,hg⟩;by_cases hlt:n<(ad1 p).length
 ·have d1:(n:Int)<((ad1 p).length:Int):=by omega
  have w1:=ad6 (i:=n) (by omega);have hp:=hpk n hlt;have n5:¬ 5=s.next:=by omega
  have htk:(ad1 p).take (n+1)=(ad1 p).take n++[(ad1 p)[n]]:=by
   rw[List.take_add_one,List.getElem?_eq_getElem hlt]; rfl
  have hgl:gv.leaf=true:=by rcases hg with ⟨rfl,_⟩|⟨id,rfl,_⟩<;>rfl
  have hgc:gv.cs=[gv]:=by rcases hg with ⟨rfl,_⟩|⟨id,rfl,_⟩<;>rfl
  simp only[go_sem,d1]
  first|refine aa5 fok48 (hp) ?_|refine aa6 (hp) ?_
  simp only[go_sem,ak5,al9,ai4,n5,ho,b_o,b_p,b_t];obtain ⟨s1,a1,a2,a3,a4⟩:=ei7 (k:=11) (nid:=s.next+1+1+1+1+1+1+1+1) (e:=(ad1 p)[n].cs) (A:=.cells [.str [],.int .i64 0,.str [],.str [],.int .u8 0,.str [],.aa1,.aa1,.aa1,.aa1,.aa1,.aa1,.aa1,.aa1,.aa1]) (B:=.cells (ad1 p)[n].cs) hg (br6 _) ⟨rfl,rfl⟩ (by rw[List.length_map,List.length_take]; omega) ho (by omega) (by omega);simp only[go_sem,a1,a3,b_o,b_p,b_t,w1];refine ⟨hlt,_,by rw[a2]; omega,rfl,?_⟩;rw[htk,List.map_append];have a5:=a4 [Pv,X,.int .u8 r.ao2,.bool r.vendor,cj5 r.au3,bi5 r.am2,.int .i64 r.budget,.slice (s.next+1+1+1+1+1+1+1+1) 0 (((ad1 p).take n).length+1) 15] s1.next (by rw[a2]; omega);rw[List.length_map] at a5;exact a5
 ·have hn':n=(ad1 p).length:=by omega
  subst hn';have d1:¬ ((ad1 p).length:Int)<((ad1 p).length:Int):=by omega
  rw[List.take_length] at hg;simp only[go_sem,d1]
  have hbe:∀ e∈(ad1 p).map aa2.cs,∀ c∈e,Bnd 0 c:=fun e he c hc=>by
   obtain ⟨y,_,rfl⟩:=List.mem_map.1 he;exact al7 y c hc
  refine .ch2 (.cons (.ptr 5 0 _ _ (Nat.not_lt_zero _) (.inl ho) (Nat.le_refl _) (fun j hj=>?_)) (.cons (bw1 rfl) .nil))
  match j,hj with
  | 0,_=>exact .keep _ hbP
  | 1,_=>exact .keep _ hbX
  | 2,_=>exact .keep _ (.int _ _)
  | 3,_=>exact .keep _ (.bool _)
  | 4,_=>exact .keep _ (bw8 _)
  | 5,_=>exact .keep _ (bj5 _)
  | 6,_=>exact .keep _ (.int _ _)
  | 7,_=>exact hg.frz (fun x hx=>(br6 _ x hx).1) (fun _ _=>Nat.not_lt_zero _) hbe
theorem bx5 (l:List Dep):∀ x∈l.map Dep.cs,x.length=5∧x.all IV.leaf=true:=fun x hx=>by
 obtain ⟨d,_,rfl⟩:=List.mem_map.1 hx; exact ⟨rfl,rfl⟩
theorem eo2 (d:Dep):∀ c∈d.cs,Bnd 0 c:=fun c hc=>by
 simp only[Dep.cs,List.mem_cons,List.not_mem_nil,or_false] at hc;rcases hc with rfl|rfl|rfl|rfl|rfl
 ·exact .str _
 ·exact .int _ _
 ·exact .int _ _
 ·exact .str _
 ·exact .str _
def ck4 (p:aa7×Bool):Option Dep:=if p.1.kind=1 then some p.1.dep else none
theorem go7 (r:aa7)(hf:r.fit)(hc:r.count<2^30):PC Tryz.prog EE 136 [.agg r.cs] (.aa3 (r.atoms.map Dep.cs)):=by
 refine ai1 hE fok136 (nZ rfl) (af4 (ah1 _)) ?_;simp only[ic136,go_sem,ab7,ac9,ab9];refine ad3 fok213 (ed1 r _) ?_;rintro v s1 ⟨rfl,hb,hn,hs⟩;refine ⟨hn,?_⟩;simp only[go_sem] at hn hs hb ⊢;have h0:s1.obj 0=some (.cells [.aa1]):=by rw[hs 0 (by omega)]; rfl
 have hb1:=hb.1;refine co5 (cg1 r hf 1) (fun rest t=>boxed 1 t∧∃ (ps rs:List (aa7×Bool)) (v:IV),rest=rs.map row∧ps++rs=r.parts false∧t.obj 0=some (.cells [v])∧s1.next<t.next∧Grow t v 5 ((ps.filterMap ck4).map Dep.cs)∧∀ id k,v=.slice id 0 k 5→s1.next<id) (fun _ _ h=>h.1) ?_ dj8 ?_ ?_ ?_
 ·rintro rest t t' ⟨⟨q1,q2⟩,ps,rs,v,h1,h2,h3,h4,h5,h6⟩ hn' hs';exact ⟨⟨by omega,by rw[hs' 1 q1]; exact q2⟩,ps,rs,v,h1,h2,by rw[hs' 0 (by omega)]; exact h3,by omega,h5.mono hn' fun id _ hid=>hs' id hid,h6⟩
 ·intro o;have e0:¬ 0=s1.next:=by omega
  have e1:¬ 1=s1.next:=by omega
  refine ⟨⟨by show 1<s1.next+1; omega,by simp only[aa4,e1,if_false]; exact hb.2⟩,[],r.parts false,.aa1,rfl,rfl,by simp only[aa4,e0,if_false]; exact h0,Nat.lt_succ_self _,.inl ⟨rfl,rfl⟩,fun id k h=>by cases h⟩
 ·rintro L pre a rest t hev ⟨⟨q1,q2⟩,ps,rs,v,h1,h2,h3,h4,h5,h6⟩ hL hlt
  cases rs with
  | nil=>cases h1
  | cons p rs=>
  rw[List.map_cons] at h1;obtain ⟨ha,hrest⟩:=List.cons.inj h1;subst ha;obtain ⟨⟨k,d,xs⟩,al⟩:=p;simp only[row,ab1] at hL hlt ⊢;have e1:¬ s1.next=t.next:=by omega
  have e2:¬ 0=t.next:=by omega
  have e3:¬ s1.next=0:=by omega
  have e4:¬ 0=s1.next:=by omega
  have e5:¬ 1=t.next:=by omega
  have e6:¬ 1=s1.next:=by omega
  have e7:¬ t.next=s1.next:=by omega
  have e8:¬ t.next=0:=by omega
  have e9:¬ 0=1:=by omega
  simp only[go_sem,hL,e1,e2,e3,e4,e5,e6,e7,e8,ab9,ac9,ab7,bx4,hn8,fx7,h3];generalize hU:Store.mk (t.next+1) _=U;have un:U.next=t.next+1:=by rw[← hU]
  have uL:U.obj s1.next=some (L .busy none):=by rw[← hU]; simp only[aa4,if_true]
  have uo:∀ i,i<t.next→i≠s1.next→U.obj i=t.obj i:=fun i hi hne=>by
   have:¬ i=t.next:=by omega
   rw[← hU]; simp only[aa4,hne,this,if_false]
  have u0:=uo 0 (by omega) e4;rw[h3] at u0;have ub:U.obj t.next=some (.cells (aa7.mk k d xs).cs):=by rw[← hU]; simp only[aa4,e7,if_false,if_true]
  have hg:Grow U v 5 ((ps.filterMap ck4).map Dep.cs):=h5.mono (by omega) fun id hv hid=>uo id hid (by have:=h6 _ _ hv; omega)
  have hcnt:ps.length+(rs.length+1)=r.count:=by
   have:=congrArg List.length h2;rw[List.length_append,List.length_cons,aa7.cr3] at this;exact this
  have hpl:(ps.filterMap ck4).length<2^30:=by
   have:=List.length_filterMap_le ck4 ps;omega
  have hbx:1<U.next∧U.obj 1=some (.cells [.func (.func 278) [] [.ptr 1 0]]):=⟨by omega,by rw[uo 1 q1 e6]; exact q2⟩;by_cases hk:k=1
  ·have hat:ck4 (aa7.mk k d xs,al)=some d:=by unfold ck4; rw[if_pos]; rfl; exact hk
   have hap:=am7 (nid:=U.next) (e:=d.cs) (σ:=⟨U.next+1,U.obj⟩) (hg.mono (Nat.le_succ _) fun _ _ _=>rfl) (bx5 _) ⟨rfl,rfl⟩ (by rw[List.length_map]; omega);have k0:=ah3 hg 0 (.cells [v]) u0 (fun _ h=>by cases h)
   have kL:(ak3 v ⟨U.next+1,U.obj⟩).obj s1.next=some (L .busy none):=by
    cases hv:v<;>try exact uL
    rename_i id o n' e;show (if s1.next=id then none else U.obj _)=_;rcases hg with ⟨h,_⟩|⟨id',h,_,_⟩
    ·rw[h] at hv; cases hv
    ·rw[hv] at h; cases h;have:=h6 _ _ hv;rw[if_neg (by omega)]; exact uL
   have k0':=ah3 (hg.mono (Nat.le_succ _) fun _ _ _=>rfl:Grow ⟨U.next+1,U.obj⟩ v 5 _) 0 (.cells [v]) u0 (fun _ h=>by cases h);have k1:=ah3 (hg.mono (Nat.le_succ _) fun _ _ _=>rfl:Grow ⟨U.next+1,U.obj⟩ v 5 _) 1 _ hbx.2 (fun _ h=>by cases h);have kn:=ah2 (σ:=⟨U.next+1,U.obj⟩) v;have x1:¬ 0=U.next:=by omega
   have x2:¬ s1.next=U.next:=by omega
   have x3:¬ 1=U.next:=by omega
   have x4:¬ U.next=s1.next:=by omega
   have x5:¬ U.next=0:=by omega
   have x6:¬ 1=0:=by omega
   rw[List.length_map] at hap;simp only[go_sem,hk,u0,ub,bx4,hn8,fx7,aw3,ar8,ao9,hap,k0',kL,x1,x2,e3,e4];refine dg9 (by simp only[ab1,kn]; omega) (by simp only[aa4,if_true]) ⟨⟨?_,?_⟩,ps++[(aa7.mk k d xs,al)],rs,.slice U.next 0 ((ps.filterMap ck4).length+1) 5,hrest,by rw[List.append_assoc]; exact h2,?_,?_,?_,fun id k h=>?_⟩
   ·simp only[ab1,kn]; omega
   ·simp only[aa4,x3,x6,e6,if_false]; exact k1
   ·simp only[aa4,e4,if_false,if_true]
   ·simp only[ab1,kn]; omega
   ·rw[List.filterMap_append];simp only[List.filterMap_cons,hat,List.filterMap_nil];rw[List.map_append];refine .inr ⟨U.next,by simp,?_,by simp only[ab1,kn]; omega⟩;simp only[aa4,x4,x5,if_false,if_true]; rfl
   ·cases h; omega
  ·have hat:ck4 (aa7.mk k d xs,al)=none:=by unfold ck4; rw[if_neg]; exact hk
   simp only[go_sem,hk,uL];refine dg9 (by rw[ab1,un]; omega) (by simp only[aa4,if_true]) ⟨⟨by rw[ab1]; exact hbx.1,by rw[aa4,if_neg e6]; exact hbx.2⟩,ps++[(aa7.mk k d xs,al)],rs,v,hrest,by rw[List.append_assoc]; exact h2,by rw[aa4,if_neg e4]; exact u0,by rw[ab1,un]; omega,?_,h6⟩;rw[List.filterMap_append];simp only[List.filterMap_cons,hat,List.filterMap_nil,List.append_nil];exact hg.mono (Nat.le_refl _) fun id hv _=>by rw[aa4,if_neg (by have:=h6 _ _ hv; omega)]
 ·rintro t o ⟨⟨q1,q2⟩,ps,rs,v,h1,h2,h3,h4,h5,h6⟩ hlt ho
  cases rs with
  | cons k rs=>cases h1
  | nil=>
  have e0:¬ 0=s1.next:=by omega
  rw[List.append_nil] at h2;have hat:r.atoms=ps.filterMap ck4:=by unfold aa7.atoms; rw[← h2]; rfl
  simp only[go_sem,e0,h3];rw[hat]
  have hg:Grow { next:=t.next,obj:=(t.kill s1.next).obj } v 5 ((ps.filterMap ck4).map Dep.cs):=h5.mono (Nat.le_refl _) fun id hv hid=>by
   have:=h6 _ _ hv;show (if id=s1.next then none else t.obj id)=_;rw[if_neg (by omega)]
  exact hg.frz (fun e he=>(bx5 _ e he).1) (fun _ _=>Nat.not_lt_zero _) fun e he c hc=>by
   obtain ⟨x,_,rfl⟩:=List.mem_map.1 he;exact eo2 x c hc
theorem ef4 (p:Pool)(hl:(ad1 p).length≤256)(hf:∀ x∈ad1 p,x.Fit∧x.Tiny):PC Tryz.prog EE 135 [p.v] (.tuple [an6 (ad1 p),.int .i64 0]):=by
 refine ai1 hE fok135 (nZ rfl) (bh9 (ar9 p)) ?_;have hrl:p.rows.length=(ad1 p).length:=by simp[ad1]
 have hM:=be5 p (fun x hx=>(hf _ (List.mem_map_of_mem (f:=fun x:az3=>x.pkg) hx)).1) (by omega) (fun x hx=>by
  have:=(hf _ (List.mem_map_of_mem (f:=fun x:az3=>x.pkg) hx)).2;have a:=this.ax1.1; have b:=this.obs.1; have c:=this.files; omega)
 have hM:PC Tryz.prog EE 132 [p.v] (.tuple [(av5 (ad1 p)).v,.int .i64 0]):=hM;have hC:=av9 p;rw[hrl] at hC;have hb:=aw1 (ad1 p);unfold an6 at *;have xlf:(av5 (ad1 p)).v.leaf=true:=rfl;have xcs:(av5 (ad1 p)).v.cs=[(av5 (ad1 p)).v]:=rfl;generalize (av5 (ad1 p)).v=X at *;simp only[ic135,go_sem]
 first|refine aa5 fok132 (hM) ?_|refine aa6 (hM) ?_
 simp only[go_sem]
 first|refine aa5 fok15 (hC) ?_|refine aa6 (hC) ?_
 simp only[go_sem,xlf,xcs];exact .keep _ (.tuple _ (al2 hb (.int _ _)))
theorem ff1 (a:av6):PC Tryz.prog EE 37 [a.v] a.p.v:=by
 refine ai1 hE fok37 (nZ rfl) (bh9 (be7 a)) ?_;have hb:=ar9 a.p;unfold av6.v av6.cs;simp only[ic37,go_sem,as3];exact .keep _ hb
theorem dl6 (a:av6)(hA:AOK a):PC Tryz.prog EE 134 [a.v] (.agg a.r.cs):=by
 refine ai1 hE fok134 (nZ rfl) (bh9 (be7 a)) ?_;have hO:=gu3 a.r (by have:=hA.au3; omega) (by have:=hA.am2; omega);have hb:=bj6 a.r;unfold av6.v av6.cs;unfold Req.cs at *;simp only[ic134,go_sem,as3]
 first|refine aa5 fok133 (hO) ?_|refine aa6 (hO) ?_
 simp only[go_sem];exact .keep _ (.agg _ hb)
theorem df1 {r:aa7}{wh:Int}(h:ar6 r wh=0):r.count≤24∧∀ d∈r.atoms,aj7 d=true:=by
 unfold ar6 at h;split at h
 ·cases h
 split at h
 ·cases h
 split at h
 ·cases h
 split at h
 case isFalse=>cases h
 rename_i hc _ hp;refine ⟨by omega,fun d hd=>?_⟩;unfold aa7.atoms at hd;obtain ⟨p,hp1,hp2⟩:=List.mem_filterMap.1 hd;have:=List.all_eq_true.1 hp p hp1;split at hp2
 ·rename_i hk;cases hp2;unfold ai5 at this;simp only[Bool.and_eq_true] at this;have h3:=this.2;rw[if_pos hk] at h3;exact h3
 ·cases hp2
theorem go8 {p:aa2}(h:ag7 p=true):(p.suggests.length≤32∧∀ r∈p.suggests,ar6 r 1=0)∧p.ac7.length≤32∧∀ r∈p.ac7,ar6 r 3=0:=by
 unfold ag7 al3 at h;simp only[Bool.and_eq_true,decide_eq_true_eq,List.all_eq_true] at h;exact ⟨h.1.2,h.2⟩
def as1 (L:List aa2):List Dep:=L.flatMap fun q=>q.suggests.flatMap aa7.atoms
def fy3 (l:List aa2)(n:Nat)(q:aa2):Bool:=((as1 (l.take n)).any fun d=>provides q d)||q.ac7.any fun r=>hd8 l (ao6 (fun _=>true) n) r
def az2 (l:List aa2)(n:Nat):List Bool:=l.map (fy3 l n)
theorem cs7 (r:aa7):r.atoms.length≤r.count:=by
 have:=List.length_filterMap_le ck4 (r.parts false);rw[aa7.cr3] at this;exact this
theorem ef5 {α β:Type}(f:α→List β)(m:Nat):∀ (l:List α),(∀ x∈l,(f x).length≤m)→(l.flatMap f).length≤l.length*m:=by
 intro l
 induction l with
 | nil=>intro _; simp
 | cons x l ih=>
  intro h;rw[List.flatMap_cons,List.length_append,List.length_cons,Nat.add_mul];have:=h x List.mem_cons_self;have:=ih fun y hy=>h y (List.mem_cons_of_mem _ hy)
  omega
theorem ef6 (q:aa2)(d:Dep)(hq:Pkg.small q)(hd:Dep.small d):PC Tryz.prog EE 138 [.agg d.cs,.ac2 q.cs] (.bool (provides q d)):=by
 refine ai1 hE fok138 (nZ rfl) (al2 (au5 d) (.ac2 _ (al7 q))) ?_;have h:=cr9 q d hq hd;simp only[ic138,go_sem,aw3,ar8,ao9,ak5,al9,ai4]
 first|refine aa5 fok139 (h) ?_|refine aa6 (h) ?_
 simp only[go_sem];exact af7 rfl
theorem ef7 (l:List aa2)(hl:l.length≤256)(hs:∀ p∈l,Pkg.small p)(zs:List Int)(hz:zs.length<2^40)(r:aa7)(h1:r.fit)(h2:r.count<2^31) :
  PC Tryz.prog EE 141 [.agg r.cs,.ac2 [an6 l],.ac2 [.aa3 (zs.map Md.ag3)]] (.bool (hd8 l zs r)):=by
 refine ai1 hE fok141 (nZ rfl) (bc6 (ah1 _) (.ac2 _ (bh9 (aw1 l))) (.ac2 _ (bh9 (ap3 zs)))) ?_;have h:=du6 l hl hs zs hz r h1 h2;simp only[ic141,go_sem,ab9,ac9,ab7]
 first|refine aa5 fok142 (h) ?_|refine aa6 (h) ?_
 simp only[go_sem];exact af7 rfl
structure PF (u:Store) (m ga:Nat) (F C0:List IV) (Tv iv av:IV) (zs:List Int) (D:List Dep):Prop where
 nx:m+1<u.next
 gm:0<ga∧ga<m
 o0:u.obj 0=some (.cells C0)
 oF:u.obj ga=some (.row F)
 o8:u.obj m=some (.cells [Tv])
 o10:u.obj (m+1)=some (.cells [iv])
 hi:aw8 u (m+2) iv zs
 ha:Grow u av 5 (D.map Dep.cs)
 la:∀ id k,av=.slice id 0 k 5→m+1<id
 ne:∀ i j k k',iv=.slice i 0 k 1→av=.slice j 0 k' 5→i≠j
variable {u u':Store} {m ga:Nat} {F C0:List IV} {Tv iv av:IV} {zs:List Int} {D:List Dep}
theorem ik1 {s:Store}{lo:Nat}{v:IV}{zs:List Int}(h:aw8 s lo v zs):∀ i k,v=.slice i 0 k 1→lo≤i∧i<s.next:=fun i k hv=>by
 rcases h with ⟨rfl,_⟩|⟨id,h1,h2,rfl,_⟩
 ·cases hv
 ·cases hv; exact ⟨h1,h2⟩
theorem ho8 {s:Store}{v:IV}{e:Nat}{es:List (List IV)}(h:Grow s v e es):∀ i k,v=.slice i 0 k e→i<s.next:=fun i k hv=>by
 rcases h with ⟨rfl,_⟩|⟨id,rfl,_,h2⟩
 ·cases hv
 ·cases hv; exact h2
theorem PF.mono (h:PF u m ga F C0 Tv iv av zs D)(hn:u.next≤u'.next)(ho:∀ i,i<u.next→u'.obj i=u.obj i):PF u' m ga F C0 Tv iv av zs D where
 nx:=Nat.lt_of_lt_of_le h.nx hn
 gm:=h.gm
 o0:=by rw[ho _ (by have:=h.nx; omega)]; exact h.o0
 oF:=by rw[ho _ (by have:=h.nx; have:=h.gm; omega)]; exact h.oF
 o8:=by rw[ho _ (by have:=h.nx; omega)]; exact h.o8
 o10:=by rw[ho _ h.nx]; exact h.o10
 hi:=h.hi.kept ⟨hn,ho⟩
 ha:=h.ha.mono hn fun id _ hid=>ho id hid
 la:=h.la
 ne:=h.ne
theorem PF.inp (h:PF u m ga F C0 Tv iv av zs D)(n:Int){k nid:Nat}(h1:u.next≤nid)(h2:nid<u.next+k) :
  PF ((ak3 iv ⟨u.next+k,u.obj⟩).put nid (.row ((zs++[n]).map ct8)) |>.put (m+1) (.cells [.slice nid 0 (zs.length+1) 1])) m ga F C0 Tv (.slice nid 0 (zs.length+1) 1) av (zs++[n]) D:=by
 have hx:=h.nx;have hg:=h.gm;have hkn:(ak3 iv ⟨u.next+k,u.obj⟩).next=u.next+k:=ah2 iv;have hlow:∀ i,i<m+2→(ak3 iv ⟨u.next+k,u.obj⟩).obj i=u.obj i:=fun i hi=>fo8 (h.hi.up k) hi
 have ho:∀ i,i<m+2→i≠m+1→((ak3 iv ⟨u.next+k,u.obj⟩).put nid (.row ((zs++[n]).map ct8)) |>.put (m+1) (.cells [.slice nid 0 (zs.length+1) 1])).obj i=u.obj i:=fun i hi hne=>by
  rw[aa4,if_neg hne,aa4,if_neg (by omega),hlow i hi]
 refine ⟨?_,hg,?_,?_,?_,?_,?_,?_,h.la,?_⟩
 ·rw[ab1,ab1,hkn]; omega
 ·rw[ho 0 (by omega) (by omega)]; exact h.o0
 ·rw[ho ga (by omega) (by omega)]; exact h.oF
 ·rw[ho m (by omega) (by omega)]; exact h.o8
 ·rw[aa4,if_pos rfl]
 ·refine .inr ⟨nid,by omega,by rw[ab1,ab1,hkn]; exact h2,by rw[List.length_append,List.length_singleton],?_⟩;rw[aa4,if_neg (by omega),aa4,if_pos rfl]
 ·refine (h.ha).mono (σ:=u) (by rw[ab1,ab1,hkn]; omega) fun id hv hid=>?_
  have h3:=h.la _ _ hv;rw[aa4,if_neg (by omega),aa4,if_neg (by omega)];rcases h.hi with ⟨hiv,_⟩|⟨iid,_,_,hiv,_⟩
  ·rw[hiv]; rfl
  ·have:=h.ne _ _ _ _ hiv hv;rw[hiv];show (if id=iid then none else u.obj id)=u.obj id;rw[if_neg fun e=>this e.symm]
 ·intro i j k1 k2 hi hj e;cases hi;subst e;have:=ho8 h.ha _ _ hj;omega
theorem fy4 {s:Store}{v:IV}{esz nid:Nat}{es xs:List (List IV)}(hg:Grow s v esz es)(h:∀ x∈es,x.length=esz∧x.all IV.leaf=true)(hx:∀ x∈xs,x.length=esz∧x.all IV.leaf=true)(hn:es.length+xs.length≤2147483648) :
  (xs=[]∧bd4 s nid esz v (.aa3 xs)=some (v,s))∨bd4 s nid esz v (.aa3 xs)=some (.slice nid 0 (es.length+xs.length) esz,(ak3 v s).put nid (.row (es++xs).flatten)):=by
 have hsrc:bg6 s esz (.aa3 xs)=some (xs.length,xs.flatten):=by
  have h1:xs.all (fun e=>e.length==esz)=true:=List.all_eq_true.2 fun x hm=>by rw[(hx x hm).1]; simp
  simp only[bg6,h1,if_true]
 have hl:xs.flatten.all IV.leaf=true:=bh5 fun x hm=>(hx x hm).2
 have hl2:es.flatten.all IV.leaf=true:=bh5 fun x hm=>(h x hm).2
 have hfl:es.flatten.length=es.length*esz:=ar3 fun x hm=>(h x hm).1
 have hn2:xs.length≤2147483648:=by omega
 by_cases h0:xs.length=0
 ·have hxe:xs=[]:=List.length_eq_zero_iff.1 h0;subst hxe;refine .inl ⟨rfl,?_⟩;unfold bd4;rw[hsrc];rcases hg with ⟨rfl,rfl⟩|⟨id,rfl,ho,hid⟩
  ·simp
  ·simp[ho]
 ·refine .inr ?_;unfold bd4;rw[hsrc];rcases hg with ⟨rfl,rfl⟩|⟨id,rfl,ho,hid⟩
  ·simp[hl,h0,hn2,ak3]
  ·simp[hl,ho,h0,hfl,hl2,hn,ak3]
theorem PF.atoms (h:PF u m ga F C0 Tv iv av zs D)(E:List Dep){k nid:Nat}(h1:u.next≤nid)(h2:nid<u.next+k) :
  PF ((ak3 av ⟨u.next+k,u.obj⟩).put nid (.row (D.map Dep.cs++E.map Dep.cs).flatten)) m ga F C0 Tv iv (.slice nid 0 ((D.map Dep.cs).length+(E.map Dep.cs).length) 5) zs (D++E):=by
 have hx:=h.nx;have hg:=h.gm;have hkn:(ak3 av ⟨u.next+k,u.obj⟩).next=u.next+k:=ah2 av
 have hk:∀ i,(∀ k',av≠.slice i 0 k' 5)→(ak3 av ⟨u.next+k,u.obj⟩).obj i=u.obj i:=fun i hi=>by
  rcases h.ha with ⟨hv,_⟩|⟨id,hv,_,_⟩
  ·rw[hv]; rfl
  ·rw[hv];show (if i=id then none else u.obj i)=u.obj i;rw[if_neg fun e=>hi _ (by rw[e]; exact hv)]
 have hlow:∀ i,i<m+2→((ak3 av ⟨u.next+k,u.obj⟩).put nid (.row (D.map Dep.cs++E.map Dep.cs).flatten)).obj i=u.obj i:=fun i hi=>by
  rw[aa4,if_neg (by omega),hk i fun k' hv=>by have:=h.la _ _ hv; omega]
 refine ⟨by rw[ab1,hkn]; omega,hg,?_,?_,?_,?_,?_,?_,fun id k' hv=>by cases hv; omega,fun i j k1 k2 hi hj e=>?_⟩
 ·rw[hlow 0 (by omega)]; exact h.o0
 ·rw[hlow ga (by omega)]; exact h.oF
 ·rw[hlow m (by omega)]; exact h.o8
 ·rw[hlow (m+1) (by omega)]; exact h.o10
 ·rcases h.hi with ⟨hv,hz⟩|⟨id,i1,i2,hv,ho⟩
  ·exact .inl ⟨hv,hz⟩
  ·refine .inr ⟨id,i1,by rw[ab1,hkn]; omega,hv,?_⟩;rw[aa4,if_neg (by omega),hk id fun k' hv2=>h.ne _ _ _ _ hv hv2 rfl];exact ho
 ·refine .inr ⟨nid,by rw[List.map_append,List.length_append],by rw[aa4,if_pos rfl,List.map_append],by rw[ab1,hkn]; exact h2⟩
 ·cases hj;subst e;have:=(ik1 h.hi _ _ hi).2;omega
theorem eo3 {s:Store}{S:Nat→Prop}{fn:Fn}{cap cap':List IV}(h:fz8 s S cap cap'):Frz s S (.func fn [] cap) (.func fn [] cap'):=.func fn [] [] cap cap' rfl h.at.1 (fun i h=>absurd h (Nat.not_lt_zero _)) h.at.2
theorem cm2 {s:Store}{id:Nat}{cs:List IV}(ho:s.obj id=some (.cells cs))(hb:∀ c∈cs,Bnd 0 c):co8 s 0 (.ptr id 0) (.ac2 cs):=.ptr id 0 cs cs (Nat.not_lt_zero _) (.inl ho) (by omega) fun j hj=>by
 rw[Nat.zero_add,List.getD_eq_getElem?_getD,List.getElem?_eq_getElem hj];exact .keep _ (hb _ (List.getElem_mem hj))
theorem eo4 (l:List Bool):∀ x∈l.map bp4,x.length=1∧x.all IV.leaf=true:=fun x hx=>by
 obtain ⟨b,_,rfl⟩:=List.mem_map.1 hx; exact ⟨rfl,rfl⟩
theorem ff2 (a:av6)(ni:Nat)(hA:AOK a)(hm:∀ q∈a.l,ag7 q=true)(hni:a.p.inst=ni):PC Tryz.prog EE 55 [a.v] (.tuple [(an5.mk a (az2 a.l ni)).v,.int .i64 0]):=by
 refine ai1 hE fok55 (nZ rfl) (bh9 (be7 a)) ?_;have hlen:=hA.len;have hle:ni≤a.l.length:=by have:=hA.inst; omega
 have hP:=ff1 a;have hR:=dl6 a hA;have hT:=ef4 a.p hlen fun x hx=>⟨hA.fit x hx,hA.tiny x hx⟩
 have hT:PC Tryz.prog EE 135 [a.p.v] (.tuple [an6 a.l,.int .i64 0]):=hT;have hrl:a.p.rows.length=a.l.length:=by simp[av6.l,ad1]
 have hC:=av9 a.p;rw[hrl] at hC;have hI:=bf5 a.p;rw[hni] at hI
 have hpk:∀ j (h:j<a.l.length),PC Tryz.prog EE 48 [a.p.v,.int .i64 j] (.tuple [.agg a.l[j].cs,.int .i64 0]):=fun j h=>by
  have hq:a.p.rows[j].pkg=a.l[j]:=by simp[av6.l,ad1]
  have h1:=ba7 a.p j (by omega) (by rw[hq]; exact hA.fit _ (List.getElem_mem h));rw[hq] at h1; exact h1
 have hbA:=be7 a;have hbP:=ar9 a.p;have hbT:=aw1 a.l;have k0:a.r.cs[0]? = some (.int .u8 a.r.ao2):=rfl;have vnl:∀ d:TypeId,ck5 (.pointer d) a.v=some false:=fun _=>rfl
 have alf:a.v.leaf=true:=rfl;have acs:a.v.cs=[a.v]:=rfl;have plf:a.p.v.leaf=true:=rfl;have pcs:a.p.v.cs=[a.p.v]:=rfl;have tlf:(an6 a.l).leaf=true:=rfl;have tcs:(an6 a.l).cs=[an6 a.l]:=rfl;have hS:=fun zs hz r h1 h2=>ef7 a.l hlen hA.small zs hz r h1 h2
 have hV:(an5.mk a (az2 a.l ni)).v=.ac2 [a.v,a.p.v,.int .u8 a.r.ao2,.aa3 (a.l.map aa2.cs),.aa3 ((az2 a.l ni).map bp4)]:=rfl;rw[hV];generalize hav:a.v=Av at *;generalize hpv:a.p.v=Pv at *;generalize htv:an6 a.l=Tv at *;simp only[ic55,go_sem,vnl]
 first|refine aa5 fok37 (hP) ?_|refine aa6 (hP) ?_
 simp only[go_sem]
 first|refine aa5 fok134 (hR) ?_|refine aa6 (hR) ?_
 simp only[go_sem,bs2,ap4,k0,alf,acs,plf,pcs]
 first|refine aa5 fok15 (hC) ?_|refine aa6 (hC) ?_
 simp only[go_sem];refine ab3 noT (fun n fr s=>∃ gv,fr=[(4,.ptr 0 0),(34,.int .i64 a.l.length),(35,.int .i64 (n:Int))]∧1≤s.next∧s.obj 0=some (.cells [Av,Pv,.int .u8 a.r.ao2,gv,.aa1])∧Grow s gv 15 ((a.l.take n).map aa2.cs)) a.l.length ⟨.aa1,rfl,Nat.le_refl 1,by simp only[aa4,if_true],.inl ⟨rfl,rfl⟩⟩ ?_;rintro n fr s hn ⟨gv,rfl,hnx,ho,hg⟩;by_cases hlt:n<a.l.length
 ·have d1:(n:Int)<(a.l.length:Int):=by omega
  have w1:=ad6 (i:=n) (by omega);have hp:=hpk n hlt;have n5:¬ 0=s.next:=by omega
  have htk:a.l.take (n+1)=a.l.take n++[a.l[n]]:=by
   rw[List.take_add_one,List.getElem?_eq_getElem hlt]; rfl
  have hgl:gv.leaf=true:=by rcases hg with ⟨rfl,_⟩|⟨id,rfl,_⟩<;>rfl
  have hgc:gv.cs=[gv]:=by rcases hg with ⟨rfl,_⟩|⟨id,rfl,_⟩<;>rfl
  simp only[go_sem,d1,ho]
  first|refine aa5 fok48 (hp) ?_|refine aa6 (hp) ?_
  simp only[go_sem,ak5,al9,ai4,n5,ho,b_o,b_p,b_t];obtain ⟨s1,a1,a2,a3,a4⟩:=ei7 (k:=11) (nid:=s.next+1+1+1+1+1+1+1+1) (e:=a.l[n].cs) (A:=.cells [.str [],.int .i64 0,.str [],.str [],.int .u8 0,.str [],.aa1,.aa1,.aa1,.aa1,.aa1,.aa1,.aa1,.aa1,.aa1]) (B:=.cells a.l[n].cs) hg (br6 _) ⟨rfl,rfl⟩ (by rw[List.length_map,List.length_take]; omega) ho (by omega) (by omega);simp only[go_sem,a1,a3,b_o,b_p,b_t,w1];refine ⟨hlt,_,by rw[a2]; omega,rfl,?_⟩;rw[htk,List.map_append];have a5:=a4 [Av,Pv,.int .u8 a.r.ao2,.slice (s.next+1+1+1+1+1+1+1+1) 0 ((a.l.take n).length+1) 15,.aa1] s1.next (by rw[a2]; omega);rw[List.length_map] at a5;exact a5
 have hn':n=a.l.length:=by omega
 subst hn';have d1:¬ (a.l.length:Int)<(a.l.length:Int):=by omega
 rw[List.take_length] at hg;have n5:¬ 0=s.next:=by omega
 have n6:¬ 0=s.next+1:=by omega
 simp only[go_sem,d1,ho]
 first|refine aa5 fok135 (hT) ?_|refine aa6 (hT) ?_
 simp only[go_sem,tlf,tcs,n5,n6,ho];rcases hg with ⟨rfl,h0⟩|⟨ga,rfl,hga,hgl⟩
 ·-- nobody
  have hl0:a.l=[]:=List.map_eq_nil_iff.1 h0;have hn0:ni=0:=by rw[hl0] at hle; simpa using hle
  subst hn0
  first|refine aa5 fok131 (hI) ?_|refine aa6 (hI) ?_
  have hs0:ct1 15 none (some (.int .i64 0)) .aa1=some .aa1:=rfl;have hl1:a.l.length=0:=by rw[hl0]; rfl
  simp only[go_sem,hs0];refine ab3 noT (fun i fr t=>fr=[(4,.ptr 0 0),(8,.ptr s.next 0),(10,.ptr (s.next+1) 0),(11,.aa1),(81,.aa1),(82,.int .i64 0),(83,.int .i64 (i:Int))]∧t.obj 0=some (.cells [Av,Pv,.int .u8 a.r.ao2,.aa1,.aa1])) 0 ⟨rfl,by simp only[aa4,n5,n6,if_false]; exact ho⟩ ?_;rintro i fr t hi0 ⟨rfl,ht0⟩;have hi1:i=0:=by omega
  subst hi1;have z0:¬ ((0:Nat):Int)<0:=by decide
  simp only[go_sem,z0,ht0];refine ab3 noT (fun i fr t=>fr=[(4,.ptr 0 0),(8,.ptr s.next 0),(10,.ptr (s.next+1) 0),(11,.aa1),(108,.aa1),(109,.int .i64 0),(110,.int .i64 (i:Int))]∧t.obj 0=some (.cells [Av,Pv,.int .u8 a.r.ao2,.aa1,.aa1])) 0 ⟨rfl,ht0⟩ ?_;rintro i fr u hi0 ⟨rfl,hu0⟩;have hi1:i=0:=by omega
  subst hi1;simp only[go_sem,z0];rw[show az2 a.l 0=[] by rw[hl0]; rfl,hl0];refine .ch2 (.cons (.ptr 0 0 _ _ (Nat.not_lt_zero _) (.inl hu0) (Nat.le_refl _) (fun j hj=>?_)) (.cons (bw1 rfl) .nil))
  match j,hj with
  | 0,_=>exact .keep _ hbA
  | 1,_=>exact .keep _ hbP
  | 2,_=>exact .keep _ (.int _ _)
  | 3,_=>exact .ch1
  | 4,_=>exact .ch1
 first|refine aa5 fok131 (hI) ?_|refine aa6 (hI) ?_
 rw[List.length_map] at *
 have hs0:ct1 15 none (some (.int .i64 (ni:Int))) (.slice ga 0 a.l.length 15)=some (.slice ga 0 ni 15):=by
  have h1:(0:Int)≤ni:=by omega
  simp[ct1,cm4,dm2,h1,hle]
 simp only[go_sem,hs0];obtain ⟨m,hm0⟩:∃ m,s.next=m:=⟨_,rfl⟩
 have hgz:0<ga:=by
  rcases Nat.eq_zero_or_pos ga with h|h
  ·rw[h,ho] at hga; cases hga
  ·exact h
 have hrow:∀ i (h:i<a.l.length),((a.l.map aa2.cs).flatten.drop (i*15)).take 15=a.l[i].cs∧15≤((a.l.map aa2.cs).flatten.drop (i*15)).length:=fun i h=>by
  have hl:∀ e∈a.l.map aa2.cs,e.length=15:=fun e he=>(br6 _ e he).1
  have h1:=av4 hl i (by rw[List.length_map]; exact h);have h2:=ar3 hl;refine ⟨by rw[h1]; simp[List.getD_eq_getElem?_getD,h],?_⟩;rw[List.length_drop,h2,List.length_map]; omega
 rw[hm0] at n5 n6 hnx hgl ⊢;generalize hF:(a.l.map aa2.cs).flatten=F at *;generalize hC0:[Av,Pv,IV.int .u8 a.r.ao2,IV.slice ga 0 a.l.length 15,IV.aa1]=C0 at *
 have hmay:∀ i (h:i<a.l.length),(a.l[i].suggests.length≤32∧∀ r∈a.l[i].suggests,r.fit∧r.count≤24∧∀ d∈r.atoms,aj7 d=true)∧a.l[i].ac7.length≤32∧∀ r∈a.l[i].ac7,r.fit∧r.count≤24:=fun i h=>by
  obtain ⟨⟨h1,h2⟩,h3,h4⟩:=go8 (hm _ (List.getElem_mem h));have hr:=(hA.fit _ (List.getElem_mem h)).rich;simp only[aa2.rows,List.mem_cons,List.not_mem_nil,or_false,forall_eq_or_imp,forall_eq] at hr;exact ⟨⟨h1,fun r hr'=>⟨(hr.2.2.2.2.1.2 r hr').1,df1 (h2 r hr')⟩⟩,h3,fun r hr'=>⟨(hr.2.2.2.2.2.2 r hr').1,(df1 (h4 r hr')).1⟩⟩
 have hatl:∀ L:List aa2,(∀ q∈L,q∈a.l)→(as1 L).length≤L.length*(32*24):=fun L hL=>by
  refine ef5 _ _ L fun q hq=>?_
  obtain ⟨i,hi,rfl⟩:=List.mem_iff_getElem.1 (hL q hq);obtain ⟨⟨h1,h2⟩,_⟩:=hmay i hi;refine Nat.le_trans (ef5 _ 24 _ fun r hr=>Nat.le_trans (cs7 r) (h2 r hr).2.1) (Nat.mul_le_mul h1 (Nat.le_refl 24))
 refine ab3 noT (fun i fr u=>∃ iv av,fr=[(4,.ptr 0 0),(8,.ptr m 0),(10,.ptr (m+1) 0),(11,av),(81,.slice ga 0 ni 15),(82,.int .i64 ni),(83,.int .i64 (i:Int))]∧PF u m ga F C0 Tv iv av (ao6 (fun _=>true) i) (as1 (a.l.take i))) ni ⟨.aa1,.aa1,rfl,?_⟩ ?_
 ·refine ⟨by show m+1<m+2+_; omega,⟨hgz,hgl⟩,?_,?_,?_,?_,.inl ⟨rfl,rfl⟩,.inl ⟨rfl,rfl⟩,fun id k h=>(by cases h),fun i j k k' h=>(by cases h)⟩
  ·simp only[aa4,n5,n6,if_false]; exact ho
  ·have e1:¬ ga=m:=by omega
   have e2:¬ ga=m+1:=by omega
   simp only[aa4,e1,e2,if_false]; exact hga
  ·have e1:¬ m=m+1:=by omega
   simp only[aa4,e1,if_false,if_true]
  ·simp only[aa4,if_true]
 rintro i fr u hi ⟨iv,av,rfl,hpf⟩;by_cases hlt:i<ni
 ·have d2:(i:Int)<ni:=by omega
  have d3:(0:Int)≤i:=by omega
  have w1:=ad6 (i:=i) (by omega);have hil:i<a.l.length:=by omega
  obtain ⟨r1,r2⟩:=hrow i hil;obtain ⟨⟨s1,s2⟩,_⟩:=hmay i hil;have hat:=hatl (a.l.take i) fun q hq=>List.mem_of_mem_take hq
  have htk:a.l.take (i+1)=a.l.take i++[a.l[i]]:=by
   rw[List.take_add_one,List.getElem?_eq_getElem hil]; rfl
  have hsg:(a.l[i].cs.drop 12).head? = some (ae7 a.l[i].suggests):=rfl;have hgu:¬ ga=u.next:=by have:=hpf.nx; omega
  have h1u:¬ m+1=u.next:=by have:=hpf.nx; omega
  generalize a.l[i]=q at *;simp only[go_sem,d2,d3,hpf.oF,r1,r2,Nat.zero_add,Int.toNat_natCast,ak5,al9,ai4,h1u,hpf.o10,hsg];generalize hX:Store.put _ u.next (aj2.cells q.cs)=X;have hXn:X.next=u.next+1:=by rw[← hX]; rfl
  have hXo:∀ i,i<u.next→X.obj i=u.obj i:=fun i hi=>by
   have:¬ i=u.next:=by omega
   rw[← hX]; simp only[aa4,this,if_false]
  have hXb:X.obj u.next=some (.cells q.cs):=by rw[← hX]; simp only[aa4,if_true]
  have hpX:PF X m ga F C0 Tv iv av (ao6 (fun _=>true) i) (as1 (a.l.take i)):=hpf.mono (by omega) hXo;have hzl:=bv2 (fun _=>true) i;have hns:ao6 (fun _=>true) (i+1)=ao6 (fun _=>true) i++[(i:Int)]:=by rw[fc1]; rfl
  have hap:=gz2 (s:=⟨X.next+1,X.obj⟩) (nid:=X.next) (hpX.hi.up 1) (i:Int) (by omega);have hpW:=hpX.inp (i:Int) (k:=1) (nid:=X.next) (Nat.le_refl _) (Nat.lt_succ_self _)
  have hcl:∀ j cs,X.obj j=some (.cells cs)→(ak3 iv ⟨X.next+1,X.obj⟩).obj j=some (.cells cs):=fun j cs h=>by
   rcases hpX.hi with ⟨hv,_⟩|⟨id,_,_,hv,ho⟩
   ·rw[hv]; exact h
   ·rw[hv];show (if j=id then none else X.obj j)=_;rw[if_neg fun e=>by rw[e,ho] at h; cases h]; exact h
  have k1:=hcl _ _ hpX.o10;have k2:=hcl _ _ hXb;have e1:¬ m+1=X.next:=by have:=hpX.nx; omega
  have e2:¬ u.next=X.next:=by omega
  have e3:¬ u.next=m+1:=by have:=hpf.nx; omega
  rw[← hXn,hap];rw[← hns] at hpW;simp only[go_sem,e1,e2,e3,k1,k2,hsg];generalize hY:Store.put _ (m+1) (aj2.cells [IV.slice X.next 0 ((ao6 (fun _=>true) i).length+1) 1])=Y at *;generalize IV.slice X.next 0 ((ao6 (fun _=>true) i).length+1) 1=iv' at *;have hzl2:=bv2 (fun _=>true) (i+1)
  refine ab3 noT (fun j fr t=>∃ av',fr=[(4,.ptr 0 0),(8,.ptr m 0),(10,.ptr (m+1) 0),(11,av'),(81,.slice ga 0 ni 15),(82,.int .i64 ni),(83,.int .i64 (i:Int)),(93,ae7 q.suggests),(94,.int .i64 q.suggests.length),(95,.int .i64 (j:Int))] ∧
   PF t m ga F C0 Tv iv' av' (ao6 (fun _=>true) (i+1)) (as1 (a.l.take i)++(q.suggests.take j).flatMap aa7.atoms)) q.suggests.length ⟨av,rfl,?_⟩ ?_
  ·rw[List.take_zero,List.flatMap_nil,List.append_nil];refine hpW.mono (Nat.le_of_eq ?_) fun z hz=>?_
   ·rw[← hY,hns]; try rfl
   ·rw[← hY,hns]; try rfl
  rintro j fr t hj ⟨av',rfl,hpt⟩;by_cases hjl:j<q.suggests.length
  ·obtain ⟨r,hr,hrj,hdr,hget,htkj⟩:=af8 q.suggests j hjl;have f1:(j:Int)<q.suggests.length:=by omega
   have f2:(0:Int)≤j:=by omega
   have w2:=ad6 (i:=j) (by omega);obtain ⟨g1,g2,g3⟩:=s2 r hr;have hAt:=go7 r g1 (by omega);simp only[go_sem,f1,f2,hget,ab9,ac9,ab7]
   first|refine aa5 fok136 (hAt) ?_|refine aa6 (hAt) ?_
   simp only[go_sem];generalize hX2:Store.put _ t.next (aj2.cells r.cs)=X2;have hX2n:X2.next=t.next+1:=by rw[← hX2]; rfl
   have hpX2:PF X2 m ga F C0 Tv iv' av' (ao6 (fun _=>true) (i+1)) (as1 (a.l.take i)++(q.suggests.take j).flatMap aa7.atoms):=hpt.mono (by omega) fun z hz=>by
    have:¬ z=t.next:=by omega
    rw[← hX2]; simp only[aa4,this,if_false]
   have hfj:((q.suggests.take j).flatMap aa7.atoms).length≤32*24:=Nat.le_trans (ef5 _ 24 _ fun x hx=>Nat.le_trans (cs7 x) (s2 x (List.mem_of_mem_take hx)).2.1) (Nat.mul_le_mul (by rw[List.length_take]; omega) (Nat.le_refl 24));have hra:=cs7 r;have hti:(a.l.take i).length≤256:=by rw[List.length_take]; omega
   have hmul:(a.l.take i).length*(32*24)≤256*(32*24):=Nat.mul_le_mul hti (Nat.le_refl _);have hap2:=fy4 (s:=⟨X2.next+1,X2.obj⟩) (nid:=X2.next) (xs:=r.atoms.map Dep.cs) (hpX2.ha.mono (Nat.le_succ _) fun _ _ _=>rfl) (bx5 _) (bx5 _) (by rw[List.length_map,List.length_map,List.length_append]; omega);have htkj':(q.suggests.take (j+1)).flatMap aa7.atoms=(q.suggests.take j).flatMap aa7.atoms++r.atoms:=by rw[htkj,List.flatMap_append,List.flatMap_cons,List.flatMap_nil,List.append_nil]
   rw[← hX2n];rcases hap2 with ⟨hz,hap2⟩|hap2
   ·have hz':r.atoms=[]:=List.map_eq_nil_iff.1 hz;rw[hap2];simp only[go_sem,w2];refine ⟨hjl,av',rfl,?_⟩;rw[htkj',hz',List.append_nil];exact hpX2.mono (Nat.le_succ _) fun _ _=>rfl
   ·have hpA:=hpX2.atoms r.atoms (k:=1) (nid:=X2.next) (Nat.le_refl _) (Nat.lt_succ_self _);rw[hap2];simp only[go_sem,w2];refine ⟨hjl,_,rfl,?_⟩;rw[htkj',← List.append_assoc];rw[List.length_map,List.length_map] at hpA;exact hpA
  have hj':j=q.suggests.length:=by omega
  subst hj';have f1:¬ (q.suggests.length:Int)<q.suggests.length:=by omega
  simp only[go_sem,f1,w1];refine ⟨hlt,iv',av',rfl,?_⟩;rw[List.take_length] at hpt;rw[htk];unfold as1 at *;rw[List.flatMap_append,List.flatMap_cons,List.flatMap_nil,List.append_nil];exact hpt
 have hi':i=ni:=by omega
 subst hi';have d2:¬ (i:Int)<(i:Int):=by omega
 have hc3:(C0.drop 3).head? = some (.slice ga 0 a.l.length 15):=by rw[← hC0]; rfl
 simp only[go_sem,d2,hpf.o0,hc3];obtain ⟨M,hM0⟩:∃ M,u.next=M:=⟨_,rfl⟩;have hmM:m+1<M:=by rw[← hM0]; exact hpf.nx
 have hlm:(az2 a.l i).length=a.l.length:=List.length_map ..
 refine ab3 noT (fun n fr t=>∃ lv,fr=[(4,.ptr 0 0),(8,.ptr m 0),(10,.ptr (m+1) 0),(11,av),(108,.slice ga 0 a.l.length 15),(109,.int .i64 a.l.length),(110,.int .i64 (n:Int))]∧M≤t.next∧(∀ z,0<z→z<M→t.obj z=u.obj z) ∧
  t.obj 0=some (.cells [Av,Pv,.int .u8 a.r.ao2,.slice ga 0 a.l.length 15,lv])∧Grow t lv 1 (((az2 a.l i).take n).map bp4)∧∀ id k,lv=.slice id 0 k 1→M≤id) a.l.length ⟨.aa1,rfl,by omega,fun _ _ _=>rfl,by rw[hC0]; exact hpf.o0,.inl ⟨rfl,rfl⟩,fun id k h=>by cases h⟩ ?_
 rintro n fr t hn ⟨lv,rfl,hMt,hk,ho0,hlv,hll⟩;have hgaM:ga<M:=by have:=hpf.gm; omega
 have tF:t.obj ga=some (.row F):=by rw[hk ga hgz hgaM]; exact hpf.oF
 by_cases hlt2:n<a.l.length
 ·have d3:(n:Int)<a.l.length:=by omega
  have d4:(0:Int)≤n:=by omega
  have w1:=ad6 (i:=n) (by omega);obtain ⟨r1,r2⟩:=hrow n hlt2;obtain ⟨_,s1,s2⟩:=hmay n hlt2;have hsq:=hA.small _ (List.getElem_mem hlt2);have hti:(a.l.take i).length≤256:=by rw[List.length_take]; omega
  have hmul:(a.l.take i).length*(32*24)≤256*(32*24):=Nat.mul_le_mul hti (Nat.le_refl _);have hat:=hatl (a.l.take i) fun q hq=>List.mem_of_mem_take hq
  have hzl:=bv2 (fun _=>true) i
  have htk:((az2 a.l i).take (n+1))=(az2 a.l i).take n++[fy3 a.l i a.l[n]]:=by
   rw[List.take_add_one];simp[az2,hlt2]
  have hen:(a.l[n].cs.drop 13).head? = some (ae7 a.l[n].ac7):=rfl
  have hD:∀ d∈as1 (a.l.take i),Dep.small d:=fun d hd=>by
   obtain ⟨q,hq,hd2⟩:=List.mem_flatMap.1 hd;obtain ⟨r,hr,hd3⟩:=List.mem_flatMap.1 hd2;obtain ⟨j,hj,hqj⟩:=List.mem_iff_getElem.1 (List.mem_of_mem_take hq);rw[← hqj] at hr;exact dv9 (((hmay j hj).1.2 r hr).2.2 d hd3)
  have hcD:=cr4 (as1 (a.l.take i)) 138 [] [.ac2 a.l[n].cs] (fun d=>provides a.l[n] d) (by omega) fok138.1 fun d hd=>ef6 a.l[n] d hsq (hD d hd)
  have hcR:=bo5 a.l[n].ac7 141 [] [.ac2 [Tv],.ac2 [.aa3 ((ao6 (fun _=>true) i).map Md.ag3)]] (fun r=>hd8 a.l (ao6 (fun _=>true) i) r) (by omega) fok141.1 fun r hr=>hS _ (by omega) r (s2 r hr).1 (by have:=(s2 r hr).2; omega)
  have hlp:fy3 a.l i a.l[n]=((as1 (a.l.take i)).any (fun d=>provides a.l[n] d)||a.l[n].ac7.any fun r=>hd8 a.l (ao6 (fun _=>true) i) r):=rfl;rw[hlp] at htk;generalize (as1 (a.l.take i)).any (fun d=>provides a.l[n] d)=B1 at *;generalize (a.l[n].ac7.any fun r=>hd8 a.l (ao6 (fun _=>true) i) r)=B2 at *;generalize a.l[n]=q at *;simp only[go_sem,d3,d4,tF,r1,r2,Nat.zero_add,Int.toNat_natCast,ak5,al9,ai4];generalize hX:Store.put _ t.next (aj2.cells q.cs)=X;have hXn:X.next=t.next+1:=by rw[← hX]; rfl
  have hXo:∀ i,i<t.next→X.obj i=t.obj i:=fun i hi=>by
   have:¬ i=t.next:=by omega
   rw[← hX]; simp only[aa4,this,if_false]
  have hXb:X.obj t.next=some (.cells q.cs):=by rw[← hX]; simp only[aa4,if_true]
  have hmt:¬ m=t.next:=by omega
  have hm1t:¬ m+1=t.next:=by omega
  have hXu:∀ z,0<z→z<M→X.obj z=u.obj z:=fun z h1 h2=>by rw[hXo z (by omega),hk z h1 h2]
  have hav2:∀ τ:Store,τ.obj=X.obj→M≤τ.next→co8 τ 0 av (.aa3 ((as1 (a.l.take i)).map Dep.cs)):=fun τ h1 h2=>by
   refine (hpf.ha.mono (σ:=u) (by omega) fun id hv hid=>?_:Grow τ av 5 ((as1 (a.l.take i)).map Dep.cs)).frz (fun e he=>(bx5 _ e he).1) (fun _ _=>Nat.not_lt_zero _) fun e he c hc=>by
    obtain ⟨x,_,rfl⟩:=List.mem_map.1 he;exact eo2 x c hc
   rw[h1];exact hXu id (by have:=hpf.la _ _ hv; omega) (by omega)
  refine ad3 fok137 (cf5 (args':=[.aa3 ((as1 (a.l.take i)).map Dep.cs),.func (.func 138) [] [.ac2 q.cs]]) hE rfl (fun z hz=>by
   match z,hz with
   | 0,_=>exact hav2 _ rfl (by show M≤t.next+1; omega)
   | 1,_=>exact eo3 (.cons (cm2 hXb (al7 q)) .nil)) (by simp[IV.plain]) hcD) ?_
  rintro v w ⟨rfl,rfl⟩;refine ⟨Nat.le_refl _,?_⟩
  have hiv2:co8 (⟨t.next+1,X.obj⟩:Store) 0 (.ptr (m+1) 0) (.ac2 [.aa3 ((ao6 (fun _=>true) i).map Md.ag3)]):=by
   refine .ptr (m+1) 0 [iv] _ (Nat.not_lt_zero _) (.inl (by show X.obj (m+1)=_; rw[hXu _ (by omega) (by omega)]; exact hpf.o10)) (Nat.le_refl _) fun j hj=>?_
   have hj0:j=0:=by simp only[List.length_singleton] at hj; omega
   subst hj0
   have hir:aw8 (⟨t.next+1,X.obj⟩:Store) (m+2) iv (ao6 (fun _=>true) i):=by
    rcases hpf.hi with h|⟨id,i1,i2,i3,i4⟩
    ·exact .inl h
    ·exact .inr ⟨id,i1,by show id<t.next+1; omega,i3,by show X.obj id=_; rw[hXu id (by omega) (by omega)]; exact i4⟩
   exact hir.w.frz fun _ _=>Nat.not_lt_zero _
  simp only[go_sem,hXb,hen]
  refine ad3 fok140 (cf5 (args':=[ae7 q.ac7,.func (.func 141) [] [.ac2 [Tv],.ac2 [.aa3 ((ao6 (fun _=>true) i).map Md.ag3)]]]) hE rfl (fun z hz=>by
   match z,hz with
   | 0,_=>exact .keep _ (bd2 _)
   | 1,_=>exact eo3 (.cons (cm2 (by show X.obj m=_; rw[hXu _ (by omega) (by omega)]; exact hpf.o8) (bh9 hbT)) (.cons hiv2 .nil))) (by simp[IV.plain]) hcR) ?_
  rintro v w ⟨rfl,rfl⟩;refine ⟨Nat.le_refl _,?_⟩;have hx0:X.obj 0=some (.cells [Av,Pv,.int .u8 a.r.ao2,.slice ga 0 a.l.length 15,lv]):=by rw[hXo 0 (by omega)]; exact ho0
  simp only[go_sem,hx0];have hlx:Grow (⟨t.next+1+1,X.obj⟩:Store) lv 1 (((az2 a.l i).take n).map bp4):=hlv.mono (by show t.next≤t.next+1+1; omega) fun id _ hid=>hXo id hid
  have hap:=fun b:Bool=>am7 (nid:=t.next+1) (e:=[IV.bool b]) hlx (eo4 _) ⟨rfl,rfl⟩ (by rw[List.length_map,List.length_take]; omega)
  have kn:(ak3 lv (⟨t.next+1+1,X.obj⟩:Store)).next=t.next+1+1:=ah2 lv;have k0:=ah3 hlx 0 _ hx0 (fun _ h=>by cases h)
  have kz:∀ z,0<z→z<M→(ak3 lv (⟨t.next+1+1,X.obj⟩:Store)).obj z=u.obj z:=fun z h1 h2=>by
   rcases hlx with ⟨hv,_⟩|⟨id,hv,_,_⟩
   ·rw[hv]; exact hXu z h1 h2
   ·have:=hll _ _ hv;rw[hv];show (if z=id then none else X.obj z)=_;rw[if_neg (by omega)]; exact hXu z h1 h2
  have e0:¬ 0=t.next+1:=by omega
  have e1:¬ t.next+1=0:=by omega
  have hlen2:((az2 a.l i).take n).length=n:=by rw[List.length_take,hlm]; omega
  have hfin:∀ b:Bool,b=(B1||B2)→∀ cs,cs=(((az2 a.l i).take n).map bp4++[[IV.bool b]]).flatten→n<a.l.length∧∃ lv',[(4,IV.ptr 0 0),(8,.ptr m 0),(10,.ptr (m+1) 0),(11,av),(108,.slice ga 0 a.l.length 15),(109,.int .i64 a.l.length),(110,.int .i64 ((n+1:Nat):Int))]=[(4,IV.ptr 0 0),(8,.ptr m 0),(10,.ptr (m+1) 0),(11,av),(108,.slice ga 0 a.l.length 15),(109,.int .i64 a.l.length),(110,.int .i64 ((n+1:Nat):Int))]∧lv'=.slice (t.next+1) 0 ((((az2 a.l i).take n).map bp4).length+1) 1 ∧
    (((ak3 lv (⟨t.next+1+1,X.obj⟩:Store)).put (t.next+1) (.row cs)).put 0 (.cells [Av,Pv,.int .u8 a.r.ao2,.slice ga 0 a.l.length 15,lv'])).next=t.next+1+1∧(∀ z,0<z→z<M→(((ak3 lv (⟨t.next+1+1,X.obj⟩:Store)).put (t.next+1) (.row cs)).put 0 (.cells [Av,Pv,.int .u8 a.r.ao2,.slice ga 0 a.l.length 15,lv'])).obj z=u.obj z) ∧
    Grow (((ak3 lv (⟨t.next+1+1,X.obj⟩:Store)).put (t.next+1) (.row cs)).put 0 (.cells [Av,Pv,.int .u8 a.r.ao2,.slice ga 0 a.l.length 15,lv'])) lv' 1 (((az2 a.l i).take (n+1)).map bp4):=fun b hb cs hcs=>by
   refine ⟨hlt2,_,rfl,rfl,by rw[ab1,ab1,kn],fun z h1 h2=>?_,?_⟩
   ·rw[aa4,if_neg (by omega),aa4,if_neg (by omega)]; exact kz z h1 h2
   ·refine .inr ⟨t.next+1,?_,?_,by rw[ab1,ab1,kn]; omega⟩
    ·rw[htk]; simp
    ·rw[aa4,if_neg e1,aa4,if_pos rfl,htk,hcs,hb,List.map_append]; rfl
  cases B1 with
  | true=>
   simp only[go_sem,hap,e0,k0,w1];obtain ⟨_,lv',_,h2,h3,h4,h5⟩:=hfin true rfl _ rfl;rw[h2,List.length_map] at h3 h4 h5;refine ⟨hlt2,_,by rw[kn]; omega,fun z h1 h2=>?_,rfl,h5,fun id k h=>by cases h; omega⟩;have:=h4 z h1 h2
   simpa only[aa4] using this
   -- fun id k h=>by cases h; omega⟩
  | false=>
   simp only[go_sem,hap,e0,k0,w1];obtain ⟨_,lv',_,h2,h3,h4,h5⟩:=hfin B2 rfl _ rfl;rw[h2,List.length_map] at h3 h4 h5;refine ⟨hlt2,_,by rw[kn]; omega,fun z h1 h2=>?_,rfl,h5,fun id k h=>by cases h; omega⟩;have:=h4 z h1 h2
   simpa only[aa4] using this
   -- fun id k h=>by cases h; omega⟩
 have hn':n=a.l.length:=by omega
 subst hn';have d3:¬ (a.l.length:Int)<(a.l.length:Int):=by omega
 simp only[go_sem,d3];rw[List.take_of_length_le (by rw[hlm]; exact Nat.le_refl _)] at hlv;refine .ch2 (.cons (.ptr 0 0 _ _ (Nat.not_lt_zero _) (.inl ho0) (Nat.le_refl _) (fun j hj=>?_)) (.cons (bw1 rfl) .nil))
 match j,hj with
 | 0,_=>exact .keep _ hbA
 | 1,_=>exact .keep _ hbP
 | 2,_=>exact .keep _ (.int _ _)
 | 3,_=>
  have hgr:Grow t (.slice ga 0 a.l.length 15) 15 (a.l.map aa2.cs):=.inr ⟨ga,by rw[List.length_map],by rw[tF,hF],by omega⟩
  exact hgr.frz (fun x hx=>(br6 _ x hx).1) (fun _ _=>Nat.not_lt_zero _) fun e he c hc=>by
   obtain ⟨y,_,rfl⟩:=List.mem_map.1 he
   exact al7 y c hc
 | 4,_=>
  exact hlv.frz (fun x hx=>(eo4 _ x hx).1) (fun _ _=>Nat.not_lt_zero _) fun e he c hc=>by
   obtain ⟨y,_,rfl⟩:=List.mem_map.1 he
   cases hc with
   | head=>exact .bool _
   | tail _ h=>cases h
end Go.Id.Tryz
