/- Rows of one's own whose packages are altered: walked. Conditions: sizes that fit. -/
import Derived.Test.YtiallonafbejaaaGreatDoorTVTN
import Derived.Test.YtiallonafbejaaaGreatDoorMz
import Derived.Test.YtiallonafbejaaaGreatDoorFwOr
import Derived.Test.YtiallonafbejaaaGreatDoorTVQL
import Derived.Test.YtiallonafbejaaaGreatDoorTVQO
set_option linter.all false
namespace Go.Id.Tryz
open Go Go.Id Go.Proofs Go.Shelf Go.Id.Md
set_option maxRecDepth 100000
theorem bb4 {σ:Store}{id nid:Nat}(l:List Package)(ho:σ.obj id=some (.row []))(hl:l.length<2^31) :
  ∃ w σ',ax4 σ nid 15 (.slice id 0 0 15) (ak7 l)=some (.slice w 0 l.length 15,σ')∧σ'.next=σ.next∧σ'.obj w=some (.row (l.map Package.cs).flatten)∧(w=id∨w=nid)∧∀ j,j≠id→j≠nid→σ'.obj j=σ.obj j:=by
 have ha:∀ x∈l.map Package.cs,x.length=15∧x.all IV.leaf=true:=by
  intro x hx
  obtain ⟨y,_,rfl⟩:=List.mem_map.1 hx
  exact ⟨rfl,rfl⟩
 have hsrc:ba4 σ 15 (.tslice (l.map Package.cs))=some (l.length,(l.map Package.cs).flatten):=by
  have h1:(l.map Package.cs).all (fun e=>e.length==15)=true:=List.all_eq_true.2 fun x hx=>by rw[(ha x hx).1]; rfl
  simp only[ba4,h1,if_true,List.length_map]
 have hx1:(l.map Package.cs).flatten.all IV.leaf=true:=bb3 fun x hx=>(ha x hx).2
 have hx0:¬ ((l.map Package.cs).flatten.all IV.leaf=false):=by rw[hx1]; decide
 unfold ax4
 rw[hsrc]
 simp only[hx0,if_false,ho]
 by_cases h0:l.length=0
 ·have hxs:l=[]:=List.length_eq_zero_iff.1 h0
  subst hxs
  exact ⟨id,σ,rfl,rfl,ho,.inl rfl,fun _ _ _=>rfl⟩
 ·have h2:0+l.length≤2147483648:=by omega
  have h3:l.length≤2147483648:=by omega
  simp only[h0,and_false,if_false,List.length_nil,Nat.zero_mul,Nat.zero_add,List.drop_nil,List.all_nil,and_self,true_and,List.nil_append,h3,if_true]
  refine ⟨nid,_,rfl,rfl,?_,.inr rfl,fun j h3 h4=>?_⟩
  ·rw[aa2,if_pos rfl]
  ·rw[aa2,if_neg h4]
   show (if j=id then none else σ.obj j)=_
   rw[if_neg h3]
theorem dl4 {α:Type}(f g:α→List IV)(l:List α)(i:Nat)(hi:i<l.length)(x:α)(hx:l.drop i=x::l.drop (i+1)):((l.take i).map g++(l.drop i).map f).set i (g x)=(l.take (i+1)).map g++(l.drop (i+1)).map f:=by
 have h1:((l.take i).map g).length=i:=by rw[List.length_map,List.length_take]; omega
 have h2:l[i]=x:=by
  have:=List.drop_eq_getElem_cons hi
  rw[this] at hx; exact (List.cons.inj hx).1
 rw[hx,List.map_cons,List.set_append_right _ _ (by omega),h1,Nat.sub_self,List.set_cons_zero]
 rw[List.take_succ_eq_append_getElem hi,h2,List.map_append]
 simp
theorem dl5 {α:Type}(f g:α→List IV)(l:List α)(i:Nat)(hi:i<l.length)(x:α)(hx:l.drop i=x::l.drop (i+1)):((l.take i).map g++(l.drop i).map f).getD i []=f x:=by
 have h1:((l.take i).map g).length=i:=by rw[List.length_map,List.length_take]; omega
 rw[hx,List.map_cons,List.getD_eq_getElem?_getD,List.getElem?_append_right (by omega),h1,Nat.sub_self]
 rfl
theorem cw4 {f g:Package→List IV}(hf:∀ q,(f q).length=15)(hg:∀ q,(g q).length=15)(l:List Package)(i:Nat):(∀ e∈(l.take i).map g++(l.drop i).map f,e.length=15)∧((l.take i).map g++(l.drop i).map f).length=l.length:=by
 refine ⟨fun e he=>?_,?_⟩
 ·rcases List.mem_append.1 he with he|he<;>obtain ⟨q,_,rfl⟩:=List.mem_map.1 he
  ·exact hg q
  ·exact hf q
 ·rw[List.length_append,List.length_map,List.length_map,List.length_take,List.length_drop]; omega
theorem ed2 {S:Nat→Prop}{σ:Store}{w:Nat}{es0 es:List (List IV)}(ho:σ.obj w=some (.row es0.flatten))(hw:¬ S w)(h0:∀ e∈es0,e.length=15)(h1:∀ e∈es,e.length=15)(hl:es.length=es0.length)
  (h:∀ i,i<es0.length→∀ j,j<15→Frz σ S ((es0.getD i []).getD j .undef) ((es.getD i []).getD j .undef)):Frz σ S (.slice w 0 es0.length 15) (.tslice es):=by
 refine .slice w 0 es0.length 15 es0.flatten es hw (.inr ho) hl (by rw[ah5 h0]; omega) (fun i hi=>h1 _ (aa7 _ (by omega))) (fun i hi j hj=>?_)
 rw[Nat.zero_add,dh1 h0 i j hi hj]
 exact h i hi j hj
def cm1 (q:Package):List IV:=ag9 (ag9 (ag9 q.cs 12 [.nilslice]) 13 [.nilslice]) 5 [.str []]
theorem ag8 (q:Package):q.cs.length=15:=rfl
theorem fm1 {S:Nat→Prop}{σ:Store}(q:Package)(j:Nat)(hj:j<15):Frz σ S ((cm1 q).getD j .undef) ((af6 q).cs.getD j .undef):=by
 have hb:∀ c∈(af6 q).cs,Frz σ S c c:=fun c hc=>.keep _ ((ah9 (af6 q) c hc).weak fun i h=>absurd h (Nat.not_lt_zero _))
 match j,hj with
 | 12,_=>exact .nils
 | 13,_=>exact .nils
 | 0,_=>exact hb _ (aa7 (l:=(af6 q).cs) .undef (i:=0) (by rw[ag8]; decide))
 | 1,_=>exact hb _ (aa7 (l:=(af6 q).cs) .undef (i:=1) (by rw[ag8]; decide))
 | 2,_=>exact hb _ (aa7 (l:=(af6 q).cs) .undef (i:=2) (by rw[ag8]; decide))
 | 3,_=>exact hb _ (aa7 (l:=(af6 q).cs) .undef (i:=3) (by rw[ag8]; decide))
 | 4,_=>exact hb _ (aa7 (l:=(af6 q).cs) .undef (i:=4) (by rw[ag8]; decide))
 | 5,_=>exact hb _ (aa7 (l:=(af6 q).cs) .undef (i:=5) (by rw[ag8]; decide))
 | 6,_=>exact hb _ (aa7 (l:=(af6 q).cs) .undef (i:=6) (by rw[ag8]; decide))
 | 7,_=>exact hb _ (aa7 (l:=(af6 q).cs) .undef (i:=7) (by rw[ag8]; decide))
 | 8,_=>exact hb _ (aa7 (l:=(af6 q).cs) .undef (i:=8) (by rw[ag8]; decide))
 | 9,_=>exact hb _ (aa7 (l:=(af6 q).cs) .undef (i:=9) (by rw[ag8]; decide))
 | 10,_=>exact hb _ (aa7 (l:=(af6 q).cs) .undef (i:=10) (by rw[ag8]; decide))
 | 11,_=>exact hb _ (aa7 (l:=(af6 q).cs) .undef (i:=11) (by rw[ag8]; decide))
 | 14,_=>exact hb _ (aa7 (l:=(af6 q).cs) .undef (i:=14) (by rw[ag8]; decide))
theorem dc6 {α:Type}(f:α→List IV)(l:List α)(i:Nat)(hi:i<l.length):(l.map f).getD i []=f l[i]:=by simp[List.getD_eq_getElem?_getD,hi]
theorem gb9 {S:Nat→Prop}{σ:Store}{w:Nat}(l:List Package)(ho:σ.obj w=some (.row (l.map cm1).flatten))(hw:¬ S w):Frz σ S (.slice w 0 l.length 15) (ak7 (l.map af6)):=by
 have hl:(l.map cm1).length=l.length:=List.length_map ..
 have h:=ed2 (S:=S) (es:=(l.map af6).map Package.cs) ho hw (fun e he=>by obtain ⟨q,_,rfl⟩:=List.mem_map.1 he; rfl) (fun e he=>by obtain ⟨q,_,rfl⟩:=List.mem_map.1 he; rfl) (by simp) (fun i hi j hj=>by
  rw[hl] at hi
  rw[dc6 cm1 l i hi,List.map_map,dc6 _ l i hi]
  exact fm1 l[i] j hj)
 rw[hl] at h
 exact h
theorem dl6 (l:List Package)(hl:l.length<2^20):PC Tryz.prog EE 53 [ak7 l] (ak7 (l.map af6)):=by
 refine ae9 hE fok53 (Nat.le_of_ble_eq_true rfl) (bb8 (ao9 l)) ?_
 obtain ⟨w,σ',ha,hn,ho,_⟩:=bb4 (σ:=(Store.mk 2 emp.obj).put 0 (.row [])) (id:=0) (nid:=1) l (by simp only[aa2,if_true]) (by omega)
 simp only[ic53,go_sem]
 rw[ha]
 simp only[go_sem]
 refine aa9 noT (fun i fr t=>fr=[(3,.slice w 0 l.length 15),(4,.int .i64 i)]∧t.obj w=some (.row ((l.take i).map cm1++(l.drop i).map Package.cs).flatten)) l.length ⟨rfl,by simpa using ho⟩ ?_
 rintro i fr t hle ⟨rfl,hot⟩
 by_cases hlt:i<l.length
 ·obtain ⟨x,hx,_,hdr,hget,htk⟩:=ad1 l i hlt
  have c1:(i:Int)<l.length:=by omega
  have c2:(0:Int)≤i:=by omega
  have w1:=ad5 (i:=i) (by omega)
  obtain ⟨p1,p2⟩:=cw4 (f:=Package.cs) (g:=cm1) (fun q=>rfl) (fun q=>rfl) l i
  have p3:=dl5 Package.cs cm1 l i hlt x hdr
  have p4:=dl4 Package.cs cm1 l i hlt x hdr
  generalize (l.take i).map cm1++(l.drop i).map Package.cs=L at *
  have hiL:i<L.length:=by omega
  have q1:=bn5 (v:=.nilslice) (k:=12) p1 hiL (by decide)
  rw[p3] at q1
  have l1:∀ v:List IV,v.length=15→(∀ e∈L.set i v,e.length=15)∧i<(L.set i v).length∧(L.set i v).getD i []=v:=fun v hv=>⟨fun e he=>by
   rcases List.mem_or_eq_of_mem_set he with h|h
   ·exact p1 e h
   ·rw[h]; exact hv,by rw[List.length_set]; exact hiL,by simp[List.getD_eq_getElem?_getD,hiL]⟩
  have m1:=l1 (ag9 x.cs 12 [.nilslice]) rfl
  have q2:=bn5 (v:=.nilslice) (k:=13) m1.1 m1.2.1 (by decide)
  rw[m1.2.2,List.set_set] at q2
  have m2:=l1 (ag9 (ag9 x.cs 12 [.nilslice]) 13 [.nilslice]) rfl
  have q3:=bn5 (v:=.str []) (k:=5) m2.1 m2.2.1 (by decide)
  rw[m2.2.2,List.set_set] at q3
  have f0:L.flatten.length=l.length*15:=by rw[ah5 p1,p2]
  have f1:(L.set i (ag9 x.cs 12 [.nilslice])).flatten.length=l.length*15:=by rw[ah5 m1.1,List.length_set,p2]
  have f2:(L.set i (ag9 (ag9 x.cs 12 [.nilslice]) 13 [.nilslice])).flatten.length=l.length*15:=by rw[ah5 m2.1,List.length_set,p2]
  have g0:i*15+12+1≤L.flatten.length:=by omega
  have g1:i*15+13+1≤(L.set i (ag9 x.cs 12 [.nilslice])).flatten.length:=by omega
  have g2:i*15+5+1≤(L.set i (ag9 (ag9 x.cs 12 [.nilslice]) 13 [.nilslice])).flatten.length:=by omega
  have p4:(L.set i (ag9 (ag9 (ag9 x.cs 12 [.nilslice]) 13 [.nilslice]) 5 [.str []])).flatten=((l.take (i+1)).map cm1++(l.drop (i+1)).map Package.cs).flatten:=congrArg List.flatten p4
  rw[p4] at q3
  clear p4
  generalize (L.set i (ag9 x.cs 12 [.nilslice])).flatten=L1 at *
  generalize (L.set i (ag9 (ag9 x.cs 12 [.nilslice]) 13 [.nilslice])).flatten=L2 at *
  generalize L.flatten=L0 at *
  simp only[go_sem,c1,c2,hot,Int.toNat_natCast,Nat.zero_add,w1,q1,q2,q3,g0,g1,g2,List.length_cons,List.length_nil,List.all_cons,List.all_nil]
  exact hlt
 ·have hi':i=l.length:=by omega
  subst hi'
  have c1:¬ (l.length:Int)<l.length:=by omega
  rw[List.take_length,List.drop_length,List.map_nil,List.append_nil] at hot
  simp only[go_sem,c1]
  exact gb9 l hot (Nat.not_lt_zero _)
end Go.Id.Tryz
/- Whom an altered pool likes: the law walked. Conditions: sizes that fit. -/
namespace Go.Id.Tryz
open Go Go.Id Go.Proofs Go.Shelf Go.Id.Md
set_option maxRecDepth 100000
def if4:Package:=⟨[],⟨0,[],[]⟩,0,[],[],[],[],[],[],[],[],[],[]⟩
def cd9 (p:Pool)(n:Int):IV:=if 0≤n∧n<p.rows.length then .tuple [.agg (p.rows.getD n.toNat ⟨default,0,0⟩).pkg.cs,.int .i64 0] else .tuple [.agg if4.cs,.int .i64 5]
theorem cw5 (p:Pool)(n:Int)(hf:∀ q∈ab2 p,q.Fit):PC Tryz.prog EE 19 [p.v,.int .i64 n] (cd9 p n):=by
 unfold cd9
 by_cases h:0≤n∧n<p.rows.length
 ·rw[if_pos h]
  obtain ⟨k,rfl⟩:=Int.eq_ofNat_of_zero_le h.1
  have hk:k<p.rows.length:=by omega
  have:=ap3 p k hk (hf _ (List.mem_map.2 ⟨_,List.getElem_mem hk,rfl⟩))
  have e:p.rows.getD (k:Int).toNat ⟨default,0,0⟩=p.rows[k]:=by simp[List.getD_eq_getElem?_getD,hk]
  rw[e]; exact this
 ·rw[if_neg h]
  refine ae9 hE fok19 (Nat.le_of_ble_eq_true rfl) (ai3 (ak9 p) (.int _ _)) ?_
  have hr:=bp6 p.rows n
  have hb:(decide (0≤n)&&decide (n<p.rows.length))=false:=by simpa using h
  rw[hb] at hr
  simp only[ic19,go_sem,Pool.v]
  first|refine aa1 fok73 (hr) ?_|refine aa3 (hr) ?_
  simp only[go_sem]
  exact .tuple2 (.cons (.agg2 (.cons (dn4 _) (.cons (fp5 _ _) (.cons (dn4 _) (.cons (dn4 _) (.cons (fp5 _ _) (.cons (dn4 _) (.cons .nils (.cons .nils (.cons .nils (.cons .nils (.cons .nils (.cons .nils (.cons .nils (.cons .nils (.cons .nils .nil)))))))))))))))) (.cons (fp5 _ _) .nil))
theorem fm2 (r:PRow):(r.cs.drop 15).head? = some (.int .i64 r.repo):=rfl
theorem ca8 (p:Pool)(n:Int):PC Tryz.prog EE 55 [p.v,.int .i64 n] (.int .i64 (p.repoOf n)):=by
 unfold Pool.repoOf
 have hr:=bp6 p.rows n
 refine ak4 fok55 (Nat.le_of_ble_eq_true rfl) fun σ=>?_
 by_cases h:0≤n∧n<p.rows.length
 ·rw[if_pos h]
  obtain ⟨k,rfl⟩:=Int.eq_ofNat_of_zero_le h.1
  have hk:k<p.rows.length:=by omega
  have hb:(decide (0≤(k:Int))&&decide ((k:Int)<p.rows.length))=true:=by simp; omega
  rw[hb] at hr
  have c1:(k:Int)<p.rows.length:=by omega
  have c2:(0:Int)≤k:=by omega
  have hg:(p.rows.map PRow.cs).getD k []=p.rows[k].cs:=by simp[List.getD_eq_getElem?_getD,hk]
  have e:p.rows.getD (k:Int).toNat ⟨default,0,0⟩=p.rows[k]:=by simp[List.getD_eq_getElem?_getD,hk]
  rw[e]
  simp only[ic55,go_sem,Pool.v]
  refine aa1 fok73 hr ?_
  simp only[go_sem,c1,c2,hg,au3,fm2,and_self]
 ·rw[if_neg h]
  have hb:(decide (0≤n)&&decide (n<p.rows.length))=false:=by simpa using h
  rw[hb] at hr
  simp only[ic55,go_sem,Pool.v]
  refine aa1 fok73 hr ?_
  simp only[go_sem,and_self]
/-! ### What is altered fits -/
theorem ed3 {q:Package}(h:q.Fit):(af6 q).Fit where
 name:=h.name
 evr:=h.evr
 prov:=h.prov
 obs:=h.obs
 files:=h.files
 rich:=fun x hx=>by
  simp only[Package.rows,List.mem_cons,List.not_mem_nil,or_false] at hx
  rcases hx with rfl|rfl|rfl|rfl|rfl|rfl
  ·exact h.rich (1,q.requires) (by simp[Package.rows])
  ·exact h.rich (2,q.conflicts) (by simp[Package.rows])
  ·exact h.rich (1,q.recommends) (by simp[Package.rows])
  ·exact h.rich (3,q.supplements) (by simp[Package.rows])
  ·exact ⟨by show (0:Nat)<_; decide,fun r hr=>by cases hr⟩
  ·exact ⟨by show (0:Nat)<_; decide,fun r hr=>by cases hr⟩
theorem fm3 {q:Package}(h:q.Ok):(af6 q).Ok where
 name:=h.name
 vendor:=by show (0:Nat)<_; decide
 evr:=h.evr
 prov:=h.prov
 obs:=h.obs
 files:=h.files
 rich:=fun x hx=>by
  simp only[Package.rows,List.mem_cons,List.not_mem_nil,or_false] at hx
  rcases hx with rfl|rfl|rfl|rfl|rfl|rfl
  ·exact h.rich (1,q.requires) (by simp[Package.rows])
  ·exact h.rich (2,q.conflicts) (by simp[Package.rows])
  ·exact h.rich (1,q.recommends) (by simp[Package.rows])
  ·exact h.rich (3,q.supplements) (by simp[Package.rows])
  ·exact ⟨by show (0:Nat)<_; decide,fun r hr=>by cases hr⟩
  ·exact ⟨by show (0:Nat)<_; decide,fun r hr=>by cases hr⟩
theorem gc1 {q:Package}(h:q.Fit):(aj8 q).Fit:=⟨h.name,h.evr,h.prov,h.obs,h.files,h.rich⟩
theorem gs3 {q:Package}(h:q.Ok):(aj8 q).Ok:=⟨h.name,(by show fh3.length<_; decide),h.evr,h.prov,h.obs,h.files,h.rich⟩
theorem gj2 {repos:List Repo}{inst:List Package}{f g:Package→Package}(h:InOK repos inst)(f1:∀ q:Package,q.Fit→(f q).Fit)(f2:∀ q:Package,q.Ok→(f q).Ok)(g1:∀ q:Package,q.Fit→(g q).Fit)(g2:∀ q:Package,q.Ok→(g q).Ok):InOK (ba1 f repos) (inst.map g) where
 r1:=by rw[bh7]; exact h.r1
 i1:=by rw[List.length_map]; exact h.i1
 s1:=by rw[eb1]; exact h.s1
 rf:=fun r hr=>by
  obtain ⟨y,hy,rfl⟩:=List.mem_map.1 hr
  obtain ⟨h1,h2⟩:=h.rf y hy
  refine ⟨by show (y.packages.map f).length<_; rw[List.length_map]; exact h1,fun p hp=>?_⟩
  obtain ⟨z,hz,rfl⟩:=List.mem_map.1 hp
  exact f1 z (h2 z hz)
 pf:=fun p hp=>by
  obtain ⟨z,hz,rfl⟩:=List.mem_map.1 hp
  exact g1 z (h.pf z hz)
 ro:=fun r hr=>by
  obtain ⟨y,hy,rfl⟩:=List.mem_map.1 hr
  obtain ⟨h1,h2⟩:=h.ro y hy
  refine ⟨by show (y.packages.map f).length<_; rw[List.length_map]; exact h1,fun p hp=>?_⟩
  obtain ⟨z,hz,rfl⟩:=List.mem_map.1 hp
  exact f2 z (h2 z hz)
 po:=fun p hp=>by
  obtain ⟨z,hz,rfl⟩:=List.mem_map.1 hp
  exact g2 z (h.po z hz)
def aq7 (r:Req):Req:=⟨r.arch,false,[],[],0⟩
theorem bq2 (r:Req):ReqOK (aq7 r):=⟨by show (0:Nat)<_; decide,by show (0:Nat)<_; decide,fun j hj=>by cases hj⟩
theorem ca1 {r:Req}{n k:Int}(h:aj6 r n=0):aj6 (aq7 r) k=0:=by
 unfold aj6 at h
 have hm:¬ dt1 r.arch=false:=by
  intro e
  rw[if_pos (.inl e)] at h
  cases h
 unfold aj6 aq7
 simp only[List.length_nil,List.all_nil]
 rw[if_neg (by simp[hm]),if_neg (by omega)]
 rfl
theorem gc2 (q:Package):ag9 q.cs 5 [.str [111,116,104,101,114]]=(aj8 q).cs:=rfl
theorem gc3 {S:Nat→Prop}{σ:Store}{w:Nat}(l:List Package)(ho:σ.obj w=some (.row (l.map fun q=>(aj8 q).cs).flatten))(hw:¬ S w):Frz σ S (.slice w 0 l.length 15) (ak7 (l.map aj8)):=by
 have hl:(l.map fun q=>(aj8 q).cs).length=l.length:=List.length_map ..
 have h:=ed2 (S:=S) (es:=(l.map aj8).map Package.cs) ho hw (fun e he=>by obtain ⟨q,_,rfl⟩:=List.mem_map.1 he; rfl) (fun e he=>by obtain ⟨q,_,rfl⟩:=List.mem_map.1 he; rfl) (by simp) (fun i hi j hj=>by
  rw[hl] at hi
  rw[dc6 _ l i hi,List.map_map,dc6 _ l i hi]
  exact .keep _ ((ah9 (aj8 l[i]) _ (aa7 _ (by rw[ag8]; exact hj))).weak fun i h=>absurd h (Nat.not_lt_zero _)))
 rw[hl] at h
 exact h
end Go.Id.Tryz
/- Whom an altered pool likes: the law walked. Conditions: sizes that fit. -/
namespace Go.Id.Tryz
open Go Go.Id Go.Proofs Go.Shelf Go.Id.Md
set_option maxRecDepth 100000
set_option maxHeartbeats 1000000
structure Twin (t:Store) (gv xv:IV) (A B:List (List IV)):Prop where
 g:Grow t gv 2 A
 x:Grow t xv 2 B
 ne:∀ id k id' k',gv=.slice id 0 k 2→xv=.slice id' 0 k' 2→id≠id'
theorem bq3 (l:List Repo):∀ x∈l.map Repo.cs,x.length=2∧x.all IV.leaf=true:=fun x hx=>by
 obtain ⟨y,_,rfl⟩:=List.mem_map.1 hx
 exact ⟨rfl,rfl⟩
theorem ed4 {gv xv:IV}{t:Store}{A B:List (List IV)}(h:Twin t gv xv A B){id k:Nat}(hx:xv=.slice id 0 k 2):(ah4 gv t).obj id=t.obj id:=by
 rcases h.g with ⟨rfl,_⟩|⟨id',rfl,_,_⟩
 ·rfl
 ·show (if id=id' then none else t.obj id)=_
  rw[if_neg fun e=>h.ne _ _ _ _ rfl hx e.symm]
theorem ed5 (b:Bool):gf3 [0] false true (.bool b) (.bool b)=some (.bool false):=by cases b<;>rfl
theorem cj6 (p:Pool)(r:Req)(k:Nat)(n:Int):∃ (x:Package) (e:Int),cd9 p n=.tuple [.agg x.cs,.int .i64 e]∧(e=0→(ak2 p r k).a.is n=true∧(ak2 p r k).a.pk n=x):=by
 unfold cd9
 by_cases h:0≤n∧n<p.rows.length
 ·rw[if_pos h]
  refine ⟨_,_,rfl,fun _=>⟨?_,?_⟩⟩
  ·show (decide (0≤n)&&decide (n<(ab2 p).length))=true
   simp only[ab2,List.length_map,Bool.and_eq_true,decide_eq_true_eq]
   exact h
  ·show (ab2 p).getD n.toNat default=_
   have hk:n.toNat<p.rows.length:=by omega
   simp[ab2,List.getD_eq_getElem?_getD,hk]
 ·rw[if_neg h]
  exact ⟨_,_,rfl,fun h=>by cases h⟩
theorem preferLiked_pc (repos:List Repo)(inst:List Package)(r:Req)(n m:Int)(hI:InOK repos inst)(hR:ReqOK r) :
  PC Tryz.prog EE 10 [am5 repos,ak7 inst,.agg r.cs,.int .i64 n,.int .i64 m] (.bool true):=by
 refine id7 hE fok10 (Nat.le_of_ble_eq_true rfl) (hh6 (bc3 repos) (ao9 inst) (.agg _ (bc9 r)) (.int _ _) (.int _ _)) ?_
 have hL:=ev8 repos inst r (by have:=hI.r1; omega) (by have:=hI.i1; omega) hI.ro hI.po
 have hO:=dd3 repos inst r hI hR
 unfold fp7 at hO
 simp only[ic10]
 refine ae5 (af3 ?_)
 simp only[go_sem,al1]
 refine ae5 (af3 ?_)
 simp only[go_sem]
 first|refine aa1 fok47 (bi1) ?_|refine aa3 (bi1) ?_
 cases hlg:dd2 repos inst r with
 | true=>
  rw[hlg] at hL
  simp only[go_sem,as6,ar3]
  first|refine aa1 fok48 (hL) ?_|refine aa3 (hL) ?_
  simp only[go_sem]
  first|refine aa1 fok47 (bi1) ?_|refine aa3 (bi1) ?_
  simp only[go_sem]
  exact ac8 rfl
 | false=>
 rw[hlg] at hL
 simp only[go_sem,as6,ar3]
 first|refine aa1 fok48 (hL) ?_|refine aa3 (hL) ?_
 simp only[go_sem]
 refine ae5 (af3 ?_)
 simp only[go_sem,as6,ar3]
 first|refine aa1 fok49 (hO) ?_|refine aa3 (hO) ?_
 cases hn:az9 repos inst with
 | inr e=>
  simp only[go_sem]
  refine ae5 (af3 ?_)
  simp only[go_sem]
  exact ac8 rfl
 | inl p=>
 by_cases he:¬ aj6 r p.inst=0
 ·simp only[go_sem,he]
  refine ae5 (af3 ?_)
  simp only[go_sem]
  exact ac8 rfl
 have he:=Decidable.not_not.1 he
 simp only[go_sem,he]
 refine ae5 (af3 ?_)
 simp only[go_sem]
 have hrl:repos.length≤16:=(bh5 hn).1
 have hOv:∀ d:Nat,(ak2 p r inst.length).v=(ak2 p r inst.length).v:=fun _=>rfl
 clear hL hO
 refine ae5 (af3 ?_)
 simp only[go_sem]
 refine ae5 (af3 ?_)
 simp only[go_sem]
 refine ae5 (ae5 (af3 ?_))
 simp only[go_sem]
 generalize hOO:(ak2 p r inst.length).v=O
 generalize hPP:p.v=V
 refine cz9 (ed6 (fun i fr t=>∃ gv xv,fr=[(0,am5 repos),(1,ak7 inst),(3,.int .i64 n),(4,.int .i64 m),(7,.tptr r.cs),(11,O),(13,V),(15,.func (.func 53) [] []),(16,gv),(17,xv),(18,.int .i64 i)] ∧
  Twin t gv xv (((ba1 af6 repos).take i).map Repo.cs) (((ba1 aj8 repos).take i).map Repo.cs)) repos.length ⟨_,_,rfl,.inl ⟨rfl,rfl⟩,.inl ⟨rfl,rfl⟩,fun _ _ _ _ h=>by cases h⟩ ?_)
 rintro i fr t hle ⟨gv,xv,rfl,htw⟩
 by_cases hlt:i<repos.length
 ·obtain ⟨x,hx,hat,hdr,hget,htk⟩:=ad1 repos i hlt
  have c1:(i:Int)<repos.length:=by omega
  have c2:(0:Int)≤i:=by omega
  have w1:=ad5 (i:=i) (by omega)
  have f0:x.cs.head? = some (.int .i64 x.priority):=rfl
  have f1:(x.cs.drop 1).head? = some (ak7 x.packages):=rfl
  have hxl:x.packages.length<2^20:=(hI.rf x hx).1
  have hb:=dl6 x.packages hxl
  have e1:∀ f:Package→Package,(ba1 f repos).take (i+1)=(ba1 f repos).take i++[⟨x.priority,x.packages.map f⟩]:=fun f=>by
   unfold ba1
   rw[← List.map_take,htk,List.map_append,← List.map_take]; rfl
  have e2:∀ f:Package→Package,(((ba1 f repos).take i).map Repo.cs).length=i:=fun f=>by
   rw[List.length_map,List.length_take,bh7]; omega
  have tl:=(bh7 af6 repos)
  refine ae5 (af3 ?_)
  simp only[go_sem,c1]
  refine ae5 (cz9 (ae5 (dy9 ?_)))
  have hag:=ai2 (σ:=⟨t.next+17,t.obj⟩) (nid:=t.next+15) (e:=(⟨x.priority,x.packages.map af6⟩:Repo).cs) (htw.g.mono (by show t.next≤t.next+17; omega) fun _ _ _=>rfl) (bq3 _) ⟨rfl,rfl⟩ (by rw[e2]; omega)
  simp only[go_sem,c1,c2,hget,ay4,f0,f1]
  refine aa1 fok53 hb ?_
  have hag:ax4 ⟨t.next+17,t.obj⟩ (t.next+15) 2 gv (.tslice [[.int .i64 x.priority,ak7 (x.packages.map af6)]])=_:=hag
  simp only[go_sem,ak7]
  rw[hag]
  simp only[go_sem]
  generalize hS1:Store.put _ _ _=S1
  generalize hgv:IV.slice (t.next+15) 0 _ 2=gv'
  have s1n:S1.next=t.next+17:=by rw[← hS1]; exact ad7 _
  have g1:Grow S1 gv' 2 (((ba1 af6 repos).take (i+1)).map Repo.cs):=by
   rw[e1,List.map_append,← hgv]
   have hh:=Grow.new (σ':=S1) (v:=gv) (esz:=2) (nid:=t.next+15) (es:=((ba1 af6 repos).take i).map Repo.cs) (e:=(⟨x.priority,x.packages.map af6⟩:Repo).cs) (by omega) (by rw[← hS1,aa2,if_pos rfl])
   rw[List.length_map] at hh
   exact hh
  have x1:Grow S1 xv 2 (((ba1 aj8 repos).take i).map Repo.cs):=htw.x.mono (by omega) fun id hv hid=>by
   have e:¬ id=t.next+15:=by omega
   rw[← hS1,aa2,if_neg e]
   exact ed4 (t:=⟨t.next+17,t.obj⟩) ⟨htw.g.mono (by show t.next≤t.next+17; omega) fun _ _ _=>rfl,htw.x.mono (by show t.next≤t.next+17; omega) fun _ _ _=>rfl,htw.ne⟩ hv
  have gid:∀ id k,gv'=.slice id 0 k 2→id<S1.next:=fun id k h=>by
   rw[← hgv] at h; cases h; omega
  have n1:∀ id k id' k',gv'=.slice id 0 k 2→xv=.slice id' 0 k' 2→id≠id':=fun id k id' k' h h'=>by
   rw[← hgv] at h; cases h
   rcases htw.x with ⟨e,_⟩|⟨j,e,_,hj⟩
   ·rw[e] at h'; cases h'
   ·rw[e] at h'; cases h'; omega
  clear hS1 hgv hag htw
  obtain ⟨w,S2,ha,n2,o2,hw,k2⟩:=bb4 (σ:=(Store.mk (S1.next+1+1) S1.obj).put S1.next (.row [])) (id:=S1.next) (nid:=S1.next+1) x.packages (by simp only[aa2,if_true]) (by omega)
  refine ae5 (af3 ?_)
  simp only[go_sem,c1,c2,hget,ay4,f0,f1]
  rw[ha]
  simp only[go_sem]
  have n2:S2.next=S1.next+2:=n2
  have k3:∀ j,j<S1.next→S2.obj j=S1.obj j:=fun j hj=>by
   rw[k2 j (by omega) (by omega),aa2,if_neg (by omega)]
  have g2:Grow S2 gv' 2 (((ba1 af6 repos).take (i+1)).map Repo.cs):=g1.mono (by omega) fun id _ hid=>k3 id hid
  have x2:Grow S2 xv 2 (((ba1 aj8 repos).take i).map Repo.cs):=x1.mono (by omega) fun id _ hid=>k3 id hid
  have xid:∀ id k,xv=.slice id 0 k 2→id<S1.next:=fun id k h=>by
   rcases x1 with ⟨e,_⟩|⟨j,e,_,hj⟩
   ·rw[e] at h; cases h
   ·rw[e] at h; cases h; exact hj
  have hwn:S1.next≤w∧w<S2.next:=by omega
  clear ha k2 k3 g1 x1 hw
  refine ae5 (ae5 (af3 ?_))
  simp only[go_sem]
  refine cz9 (ed6 (fun k fr s=>fr=[(0,am5 repos),(1,ak7 inst),(3,.int .i64 n),(4,.int .i64 m),(7,.tptr r.cs),(11,O),(13,V),(15,.func (.func 53) [] []),(16,gv'),(17,xv),(18,.int .i64 i),(19,.slice w 0 x.packages.length 15),(20,.int .i64 k)] ∧
   s.next=S2.next∧(∀ j,j≠w→s.obj j=S2.obj j)∧s.obj w=some (.row ((x.packages.take k).map (fun q=>(aj8 q).cs)++(x.packages.drop k).map Package.cs).flatten)) x.packages.length ⟨rfl,rfl,fun _ _=>rfl,by simpa using o2⟩ ?_)
  rintro k fr s hkle ⟨rfl,hsn,hso,hsw⟩
  by_cases hkl:k<x.packages.length
  ·obtain ⟨y,hy,_,kdr,kget,ktk⟩:=ad1 x.packages k hkl
   have d1:(k:Int)<x.packages.length:=by omega
   have d2:(0:Int)≤k:=by omega
   have w2:=ad5 (i:=k) (by omega)
   obtain ⟨p1,p2⟩:=cw4 (f:=Package.cs) (g:=fun q=>(aj8 q).cs) (fun q=>rfl) (fun q=>rfl) x.packages k
   have p3:=dl5 Package.cs (fun q=>(aj8 q).cs) x.packages k hkl y kdr
   have p4:=dl4 Package.cs (fun q=>(aj8 q).cs) x.packages k hkl y kdr
   generalize (x.packages.take k).map (fun q=>(aj8 q).cs)++(x.packages.drop k).map Package.cs=L at *
   have q1:=bn5 (v:=.str [111,116,104,101,114]) (k:=5) p1 (by omega:k<L.length) (by decide)
   rw[p3,gc2] at q1
   have f0:L.flatten.length=x.packages.length*15:=by rw[ah5 p1,p2]
   have b0:k*15+5+1≤L.flatten.length:=by omega
   have p4:L.set k (aj8 y).cs=_:=p4
   rw[p4] at q1
   clear p4
   generalize L.flatten=L0 at *
   refine ae5 (af3 ?_)
   simp only[go_sem,d1]
   refine ae5 (af3 ?_)
   simp only[go_sem,d1,d2,hsw,Int.toNat_natCast,Nat.zero_add,q1,b0,List.length_cons,List.length_nil,List.all_cons,List.all_nil]
   refine af3 ?_
   simp only[go_sem,w2]
   exact ⟨hkl,hsn,fun j hj=>by rw[if_neg hj]; exact hso j hj⟩
  ·have hk':k=x.packages.length:=by omega
   subst hk'
   have d1:¬ (x.packages.length:Int)<x.packages.length:=by omega
   refine ae5 (af3 ?_)
   simp only[go_sem,d1]
   rw[List.take_length,List.drop_length,List.map_nil,List.append_nil] at hsw
   refine gh9 (S:=fun j=>decide (j≠w)) (fr':=[(0,am5 repos),(1,ak7 inst),(3,.int .i64 n),(4,.int .i64 m),(7,.tptr r.cs),(11,O),(13,V),(15,.func (.func 53) [] []),(16,gv'),(17,xv),(18,.int .i64 i),(19,ak7 (x.packages.map aj8)),(20,.int .i64 x.packages.length),(88,.bool false)]) (fun k=>?_) (af3 ?_)
   ·by_cases hk:k=19
    ·subst hk
     exact .inr (gc3 x.packages hsw (by simp))
    ·left
     have e:(k==19)=false:=by simpa using hk
     simp only[Frm.get,List.lookup,e]
     try rfl
   generalize hu:Store.kills _ _=u
   have hun:u.next=S2.next:=by rw[← hu]; exact hsn
   have huo:∀ j,j<S1.next→u.obj j=S2.obj j:=fun j hj=>by
    have e:¬ j=w:=by omega
    rw[← hu,dh5,if_pos (by simpa using e)]; exact hso j e
   have g3:Grow u gv' 2 (((ba1 af6 repos).take (i+1)).map Repo.cs):=g2.mono (by omega) fun id hv _=>huo id (gid _ _ hv)
   have x3:Grow u xv 2 (((ba1 aj8 repos).take i).map Repo.cs):=x2.mono (by omega) fun id hv _=>huo id (xid _ _ hv)
   clear hu huo g2 x2 hso hsw hsn
   have hag:=ai2 (σ:=⟨u.next+1,u.obj⟩) (nid:=u.next) (e:=(⟨x.priority,x.packages.map aj8⟩:Repo).cs) (x3.mono (by show u.next≤u.next+1; omega) fun _ _ _=>rfl) (bq3 _) ⟨rfl,rfl⟩ (by rw[e2]; omega)
   have hag:ax4 ⟨u.next+1,u.obj⟩ u.next 2 xv (.tslice [[.int .i64 x.priority,ak7 (x.packages.map aj8)]])=_:=hag
   simp only[go_sem,c1,c2,hget,ay4,f0,f1,ak7]
   rw[hag]
   simp only[go_sem]
   generalize hS3:Store.put _ _ _=S3
   generalize hxv:IV.slice u.next 0 _ 2=xv'
   have s3n:S3.next=u.next+1:=by rw[← hS3]; exact ad7 _
   have x4:Grow S3 xv' 2 (((ba1 aj8 repos).take (i+1)).map Repo.cs):=by
    rw[e1,List.map_append,← hxv]
    have hh:=Grow.new (σ':=S3) (v:=xv) (esz:=2) (nid:=u.next) (es:=((ba1 aj8 repos).take i).map Repo.cs) (e:=(⟨x.priority,x.packages.map aj8⟩:Repo).cs) (by omega) (by rw[← hS3,aa2,if_pos rfl])
    rw[List.length_map] at hh
    exact hh
   have g4:Grow S3 gv' 2 (((ba1 af6 repos).take (i+1)).map Repo.cs):=g3.mono (by omega) fun id hv hid=>by
    have e:¬ id=u.next:=by omega
    rw[← hS3,aa2,if_neg e]
    refine ed4 (gv:=xv) (xv:=gv') (t:=⟨u.next+1,u.obj⟩) ⟨x3.mono (by show u.next≤u.next+1; omega) fun _ _ _=>rfl,g3.mono (by show u.next≤u.next+1; omega) fun _ _ _=>rfl,fun a k b k' h h'=>(n1 b k' a k h' h).symm⟩ hv
   have n4:∀ id k id' k',gv'=.slice id 0 k 2→xv'=.slice id' 0 k' 2→id≠id':=fun id k id' k' h h'=>by
    have:=gid _ _ h
    rw[← hxv] at h'; cases h'; omega
   clear hS3 hxv hag
   refine af3 ?_
   simp only[go_sem,w1]
   exact ⟨hlt,gv',xv',rfl,g4,x4,n4⟩
 have hi':i=repos.length:=by omega
 subst hi'
 have c1:¬ (repos.length:Int)<repos.length:=by omega
 refine ae5 (af3 ?_)
 simp only[go_sem,c1]
 have t1:(ba1 af6 repos).take repos.length=ba1 af6 repos:=List.take_of_length_le (by rw[bh7]; omega)
 have t2:(ba1 aj8 repos).take repos.length=ba1 aj8 repos:=List.take_of_length_le (by rw[bh7]; omega)
 rw[t1,t2] at htw
 have rh:r.cs.head? = some (.int .u8 r.arch):=rfl
 refine ae5 (af3 ?_)
 simp only[go_sem,as6,rh]
 generalize hT:Store.put _ _ _=T
 have hTc:T.obj t.next=some (.cells [.int .u8 r.arch,.bool false,.nilslice,.nilslice,.int .i64 0]):=by rw[← hT,aa2,if_pos rfl]
 have hTn:T.next=t.next+1:=by rw[← hT]; rfl
 have hTo:∀ j,j<t.next→T.obj j=t.obj j:=fun j hj=>by
  have e:¬ j=t.next:=by omega
  rw[← hT]; simp only[aa2,e,if_false]
 have g5:Grow T gv 2 ((ba1 af6 repos).map Repo.cs):=htw.g.mono (by omega) fun id _ hid=>hTo id hid
 have x5:Grow T xv 2 ((ba1 aj8 repos).map Repo.cs):=htw.x.mono (by omega) fun id _ hid=>hTo id hid
 clear hT hTo htw
 have hbr:∀ (S:Nat→Prop) (l:List Repo),∀ e∈l.map Repo.cs,∀ c∈e,Nm S c:=fun S l e he c hc=>by
  obtain ⟨y,_,rfl⟩:=List.mem_map.1 he
  exact (ec6 y c hc).weak fun _ h=>absurd h (Nat.not_lt_zero _)
 refine gh9 (S:=fun _=>false) (fr':=[(1,ak7 inst),(3,.int .i64 n),(4,.int .i64 m),(11,O),(13,V),(15,.func (.func 53) [] []),(16,am5 (ba1 af6 repos)),(17,am5 (ba1 aj8 repos)),(21,.tptr (aq7 r).cs)]) (fun k=>?_) ?_
 ·by_cases h16:k=16
  ·subst h16
   exact .inr (g5.frz (fun x hx=>(bq3 _ x hx).1) (fun _ _=>by simp) (hbr _ _))
  by_cases h17:k=17
  ·subst h17
   exact .inr (x5.frz (fun x hx=>(bq3 _ x hx).1) (fun _ _=>by simp) (hbr _ _))
  by_cases h21:k=21
  ·subst h21
   refine .inr (.ptr t.next 0 _ _ (by simp) (.inl hTc) (Nat.le_refl _) fun j hj=>?_)
   match j,hj with
   | 0,_=>exact .keep _ (.int _ _)
   | 1,_=>exact .keep _ (.bool _)
   | 2,_=>exact .nils
   | 3,_=>exact .nils
   | 4,_=>exact .keep _ (.int _ _)
  ·left
   have d1:(k==16)=false:=by simpa using h16
   have d2:(k==17)=false:=by simpa using h17
   have d3:(k==21)=false:=by simpa using h21
   simp only[Frm.get,List.lookup,d1,d2,d3]
   try rfl
 generalize Store.kills _ _=U
 clear g5 x5 hTc hTn hbr
 subst hOO
 subst hPP
 have hIa:=gj2 (f:=af6) (g:=af6) hI (fun q=>ed3) (fun q=>fm3) (fun q=>ed3) (fun q=>fm3)
 have hIb:=gj2 (f:=aj8) (g:=id) hI (fun q=>gc1) (fun q=>gs3) (fun q h=>h) (fun q h=>h)
 obtain ⟨pa,na,ia,ii,ra,ra'⟩:=fh4 (f:=af6) (g:=af6) hn (fun q=>ea9) (fun q=>ea9)
 obtain ⟨pb,nb,ib,_,rb,rb'⟩:=fh4 (f:=aj8) (g:=id) hn (fun q=>fy8) (fun q h=>h)
 rw[List.map_id] at nb hIb
 have hA:=dd3 (ba1 af6 repos) (inst.map af6) (aq7 r) hIa (bq2 r)
 have hB:=dd3 (ba1 aj8 repos) inst (aq7 r) hIb (bq2 r)
 unfold fp7 at hA hB
 rw[na] at hA
 rw[nb] at hB
 simp only[ca1 he,if_true,List.length_map] at hA hB
 have oa:=ook hIa na (bq2 r) (ca1 he) inst.length
 have ob:=ook hIb nb (bq2 r) (ca1 he) inst.length
 have oo:=ook hI hn hR he inst.length
 have pka:=fh5 ra ra'
 obtain ⟨pkb,prb⟩:=fy9 rb rb'
 have lka:∀ k,(ak2 pa (aq7 r) inst.length).likes k=false:=fun k=>by
  have h1:∀ b∈(ak2 pa (aq7 r) inst.length).liked,b=false:=by
   show ∀ b∈(ab2 pa).map (bi9 (ab2 pa) inst.length),b=false
   rw[pka]
   exact et4 _ _
  unfold OrdM.likes OrdM.lk
  by_cases hk:k.toNat<(ak2 pa (aq7 r) inst.length).liked.length
  ·rw[h1 _ (aa7 false hk),Bool.and_false]
  ·rw[List.getD_eq_getElem?_getD,List.getElem?_eq_none (by omega)]
   exact Bool.and_false _
 have lkb:(ak2 pb (aq7 r) inst.length).liked=(ak2 p r inst.length).liked:=et3 pkb inst.length
 have bb:=dt5 (o:=ak2 p r inst.length) (o':=ak2 pb (aq7 r) inst.length) pkb prb rfl lkb n m
 have lb:=fh8 (o:=ak2 p r inst.length) (o':=ak2 pb (aq7 r) inst.length) (by have:=congrArg List.length pkb; exact (by simpa using this:(ab2 pb).length=(ab2 p).length)) lkb n
 have hfit:∀ q∈ab2 p,q.Fit:=(aok hI hn hR he).fit
 have cA1:=ce3 _ oa n
 have cA2:=ce3 _ oa m
 rw[lka] at cA1 cA2
 have cB1:=ax2 _ ob n m
 have cO1:=ax2 _ oo n m
 have cB2:=ce3 _ ob n
 have cO2:=ce3 _ oo n
 rw[bb] at cB1
 rw[lb] at cB2
 have cR1:=ca8 p n
 have cR2:=ca8 p m
 have cP1:=cw5 p n hfit
 have cP2:=cw5 p m hfit
 have hbi:=dl6 inst hI.i1
 have hib:(ak2 p r inst.length).a.is n=true→(ak2 p r inst.length).a.is m=true→p.repoOf n<0→0≤p.repoOf m→((ak2 p r inst.length).a.pk n).arch=((ak2 p r inst.length).a.pk m).arch→(ak2 p r inst.length).better n m=true:=fun h1 h2 h3 h4 h5=>dt6 (o:=ak2 p r inst.length) hn h1 h2 h3 h4 h5
 generalize (ak2 p r inst.length).better n m=bt at *
 generalize (ak2 p r inst.length).likes n=lt at *
 clear bb lb lkb lka
 generalize hOO:(ak2 p r inst.length).v=O at *
 generalize (ak2 pa (aq7 r) inst.length).v=OA at *
 generalize (ak2 pb (aq7 r) inst.length).v=OB at *
 generalize (AskM.mk pa (aq7 r)).v=A1 at *
 generalize (AskM.mk pb (aq7 r)).v=B1 at *
 generalize pa.v=A2 at *
 generalize pb.v=B2 at *
 refine ae5 (dy9 ?_)
 simp only[go_sem,as6,ar3]
 refine aa1 fok53 hbi ?_
 simp only[go_sem,as6,ar3]
 first|refine aa1 fok49 (hA) ?_|refine aa3 (hA) ?_
 simp only[go_sem]
 refine ae5 (af3 ?_)
 simp only[go_sem,as6,ar3]
 first|refine aa1 fok49 (hB) ?_|refine aa3 (hB) ?_
 simp only[go_sem]
 refine ae5 (af3 ?_)
 simp only[go_sem]
 first|refine aa1 fok54 (cA1) ?_|refine aa3 (cA1) ?_
 simp only[go_sem]
 first|refine aa1 fok54 (cA2) ?_|refine aa3 (cA2) ?_
 simp only[go_sem]
 first|refine aa1 fok51 (cB1) ?_|refine aa3 (cB1) ?_
 simp only[go_sem]
 first|refine aa1 fok51 (cO1) ?_|refine aa3 (cO1) ?_
 simp only[go_sem,ed5]
 first|refine aa1 fok54 (cB2) ?_|refine aa3 (cB2) ?_
 simp only[go_sem]
 first|refine aa1 fok54 (cO2) ?_|refine aa3 (cO2) ?_
 simp only[go_sem,ed5]
 obtain ⟨x,e,hx,hx2⟩:=cj6 p r inst.length n
 obtain ⟨y,f,hy,hy2⟩:=cj6 p r inst.length m
 rw[hx] at cP1
 rw[hy] at cP2
 have x4:(x.cs.drop 4).head? = some (.int .u8 x.arch):=rfl
 have y4:(y.cs.drop 4).head? = some (.int .u8 y.arch):=rfl
 clear hA hB cA1 cA2 cB1 cB2 cO2
 refine ae5 (af3 ?_)
 simp only[go_sem]
 first|refine aa1 fok19 (cP1) ?_|refine aa3 (cP1) ?_
 simp only[go_sem,ag2,ah6,ae6]
 refine ae5 (af3 ?_)
 simp only[go_sem]
 first|refine aa1 fok19 (cP2) ?_|refine aa3 (cP2) ?_
 simp only[go_sem,ag2,ah6,ae6]
 refine ae5 (af3 ?_)
 by_cases he1:e=0
 case neg => 
  simp only[go_sem,he1]
  refine af3 ?_
  simp only[go_sem]
  exact ac8 rfl
 by_cases hf1:f=0
 case neg => 
  simp only[go_sem,he1,hf1]
  refine af3 ?_
  simp only[go_sem]
  exact ac8 rfl
 obtain ⟨i1,k1⟩:=hx2 he1
 obtain ⟨i2,k2⟩:=hy2 hf1
 have hib:=hib i1 i2
 rw[k1,k2] at hib
 simp only[go_sem,he1,hf1]
 generalize hZ:Store.mk (U.next+17) _=Z
 have z1:Z.obj (U.next+15)=some (.cells x.cs):=by
  have e:¬ U.next+15=U.next+15+1:=by omega
  rw[← hZ]; simp only[aa2,e,if_false,if_true]
 have z2:Z.obj (U.next+15+1)=some (.cells y.cs):=by rw[← hZ]; simp only[aa2,if_true]
 clear hZ
 first|refine aa1 fok55 (cR1) ?_|refine aa3 (cR1) ?_
 by_cases hr1:0≤p.repoOf n
 case pos=>
  simp only[go_sem,hr1]
  refine af3 ?_
  simp only[go_sem]
  exact ac8 rfl
 simp only[go_sem,hr1]
 first|refine aa1 fok55 (cR2) ?_|refine aa3 (cR2) ?_
 by_cases hr2:p.repoOf m<0
 case pos=>
  simp only[go_sem,hr2]
  refine af3 ?_
  simp only[go_sem]
  exact ac8 rfl
 simp only[go_sem,hr2,z1,z2,x4,y4]
 by_cases ha:x.arch=y.arch
 case neg=>
  simp only[go_sem,ha]
  refine af3 ?_
  simp only[go_sem]
  exact ac8 rfl
 rw[hib (by omega) (by omega) ha] at cO1
 simp only[go_sem,ha]
 first|refine aa1 fok51 (cO1) ?_|refine aa3 (cO1) ?_
 simp only[go_sem]
 refine af3 ?_
 simp only[go_sem]
 exact ac8 rfl
end Go.Id.Tryz
/- MatchEach. Conditions: sizes that fit. -/
namespace Go.Id.Tryz
open Go Go.Id Go.Proofs Go.Id.Md
set_option maxRecDepth 100000
end Go.Id.Tryz
