/- The document's copies,pools and requests: walked. Conditions: sizes that fit. -/
import Derived.Test.YthmabjmjjonlmaaGreatDoorTLMD
import Derived.Test.YthmabjmjjonlmaaGreatDoorGLR
import Derived.Test.YthmabjmjjonlmaaGreatDoorTLSG
import Derived.Test.YthmabjmjjonlmaaGreatDoorTLNC
import Derived.Test.YthmabjmjjonlmaaGreatDoorMv
open Nat renaming le_refl→za,not_lt_zero→zg,lt_of_lt_of_le→zw
open List renaming length_map→zb,mem_append→zc,length_append→ze,getD_eq_getElem?_getD→zf,append_assoc→zh,mem_map→zi,drop_length→zj,length_nil→zk,getElem_mem→zl,nil_append→zm,map_append→zn,append_nil→zo,length_singleton→zp,all_cons→zq,map_nil→zr,mem_map_of_mem→zt,mem_singleton→zu
open Option renaming some→zd
open Bool renaming false_ne_true→zv
set_option linter.all false
set_option maxRecDepth 100000
set_option maxHeartbeats 1000000
private theorem om{P:Prop}(h:P:=by omega):P:=h
namespace Go.Id.Tryz
open Go Go.Id Go.Proofs Go.Shelf Go.Id.Md
theorem ig5 (r:aa6):r.fit->PC Tryz.prog EE 177 [.agg r.cs] (.agg r.cs):=by
 induction r using aa6.ind with
 | h k d xs ih=>
  intro hf;obtain ⟨f1,f2,f3,f4,f5⟩:=aa6.bc6.1 hf;have hbA:=ae9 (.mk k d xs);rw[aa6.ak5] at hbA ⊢;simp only[aa6.kind,aa6.args,aa6.dep] at *;refine ad9 hE fok177 (nZ rfl) (ah9 hbA) ?_;simp only[ic177,go_sem]
  refine ab2 noT (fun i fr s=>∃ gv,fr=[(1,.ab8 [.int .u8 k,.str d.name,.int .u8 d.op,.int .i64 d.evr.ai5,.str d.evr.ver,.str d.evr.rel,.aa4 (xs.map aa6.cs)]),(2,.ptr 0 0),(3,.ptr 1 0),(4,.int .i64 (i:Int))]/\2<=s.next /\
   s.obj 0=zd (.cells [.int .u8 0,.str [],.int .u8 0,.int .i64 0,.str [],.str [],.aa1])/\s.obj 1=zd (.cells [.int .u8 k,.str d.name,.int .u8 d.op,.int .i64 d.evr.ai5,.str d.evr.ver,.str d.evr.rel,gv])/\Grow s gv 7 ((xs.take i).map aa6.cs)) xs.length
   ⟨.aa1,rfl,za _,rfl,rfl,.inl ⟨rfl,rfl⟩⟩ ?_
  rintro i fr s hi ⟨gv,rfl,hnx,h0,h1,hg⟩;by_cases hlt:i<xs.length
  ·obtain ⟨a,ha,_,hdr,hget,htk⟩:=ac7 xs i hlt;have c1:(i:Int)<xs.length:=om
   have c2:(0:Int)<=i:=om
   have w1:=ac2 (i:=i) om;have hA:=ih a ha (f5 a ha);have hl0:((xs.take i).map aa6.cs).length=i:=by rw[zb,List.length_take]; omega
   have hg1:Grow (⟨s.next+12,s.obj⟩:Store) gv 7 ((xs.take i).map aa6.cs):=hg.mono (by show s.next<=s.next+12; omega) fun _ _ _=>rfl
   have hap:=al6 (nid:=s.next+9) (e:=a.cs) hg1 (ar6 _) ⟨ab5 a,ab6 a⟩ (by rw[hl0]; omega);rw[hl0] at hap;have k0:=ag3 hg1 0 _ h0 (fun _ e=>by cases e);have k1:=ag3 hg1 1 _ h1 (fun _ e=>by cases e);have kn:(aj5 gv (⟨s.next+12,s.obj⟩:Store)).next=s.next+12:=ae7 gv;have m0:¬ 0=s.next+9:=om
   have m1:¬ 1=s.next+9:=om
   simp only[go_sem,c1,c2,hget,ab5,ac8,ab6,h1,b_o,b_p,b_t];refine aa8 hA ?_;simp only[go_sem,ab5,ac8,ab6];generalize aj5 gv (⟨s.next+12,s.obj⟩:Store)=K at *;simp only[show s.next+1+1+1+1+1+1+1+1+1=s.next+9 from rfl,hap,go_sem,m0,m1,k0,k1,w1];refine ⟨hlt,_,by rw[kn]; omega,rfl,?_⟩;rw[htk,zn,List.map_cons,zr];refine .inr ⟨s.next+9,by rw[ze,hl0]; rfl,?_,by show s.next+9<K.next; rw[kn]; omega⟩;simp only[aa5];rw[if_neg (fun e=>m1 e.symm),if_pos trivial]
  ·have c1:¬ (i:Int)<xs.length:=om
   have e:i=xs.length:=om
   subst e;rw[List.take_length] at hg;have hvl:gv.leaf=true:=by rcases hg with ⟨rfl,_⟩|⟨id,rfl,_⟩<;>rfl
   simp only[go_sem,c1,h0,h1];refine ⟨hvl,.jb8 (.cons (bg4 rfl) (.cons (.keep _ (.str _)) (.cons (bg4 rfl) (.cons (bg4 rfl) (.cons (.keep _ (.str _)) (.cons (.keep _ (.str _)) (.cons ?_ .nil)))))))⟩;have hne:∀ id,gv=.slice id 0 (xs.map aa6.cs).length 7->id≠0:=fun id hv=>hg.ne hv h0 (fun _ h=>by cases h)
   refine Grow.frz (hg.mono (za _) fun id hv _=>?_) (fun x hx=>(ar6 xs x hx).1) (fun _ _=>zg _) (al3 (ak8 xs));rw[aa5,if_neg (hne id hv)]
theorem ee1 (l:List Dep):∀ x∈l.map Dep.cs,x.length=5/\x.all IV.leaf=true:=fun x hx=>by
 obtain ⟨d,_,rfl⟩:=zi.1 hx;exact ⟨rfl,rfl⟩
theorem fk1 (l:List Str):∀ x∈l.map bh4,x.length=1/\x.all IV.leaf=true:=fun x hx=>by
 obtain ⟨d,_,rfl⟩:=zi.1 hx;exact ⟨rfl,rfl⟩
theorem ha6 (xs:List aa6)(hl:xs.length<2^31)(hf:∀ r∈xs,r.fit):PC Tryz.prog EE 106 [ai9 xs] (ai9 xs):=by
 refine ad9 hE fok106 (nZ rfl) (ah9 (ak8 xs)) ?_;simp only[ic106,go_sem];refine ab2 noT (fun i fr s=>∃ gv,fr=[(0,ai9 xs),(3,gv),(4,.int .i64 (i:Int))]/\Grow s gv 7 ((xs.take i).map aa6.cs)) xs.length ⟨.aa1,rfl,.inl ⟨rfl,rfl⟩⟩ ?_;rintro i fr s hi ⟨gv,rfl,hg⟩;by_cases hlt:i<xs.length
 ·obtain ⟨a,ha,_,hdr,hget,htk⟩:=ac7 xs i hlt;have c1:(i:Int)<xs.length:=om
  have c2:(0:Int)<=i:=om
  have w1:=ac2 (i:=i) om;have hA:=ig5 a (hf a ha);have hl0:((xs.take i).map aa6.cs).length=i:=by rw[zb,List.length_take]; omega
  simp only[go_sem,c1,c2,hget,ab5,ac8,ab6]
  first|refine aa2 fok177 (hA) ?_|refine aa8 (hA) ?_
  simp only[go_sem,ab5,ac8,ab6];have hap:=al6 (nid:=s.next) (e:=a.cs) (hg.mono (σ':=⟨s.next+1,s.obj⟩) (Nat.le_succ _) fun _ _ _=>rfl) (ar6 _) ⟨ab5 a,ab6 a⟩ (by rw[hl0]; omega);rw[hl0] at hap;simp only[go_sem,hap,w1];refine ⟨hlt,_,rfl,?_⟩;rw[htk,zn,List.map_cons,zr];exact .inr ⟨s.next,by rw[ze,hl0]; rfl,by rw[aa5,if_pos rfl],by show s.next<(aj5 gv _).next; rw[ae7]; exact Nat.lt_succ_self _⟩
 ·have c1:¬ (i:Int)<xs.length:=om
  have e:i=xs.length:=om
  subst e;rw[List.take_length] at hg;simp only[go_sem,c1];exact hg.frz (fun x hx=>(ar6 xs x hx).1) (fun _ _=>zg _) (al3 (ak8 xs))
theorem en9 (p:aa3)(hf:p.Fit):PC Tryz.prog EE 57 [.agg p.cs] (.agg p.cs):=by
 refine ad9 hE fok57 (nZ rfl) (ah9 (al2 p)) ?_;have gr:=fun (l:List aa6) (wh:Int) (h:(wh,l)∈p.rows)=>ha6 l (hf.rich _ h).1 fun r hr=>((hf.rich _ h).2 r hr).1
 have r1:=gr p.requires 1 (by simp[aa3.rows]);have r2:=gr p.conflicts 2 (by simp[aa3.rows]);have r3:=gr p.ac6 1 (by simp[aa3.rows]);have r4:=gr p.ac1 3 (by simp[aa3.rows]);have r5:=gr p.suggests 1 (by simp[aa3.rows]);have r6:=gr p.af4 3 (by simp[aa3.rows]);clear gr;simp only[ic57,go_sem,ad6,aa3.cs];generalize hS0:Store.put _ 9 (al9.row [])=S0;have S0n:S0.next=41:=by rw[<- hS0]; rfl
 have g0:Grow S0 (.slice 9 0 0 5) 5 []:=.inr ⟨9,rfl,by rw[<- hS0,aa5,if_pos rfl]; rfl,om⟩;have b0:S0.obj 0=zd (.cells [.str [],.int .i64 0,.str [],.str [],.int .u8 0,.str [],.aa1,.aa1,.aa1,.aa1,.aa1,.aa1,.aa1,.aa1,.aa1]):=by rw[<- hS0]; rfl
 obtain ⟨v1,t1,a1,n1,q1,k1,o1⟩:=bq1 (nid:=12) (xs:=p.provides.map Dep.cs) g0 (fun x h=>by cases h) (ee1 _) (by rw[zb,zk]; have:=hf.ax9.1; omega) om;have b1:t1.obj 0=_:=(k1 0 (by decide) (fun k h=>by cases h)).trans b0;rw[zm] at q1;simp only[go_sem,a1];refine aa8 r1 ?_;simp only[go_sem];refine aa8 r2 ?_;simp only[go_sem]
 have i1:∀ i k,v1=.slice i 0 k 5->i=9\/i=12:=fun i k h=>by
  rcases o1 with e|e<;>(rw[e] at h; cases h)<;>simp
 generalize hS1:Store.put t1 19 (al9.row [])=S1;have S1n:S1.next=41:=by rw[<- hS1,ab7,n1,S0n]
 have e1:∀ i,i≠19->S1.obj i=t1.obj i:=fun i hi=>by rw[<- hS1,aa5,if_neg hi]
 have g1:Grow S1 (.slice 19 0 0 5) 5 []:=.inr ⟨19,rfl,by rw[<- hS1,aa5,if_pos rfl]; rfl,om⟩;obtain ⟨v2,t2,a2,n2,q2,k2,o2⟩:=bq1 (nid:=22) (xs:=p.aa7.map Dep.cs) g1 (fun x h=>by cases h) (ee1 _) (by rw[zb,zk]; have:=hf.obs.1; omega) om;rw[zm] at q2
 have i2:∀ i k,v2=.slice i 0 k 5->i=19\/i=22:=fun i k h=>by
  rcases o2 with e|e<;>(rw[e] at h; cases h)<;>simp
 have b2:t2.obj 0=_:=(k2 0 (by decide) (fun k h=>by cases h)).trans ((e1 0 (by decide)).trans b1)
 have p1:Grow t2 v1 5 (p.provides.map Dep.cs):=q1.mono (by rw[n2,S1n,n1,S0n]; exact za _) fun id hv _=>by
  have hid:=i1 _ _ hv;rw[k2 id om (fun k h=>by cases h; omega),e1 id om]
 simp only[go_sem,a2];refine aa8 r3 ?_;simp only[go_sem];refine aa8 r4 ?_;simp only[go_sem];refine aa8 r5 ?_;simp only[go_sem];refine aa8 r6 ?_;simp only[go_sem];generalize hS2:Store.put t2 35 (al9.row [])=S2;have S2n:S2.next=41:=by rw[<- hS2,ab7,n2,S1n]
 have e2:∀ i,i≠35->S2.obj i=t2.obj i:=fun i hi=>by rw[<- hS2,aa5,if_neg hi]
 have g2:Grow S2 (.slice 35 0 0 1) 1 []:=.inr ⟨35,rfl,by rw[<- hS2,aa5,if_pos rfl]; rfl,om⟩;obtain ⟨v3,t3,a3,n3,q3,k3,o3⟩:=bq1 (nid:=38) (xs:=p.files.map bh4) g2 (fun x h=>by cases h) (fk1 _) (by rw[zb,zk]; have:=hf.files.1; omega) om;rw[zm] at q3
 have i3:∀ i k,v3=.slice i 0 k 1->i=35\/i=38:=fun i k h=>by
  rcases o3 with e|e<;>(rw[e] at h; cases h)<;>simp
 have b3:t3.obj 0=_:=(k3 0 (by decide) (fun k h=>by cases h)).trans ((e2 0 (by decide)).trans b2)
 have pp1:Grow t3 v1 5 (p.provides.map Dep.cs):=p1.mono (by rw[n3,S2n,n2,S1n]; exact za _) fun id hv _=>by
  have hid:=i1 _ _ hv;rw[k3 id om (fun k h=>by cases h; omega),e2 id om]
 have pp2:Grow t3 v2 5 (p.aa7.map Dep.cs):=q2.mono (by rw[n3,S2n,n2,S1n]; exact za _) fun id hv _=>by
  have hid:=i2 _ _ hv;rw[k3 id om (fun k h=>by cases h; omega),e2 id om]
 have l1:v1.leaf=true:=by rcases o1 with e|e<;>(rw[e]; rfl)
 have l2:v2.leaf=true:=by rcases o2 with e|e<;>(rw[e]; rfl)
 have l3:v3.leaf=true:=by rcases o3 with e|e<;>(rw[e]; rfl)
 have c1:v1.cs=[v1]:=by rcases o1 with e|e<;>(rw[e]; rfl)
 have c2:v2.cs=[v2]:=by rcases o2 with e|e<;>(rw[e]; rfl)
 have c3:v3.cs=[v3]:=by rcases o3 with e|e<;>(rw[e]; rfl)
 simp only[go_sem,a3,l1,l2,l3,c1,c2,c3,b3];have bs:∀ s:Str,Bnd 0 (.str s):=fun s=>.str s
 have fd:∀ (v:IV) (l:List Dep),(∀ i k,v=.slice i 0 k 5->i≠0)->Grow t3 v 5 (l.map Dep.cs)->∀ c,bw7 (t3.put 0 c) 0 v (deps l):=fun v l hv hg c=>by
  refine Grow.frz (hg.mono (za _) fun id hid _=>by rw[aa5,if_neg (hv _ _ hid)]) (fun x hx=>(ee1 l x hx).1) (fun _ _=>zg _) fun e he c hc=>?_
  obtain ⟨d,_,rfl⟩:=zi.1 he;exact ec2 d c hc
 have fs:∀ (v:IV) (l:List Str),(∀ i k,v=.slice i 0 k 1->i≠0)->Grow t3 v 1 (l.map bh4)->∀ c,bw7 (t3.put 0 c) 0 v (strs l):=fun v l hv hg c=>by
  refine Grow.frz (hg.mono (za _) fun id hid _=>by rw[aa5,if_neg (hv _ _ hid)]) (fun x hx=>(fk1 l x hx).1) (fun _ _=>zg _) fun e he c hc=>?_
  obtain ⟨d,_,rfl⟩:=zi.1 he
  cases hc with
  | head=>exact .str _
  | tail _ h=>cases h
 refine .jb8 (.cons (.keep _ (bs _)) (.cons (bg4 rfl) (.cons (.keep _ (bs _)) (.cons (.keep _ (bs _)) (.cons (bg4 rfl) (.cons (.keep _ (bs _)) (.cons (fd _ _ (fun i k h=>by have:=i1 _ _ h; omega) pp1 _) (.cons (.keep _ (ak8 _)) (.cons (.keep _ (ak8 _)) (.cons (fd _ _ (fun i k h=>by have:=i2 _ _ h; omega) pp2 _)
  (.cons (.keep _ (ak8 _)) (.cons (.keep _ (ak8 _)) (.cons (.keep _ (ak8 _)) (.cons (.keep _ (ak8 _)) (.cons (fs _ _ (fun i k h=>by have:=i3 _ _ h; omega) q3 _) .nil)))))))))))))))
end Go.Id.Tryz
namespace Go.Id.Tryz
open Go Go.Id Go.Proofs Go.Shelf Go.Id.Md
def jp2 (e:Nat)(es:List (List IV)):Prop:=∀ x∈es,x.length=e/\x.all IV.leaf=true
def Far (v w:IV):Prop:=∀ i k e j l f,v=.slice i 0 k e->w=.slice j 0 l f->i≠j
structure Q12 (s:Store) (id:Nat) (n:Int) (k:Nat) (Lv Rv Pv:IV) (eL eR eP:List (List IV)):Prop where
 cell:s.obj id=zd (.cells [Lv,.int .i64 n,Rv,Pv])
 lt:id<s.next
 gL:Grow s Lv 15 eL
 gR:Grow s Rv 1 eR
 gP:Grow s Pv 1 eP
 aL:jp2 15 eL
 aR:jp2 1 eR
 aP:jp2 1 eP
 kL:eL.length<=k
 kR:eR.length<=k
 kP:eP.length<=k
 lr:Far Lv Rv
 lp:Far Lv Pv
 rp:Far Rv Pv
theorem Q12.mono {s s':Store}{id:Nat}{n:Int}{k:Nat}{Lv Rv Pv:IV}{eL eR eP:List (List IV)}(h:Q12 s id n k Lv Rv Pv eL eR eP)(hn:s.next<=s'.next)(ho:∀ i,i<s.next->s'.obj i=s.obj i):Q12 s' id n k Lv Rv Pv eL eR eP :=
 {h with
  cell:=by rw[ho _ h.lt]; exact h.cell
  lt:=zw h.lt hn
  gL:=h.gL.mono hn fun i _ hi=>ho i hi
  gR:=h.gR.mono hn fun i _ hi=>ho i hi
  gP:=h.gP.mono hn fun i _ hi=>ho i hi }
theorem fk2 {s:Store}{v:IV}{e:Nat}{es:List (List IV)}(h:Grow s v e es){i k f:Nat}(hv:v=.slice i 0 k f):i<s.next/\∃ cs,s.obj i=zd (.row cs):=by
 rcases h with ⟨h0,_⟩|⟨j,hj,ho,hl⟩
 ·rw[h0] at hv; cases hv
 ·rw[hj] at hv; cases hv; exact ⟨hl,_,ho⟩
theorem ha7 {s:Store}{v:IV}{i:Nat}(h:∀ k e,v≠.slice i 0 k e){e:Nat}{es:List (List IV)}(hg:Grow s v e es):(aj5 v s).obj i=s.obj i:=by
 rcases hg with ⟨h0,_⟩|⟨j,hj,_,_⟩
 ·rw[h0]; rfl
 ·rw[hj];show (if i=j then none else s.obj i)=_;rw[if_neg fun e=>h _ _ (by rw[hj,e])]
theorem gc2 {s:Store}{v w:IV}{e f m nid:Nat}{es fs:List (List IV)}(hm:s.next<=m)(hg:Grow s v e es)(hw:Grow s w f fs)(hf:Far v w)(hn:∀ i k g,w=.slice i 0 k g->i≠nid)(r:al9) :
  Grow ((aj5 v (⟨m,s.obj⟩:Store)).put nid r) w f fs:=by
 have hg':Grow (⟨m,s.obj⟩:Store) v e es:=hg.mono hm fun _ _ _=>rfl
 refine hw.mono (by rw[ab7,ae7]; exact hm) fun i hv _=>?_
 rw[aa5,if_neg (hn _ _ _ hv),ha7 (fun k g hk=>hf _ _ _ _ _ _ hk hv rfl) hg']
theorem Q12.push {t:Store}{id:Nat}{n:Int}{k:Nat}{Lv Rv Pv:IV}{eL eR eP:List (List IV)}(h:Q12 t id n k Lv Rv Pv eL eR eP)(hk:k<2^20){c:List IV}(hc:c.length=15/\c.all IV.leaf=true)(a b:Int){d1 d2 d3 d4:Nat}(h12:d1<d2)(h23:d2<d3)(h34:d3<d4) :
  ∃ L' R' P' S1 S2 S3,ba5 ⟨t.next+d4,t.obj⟩ (t.next+d1) 15 Lv (.aa4 [c])=zd (L',S1)/\S1.obj id=zd (.cells [Lv,.int .i64 n,Rv,Pv])/\ba5 S1 (t.next+d2) 1 Rv (.aa4 [[.int .i64 a]])=zd (R',S2)/\S2.obj id=zd (.cells [Lv,.int .i64 n,Rv,Pv]) /\
   ba5 S2 (t.next+d3) 1 Pv (.aa4 [[.int .i64 b]])=zd (P',S3)/\S3.obj id=zd (.cells [Lv,.int .i64 n,Rv,Pv])/\(L'.leaf=true/\L'.cs=[L']/\R'.leaf=true/\R'.cs=[R']/\P'.leaf=true/\P'.cs=[P'])/\S3.next=t.next+d4 /\
   ∀ τ:Store,t.next+d4<=τ.next->τ.obj id=zd (.cells [L',.int .i64 n,R',P'])->(∀ i,i≠id->τ.obj i=S3.obj i)->Q12 τ id n (k+1) L' R' P' (eL++[c]) (eR++[[.int .i64 a]]) (eP++[[.int .i64 b]]):=by
 have hcell:=h.cell;have nid1:¬ id=t.next+d1:=by have:=h.lt; omega
 have nid2:¬ id=t.next+d2:=by have:=h.lt; omega
 have nid3:¬ id=t.next+d3:=by have:=h.lt; omega
 have notrow:∀ {s:Store} {v:IV} {e:Nat} {es:List (List IV)},Grow s v e es->s.obj id=zd (.cells [Lv,.int .i64 n,Rv,Pv])->∀ kk ee,v≠.slice id 0 kk ee:=fun hg ho kk ee hv=>by
  obtain ⟨_,cs,hr⟩:=fk2 hg hv;rw[ho] at hr; cases hr
 have old:∀ {s:Store} {v:IV} {e:Nat} {es:List (List IV)},Grow s v e es->s.next=t.next->∀ d i kk g,v=.slice i 0 kk g->i≠t.next+d:=fun hg hs d i kk g hv=>by
  have:=(fk2 hg hv).1; omega
 -- the first row
 have G0:Grow (⟨t.next+d4,t.obj⟩:Store) Lv 15 eL:=h.gL.mono (by show t.next<=t.next+d4; omega) fun _ _ _=>rfl
 have A1:=al6 (nid:=t.next+d1) (e:=c) G0 h.aL hc (by have:=h.kL; omega)
 have c1:((aj5 Lv (⟨t.next+d4,t.obj⟩:Store)).put (t.next+d1) (.row (eL++[c]).flatten)).obj id=zd (.cells [Lv,.int .i64 n,Rv,Pv]):=by
  rw[aa5,if_neg nid1]; exact ag3 G0 id _ hcell (fun _ e=>by cases e)
 have R1:=gc2 (m:=t.next+d4) (nid:=t.next+d1) (Nat.le_add_right _ _) h.gL h.gR h.lr (old h.gR rfl d1) (.row (eL++[c]).flatten);have P1:=gc2 (m:=t.next+d4) (nid:=t.next+d1) (Nat.le_add_right _ _) h.gL h.gP h.lp (old h.gP rfl d1) (.row (eL++[c]).flatten);have L1:Grow ((aj5 Lv (⟨t.next+d4,t.obj⟩:Store)).put (t.next+d1) (.row (eL++[c]).flatten)) (.slice (t.next+d1) 0 (eL.length+1) 15) 15 (eL++[c]):=Grow.new (v:=.aa1) (by rw[ab7,ae7]; show _<t.next+d4; omega) (by rw[aa5,if_pos rfl]);have N1:((aj5 Lv (⟨t.next+d4,t.obj⟩:Store)).put (t.next+d1) (.row (eL++[c]).flatten)).next=t.next+d4:=by rw[ab7,ae7]
 generalize (aj5 Lv (⟨t.next+d4,t.obj⟩:Store)).put (t.next+d1) (.row (eL++[c]).flatten)=S1 at *
 -- the second
 have A2:=al6 (nid:=t.next+d2) (e:=[IV.int .i64 a]) R1 h.aR ⟨rfl,rfl⟩ (by have:=h.kR; omega);have e1:(⟨S1.next,S1.obj⟩:Store)=S1:=rfl
 have c2:((aj5 Rv S1).put (t.next+d2) (.row (eR++[[IV.int .i64 a]]).flatten)).obj id=zd (.cells [Lv,.int .i64 n,Rv,Pv]):=by
  rw[aa5,if_neg nid2]; exact ag3 R1 id _ c1 (fun _ e=>by cases e)
 have P2:Grow ((aj5 Rv S1).put (t.next+d2) (.row (eR++[[IV.int .i64 a]]).flatten)) Pv 1 eP:=gc2 (s:=S1) (m:=S1.next) (nid:=t.next+d2) (za _) R1 P1 h.rp (fun i kk g hv=>old h.gP rfl d2 i kk g hv) _;have L2:Grow ((aj5 Rv S1).put (t.next+d2) (.row (eR++[[IV.int .i64 a]]).flatten)) (.slice (t.next+d1) 0 (eL.length+1) 15) 15 (eL++[c]):=gc2 (s:=S1) (m:=S1.next) (nid:=t.next+d2) (za _) R1 L1 (fun i kk g j l f hv hw=>by cases hw; exact old h.gR rfl d1 _ _ _ hv) (fun i kk g hv=>by cases hv; omega) _;have R2:Grow ((aj5 Rv S1).put (t.next+d2) (.row (eR++[[IV.int .i64 a]]).flatten)) (.slice (t.next+d2) 0 (eR.length+1) 1) 1 (eR++[[IV.int .i64 a]]):=Grow.new (v:=.aa1) (by rw[ab7,ae7,N1]; omega) (by rw[aa5,if_pos rfl]);have N2:((aj5 Rv S1).put (t.next+d2) (.row (eR++[[IV.int .i64 a]]).flatten)).next=t.next+d4:=by rw[ab7,ae7,N1]
 generalize (aj5 Rv S1).put (t.next+d2) (.row (eR++[[IV.int .i64 a]]).flatten)=S2 at *
 -- the third
 have A3:=al6 (nid:=t.next+d3) (e:=[IV.int .i64 b]) P2 h.aP ⟨rfl,rfl⟩ (by have:=h.kP; omega)
 have c3:((aj5 Pv S2).put (t.next+d3) (.row (eP++[[IV.int .i64 b]]).flatten)).obj id=zd (.cells [Lv,.int .i64 n,Rv,Pv]):=by
  rw[aa5,if_neg nid3]; exact ag3 P2 id _ c2 (fun _ e=>by cases e)
 have L3:Grow ((aj5 Pv S2).put (t.next+d3) (.row (eP++[[IV.int .i64 b]]).flatten)) (.slice (t.next+d1) 0 (eL.length+1) 15) 15 (eL++[c]):=gc2 (s:=S2) (m:=S2.next) (nid:=t.next+d3) (za _) P2 L2 (fun i kk g j l f hv hw=>by cases hw; exact old h.gP rfl d1 _ _ _ hv) (fun i kk g hv=>by cases hv; omega) _;have R3:Grow ((aj5 Pv S2).put (t.next+d3) (.row (eP++[[IV.int .i64 b]]).flatten)) (.slice (t.next+d2) 0 (eR.length+1) 1) 1 (eR++[[IV.int .i64 a]]):=gc2 (s:=S2) (m:=S2.next) (nid:=t.next+d3) (za _) P2 R2 (fun i kk g j l f hv hw=>by cases hw; exact old h.gP rfl d2 _ _ _ hv) (fun i kk g hv=>by cases hv; omega) _;have P3:Grow ((aj5 Pv S2).put (t.next+d3) (.row (eP++[[IV.int .i64 b]]).flatten)) (.slice (t.next+d3) 0 (eP.length+1) 1) 1 (eP++[[IV.int .i64 b]]):=Grow.new (v:=.aa1) (by rw[ab7,ae7,N2]; omega) (by rw[aa5,if_pos rfl]);have N3:((aj5 Pv S2).put (t.next+d3) (.row (eP++[[IV.int .i64 b]]).flatten)).next=t.next+d4:=by rw[ab7,ae7,N2]
 generalize (aj5 Pv S2).put (t.next+d3) (.row (eP++[[IV.int .i64 b]]).flatten)=S3 at *;refine ⟨_,_,_,S1,S2,S3,A1,c1,A2,c2,A3,c3,⟨rfl,rfl,rfl,rfl,rfl,rfl⟩,N3,fun τ hτ hcτ hoτ=>?_⟩;have keep:∀ {v:IV} {e:Nat} {es:List (List IV)},Grow S3 v e es->Grow τ v e es:=fun hg=>hg.mono om fun i hv _=>hoτ i fun e=>notrow hg c3 _ _ (by rw[<- e]; exact hv)
 have snocE:∀ {e:Nat} {es:List (List IV)} {x:List IV},jp2 e es->(x.length=e/\x.all IV.leaf=true)->jp2 e (es++[x]):=fun h1 h2 y hy=>by
  rcases zc.1 hy with hy|hy
  ·exact h1 y hy
  ·rw[zu] at hy; rw[hy]; exact h2
 exact {
  cell:=hcτ
  lt:=by have:=h.lt; omega
  gL:=keep L3
  gR:=keep R3
  gP:=keep P3
  aL:=snocE h.aL hc
  aR:=snocE h.aR ⟨rfl,rfl⟩
  aP:=snocE h.aP ⟨rfl,rfl⟩
  kL:=by rw[ze]; have:=h.kL; simp only[zp]; omega
  kR:=by rw[ze]; have:=h.kR; simp only[zp]; omega
  kP:=by rw[ze]; have:=h.kP; simp only[zp]; omega
  lr:=fun i k e j l f h1 h2=>by cases h1; cases h2; omega
  lp:=fun i k e j l f h1 h2=>by cases h1; cases h2; omega
  rp:=fun i k e j l f h1 h2=>by cases h1; cases h2; omega }
def jy8 (σ:Store)(r:Pool ⊕ Int)(v:IV)(s:Store):Prop:=σ.next<=s.next/\match r with
 | .inl p=>∃ id X Y Z,v=.tuple [.ptr id 0,.int .i64 0]/\s.obj id=zd (.cells [X,.int .i64 p.inst,Y,Z])
 | .inr e=>v=.tuple [.af3,.int .i64 e]
theorem iz8 (repos:List ao2)(inst:List aa3)(hI:if4 repos inst)(σ:Store):C Tryz.prog EE 26 [av8 repos,au3 inst] σ (jy8 σ (by3 repos inst)):=by
 refine C_f fok26 (nZ rfl) ?_;have h1:=hI.r1;have h2:=hI.i1;have h3:=hI.s1;simp only[ic26,go_sem];refine ab2 noT (fun i fr s=>∃ n:Nat,fr=[(0,av8 repos),(1,au3 inst),(6,.int .i64 n),(7,.int .i64 (i:Int))]/\σ.next<=s.next/\n+am4 (repos.drop i)=inst.length+am4 repos) repos.length ⟨inst.length,rfl,za _,rfl⟩ ?_;rintro i fr s hle ⟨n,rfl,hnx,hn⟩;by_cases hlt:i<repos.length
 ·obtain ⟨a,ha,_,hdr,hget,htk⟩:=ac7 repos i hlt;have c1:(i:Int)<repos.length:=om
  have c2:(0:Int)<=i:=om
  have w1:=ac2 (i:=i) om;rw[cf9 repos i a hdr] at hn
  have w2:IntKind.i64.wrap ((n:Int)+a.packages.length)=((n+a.packages.length:Nat):Int):=by
   rw[wrap64 om om]; omega
  simp only[go_sem,c1,c2,hget,aq5,at1,as9,ao2.cs,w2,w1];exact ⟨hlt,n+a.packages.length,rfl,hnx,om⟩
 have hi':i=repos.length:=om
 subst hi';have c1:¬ (repos.length:Int)<repos.length:=om
 have hn0:n=inst.length+am4 repos:=by rw[zj] at hn; simpa [am4] using hn
 subst hn0;by_cases b1:16<repos.length
 ·have b1':(16:Int)<repos.length:=om
  simp only[go_sem,c1,b1',by3,b1,true_or];exact ⟨hnx,rfl⟩
 have b1':¬ (16:Int)<repos.length:=om
 by_cases b2:256<inst.length+am4 repos
 ·have b2':(256:Int)<((inst.length+am4 repos:Nat):Int):=om
  simp only[go_sem,c1,b1',b2',by3,b1,b2,or_true];exact ⟨hnx,rfl⟩
 have b2':¬ (256:Int)<((inst.length+am4 repos:Nat):Int):=om
 simp only[go_sem,c1,b1',b2']
 have hnew:inst.all ah4=true->by3 repos inst=match ah3 0 repos (rowsOf inst (-1) 1025,cv5 [] 0 inst) with
  | some (rows,nm)=>.inl ⟨rows,inst.length,nm⟩
  | none=>.inr 4:=fun h=>by
  unfold by3;rw[if_neg om,if_neg (by rw[h]; simp)];rfl
 obtain ⟨B,hB⟩:∃ B,s.next=B:=⟨_,rfl⟩;rw[hB];have hσB:σ.next<=B:=om
 refine ab2 noT (fun i fr t=>fr=[(0,av8 repos),(1,au3 inst),(8,.ptr B 0),(9,.int .i64 (i:Int))]/\B<=t.next/\(inst.drop i).all ah4=inst.all ah4/\∃ Lv Rv Pv eL eR eP,Q12 t B inst.length i Lv Rv Pv eL eR eP) inst.length ⟨rfl,?_,rfl,.aa1,.aa1,.aa1,[],[],[],?_⟩ ?_
 ·show B<=_+1; omega
 ·exact {
      cell:=by simp only[aa5,if_true]
      lt:=Nat.lt_succ_of_le om
      gL:=.inl ⟨rfl,rfl⟩
      gR:=.inl ⟨rfl,rfl⟩
      gP:=.inl ⟨rfl,rfl⟩
      aL:=fun x h=>by cases h
      aR:=fun x h=>by cases h
      aP:=fun x h=>by cases h
      kL:=za _
      kR:=za _
      kP:=za _
      lr:=fun i k e j l f h=>by cases h
      lp:=fun i k e j l f h=>by cases h
      rp:=fun i k e j l f h=>by cases h }
 rintro i fr t hle ⟨rfl,hnt,ha,Lv,Rv,Pv,eL,eR,eP,hQ⟩;by_cases hlt:i<inst.length
 ·obtain ⟨x,hx,_,hdr,hget,htk⟩:=ac7 inst i hlt;have d1:(i:Int)<inst.length:=om
  have d2:(0:Int)<=i:=om
  have w1:=ac2 (i:=i) om;have hm:=ff6 x (hI.pf x hx);have hcp:=en9 x (hI.pf x hx);rw[hdr,zq] at ha;simp only[go_sem,d1,d2,hget,ag5,ag9,ad6];refine aa2 fok56 (hm) ?_
  cases hb:ah4 x with
  | false=>
   rw[hb,Bool.false_and] at ha;simp only[go_sem];refine ⟨om,?_⟩;unfold by3
   rw[if_neg om,if_pos ha.symm]
  | true=>
   rw[hb,Bool.true_and] at ha;obtain ⟨L',R',P',S1,S2,S3,q1,o1,q2,o2,q3,o3,⟨l1,l2,l3,l4,l5,l6⟩,n3,fin⟩:=hQ.push om (c:=x.cs) ⟨rfl,rfl⟩ (-1) 1025 (d1:=13) (d2:=19) (d3:=25) (d4:=35) (by decide) (by decide) (by decide);have hcell:=hQ.cell;simp only[go_sem,d1,d2,hget,ag5,ag9,ad6,hcell,b_o,b_p,b_t];refine aa8 hcp ?_;simp only[go_sem,ag5,ag9,ad6];simp only[show t.next+1+1+1+1+1+1+1+1+1+1+1+1+1=t.next+13 from rfl,q1,go_sem,o1,b_o,b_p,b_t];simp only[show t.next+1+1+1+1+1+1+1+1+1+1+1+1+1+1+1+1+1+1+1=t.next+19 from rfl,q2,go_sem,o2,b_o,b_p,b_t];simp only[show t.next+1+1+1+1+1+1+1+1+1+1+1+1+1+1+1+1+1+1+1+1+1+1+1+1+1=t.next+25 from rfl,q3,go_sem,o3,l1,l2,l3,l4,l5,l6,w1];refine ⟨hlt,by rw[n3]; omega,ha,_,_,_,_,_,_,fin _ (by rw[n3]; exact za _) (by simp only[aa5,if_true]) fun z hz=>by simp only[aa5,hz,if_false]⟩
 have hi':i=inst.length:=om
 subst hi';rw[zj] at ha;have hmay:inst.all ah4=true:=ha.symm;have d1:¬ (inst.length:Int)<inst.length:=om
 rw[hnew hmay];simp only[go_sem,d1];clear ha hnew
 refine ab2 noT (fun i fr t=>fr=[(0,av8 repos),(8,.ptr B 0),(10,.int .i64 (i:Int))]/\B<=t.next/\∃ st k,ah3 0 repos (rowsOf inst (-1) 1025,cv5 [] 0 inst)=ah3 i (repos.drop i) st/\k+am4 (repos.drop i)=inst.length+am4 repos /\
  ∃ Lv Rv Pv eL eR eP,Q12 t B inst.length k Lv Rv Pv eL eR eP) repos.length ⟨rfl,hnt,_,inst.length,rfl,rfl,_,_,_,_,_,_,hQ⟩ ?_
 clear hQ hnt eL eR eP Lv Rv Pv t;rintro i fr t hle ⟨rfl,hnt,st,k,hrf,hsum,Lv,Rv,Pv,eL,eR,eP,hQ⟩;by_cases hlt:i<repos.length
 ·obtain ⟨a,ha,_,hdr,hget,htk⟩:=ac7 repos i hlt;have c1:(i:Int)<repos.length:=om
  have c2:(0:Int)<=i:=om
  have w1:=ac2 (i:=i) om;rw[cf9 repos i a hdr] at hsum;rw[hdr] at hrf;by_cases p1:a.priority<0
  ·simp only[go_sem,c1,c2,hget,aq5,at1,as9,ao2.cs,p1];rw[hrf,ah3,if_pos (.inl p1)];exact ⟨om,rfl⟩
  by_cases p2:1024<a.priority
  ·simp only[go_sem,c1,c2,hget,aq5,at1,as9,ao2.cs,p1,p2];rw[hrf,ah3,if_pos (.inr (.inl p2))];exact ⟨om,rfl⟩
  simp only[go_sem,c1,c2,hget,aq5,at1,as9,ao2.cs,p1,p2]
  refine ab2 noT (fun j fr t=>fr=[(0,av8 repos),(8,.ptr B 0),(10,.int .i64 (i:Int)),(11,.int .i64 (j:Int))]/\B<=t.next/\(a.packages.drop j).all ah4=a.packages.all ah4 /\
   ∃ Lv Rv Pv eL eR eP,Q12 t B inst.length (k+j) Lv Rv Pv eL eR eP) a.packages.length ⟨rfl,hnt,rfl,_,_,_,_,_,_,hQ⟩ ?_
  clear hQ hnt eL eR eP Lv Rv Pv t;rintro j fr t hj ⟨rfl,hnt,hall,Lv,Rv,Pv,eL,eR,eP,hQ⟩;by_cases hjl:j<a.packages.length
  ·obtain ⟨x,hx,_,hdr3,hget3,htk3⟩:=ac7 a.packages j hjl;have d1:(j:Int)<a.packages.length:=om
   have d2:(0:Int)<=j:=om
   have w2:=ac2 (i:=j) om;have hxf:=(hI.rf a ha).2 x hx;have hm:=ff6 x hxf;have hcp:=en9 x hxf;rw[hdr3,zq] at hall;simp only[go_sem,c1,c2,d1,d2,hget,hget3,aq5,at1,as9,ao2.cs,ag5,ag9,ad6];refine aa2 fok56 (hm) ?_
   cases hb:ah4 x with
   | false=>
    rw[hb,Bool.false_and] at hall;simp only[go_sem];rw[hrf,ah3,if_pos (.inr (.inr hall.symm))]
    exact ⟨om,rfl⟩
   | true=>
    rw[hb,Bool.true_and] at hall;obtain ⟨L',R',P',S1,S2,S3,q1,o1,q2,o2,q3,o3,⟨l1,l2,l3,l4,l5,l6⟩,n3,fin⟩:=hQ.push om (c:=x.cs) ⟨rfl,rfl⟩ i a.priority (d1:=17) (d2:=24) (d3:=35) (d4:=45) (by decide) (by decide) (by decide);have hcell:=hQ.cell;simp only[go_sem,c1,c2,d1,d2,hget,hget3,aq5,at1,as9,ao2.cs,ag5,ag9,ad6,hcell,b_o,b_p,b_t];refine aa8 hcp ?_;simp only[go_sem,ag5,ag9,ad6];simp only[show t.next+1+1+1+1+1+1+1+1+1+1+1+1+1+1+1+1+1=t.next+17 from rfl,q1,go_sem,o1,b_o,b_p,b_t];simp only[show t.next+1+1+1+1+1+1+1+1+1+1+1+1+1+1+1+1+1+1+1+1+1+1+1+1=t.next+24 from rfl,q2,go_sem,o2,b_o,b_p,b_t,c1,c2,hget,aq5,at1,as9,ao2.cs];simp only[show t.next+1+1+1+1+1+1+1+1+1+1+1+1+1+1+1+1+1+1+1+1+1+1+1+1+1+1+1+1+1+1+1+1+1+1+1=t.next+35 from rfl,q3,go_sem,o3,l1,l2,l3,l4,l5,l6,w2];refine ⟨hjl,by rw[n3]; omega,hall,_,_,_,_,_,_,fin _ (by rw[n3]; exact za _) (by simp only[aa5,if_true]) fun z hz=>by simp only[aa5,hz,if_false]⟩
  ·have hj':j=a.packages.length:=om
   have d1:¬ (j:Int)<a.packages.length:=om
   subst hj';rw[zj] at hall;simp only[go_sem,c1,c2,d1,hget,aq5,at1,as9,ao2.cs,w1];refine ⟨hlt,hnt,(st.1++rowsOf a.packages i a.priority,cv5 st.2 st.1.length a.packages),k+a.packages.length,?_,om,_,_,_,_,_,_,hQ⟩;rw[hrf,ah3,if_neg (by rw[<- hall]; simp[p1,p2])]
 ·have hi':i=repos.length:=om
  subst hi';have c1:¬ (repos.length:Int)<repos.length:=om
  rw[zj,ah3] at hrf;have hcell:=hQ.cell;rw[hrf];simp only[go_sem,c1];exact ⟨om,B,_,_,_,rfl,hcell⟩
end Go.Id.Tryz
namespace Go.Id.Tryz
open Go Go.Id Go.Proofs Go.Shelf Go.Id.Md
theorem iz9 (c n:Nat):stB c [(n:Int)]=dy6 c n:=by
 unfold stB dy6;refine List.map_congr_left fun m _=>decide_eq_decide.2 ?_
 rw[zu]; omega
theorem ig6 (c n:Nat):(dy6 c n).length=c:=by simp[dy6]
theorem in7 (l:List aa3)(hl:l.length<=256)(st:List Bool)(hst:st.length=l.length)(g:Nat)(cap:List IV)(q:List Bool->Bool)(hok:okF Tryz.prog g=true)(hcap:∀ c∈cap,Bnd 0 c)
  (hq:∀ s2:List Bool,s2.length=l.length->PC Tryz.prog EE g (.agg (ao8 l s2)::cap) (.bool (q s2))):PC Tryz.prog EE 238 [.agg (ao8 l st),.func (.func g) [] cap] (.bool (gp3 st fun n=>q (dy6 st.length n))):=by
 have hbf:Bnd 0 (.func (.func g) [] cap):=.func _ _ _ (fun c hc=>by cases hc) hcap;refine ad9 hE fok238 (nZ rfl) (ag4 (ap8 l st) hbf) ?_;simp only[ic238,go_sem,af7,af2,gz3];refine ab2 noT (fun i fr t=>fr=[(1,.func (.func g) [] cap),(2,.ab8 (ao8 l st)),(8,fj8 st),(9,.int .i64 st.length),(10,.int .i64 (i:Int))]/\∀ j,j<i->(st.getD j false&&q (dy6 st.length j))=false) st.length ⟨rfl,fun j hj=>absurd hj (zg _)⟩ ?_;rintro i fr t hle ⟨rfl,hI⟩;by_cases hlt:i<st.length
 ·have c1:(i:Int)<st.length:=om
  have c2:(0:Int)<=i:=om
  have w1:=ac2 (i:=i) om;have g1:=en5 hlt
  cases hb:st.getD i false with
  | false=>
   rw[hb] at g1;simp only[go_sem,c1,c2,g1,w1];refine ⟨hlt,fun j hj=>?_⟩;by_cases e:j=i
   ·subst e; rw[hb]; rfl
   ·exact hI j om
  | true=>
   rw[hb] at g1;have hS:=fj9 l [(i:Int)] hl (by show 1<_; decide);rw[iz9] at hS;have hQ:=hq (dy6 l.length i) (ig6 _ _);simp only[go_sem,c1,c2,g1,af7,gz4]
   have hfz:Frz (({ next:=t.next+1,obj:=t.obj }:Store).put t.next (.row [.int .i64 i])) (fun _=>false=true) (.slice t.next 0 1 1) (.aa4 ([(i:Int)].map Md.ae1)):=
    .slice t.next 0 1 1 [.int .i64 i] _ zv (.inr (by rw[aa5,if_pos rfl])) rfl (za 1) (fun k hk=>by
     have:k=0:=om
     subst this; rfl) fun k hk j hj=>by
     have:k=0:=om
     have:j=0:=om
     subst this; subst k;exact .keep _ (.int _ _)
   refine ag1 fok129 (gm4 (S:=fun _=>false) (args':=[an8 l,.aa4 ([(i:Int)].map Md.ae1)]) rfl (fun k hk=>by
    match k,hk with
    | 0,_=>exact .keep _ ((aw1 l).weak fun _ h=>absurd h (zg _))
    | 1,_=>exact hfz) (es8 hS)) ?_
   rintro v s ⟨rfl,rfl⟩;refine ⟨za _,?_⟩;simp only[go_sem];refine ed4 hok hQ ?_
   cases hv:q (dy6 l.length i) with
   | true=>
    have e:gp3 st (fun n=>q (dy6 st.length n))=true:=by
     unfold gp3;exact List.any_eq_true.2 ⟨i,List.mem_range.2 hlt,by rw[hb,hst]; show (true&&q (dy6 l.length i))=true; rw[hv]; rfl⟩
    simp only[go_sem,e]
    exact ab3 _
   | false=>
    simp only[go_sem,w1];refine ⟨hlt,fun j hj=>?_⟩;by_cases e:j=i
    ·subst e; rw[hst,hv,Bool.and_false]
    ·exact hI j om
 ·have hi':i=st.length:=om
  subst hi';have c1:¬ (st.length:Int)<st.length:=om
  have e:gp3 st (fun n=>q (dy6 st.length n))=false:=by
   unfold gp3;refine List.any_eq_false.2 fun n hn=>?_
   rw[hI n (List.mem_range.1 hn)];exact zv
  simp only[go_sem,c1,e];exact ab3 _
theorem ig7 (l:List aa3)(k:Int)(d:Dep)(xs:List aa6)(hn:xs.length<2^62)(hx:∀ x∈xs,gz5 l x)(st:List Bool)(hst:st.length=l.length) :
  PC Tryz.prog EE 239 [.agg (ao8 l st),.ab8 (aa6.mk k d xs).cs] (.bool ((aa6.trs l xs).all fun f=>f st)):=by
 refine ad9 hE fok239 (nZ rfl) (ag4 (ap8 l st) (cg9 _)) ?_;have h:=in6 l st hst k d xs hn hx;simp only[ic239,go_sem,af7,af2,ag2,ab5,ac8,ab6];refine aa2 fok191 (h) ?_;simp only[go_sem];exact aa9 rfl
theorem ez2 (l:List aa3)(k:Int)(d:Dep)(xs:List aa6)(hn:2<=xs.length)(hx:∀ x∈xs,gz5 l x)(st:List Bool)(hst:st.length=l.length) :
  PC Tryz.prog EE 240 [.agg (ao8 l st),.ab8 (aa6.mk k d xs).cs] (.bool (((aa6.trs l xs).getD 0 ff) st&&!((aa6.trs l xs).getD 1 ff) st)):=by
 refine ad9 hE fok240 (nZ rfl) (ag4 (ap8 l st) (cg9 _)) ?_;have n0:0<xs.length:=om
 have n1:1<xs.length:=om
 have h0:=hx _ (zl n0) st hst;have h1:=hx _ (zl n1) st hst;have g0:=en6 n0;have g1:=en6 n1;have c0:(0:Int)<xs.length:=om
 have c1:(1:Int)<xs.length:=om
 rw[en7 n1,en7 n0];simp only[ic240,go_sem,af7,af2,ag2,ab5,bp1,c0,c1,g0,g1,ac8,ab6]
 first|refine aa2 fok130 (h0) ?_|refine aa8 (h0) ?_
 cases xs[0].tr l st with
 | false=>simp only[go_sem]; exact aa9 rfl
 | true=>
  simp only[go_sem,af7,af2,ag2,ab5,bp1,c0,c1,g0,g1,ac8,ab6]
  first|refine aa2 fok130 (h1) ?_|refine aa8 (h1) ?_
  simp only[go_sem];exact aa9 rfl
theorem ja1 (l:List aa3)(hl:l.length<=256)(st:List Bool)(hst:st.length=l.length)(k:Int)(d:Dep)(xs:List aa6)(hn:xs.length<2^62)(hx:∀ x∈xs,gz5 l x) :
  PC Tryz.prog EE 195 [.agg (ao8 l st),.agg (aa6.mk k d xs).cs] (.bool (gp3 st fun n=>(aa6.trs l xs).all fun f=>f (dy6 st.length n))):=by
 refine ad9 hE fok195 (nZ rfl) (ag4 (ap8 l st) (ae9 _)) ?_;have h:=in7 l hl st hst 239 [.ab8 (aa6.mk k d xs).cs] (fun s2=>(aa6.trs l xs).all fun f=>f s2) fok239.1 (ah9 (cg9 _)) fun s2 h2=>ig7 l k d xs hn hx s2 h2
 have h7:=ab6 (.mk k d xs);simp only[ic195,go_sem,af7,af2,ag2,ab5,h7];refine aa2 fok238 (h) ?_;simp only[go_sem];exact aa9 rfl
theorem gc3 (l:List aa3)(hl:l.length<=256)(st:List Bool)(hst:st.length=l.length)(k:Int)(d:Dep)(xs:List aa6)(hn:2<=xs.length)(hx:∀ x∈xs,gz5 l x) :
  PC Tryz.prog EE 196 [.agg (ao8 l st),.agg (aa6.mk k d xs).cs] (.bool (gp3 st fun n=>((aa6.trs l xs).getD 0 ff) (dy6 st.length n)&&!((aa6.trs l xs).getD 1 ff) (dy6 st.length n))):=by
 refine ad9 hE fok196 (nZ rfl) (ag4 (ap8 l st) (ae9 _)) ?_;have h:=in7 l hl st hst 240 [.ab8 (aa6.mk k d xs).cs] (fun s2=>((aa6.trs l xs).getD 0 ff) s2&&!((aa6.trs l xs).getD 1 ff) s2) fok240.1 (ah9 (cg9 _)) fun s2 h2=>ez2 l k d xs hn hx s2 h2
 have h7:=ab6 (.mk k d xs);simp only[ic196,go_sem,af7,af2,ag2,ab5,h7];refine aa2 fok238 (h) ?_;simp only[go_sem];exact aa9 rfl
theorem jy9 (l:List aa3)(hl:l.length<=256)(hs:∀ p∈l,Pkg.small p)(r:aa6):r.Good->gz5 l r:=by
 induction r using aa6.ind with
 | h k d xs ih=>
  intro hg st hst;refine ad9 hE fok130 (nZ rfl) (ag4 (ap8 l st) (ae9 _)) ?_;have h7:=ab6 (.mk k d xs);have h8:=ac8 (.mk k d xs);have nfl:IV.ac5.leaf=true:=rfl;have e:(aa6.mk k d xs).tr l st=trK l k d (aa6.trs l xs) st:=by rw[aa6.tr]
  rw[e]
  cases hg with
  | atom _ hd=>
   have h:=iz5 l hl hs st hst d hd;unfold trK;simp only[ic130,go_sem,af7,af2,ag2,ab5,h7,h8,df6,nfl]
   first|refine aa2 fok190 (h) ?_|refine aa8 (h) ?_
   simp only[go_sem]
   exact aa9 rfl
  | node _ _ _ h1 h2 h3 h4 h5=>
   have hx:∀ x∈xs,gz5 l x:=fun x hx=>ih x hx (h5 x hx)
   have hn:xs.length<=24:=by
    unfold cv9 at h4;split at h4
    ·omega
    split at h4
    ·omega
    split at h4<;>omega
   have c2:=in6 l st hst k d xs om hx;have c3:=jo7 l st hst k d xs om hx;have c4:=jo8 l st hst k d xs om hx;have c5:=gz7 l st hst k d xs om om hx;have c6:=ja1 l hl st hst k d xs om hx;have c7:=gc3 l hl st hst k d xs om hx;unfold trK;have hk:k=2\/k=3\/k=4\/k=5\/k=6\/k=7:=om
   rcases hk with rfl|rfl|rfl|rfl|rfl|rfl
   ·simp only[ic130,go_sem,af7,af2,ag2,ab5,h7,h8,df6,nfl];refine aa2 fok191 (c2) ?_;simp only[go_sem];exact aa9 rfl
   ·simp only[ic130,go_sem,af7,af2,ag2,ab5,h7,h8,df6,nfl]
    first|refine aa2 fok192 (c3) ?_|refine aa8 (c3) ?_
    simp only[go_sem];exact aa9 rfl
   ·simp only[ic130,go_sem,af7,af2,ag2,ab5,h7,h8,df6,nfl]
    first|refine aa2 fok193 (c4) ?_|refine aa8 (c4) ?_
    simp only[go_sem];exact aa9 rfl
   ·simp only[ic130,go_sem,af7,af2,ag2,ab5,h7,h8,df6,nfl]
    first|refine aa2 fok194 (c5) ?_|refine aa8 (c5) ?_
    simp only[go_sem];exact aa9 rfl
   ·simp only[ic130,go_sem,af7,af2,ag2,ab5,h7,h8,df6,nfl]
    first|refine aa2 fok195 (c6) ?_|refine aa8 (c6) ?_
    simp only[go_sem];exact aa9 rfl
   ·simp only[ic130,go_sem,af7,af2,ag2,ab5,h7,h8,df6,nfl]
    first|refine aa2 fok196 (c7) ?_|refine aa8 (c7) ?_
    simp only[go_sem];exact aa9 rfl
theorem dd3 (c:Nat)(zs:List Int):(stB c zs).length=c:=by simp[stB]
theorem cu3 (l:List aa3)(hl:l.length<=256)(hs:∀ p∈l,Pkg.small p)(zs:List Int)(hz:zs.length<2^40)(r:aa6)(h1:r.fit)(h2:r.count<2^31) :
  PC Tryz.prog EE 82 [an8 l,.aa4 (zs.map Md.ae1),.agg r.cs] (.bool (gc9 l zs r)):=by
 refine ad9 hE fok82 (nZ rfl) (as5 (aw1 l) (ad3 zs) (ae9 _)) ?_;have hw:=ig2 r h1 h2;have hS:=fj9 l zs hl hz;have hnl:∀ d:TypeId,by9 (.pointer d) (an8 l)=zd false:=fun _=>rfl
 unfold gc9;simp only[ic82,go_sem,hnl,ab5,ac8,ab6];refine aa8 (hw) ?_
 cases hq:by7 r with
 | false=>simp only[go_sem]; exact aa9 rfl
 | true=>
  have hg:r.ms.2.2=true:=by
   unfold by7 at hq;simp only[Bool.and_eq_true] at hq;exact hq.1.1
  have hi:=jy9 l hl hs r (aa6.gp2 r hg) (stB l.length zs) (dd3 _ _);simp only[go_sem]
  first|refine aa2 fok129 (hS) ?_|refine aa8 (hS) ?_
  simp only[go_sem,ab5,ac8,ab6]
  first|refine aa2 fok130 (hi) ?_|refine aa8 (hi) ?_
  simp only[go_sem];exact aa9 rfl
end Go.Id.Tryz
namespace Go.Id.Tryz
open Go Go.Id Go.Proofs Go.Shelf Go.Id.Md
end Go.Id.Tryz
namespace Go.Id.Tryz
open Go Go.Id Go.Proofs Go.Shelf Go.Id.Md
theorem ez3 (p:Pool)(hl:(af6 p).length<=256)(hf:∀ x∈af6 p,x.Fit/\x.Tiny):PC Tryz.prog EE 72 [p.v] (.tuple [an8 (af6 p),.int .i64 0]):=by
 refine ad9 hE fok72 (nZ rfl) (ah9 (bi1 p)) ?_;have hrl:p.rows.length=(af6 p).length:=by simp[af6]
 have hM:=bo3 p (fun x hx=>(hf _ (zt (f:=fun x:bh7=>x.pkg) hx)).1) om (fun x hx=>by
  have:=(hf _ (zt (f:=fun x:bh7=>x.pkg) hx)).2;have a:=this.ax9.1; have b:=this.obs.1; have c:=this.files; omega)
 have hM:PC Tryz.prog EE 66 [p.v] (.tuple [(aj2 (af6 p)).v,.int .i64 0]):=hM;have hC:=bi2 p;rw[hrl] at hC;have hb:=aw1 (af6 p);unfold an8 at *;have xlf:(aj2 (af6 p)).v.leaf=true:=rfl;have xcs:(aj2 (af6 p)).v.cs=[(aj2 (af6 p)).v]:=rfl;generalize (aj2 (af6 p)).v=X at *;simp only[ic72,go_sem];refine aa2 fok66 (hM) ?_;simp only[go_sem];refine aa2 fok68 (hC) ?_;simp only[go_sem,xlf,xcs];exact .keep _ (.tuple _ (ag4 hb (.int _ _)))
theorem du3 (a:ab4):PC Tryz.prog EE 73 [a.v] a.p.v:=by
 refine ad9 hE fok73 (nZ rfl) (ah9 (ai6 a)) ?_;have hb:=bi1 a.p;unfold ab4.v ab4.cs;simp only[ic73,go_sem,ac4];exact .keep _ hb
theorem ee2 (a:ab4)(hA:AOK a):PC Tryz.prog EE 124 [a.v] (.agg a.r.cs):=by
 refine ad9 hE fok124 (nZ rfl) (ah9 (ai6 a)) ?_;have hO:=il8 a.r (by have:=hA.ag6; omega) (by have:=hA.ah6; omega);have hb:=bc2 a.r;unfold ab4.v ab4.cs;unfold Req.cs at *;simp only[ic124,go_sem,ac4]
 first|refine aa2 fok67 (hO) ?_|refine aa8 (hO) ?_
 simp only[go_sem];exact .keep _ (.agg _ hb)
end Go.Id.Tryz
namespace Go.Id.Tryz
open Go Go.Id Go.Proofs Go.Shelf Go.Id.Md
theorem ae4 (d:Itm):d.cs.length=3:=rfl
theorem ad1 (d:Itm):d.cs.all IV.leaf=true:=rfl
theorem ad2 (d:Itm):d.cs.take 3=d.cs:=rfl
theorem dd5 (d:Itm):d.cs.head? = zd (.int .u8 d.kind):=rfl
theorem cy3 (d:Itm):∀ c∈d.cs,Bnd 0 c:=as5 (.int _ _) (.int _ _) (.int _ _)
theorem av6 (d:Itm):Bnd 0 (.agg d.cs):=.agg _ (cy3 d)
theorem as6 (l:List Itm):Bnd 0 (aj8 l):=.aa4 _ fun e he c hc=>by
 obtain ⟨d,_,rfl⟩:=zi.1 he; exact cy3 d c hc
theorem gp7 (l:List Itm):Bnd 0 (.an9 (bd2 l)):=.an9 _ (fun e he=>by
 obtain ⟨d,_,rfl⟩:=zi.1 he; exact av6 d) fun e he=>by
 obtain ⟨d,_,rfl⟩:=zi.1 he; exact .agg _ fun c hc=>by cases hc
end Go.Id.Tryz
namespace Go.Id.Md
open Go Go.Id
def ab4.mcs (a:ab4):List IV:=[a.v,Go.Id.Tryz.an8 a.l,.aa4 (a.l.map aa3.cs),aj8 a.items,.an9 (bd2 a.items)]
def ab4.mv (a:ab4):IV:=.ab8 a.mcs
def ab4.held (a:ab4)(st:List Int)(x:Itm):List IV:=[a.mv,.aa4 (st.map Md.ae1),.int .u8 x.kind,.int .i64 x.p,.int .i64 x.q]
end Go.Id.Md
namespace Go.Id.Tryz
open Go Go.Id Go.Proofs Go.Shelf Go.Id.Md
open Go.Id.Md.ab4 (inS less)
theorem as7 (a:ab4):Bnd 0 a.mv:=.ab8 _ fun c hc=>by
 simp only[ab4.mcs,List.mem_cons,List.not_mem_nil,or_false] at hc;rcases hc with rfl|rfl|rfl|rfl|rfl
 ·exact ai6 a
 ·exact aw1 _
 ·exact aq4 _
 ·exact as6 _
 ·exact gp7 _
theorem bd5 (a:ab4)(st:List Int)(x:Itm):Bnd 0 (.agg (a.held st x)):=.agg _ fun c hc=>by
 simp only[ab4.held,List.mem_cons,List.not_mem_nil,or_false] at hc;rcases hc with rfl|rfl|rfl|rfl|rfl
 ·exact as7 a
 ·exact ad3 st
 ·exact .int _ _
 ·exact .int _ _
 ·exact .int _ _
theorem at7 (a:ab4)(st:List Int)(x:Itm):(a.held st x).length=5:=rfl
theorem ao7 (a:ab4)(st:List Int)(x:Itm):(a.held st x).all IV.leaf=true:=rfl
theorem ap7 (a:ab4)(st:List Int)(x:Itm):(a.held st x).take 5=a.held st x:=rfl
theorem dr8 (a:ab4)(st:List Int)(x:Itm):(a.held st x).head? = zd a.mv:=rfl
theorem dd6 (a:ab4)(st:List Int)(x:Itm):((a.held st x).drop 1).head? = zd (.aa4 (st.map Md.ae1)):=rfl
theorem bo9 (a:ab4)(st:List Int)(x:Itm):(((a.held st x).drop 2).drop 1).head? = zd (.int .i64 x.p):=rfl
theorem ek6 (a:ab4)(st:List Int)(x:Itm):(((a.held st x).drop 2).drop 2).head? = zd (.int .i64 x.q):=rfl
theorem gp8 (a:ab4)(x:Itm):PC Tryz.prog EE 16 [a.mv,.agg x.cs] (.bool (a.isI x)):=by
 refine ad9 hE fok16 (nZ rfl) (ag4 (as7 a) (av6 x)) ?_;have hl:=gn2 x a.items;unfold ab4.mv ab4.mcs ab4.isI
 have hk:∀ σ:Store,cz6 σ 6 (.agg []) true (.an9 (bd2 a.items)) (.agg x.cs)=zd (.tuple [.agg [],.bool (decide (x∈a.items))]):=fun σ=>by
  simp only[cz6,ch7,hl];by_cases h:x∈a.items<;>simp[h]
 simp only[ic16,go_sem,ad1,ae4,ad2,ac4,hk];exact aa9 rfl
theorem bb7 (a:ab4)(st:List Int)(x:Itm)(n:Int)(hs:st.length<2^40):PC Tryz.prog EE 81 [.agg (a.held st x),.int .i64 n] (.bool (inS st n)):=by
 refine ad9 hE fok81 (nZ rfl) (ag4 (bd5 a st x) (.int _ _)) ?_;have h:=cg1 st n hs;simp only[ic81,go_sem,ao7,dd6]
 first|refine aa2 fok115 (h) ?_|refine aa8 (h) ?_
 simp only[go_sem];exact aa9 rfl
theorem eu6 (a:ab4)(st:List Int)(x:Itm)(hs:st.length<2^40):PC Tryz.prog EE 40 [.agg (a.held st x)] (.bool (!inS st x.p)):=by
 refine ad9 hE fok40 (nZ rfl) (ah9 (bd5 a st x)) ?_;have h:=bb7 a st x x.p hs;simp only[ic40,go_sem,ao7,at7,ap7,bo9]
 first|refine aa2 fok81 (h) ?_|refine aa8 (h) ?_
 simp only[go_sem];exact aa9 rfl
theorem eu7 (a:ab4)(st:List Int)(x:Itm)(hs:st.length<2^40):PC Tryz.prog EE 44 [.agg (a.held st x)] (.bool (!inS st x.p || !inS st x.q)):=by
 refine ad9 hE fok44 (nZ rfl) (ah9 (bd5 a st x)) ?_;have h:=bb7 a st x x.p hs;have h2:=bb7 a st x x.q hs;simp only[ic44,go_sem,ao7,at7,ap7,bo9]
 first|refine aa2 fok81 (h) ?_|refine aa8 (h) ?_
 cases inS st x.p with
 | false=>simp only[go_sem]; exact aa9 rfl
 | true=>
  simp only[go_sem,ao7,at7,ap7,ek6]
  first|refine aa2 fok81 (h2) ?_|refine aa8 (h2) ?_
  simp only[go_sem];exact aa9 rfl
theorem hw6 (zs:List Int)(hl:zs.length<2^30)(σ:Store):C Tryz.prog EE 132 [.aa4 (zs.map Md.ae1)] σ (dh3 σ zs):=by
 cases hz:zs with
 | nil=>
  refine dw3 ?_ ?_
  ·refine C_f fok132 (nZ rfl) ?_;simp only[ic132,go_sem,aj6];exact ⟨Kept.refl σ,.inl ⟨rfl,rfl⟩⟩
  ·refine C_f fok132 (nZ rfl) ?_;simp only[ic132,go_sem,aj6];rw[bg8 (by simp only[aa5,if_true]) rfl];simp only[go_sem];refine ⟨⟨by show σ.next<=σ.next+2; omega,fun i hi=>?_⟩,.inr ⟨σ.next,za _,by show σ.next<σ.next+2; omega,rfl,by simp only[aa5,if_true]; rfl⟩⟩;have:¬ i=σ.next:=om
   simp only[aa5,this,if_false]
 | cons z ys=>
  have hne:zs≠[]:=by rw[hz]; exact fun h=>by cases h
  rw[<- hz];refine C_f fok132 (nZ rfl) ?_;have hnil:∀ (d:TypeId),by9 (.slice d) (.aa4 (zs.map Md.ae1))=zd false:=fun d=>by rw[hz]; rfl
  simp only[ic132,go_sem,hnil];generalize hS:Store.put _ σ.next (al9.row [])=S;have hSn:S.next=σ.next+2:=by rw[<- hS]; rfl
  have hSo:S.obj σ.next=zd (.row []):=by rw[<- hS]; simp only[aa5,if_true]
  have hSk:∀ i,i<σ.next->S.obj i=σ.obj i:=fun i hi=>by
   have:¬ i=σ.next:=om
   rw[<- hS]; simp only[aa5,this,if_false]
  have hg:au7 S σ.next (.slice σ.next 0 0 1) []:=.inr ⟨σ.next,za _,om,rfl,hSo⟩;obtain ⟨v',σ',h1,h2,h3,h4⟩:=fc6 (nid:=σ.next+1) (xs:=zs) hg (by simp only[zk]; omega);simp only[go_sem,h1];have h5:=h4 σ' rfl om om om;rw[zm] at h5;exact ⟨⟨om,fun i hi=>by rw[h3 i hi om]; exact hSk i hi⟩,h5⟩
theorem dh6 (n m:Int):PC Tryz.prog EE 133 [.int .i64 n,.ab8 [.int .i64 m]] (.bool (decide (n=m))):=by
 refine ad9 hE fok133 (nZ rfl) (ag4 (.int _ _) (.ab8 _ (ah9 (.int _ _)))) ?_;simp only[ic133,go_sem];exact aa9 rfl
theorem dd7 (l:List aa3)(hl:l.length<=256)(hs:∀ p∈l,Pkg.small p)(zs:List Int)(hz:zs.length<2^30)(n:Int)(r:aa6)(h1:r.fit)(h2:r.count<2^31) :
  PC Tryz.prog EE 83 [an8 l,.aa4 (zs.map Md.ae1),.int .i64 n,.agg r.cs] (.bool (gc9 l (less zs n) r)):=by
 refine gl8 hE fok83 (nZ rfl) (hq9 (aw1 l) (ad3 zs) (.int _ _) (ae9 _)) ?_;have hlen:(less zs n).length<=zs.length:=List.length_filter_le _ _;have hS:=cu3 l hl hs (less zs n) om r h1 h2;have tcs:(an8 l).cs=[an8 l]:=rfl;have tlf:(an8 l).leaf=true:=rfl;simp only[ic83];refine ac3 (ae2 ?_);simp only[go_sem,ab6];refine ac3 (hl6 ?_);simp only[go_sem,ab6,ab5,ac8,tcs,tlf];refine ag1 fok132 (hw6 zs hz _) ?_;rintro v s ⟨k1,hr⟩;refine ⟨k1.next,?_⟩;simp only[go_sem];refine ag1 fok131 (ix2 (fun m=>decide (m=n)) om hr.w fok133.1 (ah9 (.ab8 _ (ah9 (.int _ _)))) fun z _=>dh6 z n) ?_;rintro v2 s2 ⟨⟨k2,k3⟩,hr2⟩;refine ⟨k2,?_⟩;simp only[go_sem]
 refine ag1 fok82 (be6 (args':=[an8 l,.aa4 ((less zs n).map Md.ae1),.agg r.cs]) hE rfl (fun z hz=>by
  match z,hz with
  | 0,_=>exact .keep _ (aw1 l)
  | 1,_=>exact hr2.frz fun _ _=>zg _
  | 2,_=>exact .keep _ (ae9 _)) (by simp[IV.plain]) hS) ?_
 rintro v3 s3 ⟨rfl,rfl⟩;refine ⟨za _,?_⟩;simp only[go_sem];refine ae2 ?_;simp only[go_sem];exact aa9 rfl
theorem ct4 (a:ab4){p:Nat}(h:p<a.l.length):a.pk p∈a.l:=by
 have:a.pk p=a.l[p]:=by simp[ab4.pk,zf,h]
 rw[this]; exact zl h
theorem hw9 (a:ab4){p:Nat}(h:p<a.l.length):(a.l.map aa3.cs).getD p []=(a.pk p).cs:=by
 simp[ab4.pk,zf,h]
theorem dy9 (l:List aa6){q:Nat}(h:q<l.length):(l.map aa6.cs).getD q []=(l.getD q default).cs:=by
 simp[zf,h]
theorem il1 (l:List Dep){q:Nat}(h:q<l.length):(l.map Dep.cs).getD q []=(l.getD q default).cs:=by
 simp[zf,h]
theorem getD_in {α:Type}[Inhabited α](l:List α){q:Nat}(h:q<l.length):l.getD q default∈l:=by
 have:l.getD q default=l[q]:=by simp[zf,h]
 rw[this]; exact zl h
theorem hx8 (a:ab4):(ab4.mcs a).head? = zd a.v:=rfl
theorem jl9 (a:ab4):((ab4.mcs a).drop 1).head? = zd (an8 a.l):=rfl
theorem hx9 (a:ab4):((ab4.mcs a).drop 2).head? = zd (.aa4 (a.l.map aa3.cs)):=rfl
theorem iv1 (a:ab4):((ab4.mcs a).drop 3).head? = zd (aj8 a.items):=rfl
theorem eu8 (a:ab4)(hA:AOK a)(st:List Int)(hs:st.length<2^30)(p q:Nat)(hp:p<a.l.length)(hq:q<(a.pk p).requires.length):PC Tryz.prog EE 41 [.agg (a.held st ⟨2,p,q⟩)] (.bool (a.keeps st ⟨2,p,q⟩)):=by
 refine ad9 hE fok41 (nZ rfl) (ah9 (bd5 a st _)) ?_;have h:=bb7 a st ⟨2,p,q⟩ p om;have hf:=(hA.fit _ (ct4 a hp)).rich (1,(a.pk p).requires) (by simp[aa3.rows]);obtain ⟨f1,f2⟩:=hf.2 _ (getD_in _ hq);have hsat:=cu3 a.l hA.len hA.small st om _ f1 f2;have e1:=hw9 a hp;have e2:=dy9 (a.pk p).requires hq;have e3:((a.pk p).cs.drop 7).head? = zd (ai9 (a.pk p).requires):=rfl
 have hk:a.keeps st ⟨2,p,q⟩=(!inS st p||gc9 a.l st ((a.pk p).requires.getD q default)):=by
  unfold ab4.keeps ab4.it7;simp
 rw[hk];have d1:(0:Int)<=(p:Int):=om
 have d2:(p:Int)<a.l.length:=om
 have d3:(0:Int)<=(q:Int):=om
 have d4:(q:Int)<(a.pk p).requires.length:=om
 have hm:a.mv=.ab8 a.mcs:=rfl;generalize (a.pk p).requires.getD q default=r at *;simp only[ic41,go_sem,ao7,at7,ap7,bo9]
 first|refine aa2 fok81 (h) ?_|refine aa8 (h) ?_
 cases inS st p with
 | false=>simp only[go_sem]; exact aa9 rfl
 | true=>
  simp only[go_sem,ao7,at7,ap7,dr8,dd6,bo9,ek6,hm,jl9,hx9,ac4,d1,d2,d3,d4,e1,e2,e3,ag5,ab5,ac8,ab6];refine aa2 fok82 (hsat) ?_;simp only[go_sem];exact aa9 rfl
theorem ek7 (a:ab4)(hA:AOK a)(st:List Int)(hs:st.length<2^30)(p q:Nat)(hp:p<a.l.length)(hq:q<(a.pk p).conflicts.length):PC Tryz.prog EE 42 [.agg (a.held st ⟨3,p,q⟩)] (.bool (a.keeps st ⟨3,p,q⟩)):=by
 refine ad9 hE fok42 (nZ rfl) (ah9 (bd5 a st _)) ?_;have h:=bb7 a st ⟨3,p,q⟩ p om;have hf:=(hA.fit _ (ct4 a hp)).rich (2,(a.pk p).conflicts) (by simp[aa3.rows]);obtain ⟨f1,f2⟩:=hf.2 _ (getD_in _ hq);have hsat:=dd7 a.l hA.len hA.small st hs p _ f1 f2;have e1:=hw9 a hp;have e2:=dy9 (a.pk p).conflicts hq;have e3:((a.pk p).cs.drop 8).head? = zd (ai9 (a.pk p).conflicts):=rfl
 have hk:a.keeps st ⟨3,p,q⟩=(!inS st p || !gc9 a.l (less st p) ((a.pk p).conflicts.getD q default)):=by
  unfold ab4.keeps ab4.go2;simp
 rw[hk];have d1:(0:Int)<=(p:Int):=om
 have d2:(p:Int)<a.l.length:=om
 have d3:(0:Int)<=(q:Int):=om
 have d4:(q:Int)<(a.pk p).conflicts.length:=om
 have hm:a.mv=.ab8 a.mcs:=rfl;generalize (a.pk p).conflicts.getD q default=r at *;simp only[ic42,go_sem,ao7,at7,ap7,bo9]
 first|refine aa2 fok81 (h) ?_|refine aa8 (h) ?_
 cases inS st p with
 | false=>simp only[go_sem]; exact aa9 rfl
 | true=>
  simp only[go_sem,ao7,at7,ap7,dr8,dd6,bo9,ek6,hm,jl9,hx9,ac4,d1,d2,d3,d4,e1,e2,e3,ag5,ab5,ac8,ab6];refine aa2 fok83 (hsat) ?_;simp only[go_sem];exact aa9 rfl
theorem eu9 (a:ab4):PC Tryz.prog EE 85 [a.v] (aj2 a.l).v:=by
 refine ad9 hE fok85 (nZ rfl) (ah9 (ai6 a)) ?_;have hb:=bg2 (aj2 a.l);unfold ab4.v ab4.cs;simp only[ic85,go_sem,ac4];exact .keep _ hb
theorem hy5 (a:ab4)(st:List Int)(x:Itm)(n:Int)(hs:st.length<2^40):PC Tryz.prog EE 87 [.int .i64 n,.ab8 (a.held st x)] (.bool (!decide (n=x.p)&&inS st n)):=by
 refine ad9 hE fok87 (nZ rfl) (ag4 (.int _ _) (by cases bd5 a st x with|agg _ h=>exact .ab8 _ h)) ?_;have h:=bb7 a st x n hs;by_cases e:n=x.p
 ·simp only[ic87,go_sem,bo9,e];exact aa9 rfl
 ·simp only[ic87,go_sem,ao7,at7,ap7,bo9,e]
  first|refine aa2 fok81 (h) ?_|refine aa8 (h) ?_
  simp only[go_sem];exact aa9 rfl
theorem ev1 (a:ab4)(hA:AOK a)(st:List Int)(hs:st.length<2^30)(p q:Nat)(hp:p<a.l.length)(hq:q<(a.pk p).aa7.length):PC Tryz.prog EE 43 [.agg (a.held st ⟨4,p,q⟩)] (.bool (a.keeps st ⟨4,p,q⟩)):=by
 refine ad9 hE fok43 (nZ rfl) (ah9 (bd5 a st _)) ?_;have h:=bb7 a st ⟨4,p,q⟩ p om;have hsm:=hA.small _ (ct4 a hp);have hds:Dep.small ((a.pk p).aa7.getD q default):=hsm.2.2.1 _ (getD_in _ hq);have hI:=eu9 a;have hN:=cb1 a.l ((a.pk p).aa7.getD q default) (by have:=hA.len; omega) hA.small hds;have hnl:(am3 a.l ((a.pk p).aa7.getD q default)).length<=a.l.length:=aj3 _ _;have hA1:=hA.len;have hC:=bm2 (am3 a.l ((a.pk p).aa7.getD q default)) 87 [] [.ab8 (a.held st ⟨4,p,q⟩)] (fun n=>!decide (n=(p:Int))&&inS st n) om fok87.1 fun n _=>hy5 a st ⟨4,p,q⟩ n om
 have e1:=hw9 a hp;have e2:=il1 (a.pk p).aa7 hq;have e3:((a.pk p).cs.drop 9).head? = zd (deps (a.pk p).aa7):=rfl
 have hk:a.keeps st ⟨4,p,q⟩=(!inS st p || !((am3 a.l ((a.pk p).aa7.getD q default)).any fun n=>!decide (n=(p:Int))&&inS st n)):=by
  unfold ab4.keeps ab4.it8;simp
 rw[hk];have d1:(0:Int)<=(p:Int):=om
 have d2:(p:Int)<a.l.length:=om
 have d3:(0:Int)<=(q:Int):=om
 have d4:(q:Int)<(a.pk p).aa7.length:=om
 have hm:a.mv=.ab8 a.mcs:=rfl;have vcs:a.v.cs=[a.v]:=rfl;have vlf:a.v.leaf=true:=rfl;generalize hdd:(a.pk p).aa7.getD q default=d at *;generalize (am3 a.l d).any (fun n=>!decide (n=(p:Int))&&inS st n)=R at *;simp only[ic43,go_sem,ao7,at7,ap7,dr8,dd6,bo9,ek6,hm,hx8,hx9,ac4,d1,d2,d3,d4,e1,e2,e3,ag5,ak2,ah7,ag7]
 first|refine aa2 fok81 (h) ?_|refine aa8 (h) ?_
 cases inS st p with
 | false=>simp only[go_sem]; exact aa9 rfl
 | true=>
  simp only[go_sem,ao7,at7,ap7,dr8,dd6,bo9,ek6,hm,hx8,hx9,ac4,vcs,vlf];refine aa8 (hI) ?_;simp only[go_sem,ak2,ah7,ag7]
  first|refine aa2 fok86 (hN) ?_|refine aa8 (hN) ?_
  simp only[go_sem]
  first|refine aa2 fok84 (hC) ?_|refine aa8 (hC) ?_
  simp only[go_sem];exact aa9 rfl
theorem ev2 (a:ab4)(hA:AOK a)(st:List Int)(hs:st.length<2^30)(p:Nat):PC Tryz.prog EE 45 [.agg (a.held st ⟨6,p,0⟩)] (.bool (a.keeps st ⟨6,p,0⟩)):=by
 refine ad9 hE fok45 (nZ rfl) (ah9 (bd5 a st _)) ?_;have hS:=dg1 a p hA;have hl:=a.ce6 p;have hA1:=hA.len;have hC:=bm2 (a.au9 p) 81 [.agg (a.held st ⟨6,p,0⟩)] [] (fun n=>inS st n) om fok81.1 fun n _=>bb7 a st ⟨6,p,0⟩ n om
 have hk:a.keeps st ⟨6,p,0⟩=(a.au9 p).any fun n=>inS st n:=by
  unfold ab4.keeps;simp;rfl
 rw[hk];have hm:a.mv=.ab8 a.mcs:=rfl;have vcs:a.v.cs=[a.v]:=rfl;have vlf:a.v.leaf=true:=rfl;generalize (a.au9 p).any (fun n=>inS st n)=R at *;simp only[ic45,go_sem,ao7,at7,ap7,dr8,dd6,bo9,hm,hx8,ac4,vcs,vlf]
 first|refine aa2 fok88 (hS) ?_|refine aa8 (hS) ?_
 simp only[go_sem,ao7,at7,ap7]
 first|refine aa2 fok84 (hC) ?_|refine aa8 (hC) ?_
 simp only[go_sem];exact aa9 rfl
theorem fy5 (a:ab4)(hA:AOK a)(st:List Int)(hs:st.length<2^30)(p:Nat):PC Tryz.prog EE 46 [.agg (a.held st ⟨7,p,0⟩)] (.bool (a.keeps st ⟨7,p,0⟩)):=by
 refine ad9 hE fok46 (nZ rfl) (ah9 (bd5 a st _)) ?_;have hF:=eb4 a p st hA om
 have hk:a.keeps st ⟨7,p,0⟩=a.aw7 p st:=by
  unfold ab4.keeps;simp
 rw[hk];have hm:a.mv=.ab8 a.mcs:=rfl;have vcs:a.v.cs=[a.v]:=rfl;have vlf:a.v.leaf=true:=rfl;simp only[ic46,go_sem,ao7,at7,ap7,dr8,dd6,bo9,hm,hx8,ac4,vcs,vlf];refine aa2 fok89 (hF) ?_;simp only[go_sem];exact aa9 rfl
theorem bl5 (a:ab4)(hA:AOK a)(st:List Int)(hs:st.length<2^30)(x:Itm):PC Tryz.prog EE 17 [a.mv,.aa4 (st.map Md.ae1),.agg x.cs] (.bool (a.holds st x)):=by
 refine ad9 hE fok17 (nZ rfl) (as5 (as7 a) (ad3 st) (av6 x)) ?_;have hi:=gp8 a x;have hnl:∀ d:TypeId,by9 (.pointer d) a.mv=zd false:=fun _=>rfl
 have vcs:a.mv.cs=[a.mv]:=rfl;have vlf:a.mv.leaf=true:=rfl
 cases hx:a.isI x with
 | false=>
  rw[hx] at hi;have hh:a.holds st x=true:=by unfold ab4.holds; rw[hx]; rfl
  simp only[ic17,go_sem,ad1,ae4,ad2,hnl]
  first|refine aa2 fok16 (hi) ?_|refine aa8 (hi) ?_
  simp only[go_sem]
  exact aa9 hh.symm
 | true=>
  rw[hx] at hi;have hmem:x∈a.items:=of_decide_eq_true hx;have hh:a.holds st x=a.keeps st x:=a.holds_of hmem;rw[hh]
  cases a.dx7.1 hmem with
  | ap9 p hp hf=>
   have hF:=eu6 a st ⟨1,p,0⟩ om;have hk:a.keeps st ⟨1,p,0⟩=!inS st (p:Int):=by unfold ab4.keeps; simp
   rw[hk];simp only[ic17,go_sem,ad1,ae4,ad2,hnl,vcs,vlf]
   first|refine aa2 fok16 (hi) ?_|refine aa8 (hi) ?_
   simp only[go_sem,ad1,ae4,ad2,dd5,vcs,vlf];refine ⟨rfl,?_⟩;refine aa2 fok40 hF ?_;simp only[go_sem]
   exact aa9 rfl
  | need p q hp hq=>
   have hF:=eu8 a hA st hs p q hp hq;generalize a.keeps st ⟨2,p,q⟩=R at *;simp only[ic17,go_sem,ad1,ae4,ad2,hnl,vcs,vlf]
   first|refine aa2 fok16 (hi) ?_|refine aa8 (hi) ?_
   simp only[go_sem,ad1,ae4,ad2,dd5,vcs,vlf];refine ⟨rfl,?_⟩;refine aa2 fok41 hF ?_;simp only[go_sem]
   exact aa9 rfl
  | clash p q hp hq=>
   have hF:=ek7 a hA st hs p q hp hq;generalize a.keeps st ⟨3,p,q⟩=R at *;simp only[ic17,go_sem,ad1,ae4,ad2,hnl,vcs,vlf]
   first|refine aa2 fok16 (hi) ?_|refine aa8 (hi) ?_
   simp only[go_sem,ad1,ae4,ad2,dd5,vcs,vlf];refine ⟨rfl,?_⟩;refine aa2 fok42 hF ?_;simp only[go_sem]
   exact aa9 rfl
  | over p q hp hq=>
   have hF:=ev1 a hA st hs p q hp hq;generalize a.keeps st ⟨4,p,q⟩=R at *;simp only[ic17,go_sem,ad1,ae4,ad2,hnl,vcs,vlf]
   first|refine aa2 fok16 (hi) ?_|refine aa8 (hi) ?_
   simp only[go_sem,ad1,ae4,ad2,dd5,vcs,vlf];refine ⟨rfl,?_⟩;refine aa2 fok43 hF ?_;simp only[go_sem]
   exact aa9 rfl
  | twin p q hp hq ht=>
   have hF:=eu7 a st ⟨5,p,q⟩ om;have hk:a.keeps st ⟨5,p,q⟩=(!inS st (p:Int) || !inS st (q:Int)):=by unfold ab4.keeps; simp
   rw[hk];simp only[ic17,go_sem,ad1,ae4,ad2,hnl,vcs,vlf]
   first|refine aa2 fok16 (hi) ?_|refine aa8 (hi) ?_
   simp only[go_sem,ad1,ae4,ad2,dd5,vcs,vlf];refine ⟨rfl,?_⟩;refine aa2 fok44 hF ?_;simp only[go_sem]
   exact aa9 rfl
  | keep p hp hg=>
   have hF:=ev2 a hA st hs p;generalize a.keeps st ⟨6,p,0⟩=R at *;simp only[ic17,go_sem,ad1,ae4,ad2,hnl,vcs,vlf]
   first|refine aa2 fok16 (hi) ?_|refine aa8 (hi) ?_
   simp only[go_sem,ad1,ae4,ad2,dd5,vcs,vlf];refine ⟨rfl,?_⟩;refine aa2 fok45 hF ?_;simp only[go_sem]
   exact aa9 rfl
  | job p hp hd=>
   have hF:=fy5 a hA st hs p;generalize a.keeps st ⟨7,p,0⟩=R at *;simp only[ic17,go_sem,ad1,ae4,ad2,hnl,vcs,vlf]
   first|refine aa2 fok16 (hi) ?_|refine aa8 (hi) ?_
   simp only[go_sem,ad1,ae4,ad2,dd5,vcs,vlf];refine ⟨rfl,?_⟩;refine aa2 fok46 hF ?_;simp only[go_sem];exact aa9 rfl
theorem dd8 (xs:List Itm)(g:Nat)(first cap:List IV)(q:Itm->Bool)(hn:xs.length<2^62)(hok:okF Tryz.prog g=true)
  (hq:∀ x∈xs,PC Tryz.prog EE g (first++[IV.agg (Itm.cs x)]++cap) (.bool (q x))):PC Tryz.prog EE 75 [.aa4 (xs.map Itm.cs),.func (.func g) first cap] (.int .i64 (ai7 q xs 0)):=by
 refine bc1 fok75 (nZ rfl) fun σ=>?_
 simp only[ic75,go_sem];refine ab2 noT (fun i fr s=>s=σ/\fr=[(0,.aa4 (xs.map Itm.cs)),(1,.func (.func g) first cap),(7,.int .i64 xs.length),(8,.int .i64 i)]/\ai7 q xs 0=ai7 q (xs.drop i) i) xs.length ⟨rfl,rfl,rfl⟩ ?_;rintro i fr s hi ⟨rfl,rfl,hf⟩;by_cases hlt:i<xs.length
 ·obtain ⟨x,ha,_,hdr,hget,_⟩:=ac7 xs i hlt;have c1:(i:Int)<xs.length:=om
  have c2:(0:Int)<=i:=om
  have w1:=ac2 (i:=i) om;rw[hdr] at hf;simp only[go_sem,c1,c2,hget,ae4,ad2,ad1];refine ao9 hok (es8 (hq x ha)) ?_;rintro v s ⟨rfl,rfl⟩;refine ⟨za _,?_⟩
  cases hqe:q x with
  | true=>simp only[go_sem,hf,ai7,hqe,and_self]
  | false=>
   simp only[go_sem,w1];exact ⟨hlt,by rw[hf]; simp only[ai7,hqe,Bool.false_eq_true,if_false,Int.natCast_add,Int.natCast_one]⟩
 ·have hi':i=xs.length:=om
  subst hi';have c1:¬ (xs.length:Int)<xs.length:=om
  rw[zj] at hf;simp only[go_sem,c1,hf,ai7,and_self]
theorem gp9 (xs:List Itm)(g:Nat)(first cap:List IV)(q:Itm->Bool)(hn:xs.length<2^62)(hok:okF Tryz.prog g=true)
  (hq:∀ x∈xs,PC Tryz.prog EE g (first++[IV.agg (Itm.cs x)]++cap) (.bool (q x))):PC Tryz.prog EE 38 [.aa4 (xs.map Itm.cs),.func (.func g) first cap] (.bool (xs.any q)):=by
 refine bc1 fok38 (nZ rfl) fun σ=>?_
 simp only[ic38,go_sem];refine aa2 fok75 (dd8 xs g first cap q hn hok hq) ?_;simp only[go_sem,au2,and_self]
theorem ev3 (xs:List Itm)(hn:xs.length<=2147483648):PC Tryz.prog EE 31 [.aa4 (xs.map Itm.cs)] (.aa4 (xs.map Itm.cs)):=by
 cases hx:xs with
 | nil=>
  rw[zr];refine bq5 ?_ ?_
  ·refine ad9 hE fok31 (nZ rfl) (af1 .aa1) ?_;simp only[ic31,go_sem,aj6];exact .by5
  ·refine ad9 hE fok31 (nZ rfl) (af1 .ag8) ?_;simp only[ic31,go_sem,aj6];rw[bg8 (by simp only[aa5,if_true]) rfl];simp only[go_sem]
   exact .di9 _ _ _ (by simp only[aa5,if_true]; exact fun h=>(by cases h))
 | cons a as'=>
  have hne:xs.map Itm.cs≠[]:=by rw[hx]; exact fun h=>(by cases h)
  have hall:∀ e∈xs.map Itm.cs,e.length=3/\e.all IV.leaf=true:=fun e he=>by
   obtain ⟨x,_,rfl⟩:=zi.1 he;exact ⟨ae4 x,ad1 x⟩
  rw[<- hx];refine ad9 hE fok31 (nZ rfl) (af1 (as6 xs)) ?_;have hnil:∀ d,by9 (.slice d) (.aa4 (xs.map Itm.cs))=zd false:=fun d=>by rw[hx]; rfl
  simp only[ic31,go_sem,aj6,hnil];rw[bz8 (by simp only[aa5,if_true]) hne hall (by rw[zb]; exact hn)];simp only[go_sem];refine Grow.frz (esz:=3) (es:=xs.map Itm.cs) (.inr ⟨1,by rw[zb],by simp only[aa5,if_true],Nat.lt_succ_self _⟩) (fun x hx=>(hall x hx).1) (fun _ _=>zg _) (al3 (as6 xs))
theorem hy6 (a:ab4)(hA:AOK a)(st:List Int)(hs:st.length<2^30)(x:Itm):PC Tryz.prog EE 39 [.agg x.cs,.ab8 [a.mv],.ab8 [.aa4 (st.map Md.ae1)]] (.bool (!a.holds st x)):=by
 refine ad9 hE fok39 (nZ rfl) (as5 (av6 x) (.ab8 _ (ah9 (as7 a))) (.ab8 _ (ah9 (ad3 st)))) ?_;have h:=bl5 a hA st hs x;have vcs:a.mv.cs=[a.mv]:=rfl;have vlf:a.mv.leaf=true:=rfl;simp only[ic39,go_sem,ad1,ae4,ad2,vcs,vlf]
 first|refine aa2 fok17 (h) ?_|refine aa8 (h) ?_
 simp only[go_sem];exact aa9 rfl
theorem ff7 (a:ab4)(hA:AOK a)(st:List Int)(hs:st.length<2^30)(l:List Itm)(hl:l.length<2^62):PC Tryz.prog EE 14 [a.mv,.aa4 (st.map Md.ae1),aj8 l] (.bool (a.kept st l)):=by
 refine ad9 hE fok14 (nZ rfl) (as5 (as7 a) (ad3 st) (as6 l)) ?_;have hC:=gp9 l 39 [] [.ab8 [a.mv],.ab8 [.aa4 (st.map Md.ae1)]] (fun x=>!a.holds st x) hl fok39.1 fun x _=>hy6 a hA st hs x
 have vcs:a.mv.cs=[a.mv]:=rfl;have vlf:a.mv.leaf=true:=rfl;have hnl:∀ d:TypeId,by9 (.pointer d) a.mv=zd false:=fun _=>rfl
 simp only[ic14,go_sem,vcs,vlf,hnl,zq,List.all_nil,List.head?_cons];refine aa2 fok38 (hC) ?_;simp only[go_sem];exact aa9 rfl
theorem ea1 (a:ab4)(hA:AOK a)(st:List Int)(hs:st.length<2^30)(hl:a.items.length<2^62):PC Tryz.prog EE 12 [a.mv,.aa4 (st.map Md.ae1)] (.bool (a.good st)):=by
 refine ad9 hE fok12 (nZ rfl) (ag4 (as7 a) (ad3 st)) ?_;have h:=ff7 a hA st hs a.items hl;have hnl:∀ d:TypeId,by9 (.pointer d) (.ab8 a.mcs)=zd false:=fun _=>rfl
 unfold ab4.good;unfold ab4.mv at *;simp only[ic12,go_sem,hnl,iv1,ac4];refine aa2 fok14 (h) ?_;simp only[go_sem];exact aa9 rfl
theorem gq1 (a:ab4)(hl:a.items.length<=2147483648):PC Tryz.prog EE 7 [a.mv] (aj8 a.items):=by
 refine ad9 hE fok7 (nZ rfl) (ah9 (as7 a)) ?_;have h:=ev3 a.items hl;have hnl:∀ d:TypeId,by9 (.pointer d) (.ab8 a.mcs)=zd false:=fun _=>rfl
 unfold ab4.mv at *;simp only[ic7,go_sem,hnl,iv1,ac4];refine aa2 fok31 (h) ?_;simp only[go_sem];exact .keep _ (as6 _)
end Go.Id.Tryz
namespace Go.Id.Tryz
open Go Go.Id Go.Proofs Go.Shelf Go.Id.Md
structure MO (s:Store) (pp mid:Nat) (av tv allv itv:IV) (P:List aa3) (D:List Itm):Prop where
 cell:s.obj pp=zd (.cells [av,tv,allv,itv,.map mid])
 grow:Grow s itv 3 (D.map Itm.cs)
 map:s.obj mid=zd (.map (bd2 D))
 all:Grow s allv 15 (P.map aa3.cs)
 ne:∀ i k j l,itv=.slice i 0 k 3->allv=.slice j 0 l 15->i≠j
 lt:pp<s.next/\mid<s.next
theorem MO.mono {s s':Store}{pp mid:Nat}{av tv allv itv:IV}{P:List aa3}{D:List Itm}(h:MO s pp mid av tv allv itv P D)(hn:s.next<=s'.next)(ho:∀ i,i<s.next->s'.obj i=s.obj i):MO s' pp mid av tv allv itv P D where
 cell:=by rw[ho _ h.lt.1]; exact h.cell
 grow:=h.grow.mono hn fun id _ hid=>ho id hid
 map:=by rw[ho _ h.lt.2]; exact h.map
 all:=h.all.mono hn fun id _ hid=>ho id hid
 ne:=h.ne
 lt:=⟨by have:=h.lt.1; omega,by have:=h.lt.2; omega⟩
theorem ff8 (l:List Itm):∀ e∈l.map Itm.cs,e.length=3/\e.all IV.leaf=true:=fun e he=>by
 obtain ⟨x,_,rfl⟩:=zi.1 he;exact ⟨rfl,rfl⟩
theorem gq2 {τ:Store}{mid:Nat}{D:List Itm}{x:Itm}(h:τ.obj mid=zd (.map (bd2 D)))(hx:x ∉ D):aw3 τ 6 (.map mid) (.agg [.int .u8 x.kind,.int .i64 x.p,.int .i64 x.q]) (.agg [])=zd (τ.put mid (.map (bd2 (D++[x])))):=by
 have h2:=hr9 hx;have hxc:x.cs=[.int .u8 x.kind,.int .i64 x.p,.int .i64 x.q]:=rfl;rw[hxc] at h2;simp only[aw3,h,h2,Option.map]
def iv2 (pp:Nat)(σ s:Store):Prop:=σ.next<=s.next/\∀ i cs,i<σ.next->i≠pp->σ.obj i=zd (.cells cs)->s.obj i=zd (.cells cs)
theorem ek8 (σ:Store)(pp mid:Nat)(av tv allv itv:IV)(P:List aa3)(D:List Itm)(x:Itm)(h:MO σ pp mid av tv allv itv P D)(hx:x ∉ D)(hD:D.length<2^30) :
  C Tryz.prog EE 121 [.ptr pp 0,.int .u8 x.kind,.int .i64 x.p,.int .i64 x.q] σ (fun v s=>iv2 pp σ s/\∃ itv',MO s pp mid av tv allv itv' P (D++[x])):=by
 refine C_f fok121 (nZ rfl) ?_;have hxc:x.cs=[.int .u8 x.kind,.int .i64 x.p,.int .i64 x.q]:=rfl;have npp:¬ pp=σ.next:=by have:=h.lt.1; omega
 have nmid:¬ mid=σ.next:=by have:=h.lt.2; omega
 have npn:¬ pp=σ.next+1+7:=by have:=h.lt.1; omega
 have nmn:¬ mid=σ.next+1+7:=by have:=h.lt.2; omega
 have nmp:¬ mid=pp:=fun e=>by have h1:=h.cell; have h2:=h.map; rw[<- e,h2] at h1; cases h1
 have nsn:¬ σ.next=σ.next+1+7:=om
 have nsp:¬ σ.next=pp:=fun e=>npp e.symm
 have hc:=h.cell;have hm:=h.map;obtain ⟨S,hS⟩:∃ S:Store,S=(({ next:=σ.next+1,obj:=σ.obj }:Store).put σ.next (al9.cells [.int .u8 0,.int .i64 0,.int .i64 0])).put σ.next (al9.cells [.int .u8 x.kind,.int .i64 x.p,.int .i64 x.q]):=⟨_,rfl⟩;have So:∀ i,¬ i=σ.next->S.obj i=σ.obj i:=fun i hi=>by rw[hS]; simp only[aa5,hi,if_false]
 have Sb:S.obj σ.next=zd (.cells [.int .u8 x.kind,.int .i64 x.p,.int .i64 x.q]):=by rw[hS]; simp only[aa5,if_true]
 have hg1:Grow (⟨σ.next+1+11,S.obj⟩:Store) itv 3 (D.map Itm.cs):=h.grow.mono (by show σ.next<=σ.next+1+11; omega) fun id _ hid=>So id om
 have ha1:Grow (⟨σ.next+1+11,S.obj⟩:Store) allv 15 (P.map aa3.cs):=h.all.mono (by show σ.next<=σ.next+1+11; omega) fun id _ hid=>So id om
 have hap:=al6 (nid:=σ.next+1+7) (e:=x.cs) hg1 (ff8 D) ⟨rfl,rfl⟩ (by rw[zb]; omega);rw[zb,hxc] at hap;have kp:=ag3 hg1 pp _ (by rw[<- hc]; exact So pp npp) (fun _ e=>by cases e);have km:=ag3 hg1 mid _ (by rw[<- hm]; exact So mid nmid) (fun _ e=>by cases e);have kb:=ag3 hg1 σ.next _ Sb (fun _ e=>by cases e);have kn:(aj5 itv (⟨σ.next+1+11,S.obj⟩:Store)).next=σ.next+1+11:=ae7 itv;have hcp:S.obj pp=zd (.cells [av,tv,allv,itv,.map mid]):=by rw[So pp npp]; exact hc
 have kall:∀ i cs,i<σ.next->σ.obj i=zd (.cells cs)->(aj5 itv (⟨σ.next+1+11,S.obj⟩:Store)).obj i=zd (.cells cs):=fun i cs hi ho=>ag3 hg1 i _ (by rw[<- ho]; exact So i om) (fun _ e=>by cases e)
 have hkall:Grow (aj5 itv (⟨σ.next+1+11,S.obj⟩:Store)) allv 15 (P.map aa3.cs):=by
  refine ha1.mono (by rw[kn]; exact za _) fun id hv _=>?_
  rcases hg1 with ⟨h0,_⟩|⟨j,hj,_,_⟩
  ·rw[h0]; rfl
  ·have hne:=h.ne _ _ _ _ hj hv;rw[hj];show (if id=j then none else S.obj id)=_;rw[if_neg fun e=>hne e.symm]
 simp only[ic121,go_sem,npp,hc,b_o,b_p,b_t];rw[<- hS];generalize aj5 itv (⟨σ.next+1+11,S.obj⟩:Store)=K at *;simp only[show σ.next+1+1+1+1+1+1+1+1=σ.next+1+7 from rfl,hap,go_sem,npn,nmn,nmp,nsn,nsp,kp,km,kb];generalize hK2:(⟨K.next+7,_⟩:Store)=K2;have K2o:K2.obj=((K.put (σ.next+1+7) (al9.row (List.map Itm.cs D++[[IV.int IntKind.u8 x.kind,IV.int IntKind.i64 x.p,IV.int IntKind.i64 x.q]]).flatten)).put pp (al9.cells [av,tv,allv,IV.slice (σ.next+1+7) 0 (D.length+1) 3,IV.map mid])).obj:=by rw[<- hK2]
 have K2n:K2.next=σ.next+1+11+7:=by rw[<- hK2]; show K.next+7=_; rw[kn]
 have hmk:K2.obj mid=zd (.map (bd2 D)):=by rw[K2o]; simp only[aa5,nmp,nmn,if_false]; exact km
 have npm:¬ pp=mid:=fun e=>nmp e.symm
 rw[gq2 hmk hx];simp only[go_sem];refine ⟨⟨by rw[ab7,K2n]; omega,fun i cs hi hip ho=>?_⟩,.slice (σ.next+1+7) 0 (D.length+1) 3,?_⟩
 ·have him:¬ i=mid:=fun e=>by rw[e,hm] at ho; cases ho
  have hin:¬ i=σ.next+1+7:=om
  rw[aa5,if_neg him,K2o];simp only[aa5,hip,hin,if_false];exact kall i cs hi ho
 ·have hrow:∀ id,id≠mid->id≠pp->id≠σ.next+1+7->(K2.put mid (.map (bd2 (D++[x])))).obj id=K.obj id:=fun id h1 h2 h3=>by
   rw[aa5,if_neg h1,K2o];simp only[aa5,h2,h3,if_false]
  exact {
   cell:=by rw[aa5,if_neg npm,K2o]; simp only[aa5,if_true]
   grow:=by
    refine .inr ⟨σ.next+1+7,by rw[zn,ze,zb]; rfl,?_,by rw[ab7,K2n]; omega⟩;rw[aa5,if_neg (fun e=>nmn e.symm),K2o];simp only[aa5,if_true];rw[if_neg (fun e=>npn e.symm),zn]; rfl
   map:=by rw[aa5,if_pos rfl]
   all:=by
    refine hkall.mono (by rw[ab7,K2n,kn]; omega) fun id hv hid=>?_
    rw[kn] at hid
    have hr:K.obj id=zd (.row (P.map aa3.cs).flatten):=by
     rcases hkall with ⟨h0,_⟩|⟨j,hj,ho,_⟩
     ·rw[h0] at hv; cases hv
     ·rw[hj] at hv; cases hv; exact ho
    refine hrow id (fun e=>by rw[e,km] at hr; cases hr) (fun e=>by rw[e,kp] at hr; cases hr) fun e=>?_
    rw[e] at hv;rcases h.all with ⟨h0,_⟩|⟨j,hj,_,hjl⟩
    ·rw[h0] at hv; cases hv
    ·rw[hj] at hv; cases hv; omega
   ne:=fun i k j l e1 e2=>by
    cases e1;rcases h.all with ⟨h0,_⟩|⟨j',hj,_,hjl⟩
    ·rw[h0] at e2; cases e2
    ·rw[hj] at e2; cases e2; omega
   lt:=⟨by rw[ab7,K2n]; have:=h.lt.1; omega,by rw[ab7,K2n]; have:=h.lt.2; omega⟩ }
end Go.Id.Tryz
namespace Go.Id.Tryz
open Go Go.Id Go.Proofs Go.Shelf Go.Id.Md
theorem iv2.refl (pp:Nat)(σ:Store):iv2 pp σ σ:=⟨za _,fun _ _ _ _ h=>h⟩
theorem iv2.trans {pp:Nat}{a b c:Store}(h1:iv2 pp a b)(h2:iv2 pp b c):iv2 pp a c:=⟨Nat.le_trans h1.1 h2.1,fun i cs hi hp ho=>h2.2 i cs (zw hi h1.1) hp (h1.2 i cs hi hp ho)⟩
theorem jm1 (a:ab4){i:Nat}(h:i<a.l.length):((a.l.map aa3.cs).flatten.drop (i*15)).take 15=(a.pk i).cs/\15<=((a.l.map aa3.cs).flatten.drop (i*15)).length:=by
 have hl:∀ e∈a.l.map aa3.cs,e.length=15:=fun e he=>(bg1 _ e he).1
 have h1:=ax8 hl i (by rw[zb]; exact h);have h2:=an4 hl;refine ⟨by rw[h1]; exact hw9 a h,?_⟩;rw[List.length_drop,h2,zb]; omega
theorem jm2 (a:ab4) (hA:AOK a) (hI:0<=a.p.inst) (σ:Store) (pp mid:Nat) (tv allv itv:IV) (h:MO σ pp mid a.v tv allv itv a.l []) (hIt:a.items.length<2^30) :
  C Tryz.prog EE 74 [.ptr pp 0] σ (fun v s=>σ.next<=s.next/\∃ itv',MO s pp mid a.v tv allv itv' a.l a.items):=by
 refine ji2 fok74 (nZ rfl) ?_;have hlen:=hA.len;have vcs:a.v.cs=[a.v]:=rfl;have vlf:a.v.leaf=true:=rfl;simp only[ic74]
 have hlen0:ch9 0 σ allv=zd (.int .i64 a.l.length):=by
  have:=ec7 (s':=σ) h.all;rw[zb] at this; exact this
 have hc:=h.cell;refine ac3 (ac3 (ae2 ?_));simp only[go_sem,hc,hlen0];have x1:∀ (p k:Int) (q:Int),(⟨k,p,q⟩:Itm).cs=[.int .u8 k,.int .i64 p,.int .i64 q]:=fun _ _ _=>rfl
 refine al1 (ao1 (Q:=fun e f s=>e=.exit 0/\σ.next<=s.next/\(∃ itv,MO s pp mid a.v tv allv itv a.l (a.owns a.l.length))/\∃ rst:Frm,f=(0,.ptr pp 0)::rst)
  (ax7 (fun p fr s=>fr=[(0,.ptr pp 0),(14,allv),(15,.int .i64 a.l.length),(16,.int .i64 (p:Int))]/\σ.next<=s.next/\∃ itv,MO s pp mid a.v tv allv itv a.l (a.owns p)) a.l.length ⟨rfl,za _,itv,h⟩ ?_) ?_)
 ·clear h hc hlen0 itv;rintro p fr t hp ⟨rfl,hn,itv,hM⟩;refine ac3 (ae2 ?_);by_cases hpl:p<a.l.length
  ·have c1:(p:Int)<a.l.length:=om
   have c2:(0:Int)<=(p:Int):=om
   have w1:=ac2 (i:=p) om;obtain ⟨r1,r2⟩:=jm1 a hpl
   obtain ⟨ga,hga,hgo,hgl⟩:∃ ga,allv=.slice ga 0 a.l.length 15/\t.obj ga=zd (.row (a.l.map aa3.cs).flatten)/\ga<t.next:=by
    rcases hM.all with ⟨_,h1⟩|⟨ga,h1,h2,h3⟩
    ·have:=congrArg List.length h1; rw[zb,zk] at this; omega
    ·exact ⟨ga,by rw[h1,zb],h2,h3⟩
   subst hga;simp only[go_sem,c1];refine ac3 (ae2 ?_);simp only[go_sem];refine ac3 (al1 (ac3 (ae2 ?_)));simp only[go_sem,c1,c2,hgo,r1,r2,Nat.zero_add,Int.toNat_natCast,ag5,ag9,ad6];generalize hT:Store.put _ t.next (al9.cells (a.pk p).cs)=T;have Tn:T.next=t.next+1:=by rw[<- hT]; rfl
   have To:∀ i,i<t.next->T.obj i=t.obj i:=fun i hi=>by
    have:¬ i=t.next:=om
    rw[<- hT]; simp only[aa5,this,if_false]
   have Tb:T.obj t.next=zd (.cells (a.pk p).cs):=by rw[<- hT]; simp only[aa5,if_true]
   have hMT:=hM.mono (s':=T) om To;have hpt:=hM.lt.1;have hfit:=dt9 a p;have hcT:=hMT.cell
   refine ac3 (ao1 (Q:=fun e f s=>e=.normal/\(∃ rst:Frm,f=(0,.ptr pp 0)::(2,.int .i64 (p:Int))::(3,.ptr t.next 0)::(14,.slice ga 0 a.l.length 15)::(15,.int .i64 a.l.length)::(16,.int .i64 (p:Int))::rst)/\t.next+1<=s.next/\s.obj t.next=zd (.cells (a.pk p).cs) /\
    ∃ itv,MO s pp mid a.v tv (.slice ga 0 a.l.length 15) itv a.l (a.owns p++a.ay3 p)) (ae2 ?_) ?_)
   ·simp only[go_sem,hcT,vcs,vlf];refine aa2 fok120 (hfit) ?_
    cases hf:a.fits p with
    | true=>
     have e:a.ay3 p=[]:=by unfold ab4.ay3; rw[hf]; rfl
     simp only[go_sem]
     exact ⟨⟨_,rfl⟩,om,Tb,itv,by rw[e,zo]; exact hMT⟩
    | false=>
     have e:a.ay3 p=[⟨1,p,0⟩]:=by unfold ab4.ay3; rw[hf]; rfl
     simp only[go_sem];refine ag1 fok121 (ek8 T pp mid a.v tv _ itv a.l (a.owns p) ⟨1,p,0⟩ hMT (fun hm=>by obtain ⟨_,_,p',hp',e'⟩:=a.dc3 hm; simp only at e'; omega) (by have:=a.fd6 hpl; omega)) ?_;rintro v s ⟨⟨s1,s2⟩,itv2,hM2⟩;refine ⟨s1,?_⟩;simp only[go_sem];exact ⟨⟨_,rfl⟩,om,s2 t.next _ om om Tb,itv2,by rw[e]; exact hM2⟩
   clear hMT hcT hT Tn To Tb T hM;rintro e f T ⟨rfl,⟨rst,rfl⟩,Tn,Tb,itv,hM⟩;simp only[go_sem];obtain ⟨K,hK⟩:∃ K,K=[IV.int .u8 2,.int .i64 ((a.pk p).requires.length:Nat),.int .u8 3,.int .i64 ((a.pk p).conflicts.length:Nat),.int .u8 4,.int .i64 ((a.pk p).aa7.length:Nat)]:=⟨_,rfl⟩;have g7:((a.pk p).cs.drop 7).head? = zd (ai9 (a.pk p).requires):=rfl;have g8:((a.pk p).cs.drop 8).head? = zd (ai9 (a.pk p).conflicts):=rfl;have g9:((a.pk p).cs.drop 9).head? = zd (deps (a.pk p).aa7):=rfl;refine ac3 (ae2 ?_);simp only[go_sem,Tb,g7,g8,g9];rw[<- hK]
   have hKj:∀ j,j<3->(K.drop (j*2)).take 2=[.int .u8 ((2+j:Nat):Int),.int .i64 (a.nsI p j)]/\2<=(K.drop (j*2)).length:=fun j hj=>by
    have:j=0\/j=1\/j=2:=om
    rcases this with rfl|rfl|rfl<;>(rw[hK]; exact ⟨rfl,by simp⟩)
   have hKl:K.length=6:=by rw[hK]; rfl
   refine al1 (ao1 (Q:=fun e f s=>e=.exit 2/\σ.next<=s.next/\(∃ itv,MO s pp mid a.v tv (.slice ga 0 a.l.length 15) itv a.l (a.owns p++a.ay3 p++a.ch3 p 3))/\∃ rst:Frm,f=(0,.ptr pp 0)::(2,.int .i64 (p:Int))::(14,.slice ga 0 a.l.length 15)::(15,.int .i64 a.l.length)::(16,.int .i64 (p:Int))::rst)
    (ax7 (fun j fr s=>fr=[(0,.ptr pp 0),(2,.int .i64 (p:Int)),(14,.slice ga 0 a.l.length 15),(15,.int .i64 a.l.length),(16,.int .i64 (p:Int)),(43,.agg K),(44,.int .i64 (j:Int))]/\σ.next<=s.next/\∃ itv,MO s pp mid a.v tv (.slice ga 0 a.l.length 15) itv a.l (a.owns p++a.ay3 p++a.ch3 p j)) 3 ⟨rfl,om,itv,by simpa [ab4.ch3] using hM⟩ ?_) ?_)
   ·clear hM Tb Tn itv g7 g8 g9 hK;rintro j fr u hj ⟨rfl,un,itv,hM⟩;refine ac3 (ae2 ?_);by_cases hj3:j<3
    ·have d1:(j:Int)<3:=om
     have d2:(0:Int)<=(j:Int):=om
     have w2:=ac2 (i:=j) om;obtain ⟨k1,k2⟩:=hKj j hj3;simp only[go_sem,d1];refine ac3 (ae2 ?_);simp only[go_sem];refine ac3 (al1 (ac3 (ae2 ?_)));simp only[go_sem,d1,d2,k1,k2,hKl];refine ⟨om,?_⟩;generalize hU:Store.put _ u.next (al9.cells [IV.int .u8 ((2+j:Nat):Int),IV.int .i64 (a.nsI p j)])=U;have Un:U.next=u.next+1:=by rw[<- hU]; rfl
     have Uo:∀ i,i<u.next->U.obj i=u.obj i:=fun i hi=>by
      have:¬ i=u.next:=om
      rw[<- hU]; simp only[aa5,this,if_false]
     have Ub:U.obj u.next=zd (.cells [IV.int .u8 ((2+j:Nat):Int),IV.int .i64 (a.nsI p j)]):=by rw[<- hU]; simp only[aa5,if_true]
     have hMU:=hM.mono (s':=U) om Uo;have hpu:=hM.lt.1
     have hnn:a.nsI p j<2^30:=by
      have:=a.br3 hpl hj3 (za (a.nsI p j));rw[ze,ab4.bh8] at this; omega
     refine ac3 (ae2 ?_);simp only[go_sem,Ub]
     refine al1 (ao1 (Q:=fun e f s=>e=.exit 4/\σ.next<=s.next/\(∃ itv,MO s pp mid a.v tv (.slice ga 0 a.l.length 15) itv a.l (a.owns p++a.ay3 p++a.ch3 p (j+1)))/\∃ rst:Frm,f=(0,.ptr pp 0)::(2,.int .i64 (p:Int))::(5,.ptr u.next 0)::(14,.slice ga 0 a.l.length 15)::(15,.int .i64 a.l.length)::(16,.int .i64 (p:Int))::(43,.agg K)::(44,.int .i64 (j:Int))::rst)
      (ab2 noT (fun q fr s=>fr=[(0,.ptr pp 0),(2,.int .i64 (p:Int)),(5,.ptr u.next 0),(14,.slice ga 0 a.l.length 15),(15,.int .i64 a.l.length),(16,.int .i64 (p:Int)),(43,.agg K),(44,.int .i64 (j:Int)),(48,.int .i64 (a.nsI p j)),(49,.int .i64 (q:Int))]/\u.next+1<=s.next/\s.obj u.next=zd (.cells [IV.int .u8 ((2+j:Nat):Int),IV.int .i64 (a.nsI p j)]) /\
       ∃ itv,MO s pp mid a.v tv (.slice ga 0 a.l.length 15) itv a.l (a.owns p++a.ay3 p++a.ch3 p j++bd3 ((2+j:Nat):Int) p q)) (a.nsI p j) ⟨rfl,om,Ub,itv,by simpa [bd3] using hMU⟩ ?_) ?_)
     ·clear hM hMU Un Uo Ub hU U itv;rintro q fr U hq ⟨rfl,Un,Ub,itv,hM⟩;by_cases hql:q<a.nsI p j
      ·have e1:(q:Int)<(a.nsI p j:Nat):=om
       have w3:=ac2 (i:=q) om;simp only[go_sem,e1,Ub];refine ag1 fok121 (ek8 U pp mid a.v tv _ itv a.l _ ⟨((2+j:Nat):Int),p,q⟩ hM (fun hm=>?_) ?_) ?_
       ·rcases zc.1 hm with hm|hm
        ·rcases zc.1 hm with hm|hm
         ·rcases zc.1 hm with hm|hm
          ·obtain ⟨_,_,p',hp',e'⟩:=a.dc3 hm; simp only at e'; omega
          ·have:=a.it6 hm; simp only at this; omega
         ·have:=a.jk1 hm; simp only at this; omega
        ·obtain ⟨q',hq',e'⟩:=ay1.1 hm;have:=congrArg Itm.q e';simp only at this; omega
       ·have:=a.br3 hpl hj3 hq; omega
       rintro v s ⟨⟨s1,s2⟩,itv2,hM2⟩;refine ⟨s1,?_⟩;simp only[go_sem,w3];refine ⟨hql,om,s2 u.next _ om om Ub,itv2,?_⟩;rw[bw9,<- zh]; exact hM2
      ·have e1:¬ (q:Int)<(a.nsI p j:Nat):=om
       have e:q=a.nsI p j:=om
       simp only[go_sem,e1];refine ⟨om,⟨itv,?_⟩,_,rfl⟩;rw[a.ap6,<- zh,<- e]; exact hM
     ·rintro e f U ⟨rfl,Un,⟨itv,hM⟩,rst,rfl⟩;simp only[go_sem];refine ae2 ?_;simp only[go_sem,w2];exact ⟨hj3,Un,itv,hM⟩
    ·have d1:¬ (j:Int)<3:=om
     have e:j=3:=om
     subst e;simp only[go_sem,d1];refine ac3 (ae2 ?_);simp only[go_sem];exact ⟨un,⟨itv,hM⟩,_,rfl⟩
   ·rintro e f u ⟨rfl,un,⟨itv,hM⟩,rst,rfl⟩;simp only[go_sem];refine ae2 ?_;simp only[go_sem,w1];refine ⟨hpl,un,itv,?_⟩;rw[a.cd7,a.gn7,<- zh];exact hM
  ·have c1:¬ (p:Int)<a.l.length:=om
   have e:p=a.l.length:=om
   simp only[go_sem,c1];refine ac3 (ae2 ?_);simp only[go_sem];exact ⟨hn,⟨itv,by rw[<- e]; exact hM⟩,_,rfl⟩
 rintro e f t ⟨rfl,hn,⟨itv2,hM⟩,rst,rfl⟩;simp only[go_sem];clear h hc hlen0;have hc:=hM.cell
 have hlen0:∀ s:Store,ch9 0 s allv=zd (.int .i64 a.l.length):=fun s=>by
  have:=ec7 (s':=s) hM.all;rw[zb] at this; exact this
 refine ac3 (ac3 (ae2 ?_));simp only[go_sem,hc,hlen0]
 refine al1 (ao1 (Q:=fun e f s=>e=.exit 6/\σ.next<=s.next/\(∃ itv,MO s pp mid a.v tv allv itv a.l (a.owns a.l.length++a.an7 a.l.length))/\∃ rst:Frm,f=(0,.ptr pp 0)::rst)
  (ax7 (fun p fr s=>fr=[(0,.ptr pp 0),(65,.int .i64 a.l.length),(66,.int .i64 (p:Int))]/\σ.next<=s.next/\∃ itv,MO s pp mid a.v tv allv itv a.l (a.owns a.l.length++a.an7 p)) a.l.length ⟨rfl,hn,itv2,by simpa [ab4.an7] using hM⟩ ?_) ?_)
 ·clear hM hc itv2;rintro p fr t hp ⟨rfl,hn,itv,hM⟩;refine ac3 (ae2 ?_);by_cases hpl:p<a.l.length
  ·have c1:(p:Int)<a.l.length:=om
   have w1:=ac2 (i:=p) om;simp only[go_sem,c1];refine ac3 (ae2 ?_);simp only[go_sem];refine ac3 (al1 (ac3 (ae2 ?_)));simp only[go_sem];refine ac3 (ae2 ?_);simp only[go_sem,w1]
   refine al1 (ao1 (Q:=fun e f s=>e=.exit 8/\σ.next<=s.next/\(∃ itv,MO s pp mid a.v tv allv itv a.l (a.owns a.l.length++a.an7 (p+1)))/\∃ rst:Frm,f=(0,.ptr pp 0)::(7,.int .i64 (p:Int))::(8,.int .i64 (a.l.length:Nat))::(65,.int .i64 a.l.length)::(66,.int .i64 (p:Int))::rst)
    (ab2 noT (fun d fr s=>fr=[(0,.ptr pp 0),(7,.int .i64 (p:Int)),(8,.int .i64 ((p+1+d:Nat):Int)),(65,.int .i64 a.l.length),(66,.int .i64 (p:Int))]/\σ.next<=s.next/\∃ itv,MO s pp mid a.v tv allv itv a.l (a.owns a.l.length++a.an7 p++a.ca3 p (p+1+d))) (a.l.length-(p+1)) ⟨rfl,hn,itv,by rw[Nat.add_zero,a.dc5,zo]; exact hM⟩ ?_) ?_)
   ·clear hM itv hn;rintro d fr u hd ⟨rfl,hn,itv,hM⟩;have hcu:=hM.cell;by_cases hdl:p+1+d<a.l.length
    ·have d1:((p+1+d:Nat):Int)<a.l.length:=om
     have w2:=ac2 (i:=p+1+d) om;have hdl2:d<a.l.length-(p+1):=om
     have htw:=ey9 a p ((p+1+d:Nat):Int) hA
     have hsn:a.ca3 p (p+1+(d+1))=a.ca3 p (p+1+d)++if a.twins p ((p+1+d:Nat):Int) then [⟨5,p,((p+1+d:Nat):Int)⟩] else []:=by
      have e:p+1+(d+1)=p+1+d+1:=om
      have l1:p<p+1+d:=om
      rw[e];unfold ab4.ca3;rw[az6];simp[l1]
     simp only[go_sem,hcu,hlen0,d1,vcs,vlf];refine aa2 fok122 (htw) ?_
     cases ht:a.twins p ((p+1+d:Nat):Int) with
     | false=>
      rw[ht] at hsn;simp only[go_sem,w2];refine ⟨hdl2,by rw[show p+1+(d+1)=p+1+d+1 by omega],hn,itv,?_⟩
      rw[hsn]; simpa using hM
     | true=>
      rw[ht] at hsn;simp only[go_sem];refine ag1 fok121 (ek8 u pp mid a.v tv _ itv a.l _ ⟨5,p,((p+1+d:Nat):Int)⟩ hM (fun hm=>?_) ?_) ?_
      ·rcases zc.1 hm with hm|hm
       ·rcases zc.1 hm with hm|hm
        ·obtain ⟨_,h4,_⟩:=a.dc3 hm; simp only at h4; omega
        ·obtain ⟨_,p',hp',e'⟩:=a.dx8 hm; simp only at e'; omega
       ·obtain ⟨_,_,q',hq',e'⟩:=a.hs9 hm; simp only at e'; omega
      ·have:=a.dx9 hpl (show p+1+d<=a.l.length by omega); omega
      rintro v s ⟨⟨s1,s2⟩,itv2,hM2⟩;refine ⟨s1,?_⟩;simp only[go_sem,w2];refine ⟨hdl2,by rw[show p+1+(d+1)=p+1+d+1 by omega],om,itv2,?_⟩;rw[hsn,if_pos rfl,<- zh]; exact hM2
    ·have d1:¬ ((p+1+d:Nat):Int)<a.l.length:=om
     have e:p+1+d=a.l.length:=om
     simp only[go_sem,hcu,hlen0,d1];refine ⟨hn,⟨itv,?_⟩,_,by rw[e]⟩;rw[a.bn4,<- zh];unfold ab4.hs8;rw[e] at hM; exact hM
   ·rintro e f u ⟨rfl,un,⟨itv,hM⟩,rst,rfl⟩;simp only[go_sem];refine ae2 ?_;simp only[go_sem,w1];exact ⟨hpl,un,itv,hM⟩
  ·have c1:¬ (p:Int)<a.l.length:=om
   have e:p=a.l.length:=om
   simp only[go_sem,c1];refine ac3 (ae2 ?_);simp only[go_sem];exact ⟨hn,⟨itv,by rw[e] at hM; exact hM⟩,_,rfl⟩
 clear hM hc itv2 hn;rintro e f t ⟨rfl,hn,⟨itv2,hM⟩,rst,rfl⟩;simp only[go_sem];have hP:=du3 a;have hIn:=bc4 a.p;have pvl:a.p.v.leaf=true:=rfl;have pvc:a.p.v.cs=[a.p.v]:=rfl;have hin:(a.p.inst:Int)=((a.p.inst.toNat:Nat):Int):=om
 have hin2:a.p.inst.toNat<=a.l.length:=by have:=hA.inst; omega
 rw[hin] at hIn;have hc:=hM.cell;refine ac3 (ac3 (ae2 ?_));simp only[go_sem,hc,vcs,vlf];refine aa2 fok73 (hP) ?_;simp only[go_sem,pvl,pvc]
 first|refine aa2 fok65 (hIn) ?_|refine aa8 (hIn) ?_
 simp only[go_sem]
 refine al1 (ao1 (Q:=fun e f s=>e=.exit 10/\σ.next<=s.next/\(∃ itv,MO s pp mid a.v tv allv itv a.l (a.owns a.l.length++a.an7 a.l.length++a.be9 a.p.inst.toNat))/\∃ rst:Frm,f=(0,.ptr pp 0)::rst)
  (ab2 noT (fun i fr s=>fr=[(0,.ptr pp 0),(97,.int .i64 ((a.p.inst.toNat:Nat):Int)),(98,.int .i64 (i:Int))]/\σ.next<=s.next/\∃ itv,MO s pp mid a.v tv allv itv a.l (a.owns a.l.length++a.an7 a.l.length++a.be9 i)) a.p.inst.toNat ⟨rfl,hn,itv2,by rw[show a.be9 0=[] from rfl,zo]; exact hM⟩ ?_) ?_)
 ·clear hM hc itv2 hn;rintro i fr u hi ⟨rfl,hn,itv,hM⟩;have hcu:=hM.cell;by_cases hil:i<a.p.inst.toNat
  ·have d1:(i:Int)<((a.p.inst.toNat:Nat):Int):=om
   have w1:=ac2 (i:=i) om;have hg:=gb9 a i hA;have hsn:a.be9 (i+1)=a.be9 i++if !a.goes i then [⟨6,i,0⟩] else []:=az6 _ _ _
   simp only[go_sem,hcu,d1,vcs,vlf];refine aa2 fok123 (hg) ?_
   cases hgo:a.goes i with
   | true=>
    rw[hgo] at hsn;simp only[go_sem,w1];refine ⟨hil,hn,itv,?_⟩
    rw[hsn]; simpa using hM
   | false=>
    rw[hgo] at hsn;simp only[go_sem];refine ag1 fok121 (ek8 u pp mid a.v tv _ itv a.l _ ⟨6,i,0⟩ hM (fun hm=>?_) ?_) ?_
    ·rcases zc.1 hm with hm|hm
     ·rcases zc.1 hm with hm|hm
      ·obtain ⟨_,h4,_⟩:=a.dc3 hm; simp only at h4; omega
      ·obtain ⟨h4,_⟩:=a.dx8 hm; simp only at h4; omega
     ·obtain ⟨_,q',hq',e'⟩:=a.gn6 hm; simp only at e'; omega
    ·have:=a.fd7 hi; omega
    rintro v s ⟨⟨s1,s2⟩,itv2,hM2⟩;refine ⟨s1,?_⟩;simp only[go_sem,w1];refine ⟨hil,om,itv2,?_⟩;rw[hsn,<- zh]; exact hM2
  ·have d1:¬ (i:Int)<((a.p.inst.toNat:Nat):Int):=om
   have e:i=a.p.inst.toNat:=om
   simp only[go_sem,d1];exact ⟨hn,⟨itv,by rw[<- e]; exact hM⟩,_,rfl⟩
 clear hM hc itv2 hn;rintro e f t ⟨rfl,hn,⟨itv2,hM⟩,rst,rfl⟩;simp only[go_sem];have hR:=ee2 a hA;have hc:=hM.cell;have r2:a.r.cs[2]? = zd (az8 a.r.ag6):=rfl;refine ac3 (ae2 ?_);simp only[go_sem,hc,vcs,vlf];refine aa2 fok124 (hR) ?_;simp only[go_sem,r2];refine al1 ?_;refine ab2 noT (fun j fr s=>fr=[(0,.ptr pp 0),(118,.int .i64 a.r.ag6.length),(119,.int .i64 (j:Int))]/\σ.next<=s.next/\∃ itv,MO s pp mid a.v tv allv itv a.l (a.owns a.l.length++a.an7 a.l.length++a.be9 a.p.inst.toNat++a.ee4 j)) a.r.ag6.length ⟨rfl,hn,itv2,by rw[show a.ee4 0=[] from rfl,zo]; exact hM⟩ ?_;clear hM hc itv2 hn;rintro j fr u hj ⟨rfl,hn,itv,hM⟩;have hcu:=hM.cell;have hjb:=hA.ag6;by_cases hjl:j<a.r.ag6.length
 ·have d1:(j:Int)<a.r.ag6.length:=om
  have w1:=ac2 (i:=j) om;have hg:=cg8 a j hA;have hsn:a.ee4 (j+1)=a.ee4 j++if !a.dropped j then [⟨7,j,0⟩] else []:=az6 _ _ _
  simp only[go_sem,hcu,d1,vcs,vlf]
  first|refine aa2 fok125 (hg) ?_|refine aa8 (hg) ?_
  cases hgo:a.dropped j with
  | true=>
   rw[hgo] at hsn;simp only[go_sem,w1];refine ⟨hjl,hn,itv,?_⟩
   rw[hsn]; simpa using hM
  | false=>
   rw[hgo] at hsn;simp only[go_sem];refine ag1 fok121 (ek8 u pp mid a.v tv _ itv a.l _ ⟨7,j,0⟩ hM (fun hm=>?_) ?_) ?_
   ·rcases zc.1 hm with hm|hm
    ·rcases zc.1 hm with hm|hm
     ·rcases zc.1 hm with hm|hm
      ·obtain ⟨_,h4,_⟩:=a.dc3 hm; simp only at h4; omega
      ·obtain ⟨h4,_⟩:=a.dx8 hm; simp only at h4; omega
     ·obtain ⟨h4,_⟩:=a.gn6 hm; simp only at h4; omega
    ·obtain ⟨_,q',hq',e'⟩:=a.jj9 hm; simp only at e'; omega
   ·have:=a.gn8 hj; omega
   rintro v s ⟨⟨s1,s2⟩,itv2,hM2⟩;refine ⟨s1,?_⟩;simp only[go_sem,w1];refine ⟨hjl,om,itv2,?_⟩;rw[hsn,<- zh]; exact hM2
 ·have d1:¬ (j:Int)<a.r.ag6.length:=om
  have e:j=a.r.ag6.length:=om
  simp only[go_sem,d1];exact ⟨hn,itv,by unfold ab4.items; rw[<- e]; exact hM⟩
end Go.Id.Tryz
