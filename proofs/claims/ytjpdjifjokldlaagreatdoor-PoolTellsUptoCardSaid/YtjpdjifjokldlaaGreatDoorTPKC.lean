/- The document's copies,pools and requests: walked. Conditions: sizes that fit. -/
import Derived.Test.YtjpdjifjokldlaaGreatDoorTPSJ
import Derived.Test.YtjpdjifjokldlaaGreatDoorFwZb
set_option linter.all false
namespace Go.Id.Tryz
open Go Go.Id Go.Proofs Go.Shelf Go.Id.Md
set_option maxRecDepth 100000
set_option maxHeartbeats 1000000
theorem gk1 (r:aa9):r.fit->PC Tryz.prog EE 73 [.agg r.cs] (.agg r.cs):=by
 induction r using aa9.ind with
 | h k d xs ih=>
  intro hf;obtain ⟨f1,f2,f3,f4,f5⟩:=aa9.bc7.1 hf;have hbA:=am3 (.mk k d xs);rw[aa9.an4] at hbA ⊢;simp only[aa9.kind,aa9.args,aa9.dep] at *;refine aj6 hE fok73 (nZ rfl) (be9 hbA) ?_;simp only[ic73,go_sem]
  refine ac2 noT (fun i fr s=>∃ gv,fr=[(1,.ad4 [.int .u8 k,.str d.name,.int .u8 d.op,.int .i64 d.evr.ai4,.str d.evr.ver,.str d.evr.rel,.aa3 (xs.map aa9.cs)]),(2,.ptr 0 0),(3,.ptr 1 0),(4,.int .i64 (i:Int))]/\2<=s.next /\
   s.obj 0=some (.cells [.int .u8 0,.str [],.int .u8 0,.int .i64 0,.str [],.str [],.aa1])/\s.obj 1=some (.cells [.int .u8 k,.str d.name,.int .u8 d.op,.int .i64 d.evr.ai4,.str d.evr.ver,.str d.evr.rel,gv])/\Grow s gv 7 ((xs.take i).map aa9.cs)) xs.length
   ⟨.aa1,rfl,Nat.le_refl _,rfl,rfl,.inl ⟨rfl,rfl⟩⟩ ?_
  rintro i fr s hi ⟨gv,rfl,hnx,h0,h1,hg⟩;by_cases hlt:i<xs.length
  ·obtain ⟨a,ha,_,hdr,hget,htk⟩:=ad2 xs i hlt;have c1:(i:Int)<xs.length:=by omega
   have c2:(0:Int)<=i:=by omega
   have w1:=af6 (i:=i) (by omega);have hA:=ih a ha (f5 a ha);have hl0:((xs.take i).map aa9.cs).length=i:=by rw[List.length_map,List.length_take]; omega
   have hg1:Grow (⟨s.next+12,s.obj⟩:Store) gv 7 ((xs.take i).map aa9.cs):=hg.mono (by show s.next<=s.next+12; omega) fun _ _ _=>rfl
   have hap:=al1 (nid:=s.next+9) (e:=a.cs) hg1 (al3 _) ⟨ac6 a,ad1 a⟩ (by rw[hl0]; omega);rw[hl0] at hap;have k0:=ah6 hg1 0 _ h0 (fun _ e=>by cases e);have k1:=ah6 hg1 1 _ h1 (fun _ e=>by cases e);have kn:(ai3 gv (⟨s.next+12,s.obj⟩:Store)).next=s.next+12:=ae1 gv;have m0:¬ 0=s.next+9:=by omega
   have m1:¬ 1=s.next+9:=by omega
   simp only[go_sem,c1,c2,hget,ac6,af4,ad1,h1,b_o,b_p,b_t];refine aa6 hA ?_;simp only[go_sem,ac6,af4,ad1];generalize ai3 gv (⟨s.next+12,s.obj⟩:Store)=K at *;simp only[show s.next+1+1+1+1+1+1+1+1+1=s.next+9 from rfl,hap,go_sem,m0,m1,k0,k1,w1];refine ⟨hlt,_,by rw[kn]; omega,rfl,?_⟩;rw[htk,List.map_append,List.map_cons,List.map_nil];refine .inr ⟨s.next+9,by rw[List.length_append,hl0]; rfl,?_,by show s.next+9<K.next; rw[kn]; omega⟩;simp only[aa5];rw[if_neg (fun e=>m1 e.symm),if_pos trivial]
  ·have c1:¬ (i:Int)<xs.length:=by omega
   have e:i=xs.length:=by omega
   subst e;rw[List.take_length] at hg;have hvl:gv.leaf=true:=by rcases hg with ⟨rfl,_⟩|⟨id,rfl,_⟩<;>rfl
   simp only[go_sem,c1,h0,h1];refine ⟨hvl,.in2 (.cons (dh5 rfl) (.cons (.keep _ (.str _)) (.cons (dh5 rfl) (.cons (dh5 rfl) (.cons (.keep _ (.str _)) (.cons (.keep _ (.str _)) (.cons ?_ .nil)))))))⟩;have hne:∀ id,gv=.slice id 0 (xs.map aa9.cs).length 7->id≠0:=fun id hv=>hg.ne hv h0 (fun _ h=>by cases h)
   refine Grow.frz (hg.mono (Nat.le_refl _) fun id hv _=>?_) (fun x hx=>(al3 xs x hx).1) (fun _ _=>Nat.not_lt_zero _) (aj2 (af8 xs));rw[aa5,if_neg (hne id hv)]
theorem de7 (l:List Dep):∀ x∈l.map Dep.cs,x.length=5/\x.all IV.leaf=true:=fun x hx=>by
 obtain ⟨d,_,rfl⟩:=List.mem_map.1 hx;exact ⟨rfl,rfl⟩
theorem eg3 (l:List Str):∀ x∈l.map ap8,x.length=1/\x.all IV.leaf=true:=fun x hx=>by
 obtain ⟨d,_,rfl⟩:=List.mem_map.1 hx;exact ⟨rfl,rfl⟩
theorem fr8 (xs:List aa9)(hl:xs.length<2^31)(hf:∀ r∈xs,r.fit):PC Tryz.prog EE 45 [ag6 xs] (ag6 xs):=by
 refine aj6 hE fok45 (nZ rfl) (be9 (af8 xs)) ?_;simp only[ic45,go_sem];refine ac2 noT (fun i fr s=>∃ gv,fr=[(0,ag6 xs),(3,gv),(4,.int .i64 (i:Int))]/\Grow s gv 7 ((xs.take i).map aa9.cs)) xs.length ⟨.aa1,rfl,.inl ⟨rfl,rfl⟩⟩ ?_;rintro i fr s hi ⟨gv,rfl,hg⟩;by_cases hlt:i<xs.length
 ·obtain ⟨a,ha,_,hdr,hget,htk⟩:=ad2 xs i hlt;have c1:(i:Int)<xs.length:=by omega
  have c2:(0:Int)<=i:=by omega
  have w1:=af6 (i:=i) (by omega);have hA:=gk1 a (hf a ha);have hl0:((xs.take i).map aa9.cs).length=i:=by rw[List.length_map,List.length_take]; omega
  simp only[go_sem,c1,c2,hget,ac6,af4,ad1]
  first|refine aa4 fok73 (hA) ?_|refine aa6 (hA) ?_
  simp only[go_sem,ac6,af4,ad1];have hap:=al1 (nid:=s.next) (e:=a.cs) (hg.mono (σ':=⟨s.next+1,s.obj⟩) (Nat.le_succ _) fun _ _ _=>rfl) (al3 _) ⟨ac6 a,ad1 a⟩ (by rw[hl0]; omega);rw[hl0] at hap;simp only[go_sem,hap,w1];refine ⟨hlt,_,rfl,?_⟩;rw[htk,List.map_append,List.map_cons,List.map_nil];exact .inr ⟨s.next,by rw[List.length_append,hl0]; rfl,by rw[aa5,if_pos rfl],by show s.next<(ai3 gv _).next; rw[ae1]; exact Nat.lt_succ_self _⟩
 ·have c1:¬ (i:Int)<xs.length:=by omega
  have e:i=xs.length:=by omega
  subst e;rw[List.take_length] at hg;simp only[go_sem,c1];exact hg.frz (fun x hx=>(al3 xs x hx).1) (fun _ _=>Nat.not_lt_zero _) (aj2 (af8 xs))
theorem dp1 (p:aa2)(hf:p.Fit):PC Tryz.prog EE 27 [.agg p.cs] (.agg p.cs):=by
 refine aj6 hE fok27 (nZ rfl) (be9 (al2 p)) ?_;have gr:=fun (l:List aa9) (wh:Int) (h:(wh,l)∈p.rows)=>fr8 l (hf.ay5 _ h).1 fun r hr=>((hf.ay5 _ h).2 r hr).1
 have r1:=gr p.requires 1 (by simp[aa2.rows]);have r2:=gr p.conflicts 2 (by simp[aa2.rows]);have r3:=gr p.ab7 1 (by simp[aa2.rows]);have r4:=gr p.ab3 3 (by simp[aa2.rows]);have r5:=gr p.suggests 1 (by simp[aa2.rows]);have r6:=gr p.ac3 3 (by simp[aa2.rows]);clear gr;simp only[ic27,go_sem,ad9,aa2.cs];generalize hS0:Store.put _ 9 (ak2.row [])=S0;have S0n:S0.next=41:=by rw[<- hS0]; rfl
 have g0:Grow S0 (.slice 9 0 0 5) 5 []:=.inr ⟨9,rfl,by rw[<- hS0,aa5,if_pos rfl]; rfl,by omega⟩;have b0:S0.obj 0=some (.cells [.str [],.int .i64 0,.str [],.str [],.int .u8 0,.str [],.aa1,.aa1,.aa1,.aa1,.aa1,.aa1,.aa1,.aa1,.aa1]):=by rw[<- hS0]; rfl
 obtain ⟨v1,t1,a1,n1,q1,k1,o1⟩:=cg9 (nid:=12) (xs:=p.provides.map Dep.cs) g0 (fun x h=>by cases h) (de7 _) (by rw[List.length_map,List.length_nil]; have:=hf.bd4.1; omega) (by omega);have b1:t1.obj 0=_:=(k1 0 (by decide) (fun k h=>by cases h)).trans b0;rw[List.nil_append] at q1;simp only[go_sem,a1];refine aa6 r1 ?_;simp only[go_sem];refine aa6 r2 ?_;simp only[go_sem]
 have i1:∀ i k,v1=.slice i 0 k 5->i=9\/i=12:=fun i k h=>by
  rcases o1 with e|e<;>(rw[e] at h; cases h)<;>simp
 generalize hS1:Store.put t1 19 (ak2.row [])=S1;have S1n:S1.next=41:=by rw[<- hS1,ab4,n1,S0n]
 have e1:∀ i,i≠19->S1.obj i=t1.obj i:=fun i hi=>by rw[<- hS1,aa5,if_neg hi]
 have g1:Grow S1 (.slice 19 0 0 5) 5 []:=.inr ⟨19,rfl,by rw[<- hS1,aa5,if_pos rfl]; rfl,by omega⟩;obtain ⟨v2,t2,a2,n2,q2,k2,o2⟩:=cg9 (nid:=22) (xs:=p.ab2.map Dep.cs) g1 (fun x h=>by cases h) (de7 _) (by rw[List.length_map,List.length_nil]; have:=hf.obs.1; omega) (by omega);rw[List.nil_append] at q2
 have i2:∀ i k,v2=.slice i 0 k 5->i=19\/i=22:=fun i k h=>by
  rcases o2 with e|e<;>(rw[e] at h; cases h)<;>simp
 have b2:t2.obj 0=_:=(k2 0 (by decide) (fun k h=>by cases h)).trans ((e1 0 (by decide)).trans b1)
 have p1:Grow t2 v1 5 (p.provides.map Dep.cs):=q1.mono (by rw[n2,S1n,n1,S0n]; exact Nat.le_refl _) fun id hv _=>by
  have hid:=i1 _ _ hv;rw[k2 id (by omega) (fun k h=>by cases h; omega),e1 id (by omega)]
 simp only[go_sem,a2];refine aa6 r3 ?_;simp only[go_sem];refine aa6 r4 ?_;simp only[go_sem];refine aa6 r5 ?_;simp only[go_sem];refine aa6 r6 ?_;simp only[go_sem];generalize hS2:Store.put t2 35 (ak2.row [])=S2;have S2n:S2.next=41:=by rw[<- hS2,ab4,n2,S1n]
 have e2:∀ i,i≠35->S2.obj i=t2.obj i:=fun i hi=>by rw[<- hS2,aa5,if_neg hi]
 have g2:Grow S2 (.slice 35 0 0 1) 1 []:=.inr ⟨35,rfl,by rw[<- hS2,aa5,if_pos rfl]; rfl,by omega⟩;obtain ⟨v3,t3,a3,n3,q3,k3,o3⟩:=cg9 (nid:=38) (xs:=p.files.map ap8) g2 (fun x h=>by cases h) (eg3 _) (by rw[List.length_map,List.length_nil]; have:=hf.files.1; omega) (by omega);rw[List.nil_append] at q3
 have i3:∀ i k,v3=.slice i 0 k 1->i=35\/i=38:=fun i k h=>by
  rcases o3 with e|e<;>(rw[e] at h; cases h)<;>simp
 have b3:t3.obj 0=_:=(k3 0 (by decide) (fun k h=>by cases h)).trans ((e2 0 (by decide)).trans b2)
 have pp1:Grow t3 v1 5 (p.provides.map Dep.cs):=p1.mono (by rw[n3,S2n,n2,S1n]; exact Nat.le_refl _) fun id hv _=>by
  have hid:=i1 _ _ hv;rw[k3 id (by omega) (fun k h=>by cases h; omega),e2 id (by omega)]
 have pp2:Grow t3 v2 5 (p.ab2.map Dep.cs):=q2.mono (by rw[n3,S2n,n2,S1n]; exact Nat.le_refl _) fun id hv _=>by
  have hid:=i2 _ _ hv;rw[k3 id (by omega) (fun k h=>by cases h; omega),e2 id (by omega)]
 have l1:v1.leaf=true:=by rcases o1 with e|e<;>(rw[e]; rfl)
 have l2:v2.leaf=true:=by rcases o2 with e|e<;>(rw[e]; rfl)
 have l3:v3.leaf=true:=by rcases o3 with e|e<;>(rw[e]; rfl)
 have c1:v1.cs=[v1]:=by rcases o1 with e|e<;>(rw[e]; rfl)
 have c2:v2.cs=[v2]:=by rcases o2 with e|e<;>(rw[e]; rfl)
 have c3:v3.cs=[v3]:=by rcases o3 with e|e<;>(rw[e]; rfl)
 simp only[go_sem,a3,l1,l2,l3,c1,c2,c3,b3];have bs:∀ s:Str,Bnd 0 (.str s):=fun s=>.str s
 have fd:∀ (v:IV) (l:List Dep),(∀ i k,v=.slice i 0 k 5->i≠0)->Grow t3 v 5 (l.map Dep.cs)->∀ c,dh8 (t3.put 0 c) 0 v (deps l):=fun v l hv hg c=>by
  refine Grow.frz (hg.mono (Nat.le_refl _) fun id hid _=>by rw[aa5,if_neg (hv _ _ hid)]) (fun x hx=>(de7 l x hx).1) (fun _ _=>Nat.not_lt_zero _) fun e he c hc=>?_
  obtain ⟨d,_,rfl⟩:=List.mem_map.1 he;exact df7 d c hc
 have fs:∀ (v:IV) (l:List Str),(∀ i k,v=.slice i 0 k 1->i≠0)->Grow t3 v 1 (l.map ap8)->∀ c,dh8 (t3.put 0 c) 0 v (strs l):=fun v l hv hg c=>by
  refine Grow.frz (hg.mono (Nat.le_refl _) fun id hid _=>by rw[aa5,if_neg (hv _ _ hid)]) (fun x hx=>(eg3 l x hx).1) (fun _ _=>Nat.not_lt_zero _) fun e he c hc=>?_
  obtain ⟨d,_,rfl⟩:=List.mem_map.1 he
  cases hc with
  | head=>exact .str _
  | tail _ h=>cases h
 refine .in2 (.cons (.keep _ (bs _)) (.cons (dh5 rfl) (.cons (.keep _ (bs _)) (.cons (.keep _ (bs _)) (.cons (dh5 rfl) (.cons (.keep _ (bs _)) (.cons (fd _ _ (fun i k h=>by have:=i1 _ _ h; omega) pp1 _) (.cons (.keep _ (af8 _)) (.cons (.keep _ (af8 _)) (.cons (fd _ _ (fun i k h=>by have:=i2 _ _ h; omega) pp2 _)
  (.cons (.keep _ (af8 _)) (.cons (.keep _ (af8 _)) (.cons (.keep _ (af8 _)) (.cons (.keep _ (af8 _)) (.cons (fs _ _ (fun i k h=>by have:=i3 _ _ h; omega) q3 _) .nil)))))))))))))))
set_option maxHeartbeats 1000000
def ij8 (e:Nat)(es:List (List IV)):Prop:=∀ x∈es,x.length=e/\x.all IV.leaf=true
def Far (v w:IV):Prop:=∀ i k e j l f,v=.slice i 0 k e->w=.slice j 0 l f->i≠j
structure Q12 (s:Store) (id:Nat) (n:Int) (k:Nat) (Lv Rv Pv:IV) (eL eR eP:List (List IV)):Prop where
 cell:s.obj id=some (.cells [Lv,.int .i64 n,Rv,Pv])
 lt:id<s.next
 gL:Grow s Lv 15 eL
 gR:Grow s Rv 1 eR
 gP:Grow s Pv 1 eP
 aL:ij8 15 eL
 aR:ij8 1 eR
 aP:ij8 1 eP
 kL:eL.length<=k
 kR:eR.length<=k
 kP:eP.length<=k
 lr:Far Lv Rv
 lp:Far Lv Pv
 rp:Far Rv Pv
theorem Q12.mono {s s':Store}{id:Nat}{n:Int}{k:Nat}{Lv Rv Pv:IV}{eL eR eP:List (List IV)}(h:Q12 s id n k Lv Rv Pv eL eR eP)(hn:s.next<=s'.next)(ho:∀ i,i<s.next->s'.obj i=s.obj i):Q12 s' id n k Lv Rv Pv eL eR eP :=
 {h with
  cell:=by rw[ho _ h.lt]; exact h.cell
  lt:=Nat.lt_of_lt_of_le h.lt hn
  gL:=h.gL.mono hn fun i _ hi=>ho i hi
  gR:=h.gR.mono hn fun i _ hi=>ho i hi
  gP:=h.gP.mono hn fun i _ hi=>ho i hi }
theorem eg4 {s:Store}{v:IV}{e:Nat}{es:List (List IV)}(h:Grow s v e es){i k f:Nat}(hv:v=.slice i 0 k f):i<s.next/\∃ cs,s.obj i=some (.row cs):=by
 rcases h with ⟨h0,_⟩|⟨j,hj,ho,hl⟩
 ·rw[h0] at hv; cases hv
 ·rw[hj] at hv; cases hv; exact ⟨hl,_,ho⟩
theorem dp2 {s:Store}{v:IV}{i:Nat}(h:∀ k e,v≠.slice i 0 k e){e:Nat}{es:List (List IV)}(hg:Grow s v e es):(ai3 v s).obj i=s.obj i:=by
 rcases hg with ⟨h0,_⟩|⟨j,hj,_,_⟩
 ·rw[h0]; rfl
 ·rw[hj];show (if i=j then none else s.obj i)=_;rw[if_neg fun e=>h _ _ (by rw[hj,e])]
theorem ez3 {s:Store}{v w:IV}{e f m nid:Nat}{es fs:List (List IV)}(hm:s.next<=m)(hg:Grow s v e es)(hw:Grow s w f fs)(hf:Far v w)(hn:∀ i k g,w=.slice i 0 k g->i≠nid)(r:ak2) :
  Grow ((ai3 v (⟨m,s.obj⟩:Store)).put nid r) w f fs:=by
 have hg':Grow (⟨m,s.obj⟩:Store) v e es:=hg.mono hm fun _ _ _=>rfl
 refine hw.mono (by rw[ab4,ae1]; exact hm) fun i hv _=>?_
 rw[aa5,if_neg (hn _ _ _ hv),dp2 (fun k g hk=>hf _ _ _ _ _ _ hk hv rfl) hg']
def hu5 (B:Nat)(Lv Rv Pv:IV):Prop:=∀ i k e,Lv=.slice i 0 k e\/Rv=.slice i 0 k e\/Pv=.slice i 0 k e->B<=i
theorem de8 {s:Store}{v:IV}{lo i nid:Nat}{r:ak2}{e:Nat}{es:List (List IV)}(hg:Grow s v e es)(hv:∀ i k e,v=.slice i 0 k e->lo<=i)(hn:lo<=nid)(hi:i<lo):((ai3 v s).put nid r).obj i=s.obj i:=by
 rw[aa5,if_neg (by omega),dp2 (fun k g hk=>by have:=hv _ _ _ hk; omega) hg]
theorem Q12.push {t:Store}{id:Nat}{n:Int}{k:Nat}{Lv Rv Pv:IV}{eL eR eP:List (List IV)}(h:Q12 t id n k Lv Rv Pv eL eR eP){lo:Nat}(hlw:hu5 lo Lv Rv Pv)(hlo:lo<=t.next)(hk:k<2^20){c:List IV}(hc:c.length=15/\c.all IV.leaf=true)(a b:Int){d1 d2 d3 d4:Nat}(h12:d1<d2)(h23:d2<d3)(h34:d3<d4) :
  ∃ L' R' P' S1 S2 S3,aq2 ⟨t.next+d4,t.obj⟩ (t.next+d1) 15 Lv (.aa3 [c])=some (L',S1)/\S1.obj id=some (.cells [Lv,.int .i64 n,Rv,Pv])/\aq2 S1 (t.next+d2) 1 Rv (.aa3 [[.int .i64 a]])=some (R',S2)/\S2.obj id=some (.cells [Lv,.int .i64 n,Rv,Pv]) /\
   aq2 S2 (t.next+d3) 1 Pv (.aa3 [[.int .i64 b]])=some (P',S3)/\S3.obj id=some (.cells [Lv,.int .i64 n,Rv,Pv])/\(L'.leaf=true/\L'.cs=[L']/\R'.leaf=true/\R'.cs=[R']/\P'.leaf=true/\P'.cs=[P'])/\S3.next=t.next+d4/\hu5 lo L' R' P'/\(∀ i,i<lo->S3.obj i=t.obj i) /\
   ∀ τ:Store,t.next+d4<=τ.next->τ.obj id=some (.cells [L',.int .i64 n,R',P'])->(∀ i,i≠id->τ.obj i=S3.obj i)->Q12 τ id n (k+1) L' R' P' (eL++[c]) (eR++[[.int .i64 a]]) (eP++[[.int .i64 b]]):=by
 have hcell:=h.cell;have nid1:¬ id=t.next+d1:=by have:=h.lt; omega
 have nid2:¬ id=t.next+d2:=by have:=h.lt; omega
 have nid3:¬ id=t.next+d3:=by have:=h.lt; omega
 have notrow:∀ {s:Store} {v:IV} {e:Nat} {es:List (List IV)},Grow s v e es->s.obj id=some (.cells [Lv,.int .i64 n,Rv,Pv])->∀ kk ee,v≠.slice id 0 kk ee:=fun hg ho kk ee hv=>by
  obtain ⟨_,cs,hr⟩:=eg4 hg hv;rw[ho] at hr; cases hr
 have old:∀ {s:Store} {v:IV} {e:Nat} {es:List (List IV)},Grow s v e es->s.next=t.next->∀ d i kk g,v=.slice i 0 kk g->i≠t.next+d:=fun hg hs d i kk g hv=>by
  have:=(eg4 hg hv).1; omega
 -- the first row
 have G0:Grow (⟨t.next+d4,t.obj⟩:Store) Lv 15 eL:=h.gL.mono (by show t.next<=t.next+d4; omega) fun _ _ _=>rfl
 have A1:=al1 (nid:=t.next+d1) (e:=c) G0 h.aL hc (by have:=h.kL; omega)
 have c1:((ai3 Lv (⟨t.next+d4,t.obj⟩:Store)).put (t.next+d1) (.row (eL++[c]).flatten)).obj id=some (.cells [Lv,.int .i64 n,Rv,Pv]):=by
  rw[aa5,if_neg nid1]; exact ah6 G0 id _ hcell (fun _ e=>by cases e)
 have R1:=ez3 (m:=t.next+d4) (nid:=t.next+d1) (Nat.le_add_right _ _) h.gL h.gR h.lr (old h.gR rfl d1) (.row (eL++[c]).flatten);have P1:=ez3 (m:=t.next+d4) (nid:=t.next+d1) (Nat.le_add_right _ _) h.gL h.gP h.lp (old h.gP rfl d1) (.row (eL++[c]).flatten);have L1:Grow ((ai3 Lv (⟨t.next+d4,t.obj⟩:Store)).put (t.next+d1) (.row (eL++[c]).flatten)) (.slice (t.next+d1) 0 (eL.length+1) 15) 15 (eL++[c]):=Grow.new (v:=.aa1) (by rw[ab4,ae1]; show _<t.next+d4; omega) (by rw[aa5,if_pos rfl]);have K1:∀ i,i<lo->((ai3 Lv (⟨t.next+d4,t.obj⟩:Store)).put (t.next+d1) (.row (eL++[c]).flatten)).obj i=t.obj i:=fun i hi=>de8 (nid:=t.next+d1) G0 (fun i k e hv=>hlw i k e (.inl hv)) (by omega) hi
 have N1:((ai3 Lv (⟨t.next+d4,t.obj⟩:Store)).put (t.next+d1) (.row (eL++[c]).flatten)).next=t.next+d4:=by rw[ab4,ae1]
 generalize (ai3 Lv (⟨t.next+d4,t.obj⟩:Store)).put (t.next+d1) (.row (eL++[c]).flatten)=S1 at *
 -- the second
 have A2:=al1 (nid:=t.next+d2) (e:=[IV.int .i64 a]) R1 h.aR ⟨rfl,rfl⟩ (by have:=h.kR; omega);have e1:(⟨S1.next,S1.obj⟩:Store)=S1:=rfl
 have c2:((ai3 Rv S1).put (t.next+d2) (.row (eR++[[IV.int .i64 a]]).flatten)).obj id=some (.cells [Lv,.int .i64 n,Rv,Pv]):=by
  rw[aa5,if_neg nid2]; exact ah6 R1 id _ c1 (fun _ e=>by cases e)
 have P2:Grow ((ai3 Rv S1).put (t.next+d2) (.row (eR++[[IV.int .i64 a]]).flatten)) Pv 1 eP:=ez3 (s:=S1) (m:=S1.next) (nid:=t.next+d2) (Nat.le_refl _) R1 P1 h.rp (fun i kk g hv=>old h.gP rfl d2 i kk g hv) _;have L2:Grow ((ai3 Rv S1).put (t.next+d2) (.row (eR++[[IV.int .i64 a]]).flatten)) (.slice (t.next+d1) 0 (eL.length+1) 15) 15 (eL++[c]):=ez3 (s:=S1) (m:=S1.next) (nid:=t.next+d2) (Nat.le_refl _) R1 L1 (fun i kk g j l f hv hw=>by cases hw; exact old h.gR rfl d1 _ _ _ hv) (fun i kk g hv=>by cases hv; omega) _;have R2:Grow ((ai3 Rv S1).put (t.next+d2) (.row (eR++[[IV.int .i64 a]]).flatten)) (.slice (t.next+d2) 0 (eR.length+1) 1) 1 (eR++[[IV.int .i64 a]]):=Grow.new (v:=.aa1) (by rw[ab4,ae1,N1]; omega) (by rw[aa5,if_pos rfl]);have K2:∀ i,i<lo->((ai3 Rv S1).put (t.next+d2) (.row (eR++[[IV.int .i64 a]]).flatten)).obj i=t.obj i:=fun i hi=>(de8 (nid:=t.next+d2) R1 (fun i k e hv=>hlw i k e (.inr (.inl hv))) (by omega) hi).trans (K1 i hi)
 have N2:((ai3 Rv S1).put (t.next+d2) (.row (eR++[[IV.int .i64 a]]).flatten)).next=t.next+d4:=by rw[ab4,ae1,N1]
 generalize (ai3 Rv S1).put (t.next+d2) (.row (eR++[[IV.int .i64 a]]).flatten)=S2 at *
 -- the third
 have A3:=al1 (nid:=t.next+d3) (e:=[IV.int .i64 b]) P2 h.aP ⟨rfl,rfl⟩ (by have:=h.kP; omega)
 have c3:((ai3 Pv S2).put (t.next+d3) (.row (eP++[[IV.int .i64 b]]).flatten)).obj id=some (.cells [Lv,.int .i64 n,Rv,Pv]):=by
  rw[aa5,if_neg nid3]; exact ah6 P2 id _ c2 (fun _ e=>by cases e)
 have L3:Grow ((ai3 Pv S2).put (t.next+d3) (.row (eP++[[IV.int .i64 b]]).flatten)) (.slice (t.next+d1) 0 (eL.length+1) 15) 15 (eL++[c]):=ez3 (s:=S2) (m:=S2.next) (nid:=t.next+d3) (Nat.le_refl _) P2 L2 (fun i kk g j l f hv hw=>by cases hw; exact old h.gP rfl d1 _ _ _ hv) (fun i kk g hv=>by cases hv; omega) _;have R3:Grow ((ai3 Pv S2).put (t.next+d3) (.row (eP++[[IV.int .i64 b]]).flatten)) (.slice (t.next+d2) 0 (eR.length+1) 1) 1 (eR++[[IV.int .i64 a]]):=ez3 (s:=S2) (m:=S2.next) (nid:=t.next+d3) (Nat.le_refl _) P2 R2 (fun i kk g j l f hv hw=>by cases hw; exact old h.gP rfl d2 _ _ _ hv) (fun i kk g hv=>by cases hv; omega) _;have P3:Grow ((ai3 Pv S2).put (t.next+d3) (.row (eP++[[IV.int .i64 b]]).flatten)) (.slice (t.next+d3) 0 (eP.length+1) 1) 1 (eP++[[IV.int .i64 b]]):=Grow.new (v:=.aa1) (by rw[ab4,ae1,N2]; omega) (by rw[aa5,if_pos rfl]);have K3:∀ i,i<lo->((ai3 Pv S2).put (t.next+d3) (.row (eP++[[IV.int .i64 b]]).flatten)).obj i=t.obj i:=fun i hi=>(de8 (nid:=t.next+d3) P2 (fun i k e hv=>hlw i k e (.inr (.inr hv))) (by omega) hi).trans (K2 i hi)
 have N3:((ai3 Pv S2).put (t.next+d3) (.row (eP++[[IV.int .i64 b]]).flatten)).next=t.next+d4:=by rw[ab4,ae1,N2]
 generalize (ai3 Pv S2).put (t.next+d3) (.row (eP++[[IV.int .i64 b]]).flatten)=S3 at *;refine ⟨_,_,_,S1,S2,S3,A1,c1,A2,c2,A3,c3,⟨rfl,rfl,rfl,rfl,rfl,rfl⟩,N3,fun i k e h=>by rcases h with h|h|h<;>cases h<;>omega,K3,fun τ hτ hcτ hoτ=>?_⟩;have keep:∀ {v:IV} {e:Nat} {es:List (List IV)},Grow S3 v e es->Grow τ v e es:=fun hg=>hg.mono (by omega) fun i hv _=>hoτ i fun e=>notrow hg c3 _ _ (by rw[<- e]; exact hv)
 have snocE:∀ {e:Nat} {es:List (List IV)} {x:List IV},ij8 e es->(x.length=e/\x.all IV.leaf=true)->ij8 e (es++[x]):=fun h1 h2 y hy=>by
  rcases List.mem_append.1 hy with hy|hy
  ·exact h1 y hy
  ·rw[List.mem_singleton] at hy; rw[hy]; exact h2
 exact {
  cell:=hcτ
  lt:=by have:=h.lt; omega
  gL:=keep L3
  gR:=keep R3
  gP:=keep P3
  aL:=snocE h.aL hc
  aR:=snocE h.aR ⟨rfl,rfl⟩
  aP:=snocE h.aP ⟨rfl,rfl⟩
  kL:=by rw[List.length_append]; have:=h.kL; simp only[List.length_singleton]; omega
  kR:=by rw[List.length_append]; have:=h.kR; simp only[List.length_singleton]; omega
  kP:=by rw[List.length_append]; have:=h.kP; simp only[List.length_singleton]; omega
  lr:=fun i k e j l f h1 h2=>by cases h1; cases h2; omega
  lp:=fun i k e j l f h1 h2=>by cases h1; cases h2; omega
  rp:=fun i k e j l f h1 h2=>by cases h1; cases h2; omega }
def lsL (rs:List aq1):List (List IV):=rs.map fun r=>r.pkg.cs
def lsR (rs:List aq1):List (List IV):=rs.map fun r=>Md.ai9 r.bo2
def lsP (rs:List aq1):List (List IV):=rs.map fun r=>Md.ai9 r.prio
def dx9 (p:Pool):IV:=.ad4 [ay8 (ac1 p),.int .i64 p.inst,.aa3 ((p.rows.map fun r=>r.bo2).map Md.ai9),.aa3 ((p.rows.map fun r=>r.prio).map Md.ai9)]
def iw5 (σ:Store)(r:Pool ⊕ Int)(v:IV)(s:Store):Prop:=(∀ i,i<σ.next->s.obj i=σ.obj i)/\σ.next<=s.next/\match r with
 | .inl p=>∃ id X Y Z,v=.tuple [.ptr id 0,.int .i64 0]/\σ.next<=id/\s.obj id=some (.cells [X,.int .i64 p.inst,Y,Z])/\Grow s X 15 (lsL p.rows)/\Grow s Y 1 (lsR p.rows)/\Grow s Z 1 (lsP p.rows)/\hu5 σ.next X Y Z
 | .inr e=>v=.tuple [.ad5,.int .i64 e]
theorem bc1 (l:List aa2)(x:aa2)(a b:Int):rowsOf (l++[x]) a b=rowsOf l a b++[⟨x,a,b⟩]:=by simp[rowsOf]
theorem eg5 (rs:List aq1)(r:aq1):lsL (rs++[r])=lsL rs++[r.pkg.cs]:=by simp[lsL]
theorem eg6 (rs:List aq1)(r:aq1):lsR (rs++[r])=lsR rs++[[.int .i64 r.bo2]]:=by simp[lsR,Md.ai9]
theorem eg7 (rs:List aq1)(r:aq1):lsP (rs++[r])=lsP rs++[[.int .i64 r.prio]]:=by simp[lsP,Md.ai9]
theorem hk9 (repos:List ak1)(inst:List aa2)(hI:im4 repos inst)(σ:Store):C Tryz.prog EE 7 [aq4 repos,ay8 inst] σ (iw5 σ (bq8 repos inst)):=by
 refine C_f fok7 (nZ rfl) ?_;have h1:=hI.r1;have h2:=hI.i1;have h3:=hI.s1;simp only[ic7,go_sem];refine ac2 noT (fun i fr s=>∃ n:Nat,fr=[(0,aq4 repos),(1,ay8 inst),(6,.int .i64 n),(7,.int .i64 (i:Int))]/\((∀ i,i<σ.next->s.obj i=σ.obj i)/\σ.next<=s.next)/\n+aj1 (repos.drop i)=inst.length+aj1 repos) repos.length ⟨inst.length,rfl,⟨fun _ _=>rfl,Nat.le_refl _⟩,rfl⟩ ?_;rintro i fr s hle ⟨n,rfl,hnx,hn⟩;by_cases hlt:i<repos.length
 ·obtain ⟨a,ha,_,hdr,hget,htk⟩:=ad2 repos i hlt;have c1:(i:Int)<repos.length:=by omega
  have c2:(0:Int)<=i:=by omega
  have w1:=af6 (i:=i) (by omega);rw[cf4 repos i a hdr] at hn
  have w2:IntKind.i64.wrap ((n:Int)+a.packages.length)=((n+a.packages.length:Nat):Int):=by
   rw[wrap64 (by omega) (by omega)]; omega
  simp only[go_sem,c1,c2,hget,al5,an6,an5,ak1.cs,w2,w1];exact ⟨hlt,n+a.packages.length,rfl,hnx,by omega⟩
 have hi':i=repos.length:=by omega
 subst hi';have c1:¬ (repos.length:Int)<repos.length:=by omega
 have hn0:n=inst.length+aj1 repos:=by rw[List.drop_length] at hn; simpa [aj1] using hn
 subst hn0;by_cases b1:16<repos.length
 ·have b1':(16:Int)<repos.length:=by omega
  simp only[go_sem,c1,b1',bq8,b1,true_or];exact ⟨hnx.1,hnx.2,rfl⟩
 have b1':¬ (16:Int)<repos.length:=by omega
 by_cases b2:256<inst.length+aj1 repos
 ·have b2':(256:Int)<((inst.length+aj1 repos:Nat):Int):=by omega
  simp only[go_sem,c1,b1',b2',bq8,b1,b2,or_true];exact ⟨hnx.1,hnx.2,rfl⟩
 have b2':¬ (256:Int)<((inst.length+aj1 repos:Nat):Int):=by omega
 simp only[go_sem,c1,b1',b2']
 have hnew:inst.all af3=true->bq8 repos inst=match ad7 0 repos (rowsOf inst (-1) 1025,bn4 [] 0 inst) with
  | some (rows,nm)=>.inl ⟨rows,inst.length,nm⟩
  | none=>.inr 4:=fun h=>by
  unfold bq8;rw[if_neg (by omega),if_neg (by rw[h]; simp)];rfl
 obtain ⟨B,hB⟩:∃ B,s.next=B:=⟨_,rfl⟩;rw[hB];obtain ⟨hok,hnx⟩:=hnx;have hσB:σ.next<=B:=by omega
 refine ac2 noT (fun i fr t=>fr=[(0,aq4 repos),(1,ay8 inst),(8,.ptr B 0),(9,.int .i64 (i:Int))]/\((∀ i,i<σ.next->t.obj i=σ.obj i)/\B<=t.next)/\(inst.drop i).all af3=inst.all af3/\∃ Lv Rv Pv,Q12 t B inst.length i Lv Rv Pv (lsL (rowsOf (inst.take i) (-1) 1025)) (lsR (rowsOf (inst.take i) (-1) 1025)) (lsP (rowsOf (inst.take i) (-1) 1025))/\hu5 σ.next Lv Rv Pv) inst.length ⟨rfl,⟨?_,?_⟩,rfl,.aa1,.aa1,.aa1,?_,fun i k e h=>by rcases h with h|h|h<;>cases h⟩ ?_
 ·intro i hi;have hne:¬ i=B:=by omega
  simp only[aa5,hne,if_false];exact hok i hi
 ·show B<=_+1; omega
 ·exact {
      cell:=by simp only[aa5,if_true]
      lt:=Nat.lt_succ_of_le (by omega)
      gL:=.inl ⟨rfl,rfl⟩
      gR:=.inl ⟨rfl,rfl⟩
      gP:=.inl ⟨rfl,rfl⟩
      aL:=fun x h=>by cases h
      aR:=fun x h=>by cases h
      aP:=fun x h=>by cases h
      kL:=Nat.le_refl _
      kR:=Nat.le_refl _
      kP:=Nat.le_refl _
      lr:=fun i k e j l f h=>by cases h
      lp:=fun i k e j l f h=>by cases h
      rp:=fun i k e j l f h=>by cases h }
 rintro i fr t hle ⟨rfl,⟨hkt,hnt⟩,ha,Lv,Rv,Pv,hQ,hlw⟩;by_cases hlt:i<inst.length
 ·obtain ⟨x,hx,_,hdr,hget,htk⟩:=ad2 inst i hlt;have d1:(i:Int)<inst.length:=by omega
  have d2:(0:Int)<=i:=by omega
  have w1:=af6 (i:=i) (by omega);have hm:=ej1 x (hI.pf x hx);have hcp:=dp1 x (hI.pf x hx);rw[hdr,List.all_cons] at ha;simp only[go_sem,d1,d2,hget,ao3,am6,ad9]
  first|refine aa4 fok26 (hm) ?_|refine aa6 (hm) ?_
  cases hb:af3 x with
  | false=>
   rw[hb,Bool.false_and] at ha;simp only[go_sem];refine ⟨hkt,by omega,?_⟩;unfold bq8
   rw[if_neg (by omega),if_pos ha.symm]
  | true=>
   rw[hb,Bool.true_and] at ha;obtain ⟨L',R',P',S1,S2,S3,q1,o1,q2,o2,q3,o3,⟨l1,l2,l3,l4,l5,l6⟩,n3,lw',kp,fin⟩:=hQ.push hlw (by omega) (by omega) (c:=x.cs) ⟨rfl,rfl⟩ (-1) 1025 (d1:=13) (d2:=19) (d3:=25) (d4:=35) (by decide) (by decide) (by decide);have hcell:=hQ.cell;simp only[go_sem,d1,d2,hget,ao3,am6,ad9,hcell,b_o,b_p,b_t];refine aa6 hcp ?_;simp only[go_sem,ao3,am6,ad9];simp only[show t.next+1+1+1+1+1+1+1+1+1+1+1+1+1=t.next+13 from rfl,q1,go_sem,o1,b_o,b_p,b_t];simp only[show t.next+1+1+1+1+1+1+1+1+1+1+1+1+1+1+1+1+1+1+1=t.next+19 from rfl,q2,go_sem,o2,b_o,b_p,b_t];simp only[show t.next+1+1+1+1+1+1+1+1+1+1+1+1+1+1+1+1+1+1+1+1+1+1+1+1+1=t.next+25 from rfl,q3,go_sem,o3,l1,l2,l3,l4,l5,l6,w1];refine ⟨hlt,⟨fun z hz=>?_,by rw[n3]; omega⟩,ha,_,_,_,?_,lw'⟩
   ·have hne:¬ z=B:=by omega
    simp only[aa5,hne,if_false];rw[kp z hz]; exact hkt z hz
   ·rw[htk,bc1,eg5,eg6,eg7];exact fin _ (by rw[n3]; exact Nat.le_refl _) (by simp only[aa5,if_true]) fun z hz=>by simp only[aa5,hz,if_false]
 have hi':i=inst.length:=by omega
 subst hi';rw[List.drop_length] at ha;have hmay:inst.all af3=true:=ha.symm;have d1:¬ (inst.length:Int)<inst.length:=by omega
 rw[hnew hmay];simp only[go_sem,d1];clear ha hnew
 refine ac2 noT (fun i fr t=>fr=[(0,aq4 repos),(8,.ptr B 0),(10,.int .i64 (i:Int))]/\((∀ i,i<σ.next->t.obj i=σ.obj i)/\B<=t.next)/\∃ st,ad7 0 repos (rowsOf inst (-1) 1025,bn4 [] 0 inst)=ad7 i (repos.drop i) st/\st.1.length+aj1 (repos.drop i)=inst.length+aj1 repos /\
  ∃ Lv Rv Pv,Q12 t B inst.length st.1.length Lv Rv Pv (lsL st.1) (lsR st.1) (lsP st.1)/\hu5 σ.next Lv Rv Pv) repos.length ⟨rfl,⟨hkt,hnt⟩,(rowsOf inst (-1) 1025,bn4 [] 0 inst),rfl,by simp[rowsOf],Lv,Rv,Pv,?_,hlw⟩ ?_
 ·rw[List.take_length] at hQ;have e:(rowsOf inst (-1) 1025).length=inst.length:=by simp[rowsOf]
  show Q12 _ _ _ (rowsOf inst (-1) 1025).length _ _ _ _ _ _;rw[e]; exact hQ
 clear hQ hnt hkt hlw Lv Rv Pv t;rintro i fr t hle ⟨rfl,⟨hkt,hnt⟩,st,hrf,hsum,Lv,Rv,Pv,hQ,hlw⟩;by_cases hlt:i<repos.length
 ·obtain ⟨a,ha,_,hdr,hget,htk⟩:=ad2 repos i hlt;have c1:(i:Int)<repos.length:=by omega
  have c2:(0:Int)<=i:=by omega
  have w1:=af6 (i:=i) (by omega);rw[cf4 repos i a hdr] at hsum;rw[hdr] at hrf;by_cases p1:a.priority<0
  ·simp only[go_sem,c1,c2,hget,al5,an6,an5,ak1.cs,p1];rw[hrf,ad7,if_pos (.inl p1)];exact ⟨hkt,by omega,rfl⟩
  by_cases p2:1024<a.priority
  ·simp only[go_sem,c1,c2,hget,al5,an6,an5,ak1.cs,p1,p2];rw[hrf,ad7,if_pos (.inr (.inl p2))];exact ⟨hkt,by omega,rfl⟩
  simp only[go_sem,c1,c2,hget,al5,an6,an5,ak1.cs,p1,p2]
  refine ac2 noT (fun j fr t=>fr=[(0,aq4 repos),(8,.ptr B 0),(10,.int .i64 (i:Int)),(11,.int .i64 (j:Int))]/\((∀ i,i<σ.next->t.obj i=σ.obj i)/\B<=t.next)/\(a.packages.drop j).all af3=a.packages.all af3 /\
   ∃ Lv Rv Pv,Q12 t B inst.length (st.1.length+j) Lv Rv Pv (lsL (st.1++rowsOf (a.packages.take j) i a.priority)) (lsR (st.1++rowsOf (a.packages.take j) i a.priority)) (lsP (st.1++rowsOf (a.packages.take j) i a.priority))/\hu5 σ.next Lv Rv Pv) a.packages.length ⟨rfl,⟨hkt,hnt⟩,rfl,Lv,Rv,Pv,?_,hlw⟩ ?_
  ·have e:rowsOf (a.packages.take 0) (i:Int) a.priority=[]:=rfl;rw[e,List.append_nil]; exact hQ
  clear hQ hnt hkt hlw Lv Rv Pv t;rintro j fr t hj ⟨rfl,⟨hkt,hnt⟩,hall,Lv,Rv,Pv,hQ,hlw⟩;by_cases hjl:j<a.packages.length
  ·obtain ⟨x,hx,_,hdr3,hget3,htk3⟩:=ad2 a.packages j hjl;have d1:(j:Int)<a.packages.length:=by omega
   have d2:(0:Int)<=j:=by omega
   have w2:=af6 (i:=j) (by omega);have hxf:=(hI.rf a ha).2 x hx;have hm:=ej1 x hxf;have hcp:=dp1 x hxf;rw[hdr3,List.all_cons] at hall;simp only[go_sem,c1,c2,d1,d2,hget,hget3,al5,an6,an5,ak1.cs,ao3,am6,ad9]
   first|refine aa4 fok26 (hm) ?_|refine aa6 (hm) ?_
   cases hb:af3 x with
   | false=>
    rw[hb,Bool.false_and] at hall;simp only[go_sem];rw[hrf,ad7,if_pos (.inr (.inr hall.symm))]
    exact ⟨hkt,by omega,rfl⟩
   | true=>
    rw[hb,Bool.true_and] at hall;obtain ⟨L',R',P',S1,S2,S3,q1,o1,q2,o2,q3,o3,⟨l1,l2,l3,l4,l5,l6⟩,n3,lw',kp,fin⟩:=hQ.push hlw (by omega) (by omega) (c:=x.cs) ⟨rfl,rfl⟩ i a.priority (d1:=17) (d2:=24) (d3:=35) (d4:=45) (by decide) (by decide) (by decide);have hcell:=hQ.cell;simp only[go_sem,c1,c2,d1,d2,hget,hget3,al5,an6,an5,ak1.cs,ao3,am6,ad9,hcell,b_o,b_p,b_t];refine aa6 hcp ?_;simp only[go_sem,ao3,am6,ad9];simp only[show t.next+1+1+1+1+1+1+1+1+1+1+1+1+1+1+1+1+1=t.next+17 from rfl,q1,go_sem,o1,b_o,b_p,b_t];simp only[show t.next+1+1+1+1+1+1+1+1+1+1+1+1+1+1+1+1+1+1+1+1+1+1+1+1=t.next+24 from rfl,q2,go_sem,o2,b_o,b_p,b_t,c1,c2,hget,al5,an6,an5,ak1.cs];simp only[show t.next+1+1+1+1+1+1+1+1+1+1+1+1+1+1+1+1+1+1+1+1+1+1+1+1+1+1+1+1+1+1+1+1+1+1+1=t.next+35 from rfl,q3,go_sem,o3,l1,l2,l3,l4,l5,l6,w2];refine ⟨hjl,⟨fun z hz=>?_,by rw[n3]; omega⟩,hall,_,_,_,?_,lw'⟩
    ·have hne:¬ z=B:=by omega
     simp only[aa5,hne,if_false];rw[kp z hz]; exact hkt z hz
    ·rw[htk3,bc1,<- List.append_assoc,eg5,eg6,eg7];exact fin _ (by rw[n3]; exact Nat.le_refl _) (by simp only[aa5,if_true]) fun z hz=>by simp only[aa5,hz,if_false]
  ·have hj':j=a.packages.length:=by omega
   have d1:¬ (j:Int)<a.packages.length:=by omega
   subst hj';rw[List.drop_length] at hall;simp only[go_sem,c1,c2,d1,hget,al5,an6,an5,ak1.cs,w1];have el:(st.1++rowsOf a.packages i a.priority).length=st.1.length+a.packages.length:=by simp[rowsOf]
   rw[List.take_length] at hQ;refine ⟨hlt,⟨hkt,hnt⟩,(st.1++rowsOf a.packages i a.priority,bn4 st.2 st.1.length a.packages),?_,?_,Lv,Rv,Pv,?_,hlw⟩
   ·rw[hrf,ad7,if_neg (by rw[<- hall]; simp[p1,p2])]
   ·show (st.1++rowsOf a.packages i a.priority).length+_=_;rw[el]; omega
   ·show Q12 _ _ _ (st.1++rowsOf a.packages i a.priority).length _ _ _ _ _ _;rw[el]; exact hQ
 ·have hi':i=repos.length:=by omega
  subst hi';have c1:¬ (repos.length:Int)<repos.length:=by omega
  rw[List.drop_length,ad7] at hrf;have hcell:=hQ.cell;rw[hrf];simp only[go_sem,c1];exact ⟨hkt,by omega,B,Lv,Rv,Pv,rfl,hσB,hcell,hQ.gL,hQ.gR,hQ.gP,hlw⟩
set_option maxHeartbeats 1000000
def fr9:Pool ⊕ Int->IV
 | .inl p=>.tuple [dx9 p,.int .i64 0]
 | .inr e=>.tuple [.ad5,.int .i64 e]
theorem ez4 (p:Pool):(ac1 p).map aa2.cs=lsL p.rows:=by simp only[ac1,lsL,List.map_map]; rfl
theorem gk2 (repos:List ak1)(inst:List aa2)(hI:im4 repos inst):PC Tryz.prog EE 7 [aq4 repos,ay8 inst] (fr9 (bq8 repos inst)):=
 gt4 fun σ _=>(hk9 repos inst hI σ).mono fun v s ⟨h1,h2,h3⟩=>by
  refine ⟨h1,h2,?_⟩
  cases hn:bq8 repos inst with
  | inr e=>
   rw[hn] at h3;simp only at h3;subst h3
   exact .keep _ (.tuple _ (cc3 .ad5 (.int _ _)))
  | inl p=>
   rw[hn] at h3;simp only at h3;obtain ⟨id,X,Y,Z,rfl,hid,hob,gX,gY,gZ,hlow⟩:=h3;have one:∀ l:List Int,∀ x∈l.map Md.ai9,x.length=1:=fun l x hx=>(dz2 l x hx).1
   have hX:∀ x∈lsL p.rows,x.length=15:=fun x hx=>by obtain ⟨y,_,rfl⟩:=List.mem_map.1 hx; rfl
   have hR:lsR p.rows=(p.rows.map fun r=>r.bo2).map Md.ai9:=by simp only[lsR,List.map_map]; rfl
   have hP:lsP p.rows=(p.rows.map fun r=>r.prio).map Md.ai9:=by simp only[lsP,List.map_map]; rfl
   have low:∀ {w:IV} {k e:Nat},(w=X\/w=Y\/w=Z)->∀ i,w=.slice i 0 k e->¬ i<σ.next:=fun {w k e} hw i he hi=>by
    have h5:=hlow i k e (by
     rcases hw with rfl|rfl|rfl
     ·exact .inl he
     ·exact .inr (.inl he)
     ·exact .inr (.inr he))
    omega
   have wk:∀ {c:IV},Bnd 0 c->Nm (fun i=>i<σ.next) c:=fun h=>h.weak fun i h=>absurd h (Nat.not_lt_zero _)
   have bI:∀ (l:List Int),∀ e∈l.map Md.ai9,∀ c∈e,Nm (fun i=>i<σ.next) c:=fun l e he c hc=>by
    obtain ⟨y,_,rfl⟩:=List.mem_map.1 he;exact be9 (.int _ _) c hc
   have fX:dh8 s σ.next X (ay8 (ac1 p)):=by
    rw[<- show .aa3 (lsL p.rows)=ay8 (ac1 p) by rw[<- ez4]]
    exact gX.frz hX (low (.inl rfl)) fun e he c hc=>by
     obtain ⟨y,_,rfl⟩:=List.mem_map.1 he;exact wk (bn7 y.pkg c hc)
   rw[hR] at gY;rw[hP] at gZ;have fY:=gY.frz (one _) (low (.inr (.inl rfl))) (bI _);have fZ:=gZ.frz (one _) (low (.inr (.inr rfl))) (bI _);refine .ci1 (.cons (.ptr id 0 _ _ (by omega) (.inl hob) (Nat.le_refl _) fun j hj=>?_) (.cons (.keep _ (.int _ _)) .nil));have h4:([ay8 (ac1 p),.int .i64 p.inst,.aa3 ((p.rows.map fun r=>r.bo2).map Md.ai9),.aa3 ((p.rows.map fun r=>r.prio).map Md.ai9)]:List IV).length=4:=rfl;have:j=0\/j=1\/j=2\/j=3:=by omega
   rcases this with rfl|rfl|rfl|rfl
   ·exact fX
   ·exact .keep _ (.int _ _)
   ·exact fY
   ·exact fZ
theorem de9 (p:Pool):Bnd 0 (dx9 p):=.ad4 _ (iv9 (cf3 _) (.int _ _) (ar7 _) (ar7 _))
theorem dy1 (p:Pool)(n:Int):PC Tryz.prog EE 19 [dx9 p,.int .i64 n] (.bool (decide (0<=n)&&decide (n<(ac1 p).length))):=by
 refine aw2 fok19 (nZ rfl) fun σ=>?_
 by_cases h:0<=n
 ·simp only[ic19,dx9,go_sem,h,and_self]
 ·simp only[ic19,dx9,go_sem,h,and_self]
theorem ez5 (p:Pool)(k:Str)(hl:(ac1 p).length<2^20):PC Tryz.prog EE 12 [dx9 p,.str k] (.aa3 ((numsOf (fun q=>decide (q.name=k)) (ac1 p)).map Md.ai9)):=by
 refine aj6 hE fok12 (nZ rfl) (cc3 (de9 p) (.str _)) ?_;unfold dx9;simp only[ic12,go_sem];generalize hL:ac1 p=l at *;refine ac2 noT (fun i fr t=>∃ gv,fr=[(0,.ad4 [ay8 l,.int .i64 p.inst,.aa3 ((p.rows.map fun r=>r.bo2).map Md.ai9),.aa3 ((p.rows.map fun r=>r.prio).map Md.ai9)]),(1,.str k),(5,gv),(6,.int .i64 (i:Int))]/\Grow t gv 1 ((numsOf (fun q=>decide (q.name=k)) (l.take i)).map Md.ai9)) l.length ⟨.aa1,rfl,.inl ⟨rfl,rfl⟩⟩ ?_;rintro i fr t hi ⟨gv,rfl,hg⟩;by_cases hlt:i<l.length
 ·obtain ⟨x,hx,hxi,hdr,hget,htk⟩:=ad2 l i hlt;have d1:(i:Int)<l.length:=by omega
  have d2:(0:Int)<=(i:Int):=by omega
  have w1:=af6 (i:=i) (by omega);have hsn:=aw7 (fun q=>decide (q.name=k)) (l.take i) x;rw[<- htk,List.length_take,Nat.min_eq_left (by omega)] at hsn;by_cases hb:x.name=k
  ·rw[if_pos (decide_eq_true hb)] at hsn;have hnl:=cy3 (fun q=>decide (q.name=k)) (l.take i);rw[List.length_take] at hnl;obtain ⟨v',σ',h1,h2,h3⟩:=ck7 (n:=1) (nid:=t.next) (e:=[.int .i64 (i:Int)]) hg (dz2 _) ⟨rfl,rfl⟩ (by rw[List.length_map]; omega) (Nat.le_refl _) (by omega);simp only[go_sem,d1,d2,hget,ah2,af9,af1,aa2.cs,hb,h1,w1];refine ⟨hlt,v',rfl,?_⟩;rw[hsn,List.map_append];exact h3
  ·rw[if_neg (by simpa using hb),List.append_nil] at hsn;simp only[go_sem,d1,d2,hget,ah2,af9,af1,aa2.cs,hb,w1];exact ⟨hlt,gv,rfl,by rw[hsn]; exact hg.mono (by first|exact Nat.le_refl _|exact Nat.le_add_right _ _) fun _ _ _=>rfl⟩
 ·have hi':i=l.length:=by omega
  subst hi';have d1:¬ (l.length:Int)<l.length:=by omega
  rw[List.take_length] at hg;simp only[go_sem,d1]
  exact hg.frz (fun x hx=>(dz2 _ x hx).1) (fun _ _=>Nat.not_lt_zero _) fun e he c hc=>by
   obtain ⟨n,_,rfl⟩:=List.mem_map.1 he;exact be9 (.int _ _) c hc
theorem gk3 (p:Pool)(n m:Int)(hs:∀ q∈ac1 p,Pkg.small q):PC Tryz.prog EE 17 [dx9 p,.int .i64 n,.int .i64 m] (.bool (ip1 (ac1 p) n m)):=by
 refine aj6 hE fok17 (nZ rfl) (ew3 (de9 p) (.int _ _) (.int _ _)) ?_;have i1:=dy1 p n;have i2:=dy1 p m;unfold ip1;by_cases h:0<=n/\n<(ac1 p).length
 case neg=>
  have e:(decide (0<=n)&&decide (n<((ac1 p).length:Int)))=false:=by simpa using h
  rw[e] at i1 ⊢;rw[Bool.false_and];unfold dx9 at *;simp only[ic17,go_sem]
  first|refine aa4 fok19 (i1) ?_|refine aa6 (i1) ?_
  simp only[go_sem];exact ab1 _
 have e1:(decide (0<=n)&&decide (n<((ac1 p).length:Int)))=true:=by simpa using h
 rw[e1] at i1 ⊢;rw[Bool.true_and];by_cases h2:0<=m/\m<(ac1 p).length
 case neg=>
  have e:(decide (0<=m)&&decide (m<((ac1 p).length:Int)))=false:=by simpa using h2
  rw[e] at i2 ⊢;rw[Bool.false_and];unfold dx9 at *;simp only[ic17,go_sem]
  first|refine aa4 fok19 (i1) ?_|refine aa6 (i1) ?_
  simp only[go_sem]
  first|refine aa4 fok19 (i2) ?_|refine aa6 (i2) ?_
  simp only[go_sem];exact ab1 _
 have e2:(decide (0<=m)&&decide (m<((ac1 p).length:Int)))=true:=by simpa using h2
 rw[e2] at i2 ⊢;rw[Bool.true_and];obtain ⟨k,rfl⟩:=Int.eq_ofNat_of_zero_le h.1;obtain ⟨j,rfl⟩:=Int.eq_ofNat_of_zero_le h2.1;have hk:k<(ac1 p).length:=by omega
 have hj:j<(ac1 p).length:=by omega
 obtain ⟨x,hx,hxi,_,hget,_⟩:=ad2 (ac1 p) k hk;obtain ⟨y,hy,hyi,_,hget2,_⟩:=ad2 (ac1 p) j hj;have ex:(ac1 p).getD (k:Int).toNat default=x:=by rw[Int.toNat_natCast,List.getD_eq_getElem?_getD,hxi]; rfl
 have ey:(ac1 p).getD (j:Int).toNat default=y:=by rw[Int.toNat_natCast,List.getD_eq_getElem?_getD,hyi]; rfl
 rw[ex,ey];have hob:=cn7 x y (hs _ hx) (hs _ hy);have c1:(k:Int)<(ac1 p).length:=by omega
 have c2:(0:Int)<=(k:Int):=by omega
 have c3:(j:Int)<(ac1 p).length:=by omega
 have c4:(0:Int)<=(j:Int):=by omega
 unfold dx9 at *;simp only[ic17,go_sem]
 first|refine aa4 fok19 (i1) ?_|refine aa6 (i1) ?_
 simp only[go_sem]
 first|refine aa4 fok19 (i2) ?_|refine aa6 (i2) ?_
 by_cases hkj:(k:Int)=(j:Int)
 ·simp only[go_sem,hkj,Bool.not_true,Bool.false_and];exact ab1 _
 ·simp only[go_sem,hkj,c1,c2,c3,c4,hget,hget2,ah2,af9,af1,Bool.not_false,Bool.true_and]
  first|refine aa4 fok33 (hob) ?_|refine aa6 (hob) ?_
  simp only[go_sem];exact ab1 _
set_option maxHeartbeats 1000000
theorem gk4 (l:List Str):∀ x∈l.map ap8,x.length=1/\x.all IV.leaf=true:=fun x hx=>by
 obtain ⟨y,_,rfl⟩:=List.mem_map.1 hx; exact ⟨rfl,rfl⟩
theorem bf5:∀ l:List Str,(l.map ap8).flatten=l.map IV.str:=fun l=>by
 induction l with
 | nil=>rfl
 | cons z zs ih=>simp only[List.map_cons,List.flatten_cons,ih]; rfl
theorem fs1 {t S0:Store}{gv:IV}{l:List Str}{k:Str}{n a b c d:Nat}(hg:Grow t gv 1 (l.map ap8))(hn:n<=l.length)(hl:l.length<2^30)(ha:t.next<=a)(hab:a<b)(hbc:b<c)(hcd:c<d)(hd:d<S0.next)
  (h0:S0.obj a=some (.row [])) (hS:∀ i,i<t.next->S0.obj i=t.obj i) :
  ∃ x1 v1 S1 v2 S2 x2 v3 S3,cb6 1 none (some (.int .i64 (n:Int))) gv=some x1/\aq2 S0 b 1 (.slice a 0 0 1) x1=some (v1,S1)/\aq2 S1 c 1 v1 (.aa3 [[.str k]])=some (v2,S2)/\cb6 1 (some (.int .i64 (n:Int))) none gv=some x2/\aq2 S2 d 1 v2 x2=some (v3,S3)/\S3.next=S0.next /\
   Grow S3 v3 1 ((l.take n++[k]++l.drop n).map ap8):=by
 have hb:bs1 0 (some (.int .i64 (n:Int)))=some n:=by simp[bs1,cm6]
 have hb2:∀ m,bs1 m (some (.int .i64 (n:Int)))=some n:=fun m=>by simp[bs1,cm6]
 have hb0:∀ m,bs1 m none=some m:=fun m=>rfl
 have hbz:∀ m,bs1 m (some (.int .i64 0))=some 0:=fun m=>rfl
 have lf:∀ l:List Str,(l.map IV.str).all IV.leaf=true:=fun l=>by rw[List.all_map]; exact List.all_eq_true.2 fun _ _=>rfl
 have hgr:(l=[]/\gv=.aa1)\/∃ g,gv=.slice g 0 l.length 1/\t.obj g=some (.row (l.map IV.str))/\g<t.next:=by
  rcases hg with ⟨h1,h2⟩|⟨g,h1,h2,h3⟩
  ·exact .inl ⟨List.map_eq_nil_iff.1 h2,h1⟩
  ·rw[List.length_map] at h1; rw[bf5] at h2; exact .inr ⟨g,h1,h2,h3⟩
 -- the name alone,put behind a row
 have put1:∀ (S:Store) (i m:Nat) (zs:List Str),S.obj i=some (.row (zs.map IV.str))->zs.length=m->m<2^30->aq2 S c 1 (.slice i 0 m 1) (.aa3 [[.str k]])=some (.slice c 0 (m+1) 1,(S.kill i).put c (.row ((zs++[k]).map IV.str))):=fun S i m zs ho hz hm=>by
  have h1:av8 S 1 (.aa3 [[IV.str k]])=some (1,[.str k]):=rfl;unfold aq2;rw[h1];have h2:([IV.str k].all IV.leaf)=true:=rfl;have h3:0+m*1=(zs.map IV.str).length:=by rw[List.length_map]; omega
  have h4:m+1<=2147483648:=by omega
  simp only[h2,Bool.true_eq_false,if_false,ho,h3,h4,List.drop_zero,lf,and_self,if_true,Nat.one_ne_zero,and_false,List.map_append,List.map_cons,List.map_nil]
 rcases hgr with ⟨rfl,rfl⟩|⟨g,rfl,hog,hgt⟩
 ·have h0n:n=0:=by simpa using hn
  subst h0n;have s1:cb6 1 none (some (.int .i64 ((0:Nat):Int))) .aa1=some .aa1:=by simp[cb6,hbz,hb0]
  have s2:cb6 1 (some (.int .i64 ((0:Nat):Int))) none .aa1=some .aa1:=by simp[cb6,hbz,hb0]
  have a1:aq2 S0 b 1 (.slice a 0 0 1) .aa1=some (.slice a 0 0 1,S0):=by simp[aq2,av8,h0]
  have a2:=put1 S0 a 0 [] h0 rfl (by decide);have oc:((S0.kill a).put c (.row (([]++[k]:List Str).map IV.str))).obj c=some (.row (([]++[k]:List Str).map IV.str)):=by rw[aa5,if_pos rfl]
  generalize hS2:(S0.kill a).put c (.row (([]++[k]:List Str).map IV.str))=S2 at *;have n2:S2.next=S0.next:=by rw[<- hS2]; rfl
  have a3:aq2 S2 d 1 (.slice c 0 1 1) .aa1=some (.slice c 0 1 1,S2):=by simp[aq2,av8,oc]
  refine ⟨_,_,_,_,_,_,_,_,s1,a1,a2,s2,a3,n2,.inr ⟨c,rfl,?_,by omega⟩⟩;rw[oc,bf5]; rfl
 ·have s1:cb6 1 none (some (.int .i64 (n:Int))) (.slice g 0 l.length 1)=some (.slice g 0 n 1):=by simp[cb6,hb2,hb0,hn]
  have s2:cb6 1 (some (.int .i64 (n:Int))) none (.slice g 0 l.length 1)=some (.slice g n (l.length-n) 1):=by simp[cb6,hb2,hb0,hn]
  have og0:S0.obj g=some (.row (l.map IV.str)):=by rw[hS g hgt]; exact hog
  have r1:av8 S0 1 (.slice g 0 n 1)=some (n,(l.take n).map IV.str):=by
   simp only[av8,og0,List.length_map,Nat.mul_one,Nat.zero_add,hn,and_self,if_true,List.drop_zero,List.map_take]
  -- the beginning
  obtain ⟨i1,S1,a1,o1,g1,n1,hi1⟩:∃ i1 S1,aq2 S0 b 1 (.slice a 0 0 1) (.slice g 0 n 1)=some (.slice i1 0 n 1,S1)/\S1.obj i1=some (.row ((l.take n).map IV.str))/\S1.obj g=some (.row (l.map IV.str))/\S1.next=S0.next/\(i1=a\/i1=b):=by
   by_cases hz:n=0
   ·subst hz;refine ⟨a,S0,?_,by rw[h0]; rfl,og0,rfl,.inl rfl⟩;unfold aq2;rw[r1];simp[h0]
   ·refine ⟨b,(S0.kill a).put b (.row ((l.take n).map IV.str)),?_,by rw[aa5,if_pos rfl],?_,rfl,.inr rfl⟩
    ·unfold aq2;rw[r1];have h4:n<=2147483648:=by omega
     simp only[lf,Bool.true_eq_false,if_false,h0,hz,and_false,Nat.zero_mul,Nat.add_zero,List.length_nil,h4,List.drop_nil,List.all_nil,and_self,if_true,List.nil_append,Nat.zero_add]
    ·rw[aa5,if_neg (by omega)];show (if g=a then none else S0.obj g)=_;rw[if_neg (by omega)]; exact og0
  have a2:=put1 S1 i1 n (l.take n) o1 (by rw[List.length_take]; omega) (by omega);have oc:((S1.kill i1).put c (.row ((l.take n++[k]).map IV.str))).obj c=some (.row ((l.take n++[k]).map IV.str)):=by rw[aa5,if_pos rfl]
  have g2:((S1.kill i1).put c (.row ((l.take n++[k]).map IV.str))).obj g=some (.row (l.map IV.str)):=by
   rw[aa5,if_neg (by omega)];show (if g=i1 then none else S1.obj g)=_;rw[if_neg (by omega)]; exact g1
  generalize hS2:(S1.kill i1).put c (.row ((l.take n++[k]).map IV.str))=S2 at *;have n2:S2.next=S0.next:=by rw[<- hS2]; exact n1
  have r2:av8 S2 1 (.slice g n (l.length-n) 1)=some (l.length-n,(l.drop n).map IV.str):=by
   have h1:n+(l.length-n)*1<=(l.map IV.str).length:=by rw[List.length_map]; omega
   rw[Nat.mul_one] at h1;simp only[av8,g2,h1,and_self,if_true,Nat.mul_one];rw[<- List.map_drop,<- List.map_take,List.take_of_length_le (by simp)]
  have hlt:(l.take n++[k]).length=n+1:=by rw[List.length_append,List.length_take]; simp; omega
  by_cases hz:l.length-n=0
  ·have hdn:l.drop n=[]:=List.drop_eq_nil_of_le (by omega)
   have a3:aq2 S2 d 1 (.slice c 0 (n+1) 1) (.slice g n (l.length-n) 1)=some (.slice c 0 (n+1) 1,S2):=by
    unfold aq2;rw[r2,hdn,hz];simp[oc]
   refine ⟨_,_,_,_,_,_,_,_,s1,a1,a2,s2,a3,n2,.inr ⟨c,by rw[List.length_map,hdn,List.append_nil,hlt],?_,by omega⟩⟩;rw[oc,hdn,List.append_nil,bf5]
  ·have a3:aq2 S2 d 1 (.slice c 0 (n+1) 1) (.slice g n (l.length-n) 1)=some (.slice d 0 (n+1+(l.length-n)) 1,(S2.kill c).put d (.row ((l.take n++[k]++l.drop n).map IV.str))):=by
    unfold aq2;rw[r2];have h3:0+(n+1)*1=((l.take n++[k]).map IV.str).length:=by rw[List.length_map,hlt]; omega
    have h4:n+1+(l.length-n)<=2147483648:=by omega
    simp only[lf,Bool.true_eq_false,if_false,oc,hz,and_false,h3,h4,List.drop_zero,lf,and_self,if_true];rw[List.map_append,List.map_append,List.map_append]
   refine ⟨_,_,_,_,_,_,_,_,s1,a1,a2,s2,a3,n2,.inr ⟨d,?_,?_,?_⟩⟩
   ·rw[List.length_map,List.length_append,hlt,List.length_drop]
   ·rw[aa5,if_pos rfl,bf5]
   ·show d<S2.next; omega
theorem df1 {E:Nat->IV}{fr:Frm}{σ:Store}{n:Nat}{x:IX}{lo hi:Option IX}:bm8 E fr σ (.q (.slc n x lo hi))=True:=rfl
theorem hl6 {t:Store}{gv:IV}{l:List Str}(hg:Grow t gv 1 (l.map ap8)){j:Nat}(hj:j<l.length):∃ g,gv=.slice g 0 l.length 1/\t.obj g=some (.row (l.map IV.str))/\((l.map IV.str).drop (j*1)).head? = some (.str l[j]):=by
 rcases hg with ⟨_,h2⟩|⟨g,h1,h2,h3⟩
 ·have:l=[]:=List.map_eq_nil_iff.1 h2;subst this; exact absurd hj (Nat.not_lt_zero _)
 ·rw[List.length_map] at h1; rw[bf5] at h2;exact ⟨g,h1,h2,by rw[Nat.mul_one,List.head?_drop,List.getElem?_map,List.getElem?_eq_getElem hj]; rfl⟩
theorem fs2 {t:Store}{gv:IV}{l:List Str}(hg:Grow t gv 1 (l.map ap8))(σ:Store):cd7 0 σ gv=some (.int .i64 (l.length:Nat)):=by
 rcases hg with ⟨rfl,h2⟩|⟨g,rfl,h2,h3⟩
 ·have:l=[]:=List.map_eq_nil_iff.1 h2;subst this; rfl
 ·rw[az9,List.length_map]
theorem ez6 (p:Pool)(hl:(ac1 p).length<2^20):PC Tryz.prog EE 15 [dx9 p] (.aa3 ((ak6 (ac1 p)).map ap8)):=by
 refine aj6 hE fok15 (nZ rfl) (be9 (de9 p)) ?_;unfold dx9;simp only[ic15,go_sem];generalize hL:ac1 p=l at *;generalize hY:IV.aa3 ((p.rows.map fun r=>r.bo2).map Md.ai9)=Y;generalize hZ:IV.aa3 ((p.rows.map fun r=>r.prio).map Md.ai9)=Z;refine ac2 noT (fun i fr t=>∃ gv,fr=[(0,.ad4 [ay8 l,.int .i64 p.inst,Y,Z]),(3,gv),(4,.int .i64 (i:Int))]/\Grow t gv 1 ((ak6 (l.take i)).map ap8)) l.length ⟨.aa1,rfl,.inl ⟨rfl,rfl⟩⟩ ?_;rintro i fr t hi ⟨gv,rfl,hg⟩;by_cases hlt:i<l.length
 ·obtain ⟨x,hx,hxi,hdr,hget,htk⟩:=ad2 l i hlt;have d1:(i:Int)<l.length:=by omega
  have d2:(0:Int)<=(i:Int):=by omega
  have w1:=af6 (i:=i) (by omega);have hnl:=cy7 (l.take i);rw[List.length_take] at hnl;have hsn:=cj7 (l.take i) x;rw[<- htk] at hsn;generalize ak6 (l.take i)=out at *;simp only[go_sem,d1];refine ac2 noT (fun m fr u=>fr=[(0,.ad4 [ay8 l,.int .i64 p.inst,Y,Z]),(3,gv),(4,.int .i64 (i:Int)),(5,.int .i64 (m:Int))]/\Grow u gv 1 (out.map ap8)/\∀ j (h:j<out.length),j<m->out[j]<x.name) out.length ⟨rfl,hg,fun j _ h=>absurd h (Nat.not_lt_zero _)⟩ ?_;clear hg t;rintro m fr u hm ⟨rfl,hg,hlow⟩;by_cases hlt2:m<out.length
  ·obtain ⟨g,rfl,ho,hh⟩:=hl6 hg hlt2;have e1:(m:Int)<out.length:=by omega
   have e2:(0:Int)<=(m:Int):=by omega
   have w2:=af6 (i:=m) (by omega);have bl:=bytesLess_eq out[m] x.name
   have hlen:=fs2 hg;by_cases hc:out[m]<x.name
   ·rw[decide_eq_true hc] at bl;simp only[go_sem,e1,e2,ho,hh,d1,d2,hget,ah2,af9,af1,aa2.cs,bl,w2];refine ⟨hlt2,hg.mono (Nat.le_add_right _ _) fun _ _ _=>rfl,fun j hj hjm=>?_⟩;rcases Nat.lt_or_ge j m with h|h
    ·exact hlow j hj h
    ·have:j=m:=by omega
     subst this; exact hc
   ·rw[decide_eq_false hc] at bl;have hat:=fq9 (k:=x.name) (l:=out) (n:=m) (by omega) hlow fun _=>hc
    by_cases he:out[m]=x.name
    ·have hx2:out[m]? = some x.name:=by rw[List.getElem?_eq_getElem hlt2,he]
     rw[if_pos hx2] at hat;rw[he] at bl hh;simp only[go_sem,e1,e2,ho,hh,d1,d2,hget,ah2,af9,af1,aa2.cs,bl,w1];refine ⟨hlt,_,rfl,?_⟩;rw[hsn,hat];exact hg.mono (Nat.le_add_right _ _) fun _ _ _=>rfl
    ·have hx2:¬ out[m]? = some x.name:=by rw[List.getElem?_eq_getElem hlt2]; simpa using he
     rw[if_neg hx2] at hat;simp only[go_sem,e1,e2,ho,hh,d1,d2,hget,ah2,af9,af1,aa2.cs,bl,he,w1];obtain ⟨x1,v1,S1,v2,S2,x2,v3,S3,q1,q2,q3,q4,q5,q6,q7⟩:=fs1 (k:=x.name) (n:=m) (a:=u.next+38) (b:=u.next+42) (c:=u.next+52) (d:=u.next+56) (S0:=(⟨u.next+58,u.obj⟩:Store).put (u.next+38) (ak2.row [])) hg (by omega) (by omega) (by omega) (by omega) (by omega) (by omega) (by show u.next+56<u.next+58; omega) (by rw[aa5,if_pos rfl]) (fun j hj=>by rw[aa5,if_neg (by omega)]);simp only[df1,true_and,q1,go_sem,show u.next+19+19+1+1+1+1=u.next+42 from rfl,show u.next+19+19+20=u.next+58 from rfl,show u.next+19+19=u.next+38 from rfl,q2,d1,d2,hget,ah2,af9,af1,aa2.cs];simp only[show u.next+42+1+1+1+1+1+1+1+1+1+1=u.next+52 from rfl,q3,go_sem,df1,true_and,q4];simp only[show u.next+52+1+1+1+1=u.next+56 from rfl,q5,go_sem,w1];refine ⟨hlt,v3,rfl,?_⟩;rw[hsn,hat];exact q7
  ·have hm':m=out.length:=by omega
   subst hm';have e1:¬ (out.length:Int)<out.length:=by omega
   have hlen:=fs2 hg;have hat:=fq9 (k:=x.name) (l:=out) (n:=out.length) (Nat.le_refl _) (fun j hj _=>hlow j hj hj) fun h=>absurd h (Nat.lt_irrefl _)
   have hx2:¬ out[out.length]? = some x.name:=by simp
   rw[if_neg hx2] at hat;simp only[go_sem,hlen,e1];obtain ⟨x1,v1,S1,v2,S2,x2,v3,S3,q1,q2,q3,q4,q5,q6,q7⟩:=fs1 (k:=x.name) (n:=out.length) (a:=u.next+38) (b:=u.next+42) (c:=u.next+52) (d:=u.next+56) (S0:=(⟨u.next+58,u.obj⟩:Store).put (u.next+38) (ak2.row [])) hg (by omega) (by omega) (by omega) (by omega) (by omega) (by omega) (by show u.next+56<u.next+58; omega) (by rw[aa5,if_pos rfl]) (fun j hj=>by rw[aa5,if_neg (by omega)]);simp only[df1,true_and,q1,go_sem,show u.next+19+19+1+1+1+1=u.next+42 from rfl,show u.next+19+19+20=u.next+58 from rfl,show u.next+19+19=u.next+38 from rfl,q2,d1,d2,hget,ah2,af9,af1,aa2.cs];simp only[show u.next+42+1+1+1+1+1+1+1+1+1+1=u.next+52 from rfl,q3,go_sem,df1,true_and,q4];simp only[show u.next+52+1+1+1+1=u.next+56 from rfl,q5,go_sem,w1];refine ⟨hlt,v3,rfl,?_⟩;rw[hsn,hat];exact q7
 ·have hi':i=l.length:=by omega
  subst hi';have d1:¬ (l.length:Int)<l.length:=by omega
  rw[List.take_length] at hg;simp only[go_sem,d1]
  exact hg.frz (fun x hx=>(gk4 _ x hx).1) (fun _ _=>Nat.not_lt_zero _) fun e he c hc=>by
   obtain ⟨n,_,rfl⟩:=List.mem_map.1 he;exact be9 (.str _) c hc
end Go.Id.Tryz
