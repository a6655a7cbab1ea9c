/- The document's copies,pools and requests: walked. Conditions: sizes that fit. -/
import Derived.Test.YtphnnoolpagclaaGreatDoorTQMD
import Derived.Test.YtphnnoolpagclaaGreatDoorTQSK
import Derived.Test.YtphnnoolpagclaaGreatDoorFwZb
import Derived.Test.YtphnnoolpagclaaGreatDoorTQQN
import Derived.Test.YtphnnoolpagclaaGreatDoorTQNC
import Derived.Test.YtphnnoolpagclaaGreatDoorTQPB
import Derived.Test.YtphnnoolpagclaaGreatDoorMv
import Derived.Test.YtphnnoolpagclaaGreatDoorRows
set_option linter.all false
namespace Go.Id.Tryz
open Go Go.Id Go.Proofs Go.Shelf Go.Id.Md
set_option maxRecDepth 100000
set_option maxHeartbeats 1000000
set_option maxHeartbeats 1000000
def hr7 (e:Nat)(es:List (List IV)):Prop:=∀ x∈es,x.length=e/\x.all IV.leaf=true
def Far (v w:IV):Prop:=∀ i k e j l f,v=.slice i 0 k e->w=.slice j 0 l f->i≠j
structure Q12 (s:Store) (id:Nat) (n:Int) (k:Nat) (Lv Rv Pv:IV) (eL eR eP:List (List IV)):Prop where
 cell:s.obj id=some (.cells [Lv,.int .i64 n,Rv,Pv])
 lt:id<s.next
 gL:Grow s Lv 15 eL
 gR:Grow s Rv 1 eR
 gP:Grow s Pv 1 eP
 aL:hr7 15 eL
 aR:hr7 1 eR
 aP:hr7 1 eP
 kL:eL.length<=k
 kR:eR.length<=k
 kP:eP.length<=k
 lr:Far Lv Rv
 lp:Far Lv Pv
 rp:Far Rv Pv
theorem Q12.mono {s s':Store}{id:Nat}{n:Int}{k:Nat}{Lv Rv Pv:IV}{eL eR eP:List (List IV)}(h:Q12 s id n k Lv Rv Pv eL eR eP)(hn:s.next<=s'.next)(ho:∀ i,i<s.next->s'.obj i=s.obj i):Q12 s' id n k Lv Rv Pv eL eR eP :=
 {h with
  cell:=by rw[ho _ h.lt]; exact h.cell
  lt:=Nat.lt_of_lt_of_le h.lt hn
  gL:=h.gL.mono hn fun i _ hi=>ho i hi
  gR:=h.gR.mono hn fun i _ hi=>ho i hi
  gP:=h.gP.mono hn fun i _ hi=>ho i hi }
theorem ei9 {s:Store}{v:IV}{e:Nat}{es:List (List IV)}(h:Grow s v e es){i k f:Nat}(hv:v=.slice i 0 k f):i<s.next/\∃ cs,s.obj i=some (.row cs):=by
 rcases h with ⟨h0,_⟩|⟨j,hj,ho,hl⟩
 ·rw[h0] at hv; cases hv
 ·rw[hj] at hv; cases hv; exact ⟨hl,_,ho⟩
theorem fq6 {s:Store}{v:IV}{i:Nat}(h:∀ k e,v≠.slice i 0 k e){e:Nat}{es:List (List IV)}(hg:Grow s v e es):(ai4 v s).obj i=s.obj i:=by
 rcases hg with ⟨h0,_⟩|⟨j,hj,_,_⟩
 ·rw[h0]; rfl
 ·rw[hj];show (if i=j then none else s.obj i)=_;rw[if_neg fun e=>h _ _ (by rw[hj,e])]
theorem ez4 {s:Store}{v w:IV}{e f m nid:Nat}{es fs:List (List IV)}(hm:s.next<=m)(hg:Grow s v e es)(hw:Grow s w f fs)(hf:Far v w)(hn:∀ i k g,w=.slice i 0 k g->i≠nid)(r:al1) :
  Grow ((ai4 v (⟨m,s.obj⟩:Store)).put nid r) w f fs:=by
 have hg':Grow (⟨m,s.obj⟩:Store) v e es:=hg.mono hm fun _ _ _=>rfl
 refine hw.mono (by rw[ab4,ad8]; exact hm) fun i hv _=>?_
 rw[aa7,if_neg (hn _ _ _ hv),fq6 (fun k g hk=>hf _ _ _ _ _ _ hk hv rfl) hg']
theorem Q12.push {t:Store}{id:Nat}{n:Int}{k:Nat}{Lv Rv Pv:IV}{eL eR eP:List (List IV)}(h:Q12 t id n k Lv Rv Pv eL eR eP)(hk:k<2^20){c:List IV}(hc:c.length=15/\c.all IV.leaf=true)(a b:Int){d1 d2 d3 d4:Nat}(h12:d1<d2)(h23:d2<d3)(h34:d3<d4) :
  ∃ L' R' P' S1 S2 S3,ba7 ⟨t.next+d4,t.obj⟩ (t.next+d1) 15 Lv (.aa5 [c])=some (L',S1)/\S1.obj id=some (.cells [Lv,.int .i64 n,Rv,Pv])/\ba7 S1 (t.next+d2) 1 Rv (.aa5 [[.int .i64 a]])=some (R',S2)/\S2.obj id=some (.cells [Lv,.int .i64 n,Rv,Pv]) /\
   ba7 S2 (t.next+d3) 1 Pv (.aa5 [[.int .i64 b]])=some (P',S3)/\S3.obj id=some (.cells [Lv,.int .i64 n,Rv,Pv])/\(L'.leaf=true/\L'.cs=[L']/\R'.leaf=true/\R'.cs=[R']/\P'.leaf=true/\P'.cs=[P'])/\S3.next=t.next+d4 /\
   ∀ τ:Store,t.next+d4<=τ.next->τ.obj id=some (.cells [L',.int .i64 n,R',P'])->(∀ i,i≠id->τ.obj i=S3.obj i)->Q12 τ id n (k+1) L' R' P' (eL++[c]) (eR++[[.int .i64 a]]) (eP++[[.int .i64 b]]):=by
 have hcell:=h.cell;have nid1:¬ id=t.next+d1:=by have:=h.lt; omega
 have nid2:¬ id=t.next+d2:=by have:=h.lt; omega
 have nid3:¬ id=t.next+d3:=by have:=h.lt; omega
 have notrow:∀ {s:Store} {v:IV} {e:Nat} {es:List (List IV)},Grow s v e es->s.obj id=some (.cells [Lv,.int .i64 n,Rv,Pv])->∀ kk ee,v≠.slice id 0 kk ee:=fun hg ho kk ee hv=>by
  obtain ⟨_,cs,hr⟩:=ei9 hg hv;rw[ho] at hr; cases hr
 have old:∀ {s:Store} {v:IV} {e:Nat} {es:List (List IV)},Grow s v e es->s.next=t.next->∀ d i kk g,v=.slice i 0 kk g->i≠t.next+d:=fun hg hs d i kk g hv=>by
  have:=(ei9 hg hv).1; omega
 -- the first row
 have G0:Grow (⟨t.next+d4,t.obj⟩:Store) Lv 15 eL:=h.gL.mono (by show t.next<=t.next+d4; omega) fun _ _ _=>rfl
 have A1:=am2 (nid:=t.next+d1) (e:=c) G0 h.aL hc (by have:=h.kL; omega)
 have c1:((ai4 Lv (⟨t.next+d4,t.obj⟩:Store)).put (t.next+d1) (.row (eL++[c]).flatten)).obj id=some (.cells [Lv,.int .i64 n,Rv,Pv]):=by
  rw[aa7,if_neg nid1]; exact ai6 G0 id _ hcell (fun _ e=>by cases e)
 have R1:=ez4 (m:=t.next+d4) (nid:=t.next+d1) (Nat.le_add_right _ _) h.gL h.gR h.lr (old h.gR rfl d1) (.row (eL++[c]).flatten);have P1:=ez4 (m:=t.next+d4) (nid:=t.next+d1) (Nat.le_add_right _ _) h.gL h.gP h.lp (old h.gP rfl d1) (.row (eL++[c]).flatten);have L1:Grow ((ai4 Lv (⟨t.next+d4,t.obj⟩:Store)).put (t.next+d1) (.row (eL++[c]).flatten)) (.slice (t.next+d1) 0 (eL.length+1) 15) 15 (eL++[c]):=Grow.new (v:=.aa1) (by rw[ab4,ad8]; show _<t.next+d4; omega) (by rw[aa7,if_pos rfl]);have N1:((ai4 Lv (⟨t.next+d4,t.obj⟩:Store)).put (t.next+d1) (.row (eL++[c]).flatten)).next=t.next+d4:=by rw[ab4,ad8]
 generalize (ai4 Lv (⟨t.next+d4,t.obj⟩:Store)).put (t.next+d1) (.row (eL++[c]).flatten)=S1 at *
 -- the second
 have A2:=am2 (nid:=t.next+d2) (e:=[IV.int .i64 a]) R1 h.aR ⟨rfl,rfl⟩ (by have:=h.kR; omega);have e1:(⟨S1.next,S1.obj⟩:Store)=S1:=rfl
 have c2:((ai4 Rv S1).put (t.next+d2) (.row (eR++[[IV.int .i64 a]]).flatten)).obj id=some (.cells [Lv,.int .i64 n,Rv,Pv]):=by
  rw[aa7,if_neg nid2]; exact ai6 R1 id _ c1 (fun _ e=>by cases e)
 have P2:Grow ((ai4 Rv S1).put (t.next+d2) (.row (eR++[[IV.int .i64 a]]).flatten)) Pv 1 eP:=ez4 (s:=S1) (m:=S1.next) (nid:=t.next+d2) (Nat.le_refl _) R1 P1 h.rp (fun i kk g hv=>old h.gP rfl d2 i kk g hv) _;have L2:Grow ((ai4 Rv S1).put (t.next+d2) (.row (eR++[[IV.int .i64 a]]).flatten)) (.slice (t.next+d1) 0 (eL.length+1) 15) 15 (eL++[c]):=ez4 (s:=S1) (m:=S1.next) (nid:=t.next+d2) (Nat.le_refl _) R1 L1 (fun i kk g j l f hv hw=>by cases hw; exact old h.gR rfl d1 _ _ _ hv) (fun i kk g hv=>by cases hv; omega) _;have R2:Grow ((ai4 Rv S1).put (t.next+d2) (.row (eR++[[IV.int .i64 a]]).flatten)) (.slice (t.next+d2) 0 (eR.length+1) 1) 1 (eR++[[IV.int .i64 a]]):=Grow.new (v:=.aa1) (by rw[ab4,ad8,N1]; omega) (by rw[aa7,if_pos rfl]);have N2:((ai4 Rv S1).put (t.next+d2) (.row (eR++[[IV.int .i64 a]]).flatten)).next=t.next+d4:=by rw[ab4,ad8,N1]
 generalize (ai4 Rv S1).put (t.next+d2) (.row (eR++[[IV.int .i64 a]]).flatten)=S2 at *
 -- the third
 have A3:=am2 (nid:=t.next+d3) (e:=[IV.int .i64 b]) P2 h.aP ⟨rfl,rfl⟩ (by have:=h.kP; omega)
 have c3:((ai4 Pv S2).put (t.next+d3) (.row (eP++[[IV.int .i64 b]]).flatten)).obj id=some (.cells [Lv,.int .i64 n,Rv,Pv]):=by
  rw[aa7,if_neg nid3]; exact ai6 P2 id _ c2 (fun _ e=>by cases e)
 have L3:Grow ((ai4 Pv S2).put (t.next+d3) (.row (eP++[[IV.int .i64 b]]).flatten)) (.slice (t.next+d1) 0 (eL.length+1) 15) 15 (eL++[c]):=ez4 (s:=S2) (m:=S2.next) (nid:=t.next+d3) (Nat.le_refl _) P2 L2 (fun i kk g j l f hv hw=>by cases hw; exact old h.gP rfl d1 _ _ _ hv) (fun i kk g hv=>by cases hv; omega) _;have R3:Grow ((ai4 Pv S2).put (t.next+d3) (.row (eP++[[IV.int .i64 b]]).flatten)) (.slice (t.next+d2) 0 (eR.length+1) 1) 1 (eR++[[IV.int .i64 a]]):=ez4 (s:=S2) (m:=S2.next) (nid:=t.next+d3) (Nat.le_refl _) P2 R2 (fun i kk g j l f hv hw=>by cases hw; exact old h.gP rfl d2 _ _ _ hv) (fun i kk g hv=>by cases hv; omega) _;have P3:Grow ((ai4 Pv S2).put (t.next+d3) (.row (eP++[[IV.int .i64 b]]).flatten)) (.slice (t.next+d3) 0 (eP.length+1) 1) 1 (eP++[[IV.int .i64 b]]):=Grow.new (v:=.aa1) (by rw[ab4,ad8,N2]; omega) (by rw[aa7,if_pos rfl]);have N3:((ai4 Pv S2).put (t.next+d3) (.row (eP++[[IV.int .i64 b]]).flatten)).next=t.next+d4:=by rw[ab4,ad8,N2]
 generalize (ai4 Pv S2).put (t.next+d3) (.row (eP++[[IV.int .i64 b]]).flatten)=S3 at *;refine ⟨_,_,_,S1,S2,S3,A1,c1,A2,c2,A3,c3,⟨rfl,rfl,rfl,rfl,rfl,rfl⟩,N3,fun τ hτ hcτ hoτ=>?_⟩;have keep:∀ {v:IV} {e:Nat} {es:List (List IV)},Grow S3 v e es->Grow τ v e es:=fun hg=>hg.mono (by omega) fun i hv _=>hoτ i fun e=>notrow hg c3 _ _ (by rw[<- e]; exact hv)
 have snocE:∀ {e:Nat} {es:List (List IV)} {x:List IV},hr7 e es->(x.length=e/\x.all IV.leaf=true)->hr7 e (es++[x]):=fun h1 h2 y hy=>by
  rcases List.mem_append.1 hy with hy|hy
  ·exact h1 y hy
  ·rw[List.mem_singleton] at hy; rw[hy]; exact h2
 exact {
  cell:=hcτ
  lt:=by have:=h.lt; omega
  gL:=keep L3
  gR:=keep R3
  gP:=keep P3
  aL:=snocE h.aL hc
  aR:=snocE h.aR ⟨rfl,rfl⟩
  aP:=snocE h.aP ⟨rfl,rfl⟩
  kL:=by rw[List.length_append]; have:=h.kL; simp only[List.length_singleton]; omega
  kR:=by rw[List.length_append]; have:=h.kR; simp only[List.length_singleton]; omega
  kP:=by rw[List.length_append]; have:=h.kP; simp only[List.length_singleton]; omega
  lr:=fun i k e j l f h1 h2=>by cases h1; cases h2; omega
  lp:=fun i k e j l f h1 h2=>by cases h1; cases h2; omega
  rp:=fun i k e j l f h1 h2=>by cases h1; cases h2; omega }
set_option maxHeartbeats 1000000
def gf3 (repos:List ao8)(inst:List aa3):List aa3:=inst++repos.flatMap fun r=>r.packages
theorem gf4 (repos:List ao8)(inst:List aa3)(hN:inst.length+ao1 repos<=256)(hr:repos.length<=16):PC Tryz.prog EE 8 [bf3 repos,ar8 inst] (ar8 (gf3 repos inst)):=by
 refine af5 hE fok8 (nZ rfl) (aj2 (bu3 repos) (ao6 inst)) ?_;have g0:Grow (({ next:=2,obj:=emp.obj }:Store).put 0 (al1.row [])) (.slice 0 0 0 15) 15 []:=.inr ⟨0,rfl,by rw[aa7,if_pos rfl]; rfl,by show 0<2; omega⟩;obtain ⟨v1,t1,a1,n1,q1,_,_⟩:=dm1 (nid:=1) (xs:=inst.map aa3.cs) g0 (fun x h=>by cases h) (bh8 _) (by rw[List.length_map,List.length_nil]; omega) (by show 1<2; omega);rw[List.nil_append] at q1;simp only[ic8,go_sem,a1];refine ab5 noT (fun i fr t=>∃ gv,fr=[(0,bf3 repos),(5,gv),(6,.int .i64 (i:Int))]/\Grow t gv 15 ((gf3 (repos.take i) inst).map aa3.cs)/\(gf3 (repos.take i) inst).length+ao1 (repos.drop i)=inst.length+ao1 repos) repos.length ⟨v1,rfl,by simpa [gf3] using q1,by simp[gf3]⟩ ?_;rintro i fr t hle ⟨gv,rfl,hg,hsum⟩;by_cases hlt:i<repos.length
 ·obtain ⟨a,ha,_,hdr,hget,htk⟩:=ad5 repos i hlt;have c1:(i:Int)<repos.length:=by omega
  have c2:(0:Int)<=i:=by omega
  have w1:=ad9 (i:=i) (by omega);rw[dh1 repos i a hdr] at hsum
  have hap:gf3 (repos.take (i+1)) inst=gf3 (repos.take i) inst++a.packages:=by
   unfold gf3
   have:repos.take (i+1)=repos.take i++[a]:=by
    rw[List.take_add_one];have:=congrArg List.head? hdr;rw[List.head?_drop] at this;rw[this]; rfl
   rw[this,List.flatMap_append]; simp
  obtain ⟨v2,t2,a2,n2,q2,_,_⟩:=dm1 (nid:=t.next) (xs:=a.packages.map aa3.cs) (hg.mono (σ':=⟨t.next+1,t.obj⟩) (Nat.le_succ _) fun _ _ _=>rfl) (bh8 _) (bh8 _) (by rw[List.length_map,List.length_map]; omega) (Nat.lt_succ_self _);simp only[go_sem,c1,c2,hget,ci2,cn3,cn2,ao8.cs,a2,w1];refine ⟨hlt,v2,rfl,?_,?_⟩
  ·rw[hap,List.map_append]; exact q2
  ·rw[hap,List.length_append]; omega
 ·have hi':i=repos.length:=by omega
  subst hi';have c1:¬ (repos.length:Int)<repos.length:=by omega
  rw[List.take_length] at hg;simp only[go_sem,c1];refine hg.frz (fun x hx=>(bh8 _ x hx).1) (fun _ _=>Nat.not_lt_zero _) fun e he c hc=>?_
  obtain ⟨y,_,rfl⟩:=List.mem_map.1 he;exact ay6 y c hc
def db1 (all:List aa3)(inst:Int)(r:Req):IV:=if ak8 r inst=0 then .tuple [.ab7 (ar8 all::.int .i64 inst::r.cs),.int .i64 0] else .tuple [.ac2,.int .i64 (ak8 r inst)]
theorem gf5 (all:List aa3)(inst:Int)(r:Req)(hR:fs6 r):PC Tryz.prog EE 7 [ar8 all,.int .i64 inst,.agg r.cs] (db1 all inst r):=by
 refine af5 hE fok7 (nZ rfl) (bc8 (ao6 all) (.int _ _) (.agg _ (av8 r))) ?_;have hm:=ci6 r.ao9;have k0:r.cs.head? = some (.int .u8 r.ao9):=rfl;have k2:(r.cs.drop 2).head? = some (av1 r.af3):=rfl;have k3:(r.cs.drop 3).head? = some (am1 r.ae1):=rfl;have k4:(r.cs.drop 4).head? = some (.int .i64 r.budget):=rfl;obtain ⟨V,hV⟩:∃ V,db1 all inst r=V:=⟨_,rfl⟩
 have herr:∀ (s:Store) (e:Int),ak8 r inst=e->e≠0->dj1 s 0 (.tuple [.ac2,.int .i64 e]) V:=fun s e h1 h2=>by
  rw[<- hV];unfold db1;rw[h1,if_neg h2];exact .keep _ (.tuple _ (aj2 .ac2 (.int _ _)))
 rw[hV];by_cases c1:bb3 r.ao9=false
 ·rw[c1] at hm;simp only[ic7,go_sem,ai1,k0]
  first|refine aa4 fok46 (hm) ?_|refine aa2 (hm) ?_
  simp only[go_sem];exact herr _ 1 (by unfold ak8; rw[if_pos (.inl c1)]) (by decide)
 have c1':bb3 r.ao9=true:=by simpa using c1
 rw[c1'] at hm;by_cases c2:r.budget<0
 ·simp only[ic7,go_sem,ai1,k0]
  first|refine aa4 fok46 (hm) ?_|refine aa2 (hm) ?_
  simp only[go_sem,k4,c2];exact herr _ 1 (by unfold ak8; rw[if_pos (.inr (.inl c2))]) (by decide)
 by_cases c3:1099511627776<r.budget
 ·simp only[ic7,go_sem,ai1,k0]
  first|refine aa4 fok46 (hm) ?_|refine aa2 (hm) ?_
  simp only[go_sem,k4,c2,c3];exact herr _ 1 (by unfold ak8; rw[if_pos (.inr (.inr c3))]) (by decide)
 have q1:¬ (bb3 r.ao9=false\/r.budget<0\/1099511627776<r.budget):=fun h=>h.elim c1 fun h=>h.elim c2 c3
 by_cases c4:64<r.af3.length
 ·have c4':(64:Int)<r.af3.length:=by omega
  simp only[ic7,go_sem,ai1,k0]
  first|refine aa4 fok46 (hm) ?_|refine aa2 (hm) ?_
  simp only[go_sem,k4,c2,c3,k2,c4'];exact herr _ 40 (by unfold ak8; rw[if_neg q1,if_pos (.inl c4)]) (by decide)
 have c4':¬ (64:Int)<r.af3.length:=by omega
 by_cases c5:64<r.ae1.length
 ·have c5':(64:Int)<r.ae1.length:=by omega
  simp only[ic7,go_sem,ai1,k0]
  first|refine aa4 fok46 (hm) ?_|refine aa2 (hm) ?_
  simp only[go_sem,k4,c2,c3,k2,k3,c4',c5'];exact herr _ 40 (by unfold ak8; rw[if_neg q1,if_pos (.inr c5)]) (by decide)
 have c5':¬ (64:Int)<r.ae1.length:=by omega
 have q2:¬ (64<r.af3.length\/64<r.ae1.length):=fun h=>h.elim c4 c5
 simp only[ic7,go_sem,ai1,k0]
 first|refine aa4 fok46 (hm) ?_|refine aa2 (hm) ?_
 simp only[go_sem,k4,c2,c3,k2,k3,c4',c5'];refine ab5 noT (fun i fr t=>fr=[(0,ar8 all),(1,.int .i64 inst),(5,.ab7 r.cs),(8,.int .i64 (i:Int))]/\(r.af3.drop i).all av2=r.af3.all av2) r.af3.length ⟨rfl,rfl⟩ ?_;rintro i fr t hi ⟨rfl,ha⟩;by_cases hlt:i<r.af3.length
 ·obtain ⟨x,hx,_,hdr,hget,_⟩:=ad5 r.af3 i hlt;have d1:(i:Int)<r.af3.length:=by omega
  have d2:(0:Int)<=i:=by omega
  have w1:=ad9 (i:=i) (by omega);obtain ⟨hs1,hs2⟩:=hR.gm9 x hx;have hmay:=gw9 x.dep (by omega) (by have:=hs1.2.2.1; omega) (by have:=hs1.2.2.2; omega);have x0:x.cs.head? = some (.int .u8 x.kind):=rfl;have x1:=ci5 x;have x2:(x.cs.drop 1).length=5:=rfl;rw[hdr,List.all_cons] at ha
  have hbad:av2 x=false->ak8 r inst=4:=fun h=>by
   rw[h,Bool.false_and] at ha;unfold ak8; rw[if_neg q1,if_neg q2,if_pos ha.symm]
  by_cases e1:x.kind<1
  ·have e1':¬ 1<=x.kind:=by omega
   simp only[go_sem,d1,d2,k2,hget,au1,x0,e1];exact herr _ 4 (hbad (by unfold av2; simp[e1'])) (by decide)
  by_cases e2:4<x.kind
  ·have e2':¬ x.kind<=4:=by omega
   simp only[go_sem,d1,d2,k2,hget,au1,x0,e1,e2];exact herr _ 4 (hbad (by unfold av2; simp[e2'])) (by decide)
  have e1':1<=x.kind:=by omega
  have e2':x.kind<=4:=by omega
  simp only[go_sem,d1,d2,k2,hget,au1,x0,x1,x2,e1,e2]
  first|refine aa4 fok47 (hmay) ?_|refine aa2 (hmay) ?_
  cases hb:an8 x.dep with
  | false=>
   simp only[go_sem]
   exact herr _ 4 (hbad (by unfold av2; simp[hb])) (by decide)
  | true=>
   have:av2 x=true:=by unfold av2; simp[e1',e2',hb]
   rw[this,Bool.true_and] at ha;simp only[go_sem,w1];exact ⟨hlt,ha⟩
 have hi':i=r.af3.length:=by omega
 subst hi';rw[List.drop_length] at ha;have hjm:¬ r.af3.all av2=false:=by rw[<- ha]; simp
 have d1:¬ (r.af3.length:Int)<r.af3.length:=by omega
 simp only[go_sem,d1,k2];refine ab5 noT (fun i fr t=>fr=[(0,ar8 all),(1,.int .i64 inst),(5,.ab7 r.cs),(9,.int .i64 (i:Int))]/\((r.ae1.drop i).all fun e=>aq5 e r.af3.length inst)=r.ae1.all fun e=>aq5 e r.af3.length inst) r.ae1.length ⟨rfl,rfl⟩ ?_;clear ha;rintro i fr t hi ⟨rfl,ha⟩;by_cases hlt:i<r.ae1.length
 ·obtain ⟨x,hx,_,hdr,hget,_⟩:=ad5 r.ae1 i hlt;have d1:(i:Int)<r.ae1.length:=by omega
  have d2:(0:Int)<=i:=by omega
  have w1:=ad9 (i:=i) (by omega);have x0:x.cs.head? = some (.int .u8 x.kind):=rfl;have x1:(x.cs.drop 1).head? = some (.int .i64 x.n):=rfl;rw[hdr,List.all_cons] at ha
  have hbad:aq5 x r.af3.length inst=false->ak8 r inst=5:=fun h=>by
   rw[h,Bool.false_and] at ha;unfold ak8; rw[if_neg q1,if_neg q2,if_neg hjm,if_pos ha.symm]
  have hgood:aq5 x r.af3.length inst=true->((r.ae1.drop (i+1)).all fun e=>aq5 e r.af3.length inst)=r.ae1.all fun e=>aq5 e r.af3.length inst:=fun h=>by
   rw[h,Bool.true_and] at ha; exact ha
  unfold aq5 at hbad hgood;by_cases e1:0<=x.n
  case neg=>
   simp only[go_sem,d1,d2,k2,k3,hget,ak9,am6,ah4,x0,x1,e1];exact herr _ 5 (hbad (by simp[e1])) (by decide)
  by_cases e2:x.kind=1
  ·by_cases e3:x.n<r.af3.length
   ·simp only[go_sem,d1,d2,k2,k3,hget,ak9,am6,ah4,x0,x1,e1,e2,e3,w1];exact ⟨hlt,hgood (by simp[e1,e2,e3])⟩
   ·simp only[go_sem,d1,d2,k2,k3,hget,ak9,am6,ah4,x0,x1,e1,e2,e3];exact herr _ 5 (hbad (by simp[e2,e3])) (by decide)
  ·by_cases e4:1<x.kind
   ·by_cases e5:x.kind<=4
    ·have e6:1<=x.kind:=by omega
     by_cases e3:x.n<inst
     ·simp only[go_sem,d1,d2,k2,k3,hget,ak9,am6,ah4,x0,x1,e1,e2,e3,e4,e5,w1];exact ⟨hlt,hgood (by simp[e1,e2,e3,e5,e6])⟩
     ·simp only[go_sem,d1,d2,k2,k3,hget,ak9,am6,ah4,x0,x1,e1,e2,e3,e4,e5];exact herr _ 5 (hbad (by simp[e2,e3])) (by decide)
    ·simp only[go_sem,d1,d2,k2,k3,hget,ak9,am6,ah4,x0,x1,e1,e2,e4,e5];exact herr _ 5 (hbad (by simp[e5])) (by decide)
   ·have e6:¬ 1<=x.kind:=by omega
    simp only[go_sem,d1,d2,k2,k3,hget,ak9,am6,ah4,x0,x1,e1,e2,e4];exact herr _ 5 (hbad (by simp[e6])) (by decide)
 have hi':i=r.ae1.length:=by omega
 subst hi';rw[List.drop_length] at ha;have hem:¬ (r.ae1.all fun e=>aq5 e r.af3.length inst)=false:=by rw[<- ha]; simp
 have d2:¬ (r.ae1.length:Int)<r.ae1.length:=by omega
 have hz:ak8 r inst=0:=by unfold ak8; rw[if_neg q1,if_neg q2,if_neg hjm,if_neg hem]
 have hrc:r.cs=[.int .u8 r.ao9,.bool r.vendor,av1 r.af3,am1 r.ae1,.int .i64 r.budget]:=rfl;rw[<- hV];unfold db1;rw[if_pos hz];have rl:r.cs.length=5:=rfl;simp only[go_sem,d2,k3,rl,bf1,ai1];refine .keep _ (.tuple _ (aj2 (.ab7 _ fun c hc=>?_) (.int _ _)));rcases List.mem_cons.1 hc with rfl|hc
 ·exact ao6 all
 ·rcases List.mem_cons.1 hc with rfl|hc
  ·exact .int _ _
  ·exact av8 r c hc
set_option maxHeartbeats 1000000
theorem ea8 (a:ab9):PC Tryz.prog EE 12 [a.v] a.p.v:=by
 refine af5 hE fok12 (nZ rfl) (am3 (ah1 a)) ?_;have hb:=be8 a.p;unfold ab9.v ab9.cs;simp only[ic12,go_sem,ad3];exact .keep _ hb
theorem dr3 (a:ab9):PC Tryz.prog EE 14 [a.v] (ae2 a.l).v:=by
 refine af5 hE fok14 (nZ rfl) (am3 (ah1 a)) ?_;have hb:=av7 (ae2 a.l);unfold ab9.v ab9.cs;simp only[ic14,go_sem,ad3];exact .keep _ hb
theorem cq9 (a:ab9)(hA:AOK a):PC Tryz.prog EE 11 [a.v] (.agg a.r.cs):=by
 refine af5 hE fok11 (nZ rfl) (am3 (ah1 a)) ?_;have hO:=gn1 a.r (by have:=hA.af3; omega) (by have:=hA.ae1; omega);have hb:=av8 a.r;unfold ab9.v ab9.cs;unfold Req.cs at *;simp only[ic11,go_sem,ad3]
 first|refine aa4 fok44 (hO) ?_|refine aa2 (hO) ?_
 simp only[go_sem];exact .keep _ (.agg _ hb)
def fc4 (l:List aa3)(n:Int):List Int:=ar6 (fun m=>decide (0<=n)&&decide (n<l.length)&&!decide ((m:Int)=n)&&aa8 (l.getD m default) (l.getD n.toNat default)) l.length
theorem gv9 (l:List aa3)(n:Nat)(h:n<l.length):fc4 l n=ad2 l n:=by
 refine dr8 (ef9 _ _) (cr1 l n) fun k=>?_
 unfold fc4;rw[bh4,bh9];constructor
 ·rintro ⟨m,rfl,h1,h2⟩;simp only[Bool.and_eq_true,decide_eq_true_eq,Bool.not_eq_true',decide_eq_false_iff_not,Int.toNat_natCast] at h2;exact ⟨m,rfl,h1,by omega,h2.2⟩
 ·rintro ⟨m,rfl,h1,h2,h3⟩;refine ⟨m,rfl,h1,?_⟩;simp only[Bool.and_eq_true,decide_eq_true_eq,Bool.not_eq_true',decide_eq_false_iff_not,Int.toNat_natCast];exact ⟨⟨⟨by omega,by omega⟩,by omega⟩,h3⟩
theorem gf6 (l:List aa3)(n:Int)(h:¬ (0<=n/\n<l.length)):fc4 l n=[]:=by
 unfold fc4 ar6;rw[List.map_eq_nil_iff,List.filter_eq_nil_iff];intro m _ h2;simp only[Bool.and_eq_true,decide_eq_true_eq] at h2;exact h h2.1.1
theorem ez5 (l:List aa3)(n:Int)(hl:l.length<2^20)(hs:∀ p∈l,Pkg.small p):PC Tryz.prog EE 15 [(ae2 l).v,.int .i64 n] (.aa5 ((fc4 l n).map Md.af2)):=by
 by_cases h:0<=n/\n<l.length
 ·obtain ⟨m,rfl⟩:∃ m:Nat,n=m:=⟨n.toNat,by omega⟩;rw[gv9 l m (by omega)];exact cg9 l m hl (by omega) hs
 ·rw[gf6 l n h];refine af5 hE fok15 (nZ rfl) (aj2 (av7 _) (.int _ _)) ?_;have hi:=eb2 (ae2 l) n;have hall:(ae2 l).all=l:=(av5 l).all;rw[hall] at hi
  have hf:(decide (0<=n)&&decide (n<(l.length:Int)))=false:=by
   rw[Bool.eq_false_iff];intro h2;rw[Bool.and_eq_true,decide_eq_true_eq,decide_eq_true_eq] at h2;exact h h2
  rw[hf] at hi;have vlf:(ae2 l).v.leaf=true:=rfl;have vcs:(ae2 l).v.cs=[(ae2 l).v]:=rfl;generalize (ae2 l).v=V at *;simp only[ic15,go_sem,vlf,vcs]
  first|refine aa4 fok48 (hi) ?_|refine aa2 (hi) ?_
  simp only[go_sem];exact .dd3
theorem gf7 (l:List aa3)(n:Int)(hl:l.length<2^20)(hs:∀ p∈l,Pkg.small p):PC Tryz.prog EE 16 [ar8 l,.int .i64 n] (.aa5 ((fc4 l n).map Md.af2)):=by
 refine af5 hE fok16 (nZ rfl) (aj2 (ao6 l) (.int _ _)) ?_;obtain ⟨f,hf⟩:∃ f:Nat->Bool,f=fun m:Nat=>decide (0<=n)&&decide (n<l.length)&&!decide ((m:Int)=n)&&aa8 (l.getD m default) (l.getD n.toNat default):=⟨_,rfl⟩
 have hO:fc4 l n=ar6 f l.length:=by rw[hf]; rfl
 rw[hO];simp only[ic16,go_sem];refine ab5 noT (fun m fr t=>∃ gv,fr=[(0,ar8 l),(1,.int .i64 n),(5,gv),(6,.int .i64 (m:Int))]/\Grow t gv 1 ((ar6 f m).map Md.af2)) l.length ⟨.aa1,rfl,.inl ⟨rfl,rfl⟩⟩ ?_;rintro m fr t hm ⟨gv,rfl,hg⟩;by_cases hlt:m<l.length
 ·have d1:(m:Int)<l.length:=by omega
  have d2:(0:Int)<=(m:Int):=by omega
  have w1:=ad9 (i:=m) (by omega);have hsn:=cd1 f m;have hnl:=ax9 f m
  have hno:f m=false->∀ u:Store,u.obj=t.obj->t.next<=u.next->Grow u gv 1 ((ar6 f (m+1)).map Md.af2):=fun h u h1 h2=>by
   rw[hsn,h];simp only[Bool.false_eq_true,if_false,List.append_nil];exact hg.mono h2 fun _ _ _=>by rw[h1]
  by_cases h0:0<=n
  ·by_cases h1:n<l.length
   ·by_cases h2:(m:Int)=n
    ·have hfm:f m=false:=by rw[hf]; simp[h2]
     simp only[go_sem,d1,h0,h1,h2,w1];exact ⟨hlt,gv,by rw[<- h2]; first|rfl|exact (by simp[w1]),hno hfm _ rfl (by first|exact Nat.le_refl _|exact Nat.le_add_right _ _)⟩
    ·obtain ⟨k,rfl⟩:∃ k:Nat,n=k:=⟨n.toNat,by omega⟩;have hk:k<l.length:=by omega
     have g1:(l.map aa3.cs).getD m []=(l[m]).cs:=by simp[List.getD_eq_getElem?_getD,hlt]
     have g2:(l.map aa3.cs).getD k []=(l[k]).cs:=by simp[List.getD_eq_getElem?_getD,hk]
     have hob:=bo2 l[m] l[k] (hs _ (List.getElem_mem hlt)) (hs _ (List.getElem_mem hk));have hfm:f m=aa8 l[m] l[k]:=by rw[hf]; simp[h2,hk,List.getD_eq_getElem?_getD,hlt]
     simp only[go_sem,d1,d2,h0,h1,h2,g1,g2,ag3,ae8,ae4]
     first|refine aa4 fok52 (hob) ?_|refine aa2 (hob) ?_
     cases hb:aa8 l[m] l[k] with
     | true=>
      rw[hfm,hb,if_pos rfl] at hsn;obtain ⟨v',σ',h1,h2,h3⟩:=ay7 (n:=25) (nid:=t.next+24) (e:=[.int .i64 (m:Int)]) hg (bi1 _) ⟨rfl,rfl⟩ (by rw[List.length_map]; omega) (by omega) (by omega);have h1':ba7 ({ next:=t.next+24+1,obj:=t.obj }:Store) (t.next+24) 1 gv (.aa5 [[.int .i64 (m:Int)]])=some (v',σ'):=h1;simp only[go_sem,h1',w1];refine ⟨hlt,v',rfl,?_⟩;rw[hsn,List.map_append]
      exact h3
     | false=>
      simp only[go_sem,w1];exact ⟨hlt,gv,rfl,hno (by rw[hfm,hb]) _ rfl (by first|exact Nat.le_refl _|exact Nat.le_add_right _ _)⟩
   ·have hfm:f m=false:=by rw[hf]; simp[h1]
    simp only[go_sem,d1,h0,h1,w1];exact ⟨hlt,gv,rfl,hno hfm _ rfl (by first|exact Nat.le_refl _|exact Nat.le_add_right _ _)⟩
  ·have hfm:f m=false:=by rw[hf]; simp[h0]
   simp only[go_sem,d1,h0,w1];exact ⟨hlt,gv,rfl,hno hfm _ rfl (by first|exact Nat.le_refl _|exact Nat.le_add_right _ _)⟩
 ·have hm':m=l.length:=by omega
  subst hm';have d1:¬ (l.length:Int)<l.length:=by omega
  simp only[go_sem,d1];exact dg3 hg
theorem ez6 (j:Job):allEq [1,2,1,1,2,2] j.cs j.cs=some true:=by
 unfold Job.cs;simp[allEq,ai2]
theorem ea9 (e:at5):allEq [1,1] e.cs e.cs=some true:=by
 unfold at5.cs;simp[allEq,ai2]
theorem ii2 (r:Req):r.cs.head? = some (.int .u8 r.ao9):=rfl
theorem ii3 (r:Req):(r.cs.drop 1).head? = some (.bool r.vendor):=rfl
theorem fq7 (r:Req):(r.cs.drop 2).head? = some (av1 r.af3):=rfl
theorem fq8 (r:Req):(r.cs.drop 3).head? = some (am1 r.ae1):=rfl
theorem ii4 (r:Req):(r.cs.drop 4).head? = some (.int .i64 r.budget):=rfl
theorem hr8 (b:Bool):ft5 [0] false true (.bool b) (.bool b)=some (.bool false):=by cases b<;>rfl
theorem dr4 (b:Bool):ft5 [0] false false (.bool b) (.bool b)=some (.bool true):=by cases b<;>rfl
theorem fq9 (r:Req)(h1:r.af3.length<2^40)(h2:r.ae1.length<2^40):PC Tryz.prog EE 10 [.agg r.cs,.agg r.cs] (.bool true):=by
 refine af5 hE fok10 (nZ rfl) (aj2 (.agg _ (av8 r)) (.agg _ (av8 r))) ?_;simp only[ic10,go_sem,ai1,ii2,ii3,fq7,fq8,ii4,ah5,ay4,hr8];refine ab5 noT (fun i fr s=>fr=[(2,.ab7 r.cs),(3,.ab7 r.cs),(5,.int .i64 (i:Int))]) r.af3.length rfl ?_;rintro i fr s hi rfl;by_cases hlt:i<r.af3.length
 ·obtain ⟨x,hx,hxi,hdr,hget,htk⟩:=ad5 r.af3 i hlt;have d1:(i:Int)<r.af3.length:=by omega
  have d2:(0:Int)<=(i:Int):=by omega
  have w1:=ad9 (i:=i) (by omega);have g:=hget Job.cs;have jtk:x.cs.take 6=x.cs:=rfl;simp only[go_sem,fq7,ah5,av1,d1,d2,g,gc2,jtk,ez6,w1];exact hlt
 have d1:¬ (i:Int)<r.af3.length:=by omega
 simp only[go_sem,fq7,ah5,d1];refine ab5 noT (fun i fr s=>fr=[(2,.ab7 r.cs),(3,.ab7 r.cs),(6,.int .i64 (i:Int))]) r.ae1.length rfl ?_;rintro i fr s hi rfl;by_cases hlt:i<r.ae1.length
 ·obtain ⟨x,hx,hxi,hdr,hget,htk⟩:=ad5 r.ae1 i hlt;have d1:(i:Int)<r.ae1.length:=by omega
  have d2:(0:Int)<=(i:Int):=by omega
  have w1:=ad9 (i:=i) (by omega);have g:=hget at5.cs;have etk:x.cs.take 2=x.cs:=rfl;simp only[go_sem,fq8,ay4,am1,d1,d2,g,ak9,etk,ea9,w1];exact hlt
 have d1:¬ (i:Int)<r.ae1.length:=by omega
 simp only[go_sem,fq8,ay4,d1];exact ab2 rfl
theorem eb1 (repos:List ao8)(inst:List aa3)(r:Req)(n m:Int)(st:List Int)(hI:hz6 repos inst)(hR:fs6 r)(hs:st.length<2^30) :
  PC Tryz.prog EE 3 [bf3 repos,ar8 inst,.agg r.cs,.int .i64 n,.int .i64 m,.aa5 (st.map Md.af2)] (.bool true):=by
 refine af5 hE fok3 (nZ rfl) (fun a ha=>by
  simp only[List.mem_cons,List.not_mem_nil,or_false] at ha;rcases ha with rfl|rfl|rfl|rfl|rfl|rfl
  ·exact bu3 repos
  ·exact ao6 inst
  ·exact .agg _ (av8 r)
  ·exact .int _ _
  ·exact .int _ _
  ·exact ag1 st) ?_
 have hlarge:=fb8 repos inst r (by have:=hI.r1; omega) (by have:=hI.i1; omega) hI.ro hI.po;have hp:=cd6 repos inst hI.r1 hI.i1 hI.s1 hI.rf hI.pf;have rl:r.cs.length=5:=rfl;generalize (decide (2000<=lgN 2000 repos (szL inst 2000 0))||decide (100<r.af3.length)||decide (100<r.ae1.length))=lg at *;simp only[ic3,go_sem,ai1,rl,bf1]
 first|refine aa4 fok4 (hlarge) ?_|refine aa2 (hlarge) ?_
 cases lg with
 | true=>simp only[go_sem]; exact ab2 rfl
 | false=>
 by_cases hb:100<st.length
 ·have c1:(100:Int)<st.length:=by omega
  simp only[go_sem,c1];exact ab2 rfl
 have c1:¬ (100:Int)<st.length:=by omega
 simp only[go_sem,c1]
 first|refine aa4 fok5 (hp) ?_|refine aa2 (hp) ?_
 cases hn:cq1 repos inst with
 | inr e=>
  have he:¬ e=0:=by rcases gb2 hn with rfl|rfl<;>decide
  simp only[hm8,go_sem,he]
  exact ab2 rfl
 | inl p=>
 obtain ⟨g1,g2,_,_⟩:=cc9 hn;have hin:p.inst=inst.length:=(ef3 hn).2;have hf:=gm4 hI hn;have hlen:(ae5 p).length<=256:=by simp only[ae5,List.length_map]; exact ef4 hn
 have hAN:=fs8 p r hR hlen fun x hx=>⟨(hf x hx).1,(hf x hx).2.2⟩
 have hAll:=gf4 repos inst g2 g1;have hal:gf3 repos inst=ae5 p:=(bt2 hn).symm;rw[hal] at hAll;have h15:=gf5 (ae5 p) p.inst r hR;have vcs:p.v.cs=[p.v]:=rfl;have vlf:p.v.leaf=true:=rfl;rw[hin] at h15;simp only[hm8,go_sem,vcs,vlf,ai1,rl,bf1]
 first|refine aa4 fok6 (hAN) ?_|refine aa2 (hAN) ?_
 by_cases he:ak8 r p.inst=0
 case neg=>
  have h15':PC Tryz.prog EE 7 [ar8 (ae5 p),.int .i64 inst.length,.agg r.cs] (.tuple [.ac2,.int .i64 (ak8 r p.inst)]):=by
   have:=h15;unfold db1 at this;rw[<- hin,if_neg he] at this;rw[<- hin]; exact this
  unfold gz7;rw[if_neg he];simp only[go_sem,he]
  first|refine aa4 fok8 (hAll) ?_|refine aa2 (hAll) ?_
  simp only[go_sem,rl,bf1,ai1]
  first|refine aa4 fok7 (h15') ?_|refine aa2 (h15') ?_
  simp only[go_sem,he];exact ab2 rfl
 have hA:=aok hI hn hR he;have hi0:0<=p.inst:=by rw[hin]; omega
 have hD:PC Tryz.prog EE 7 [ar8 (ae5 p),.int .i64 inst.length,.agg r.cs] (.tuple [(ab9.mk p r).dv,.int .i64 0]):=by
  have:=h15;unfold db1 at this;rw[<- hin,if_pos he] at this;rw[<- hin]; exact this
 have hal2:ar8 (ae5 p)=ar8 (ab9.mk p r).l:=rfl;have hjr:(ab9.mk p r).r=r:=rfl;have hpp:(ab9.mk p r).p=p:=rfl;have hll:(ab9.mk p r).l.length=p.rows.length:=by show (ae5 p).length=_; simp[ae5]
 unfold gz7;rw[if_pos he];have hC:=bh7 p;rw[<- hll] at hC;rw[<- hpp] at hC;generalize ha:ab9.mk p r=a at *;have hsm:=fq9 a.r (by have:=hA.af3; omega) (by have:=hA.ae1; omega);rw[hjr] at hsm;have hRq:=cq9 a hA;rw[hjr] at hRq;have hPl:=ea8 a;have hIx:=dr3 a;have hll2:=hA.len;have hi0':0<=a.p.inst:=by rw[hpp]; exact hi0
 have o1:=ez5 a.l n (by omega) hA.small;have o2:=gf7 a.l n (by omega) hA.small;have ol:(fc4 a.l n).length<=256:=Nat.le_trans (ax9 _ _) hll2;have no:=ba5 (fc4 a.l n) (fc4 a.l n) (by omega) (by omega);have f1:=db5 a n;have f2:=dp5 a n;have t1:=eb4 a n m hA;have t2:=ex9 a hA n m;have dd1:=bu9 a n hA;have dd2:=ce9 a hA n;have gg1:=fb3 a n hA;have gg2:=fl8 a hA n;have s1:=co7 a n hA;have s2:=ay5 a hA n;have sl:=bm6 a hA n;have ns:=ba5 (a.aq4 n) (a.aq4 n) (by omega) (by omega);have w1:=db8 a n hA;have w2:=bn9 a hA n;have wl:(a.bn5 n).length<=256:=Nat.le_trans (List.length_filter_le _ _) sl;have nw:=ba5 (a.bn5 n) (a.bn5 n) (by omega) (by omega);have m1:=ay9 a n hA;have m2:=da2 a hA hi0' n;have ml:=cm6 a hA n;have nm:=ba5 (a.meant n) (a.meant n) (by omega) (by omega);have u1:=di7 a n st hA (by omega);have u2:=dp6 a hA hi0' n st (by omega);rw[decide_eq_true (rfl:fc4 a.l n=fc4 a.l n)] at no;rw[decide_eq_true (rfl:a.aq4 n=a.aq4 n)] at ns;rw[decide_eq_true (rfl:a.bn5 n=a.bn5 n)] at nw;rw[decide_eq_true (rfl:a.meant n=a.meant n)] at nm;have alf:a.v.leaf=true:=rfl;have acs:a.v.cs=[a.v]:=rfl;have plf:a.p.v.leaf=true:=rfl;have pcs:a.p.v.cs=[a.p.v]:=rfl;have xlf:(ae2 a.l).v.leaf=true:=rfl;have xcs:(ae2 a.l).v.cs=[(ae2 a.l).v]:=rfl;have okN:=fok9.1;simp only[go_sem,alf,acs]
 first|refine aa4 fok8 (hAll) ?_|refine aa2 (hAll) ?_
 simp only[go_sem,rl,bf1,ai1]
 first|refine aa4 fok7 (hD) ?_|refine aa2 (hD) ?_
 simp only[go_sem,alf,acs,bt4,aw5]
 first|refine aa4 fok11 (hRq) ?_|refine aa2 (hRq) ?_
 simp only[go_sem,rl,bf1,ai1]
 first|refine aa4 fok10 (hsm) ?_|refine aa2 (hsm) ?_
 simp only[go_sem,alf,acs]
 first|refine aa4 fok12 (hPl) ?_|refine aa2 (hPl) ?_
 simp only[go_sem,plf,pcs]
 first|refine aa4 fok13 (hC) ?_|refine aa2 (hC) ?_
 simp only[go_sem,ad7,az4,ad3];rw[<- ad7]
 first|refine aa4 fok14 (hIx) ?_|refine aa2 (hIx) ?_
 simp only[go_sem,xlf,xcs]
 first|refine aa4 fok15 (o1) ?_|refine aa2 (o1) ?_
 simp only[go_sem,ad7,az4,ad3];rw[<- ad7]
 first|refine aa4 fok16 (o2) ?_|refine aa2 (o2) ?_
 simp only[go_sem]
 first|refine aa4 fok9 (no) ?_|refine aa2 (no) ?_
 simp only[go_sem,alf,acs]
 first|refine aa4 fok17 (f1) ?_|refine aa2 (f1) ?_
 simp only[go_sem,bt4,aw5]
 first|refine aa4 fok18 (f2) ?_|refine aa2 (f2) ?_
 simp only[go_sem,dr4,alf,acs]
 first|refine aa4 fok19 (t1) ?_|refine aa2 (t1) ?_
 simp only[go_sem,bt4,aw5]
 first|refine aa4 fok20 (t2) ?_|refine aa2 (t2) ?_
 simp only[go_sem,dr4,alf,acs]
 first|refine aa4 fok21 (dd1) ?_|refine aa2 (dd1) ?_
 simp only[go_sem,bt4,aw5]
 first|refine aa4 fok22 (dd2) ?_|refine aa2 (dd2) ?_
 simp only[go_sem,dr4,alf,acs]
 first|refine aa4 fok23 (gg1) ?_|refine aa2 (gg1) ?_
 simp only[go_sem,bt4,aw5]
 first|refine aa4 fok24 (gg2) ?_|refine aa2 (gg2) ?_
 simp only[go_sem,dr4,alf,acs]
 first|refine aa4 fok25 (s1) ?_|refine aa2 (s1) ?_
 simp only[go_sem,bt4,aw5]
 first|refine aa4 fok26 (s2) ?_|refine aa2 (s2) ?_
 simp only[go_sem]
 first|refine aa4 fok9 (ns) ?_|refine aa2 (ns) ?_
 simp only[go_sem,alf,acs]
 first|refine aa4 fok27 (w1) ?_|refine aa2 (w1) ?_
 simp only[go_sem,bt4,aw5]
 first|refine aa4 fok28 (w2) ?_|refine aa2 (w2) ?_
 simp only[go_sem]
 first|refine aa4 fok9 (nw) ?_|refine aa2 (nw) ?_
 simp only[go_sem,alf,acs]
 first|refine aa4 fok29 (m1) ?_|refine aa2 (m1) ?_
 simp only[go_sem,bt4,aw5]
 first|refine aa4 fok30 (m2) ?_|refine aa2 (m2) ?_
 simp only[go_sem]
 first|refine aa4 fok9 (nm) ?_|refine aa2 (nm) ?_
 simp only[go_sem,alf,acs]
 first|refine aa4 fok31 (u1) ?_|refine aa2 (u1) ?_
 simp only[go_sem,bt4,aw5]
 first|refine aa4 fok32 (u2) ?_|refine aa2 (u2) ?_
 simp only[go_sem,dr4,alf,acs];exact ab2 rfl
open Go Go.Id Go.Proofs Go.Id.Md
end Go.Id.Tryz
set_option linter.all false
namespace Go.Id.Tryz
open Go Go.Id Go.Proofs Go.Id.Md
set_option maxRecDepth 100000
variable {H:Type} {enc:TypeId×Value->H} {w:World} {base:Nat} {sp:Nat->Bool} {held:Bool}
abbrev Rd (enc:TypeId×Value->H)(w:World)(base:Nat)(sp:Nat->Bool)(held:Bool):=Rdg enc Tryz.prog w base sp held
theorem fn8 {n:Nat}{d:DataW H}(h:Rd enc w base sp held n 68 d)(hw:WT Tryz.prog 68 d):∃ e:EVR,e.fit/\∀ m,n<=m->dv Tryz.prog m 68 d=some e.cs:=by
 obtain ⟨n',ds,rfl,rfl,hl,hf⟩:=ar5 Tryz.underlying68 h hw
 match ds,hl with
 | [d0,d1,d2],_=>
  obtain ⟨r0,w0⟩:=hf 0 _ d0 rfl rfl;obtain ⟨r1,w1⟩:=hf 1 _ d1 rfl rfl;obtain ⟨r2,w2⟩:=hf 2 _ d2 rfl rfl;obtain ⟨z,_,_,e0⟩:=bc9 Tryz.underlying3 r0;obtain ⟨s1,l1,e1⟩:=cl3 Tryz.underlying9 r1 w1;obtain ⟨s2,l2,e2⟩:=cl3 Tryz.underlying9 r2 w2;refine ⟨⟨z,s1,s2⟩,⟨l1,l2⟩,fun m hm=>?_⟩
  cases m with
  | zero=>omega
  | succ m=>
   have c3:Tryz.prog.cellsOf 3=1:=by kernel_rfl
   have c9:Tryz.prog.cellsOf 9=1:=by kernel_rfl
   have ct:Tryz.prog.cellsOf 68=3:=by kernel_rfl
   simp only[dv,Tryz.underlying68,List.map_cons,List.map_nil,dvF,e0 m (by omega),e1 m (by omega),e2 m (by omega),List.length_cons,List.length_nil,c3,c9,ct,List.cons_append,List.nil_append,List.append_nil,Nat.reduceAdd,↓reduceIte];rfl
theorem hp5 {z:Int}(h:(Lit.int .u8 z).wf=true):0<=z/\z<256:=by
 simp only[Lit.wf,Bool.and_eq_true,decide_eq_true_eq] at h;have e1:IntKind.u8.min=0:=rfl;have e2:IntKind.u8.max=255:=rfl;omega
theorem gd4:Tryz.prog.cellsOf 3=1:=by kernel_rfl
theorem gv2:Tryz.prog.cellsOf 5=1:=by kernel_rfl
theorem gd5:Tryz.prog.cellsOf 9=1:=by kernel_rfl
theorem gv3:Tryz.prog.cellsOf 68=3:=by kernel_rfl
theorem fn9:Tryz.prog.cellsOf 70=5:=by kernel_rfl
theorem fo1:Tryz.prog.cellsOf 135=7:=by kernel_rfl
theorem hp9:Tryz.prog.cellsOf 89=15:=by kernel_rfl
theorem gl9:Tryz.prog.cellsOf 58=2:=by kernel_rfl
theorem hq5:Tryz.prog.cellsOf 85=1:=by kernel_rfl
theorem eh8:Tryz.prog.cellsOf 86=1:=by kernel_rfl
theorem hq6:Tryz.prog.cellsOf 87=1:=by kernel_rfl
theorem hq7:Tryz.prog.cellsOf 23=1:=by kernel_rfl
theorem gm1 {n:Nat}{d:DataW H}(h:Rd enc w base sp held n 70 d)(hw:WT Tryz.prog 70 d):∃ e:Dep,e.fit/\∀ m,n<=m->dv Tryz.prog m 70 d=some e.cs:=by
 obtain ⟨n',ds,rfl,rfl,hl,hf⟩:=ar5 Tryz.underlying70 h hw
 match ds,hl with
 | [d0,d1,d2],_=>
  obtain ⟨r0,w0⟩:=hf 0 _ d0 rfl rfl;obtain ⟨r1,w1⟩:=hf 1 _ d1 rfl rfl;obtain ⟨r2,w2⟩:=hf 2 _ d2 rfl rfl;obtain ⟨s0,l0,e0⟩:=cl3 Tryz.underlying9 r0 w0;obtain ⟨z,_,_,e1⟩:=bc9 Tryz.underlying5 r1;obtain ⟨e,l2,e2⟩:=fn8 r2 w2;refine ⟨⟨s0,z,e⟩,⟨l0,l2⟩,fun m hm=>?_⟩
  cases m with
  | zero=>omega
  | succ m=>
   simp only[dv,Tryz.underlying70,List.map_cons,List.map_nil,dvF,e0 m (by omega),e1 m (by omega),e2 m (by omega),EVR.cs,List.length_cons,List.length_nil,gd5,gv2,gv3,fn9,List.cons_append,List.nil_append,List.append_nil,Nat.reduceAdd,↓reduceIte];rfl
theorem gv4:∀ (n:Nat) (d:DataW H),Rd enc w base sp held n 135 d->WT Tryz.prog 135 d->∃ r:ab1,r.ok/\∀ m,n<=m->dv Tryz.prog m 135 d=some r.cs:=by
 intro n
 induction n using Nat.strongRecOn with
 | ind n ih=>
  intro d h hw;obtain ⟨n',ds,rfl,rfl,hl,hf⟩:=ar5 Tryz.underlying135 h hw
  match ds,hl with
  | [d0,d1,d2],_=>
   obtain ⟨r0,w0⟩:=hf 0 _ d0 rfl rfl;obtain ⟨r1,w1⟩:=hf 1 _ d1 rfl rfl;obtain ⟨r2,w2⟩:=hf 2 _ d2 rfl rfl;obtain ⟨z,_,hz,e0⟩:=bc9 Tryz.underlying5 r0;obtain ⟨e,l1,e1⟩:=gm1 r1 w1;obtain ⟨l,k1,k2,e2⟩:=aw4 ab1.cs ab1.ok Tryz.underlying86 fo1 (by decide) (by decide +kernel) (fun r=>by rw[ab1.bb1]; rfl) (fun m d' hm hr hw'=>ih m (by omega) d' hr hw') r2 w2;have hz':=hp5 hz;refine ⟨.mk z e l,ab1.gt6.2 ⟨hz'.1,hz'.2,l1,k1,k2⟩,fun m hm=>?_⟩
   cases m with
   | zero=>omega
   | succ m=>
    simp only[dv,Tryz.underlying135,List.map_cons,List.map_nil,dvF,e0 m (by omega),e1 m (by omega),e2 m (by omega),Dep.cs,List.length_cons,List.length_nil,eh8,gv2,fn9,fo1,List.cons_append,List.nil_append,List.append_nil,Nat.reduceAdd,↓reduceIte];rw[ab1.bb1];rfl
theorem fo2 {n:Nat}{d:DataW H}(h:Rd enc w base sp held n 85 d)(hw:WT Tryz.prog 85 d):∃ l:List Dep,l.length<2^62/\(∀ a∈l,a.fit)/\∀ m,n<=m->dv Tryz.prog m 85 d=some [deps l]:=
 aw4 Dep.cs Dep.fit Tryz.underlying85 fn9 (by decide) (by decide +kernel) (fun _=>rfl) (fun _ _ _ hr hw'=>gm1 hr hw') h hw
theorem bd6 {n:Nat}{d:DataW H}(h:Rd enc w base sp held n 86 d)(hw:WT Tryz.prog 86 d):∃ l:List ab1,l.length<2^62/\(∀ a∈l,a.ok)/\∀ m,n<=m->dv Tryz.prog m 86 d=some [af8 l]:=
 aw4 ab1.cs ab1.ok Tryz.underlying86 fo1 (by decide) (by decide +kernel) (fun r=>by rw[ab1.bb1]; rfl) (fun m d' _ hr hw'=>gv4 m d' hr hw') h hw
theorem gv5 {n:Nat}{d:DataW H}(h:Rd enc w base sp held n 87 d)(hw:WT Tryz.prog 87 d):∃ l:List Str,l.length<2^62/\(∀ a∈l,a.length<2^62)/\∀ m,n<=m->dv Tryz.prog m 87 d=some [strs l]:=
 aw4 bm3 (fun s:Str=>s.length<2^62) Tryz.underlying87 gd5 (by decide) (by decide +kernel) (fun _=>rfl) (fun _ _ _ hr hw'=>cl3 Tryz.underlying9 hr hw') h hw
theorem hq9 {n:Nat}{d:DataW H}(h:Rd enc w base sp held n 89 d)(hw:WT Tryz.prog 89 d):∃ p:aa3,p.Ok/\∀ m,n<=m->dv Tryz.prog m 89 d=some p.cs:=by
 obtain ⟨n',ds,rfl,rfl,hl,hf⟩:=ar5 Tryz.underlying89 h hw
 match ds,hl with
 | [d0,d1,d2,d3,d4,d5,d6,d7,d8,d9,d10,d11,d12],_=>
  obtain ⟨r0,w0⟩:=hf 0 _ d0 rfl rfl;obtain ⟨r1,w1⟩:=hf 1 _ d1 rfl rfl;obtain ⟨r2,w2⟩:=hf 2 _ d2 rfl rfl;obtain ⟨r3,w3⟩:=hf 3 _ d3 rfl rfl;obtain ⟨r4,w4⟩:=hf 4 _ d4 rfl rfl;obtain ⟨r5,w5⟩:=hf 5 _ d5 rfl rfl;obtain ⟨r6,w6⟩:=hf 6 _ d6 rfl rfl;obtain ⟨r7,w7⟩:=hf 7 _ d7 rfl rfl;obtain ⟨r8,w8⟩:=hf 8 _ d8 rfl rfl;obtain ⟨r9,w9⟩:=hf 9 _ d9 rfl rfl;obtain ⟨r10,w10⟩:=hf 10 _ d10 rfl rfl;obtain ⟨r11,w11⟩:=hf 11 _ d11 rfl rfl;obtain ⟨r12,w12⟩:=hf 12 _ d12 rfl rfl;obtain ⟨x0,l0,e0⟩:=cl3 Tryz.underlying9 r0 w0;obtain ⟨x1,l1,e1⟩:=fn8 r1 w1;obtain ⟨x2,_,_,e2⟩:=bc9 Tryz.underlying5 r2;obtain ⟨x3,l3,e3⟩:=cl3 Tryz.underlying9 r3 w3;obtain ⟨x4,l4,k4,e4⟩:=fo2 r4 w4;obtain ⟨x5,l5,k5,e5⟩:=bd6 r5 w5;obtain ⟨x6,l6,k6,e6⟩:=bd6 r6 w6;obtain ⟨x7,l7,k7,e7⟩:=fo2 r7 w7;obtain ⟨x8,l8,k8,e8⟩:=bd6 r8 w8;obtain ⟨x9,l9,k9,e9⟩:=bd6 r9 w9;obtain ⟨x10,l10,k10,e10⟩:=bd6 r10 w10;obtain ⟨x11,l11,k11,e11⟩:=bd6 r11 w11;obtain ⟨x12,l12,k12,e12⟩:=gv5 r12 w12;refine ⟨⟨x0,x1,x2,x3,x4,x5,x6,x7,x8,x9,x10,x11,x12⟩,⟨l0,l3,l1,⟨l4,k4⟩,⟨l7,k7⟩,⟨l12,k12⟩,?_⟩,fun m hm=>?_⟩
  ·intro x hx;simp only[aa3.rows,List.mem_cons,List.not_mem_nil,or_false] at hx;rcases hx with rfl|rfl|rfl|rfl|rfl|rfl
   ·exact ⟨l5,k5⟩
   ·exact ⟨l6,k6⟩
   ·exact ⟨l8,k8⟩
   ·exact ⟨l9,k9⟩
   ·exact ⟨l10,k10⟩
   ·exact ⟨l11,k11⟩
  cases m with
  | zero=>omega
  | succ m=>
   simp only[dv,Tryz.underlying89,List.map_cons,List.map_nil,dvF,e0 m (by omega),e1 m (by omega),e2 m (by omega),e3 m (by omega),e4 m (by omega),e5 m (by omega),e6 m (by omega),e7 m (by omega),e8 m (by omega),e9 m (by omega),e10 m (by omega),e11 m (by omega),e12 m (by omega),EVR.cs,List.length_cons,List.length_nil,gd5,gv2,gv3,hq5,eh8,hq6,hp9,List.cons_append,List.nil_append,List.append_nil,Nat.reduceAdd,↓reduceIte];rfl
theorem fo3 {n:Nat}{d:DataW H}(h:Rd enc w base sp held n 23 d)(hw:WT Tryz.prog 23 d):∃ l:List aa3,l.length<2^62/\(∀ a∈l,a.Ok)/\∀ m,n<=m->dv Tryz.prog m 23 d=some [.aa5 (l.map aa3.cs)]:=
 aw4 aa3.cs aa3.Ok Tryz.underlying23 hp9 (by decide) (by decide +kernel) (fun _=>rfl) (fun _ _ _ hr hw'=>hq9 hr hw') h hw
theorem gv6 {n:Nat}{d:DataW H}(h:Rd enc w base sp held n 58 d)(hw:WT Tryz.prog 58 d):∃ r:ao8,ao8.Ok r/\∀ m,n<=m->dv Tryz.prog m 58 d=some r.cs:=by
 obtain ⟨n',ds,rfl,rfl,hl,hf⟩:=ar5 Tryz.underlying58 h hw
 match ds,hl with
 | [d0,d1],_=>
  obtain ⟨r0,w0⟩:=hf 0 _ d0 rfl rfl;obtain ⟨r1,w1⟩:=hf 1 _ d1 rfl rfl;obtain ⟨z,_,_,e0⟩:=bc9 Tryz.underlying3 r0;obtain ⟨l,k1,k2,e1⟩:=fo3 r1 w1;refine ⟨⟨z,l⟩,⟨k1,k2⟩,fun m hm=>?_⟩
  cases m with
  | zero=>omega
  | succ m=>
   simp only[dv,Tryz.underlying58,List.map_cons,List.map_nil,dvF,e0 m (by omega),e1 m (by omega),List.length_cons,List.length_nil,gd4,hq7,gl9,List.cons_append,List.nil_append,List.append_nil,Nat.reduceAdd,↓reduceIte];rfl
theorem gd6 {n:Nat}{d:DataW H}(h:Rd enc w base sp held n 22 d)(hw:WT Tryz.prog 22 d):∃ l:List ao8,l.length<2^62/\(∀ a∈l,ao8.Ok a)/\∀ m,n<=m->dv Tryz.prog m 22 d=some [.aa5 (l.map ao8.cs)]:=
 aw4 ao8.cs ao8.Ok Tryz.underlying22 gl9 (by decide) (by decide +kernel) (fun _=>rfl) (fun _ _ _ hr hw'=>gv6 hr hw') h hw
end Go.Id.Tryz
set_option linter.all false
namespace Go.Id
open Go Go.Id
mutual
def isz:IV->Nat
 | .str s=>s.length+1
 | .aa5 es=>cf6 es+1
 | _=>1
def az2:List IV->Nat
 | []=>0
 | c::cs=>isz c+az2 cs
def cf6:List (List IV)->Nat
 | []=>0
 | e::es=>az2 e+cf6 es
end
theorem ec2 (a b:List IV):az2 (a++b)=az2 a+az2 b:=by
 induction a with
 | nil=>simp[az2]
 | cons x a ih=>simp only[List.cons_append,az2,ih]; omega
theorem bn3 {α:Type}(f:α->List IV):∀ (l:List α),∀ a∈l,az2 (f a)<=cf6 (l.map f):=by
 intro l
 induction l with
 | nil=>intro a h; cases h
 | cons x l ih=>
  intro a h;simp only[List.map_cons,cf6];rcases List.mem_cons.1 h with rfl|h
  ·omega
  ·have:=ih a h; omega
theorem ap9 {α:Type}(f:α->List IV)(hf:∀ a,1<=az2 (f a)):∀ (l:List α),l.length<=cf6 (l.map f):=by
 intro l
 induction l with
 | nil=>simp
 | cons x l ih=>
  simp only[List.map_cons,cf6,List.length_cons];have:=hf x;omega
namespace Md
theorem Dep.szs (d:Dep):az2 d.cs=d.name.length+d.evr.ver.length+d.evr.rel.length+5:=by
 simp only[Dep.cs,az2,isz]; omega
theorem ab1.szs (r:ab1):az2 r.cs=r.dep.name.length+r.dep.evr.ver.length+r.dep.evr.rel.length+cf6 (r.args.map ab1.cs)+7:=by
 rw[ab1.bb1]; simp only[az2,isz]; omega
theorem aa3.szs (p:aa3):az2 p.cs=p.name.length+p.evr.ver.length+p.evr.rel.length+p.vendor.length+cf6 (p.provides.map Dep.cs)+cf6 (p.requires.map ab1.cs)+cf6 (p.conflicts.map ab1.cs)+cf6 (p.aa8.map Dep.cs)+cf6 (p.ac1.map ab1.cs)+cf6 (p.ab8.map ab1.cs)+cf6 (p.suggests.map ab1.cs)+cf6 (p.ad6.map ab1.cs)+cf6 (p.files.map bm3)+15:=by
 simp only[aa3.cs,az2,isz]; omega
theorem ao8.szs (r:ao8):az2 r.cs=cf6 (r.packages.map aa3.cs)+2:=by
 simp only[ao8.cs,az2,isz]; omega
theorem fb9 (r:ab1):r.count<=az2 r.cs:=by
 induction r using ab1.ind with
 | h k d xs ih=>
  rw[ab1.szs]
  have:∀ ys:List ab1,(∀ y∈ys,y∈xs)->ab1.counts ys<=cf6 (ys.map ab1.cs):=by
   intro ys
   induction ys with
   | nil=>intro _; simp[ab1.counts]
   | cons y ys ih2=>
    intro h;have h1:=ih y (h y (List.mem_cons_self ..));have h2:=ih2 fun z hz=>h z (List.mem_cons_of_mem _ hz)
    simp only[ab1.counts,List.map_cons,cf6];omega
  have:=this xs fun y h=>h
  simp only[ab1.count,ab1.args];omega
theorem gi7 (r:ab1):r.ok->az2 r.cs<2^31->r.fit:=by
 induction r using ab1.ind with
 | h k d xs ih=>
  intro ho hs;obtain ⟨a,b,c,e,f⟩:=ab1.gt6.1 ho;rw[ab1.szs] at hs;simp only[ab1.args] at hs;have hl:=ap9 ab1.cs (fun r=>by rw[ab1.szs]; omega) xs;refine ab1.cz7.2 ⟨a,b,c,by omega,fun r hr=>ih r hr (f r hr) ?_⟩;have:=bn3 ab1.cs xs r hr;omega
theorem fs9 {p:aa3}(h:p.Ok)(hs:az2 p.cs<2^31):p.Fit:=by
 rw[aa3.szs] at hs;have l1:=ap9 Dep.cs (fun r=>by rw[Dep.szs]; omega) p.provides;have l2:=ap9 Dep.cs (fun r=>by rw[Dep.szs]; omega) p.aa8;have l3:=ap9 bm3 (fun r=>by simp only[bm3,az2,isz]; omega) p.files
 have hr:∀ x∈p.rows,cf6 (x.2.map ab1.cs)<2^31:=by
  intro x hx;simp only[aa3.rows,List.mem_cons,List.not_mem_nil,or_false] at hx;rcases hx with rfl|rfl|rfl|rfl|rfl|rfl<;>simp only[]<;>omega
 exact {
  name:=h.name
  evr:=h.evr
  as2:=⟨by omega,h.as2.2⟩
  obs:=⟨by omega,h.obs.2⟩
  files:=⟨by omega,h.files.2⟩
  dx5:=fun x hx=>by
   have h1:=hr x hx;have h2:=ap9 ab1.cs (fun r=>by rw[ab1.szs]; omega) x.2;refine ⟨by omega,fun r hr'=>?_⟩;have h3:=bn3 ab1.cs x.2 r hr';have h4:=fb9 r;exact ⟨gi7 r ((h.dx5 x hx).2 r hr') (by omega),by omega⟩ }
theorem ft1 (repos:List ao8):ao1 repos<=cf6 (repos.map ao8.cs):=by
 induction repos with
 | nil=>simp[ao1]
 | cons r rs ih=>
  have h2:=ap9 aa3.cs (fun r=>by rw[aa3.szs]; omega) r.packages;have h3:=ao8.szs r;simp only[ao1,List.map_cons,List.sum_cons,cf6] at ih ⊢;omega
end Md
end Go.Id
set_option linter.all false
namespace Go.Id.Tryz
open Go Go.Id Go.Proofs Go.Id.Md
open Go.Proofs.YtphnnoolpagclaaGreatDoor
set_option maxRecDepth 100000
variable {H:Type} {enc:TypeId×Value->H} {w:World} {base:Nat} {sp:Nat->Bool} {held:Bool}
theorem gi4 (d:DataW H):1<=Rows.uptoBulk d:=by
 cases d with
 | lit l=>cases l<;>simp[Rows.uptoBulk]
 | _=>simp[Rows.uptoBulk]
theorem gi5 {r:DataW H->Option (List IV)}{c:Nat}(hr:∀ d cs,r d=some cs->az2 cs<=Rows.uptoBulk d):∀ (ds:List (DataW H)) es,dvS r c ds=some es->cf6 es<=Rows.uptoBulkAll ds:=by
 intro ds
 induction ds with
 | nil=>intro es h; cases h; simp[cf6]
 | cons d ds ih=>
  intro es h;simp only[dvS] at h;split at h
  ·rename_i a ha;split at h
   ·split at h
    ·rename_i b hb;cases h;have h1:=hr d a ha;have h2:=ih b hb;simp only[cf6,Rows.uptoBulkAll];omega
    ·cases h
   ·cases h
  ·cases h
theorem ek1 {r:TypeId->DataW H->Option (List IV)}{P:Program}(hr:∀ t d cs,r t d=some cs->az2 cs<=Rows.uptoBulk d):∀ (fs:List (TypeId×Nat)) (ds:List (DataW H)) (off:Nat) es,dvF r P fs ds off=some es->az2 es<=Rows.uptoBulkAll ds:=by
 intro fs
 induction fs with
 | nil=>
  intro ds off es h
  cases ds with
  | nil=>cases h; simp[az2]
  | cons d ds=>simp[dvF] at h
 | cons f fs ih=>
  intro ds off es h
  cases ds with
  | nil=>simp[dvF] at h
  | cons d ds=>
   simp only[dvF] at h;split at h
   ·split at h
    ·rename_i a ha;split at h
     ·split at h
      ·rename_i b hb;cases h;have h1:=hr _ d a ha;have h2:=ih ds _ b hb;simp only[ec2,Rows.uptoBulkAll];omega
      ·cases h
     ·cases h
    ·cases h
   ·cases h
theorem cd9 {P:Program}:∀ (m:Nat) (t:TypeId) (d:DataW H) cs,dv P m t d=some cs->az2 cs<=Rows.uptoBulk d:=by
 intro m
 induction m with
 | zero=>intro t d cs h; simp[dv] at h
 | succ m ih=>
  intro t d cs h;have h1:=gi4 d;simp only[dv] at h;split at h
  ·cases h; simpa [az2,isz] using h1
  ·cases h; simpa [az2,isz] using h1
  ·cases h; simp[az2,isz,Rows.uptoBulk]
  ·cases h; simpa [az2,isz] using h1
  ·split at h
   ·cases h; simpa [az2,isz] using h1
   ·cases h
  ·cases h; simpa [az2,isz,cf6] using h1
  ·split at h
   ·cases h
   ·split at h
    ·rename_i es he;cases h;have:=gi5 (ih _) _ _ he;simp only[az2,isz,Rows.uptoBulk];omega
    ·cases h
  ·split at h
   ·rename_i ivs he;split at h
    ·cases h;have:=ek1 (fun t d cs=>ih t d cs) _ _ _ _ he;simp only[Rows.uptoBulk];omega
    ·cases h
   ·cases h
  ·split at h
   ·rename_i ivs he;split at h
    ·cases h;have:=ek1 (fun t d cs=>ih t d cs) _ _ _ _ he;simp only[Rows.uptoBulk];omega
    ·cases h
   ·cases h
  ·split at h
   ·split at h
    ·cases h; simpa [az2,isz] using h1
    ·cases h
   ·cases h
  ·cases h
theorem ii6 {repos:List ao8}{inst:List aa3}(h1:∀ r∈repos,ao8.Ok r)(h2:∀ p∈inst,p.Ok)(b1:az2 [IV.aa5 (repos.map ao8.cs)]<=1048576)(b2:az2 [IV.aa5 (inst.map aa3.cs)]<=1048576):hz6 repos inst:=by
 simp only[az2,isz] at b1 b2;have l1:=ap9 ao8.cs (fun r=>by rw[ao8.szs]; omega) repos;have l2:=ap9 aa3.cs (fun r=>by rw[aa3.szs]; omega) inst;have l3:=ft1 repos;refine ⟨by omega,by omega,by omega,fun r hr=>?_,fun p hp=>?_,h1,h2⟩
 ·have m1:=bn3 ao8.cs repos r hr;rw[ao8.szs] at m1;have l4:=ap9 aa3.cs (fun r=>by rw[aa3.szs]; omega) r.packages;refine ⟨by omega,fun p hp=>fs9 ((h1 r hr).2 p hp) ?_⟩;have:=bn3 aa3.cs r.packages p hp;omega
 ·have:=bn3 aa3.cs inst p hp;exact fs9 (h2 p hp) (by omega)
variable {H:Type} {enc:TypeId×Value->H} {w:World} {base:Nat} {sp:Nat->Bool} {held:Bool}
theorem gx7 {n:Nat}{t:TypeId}{d:DataW H}(hu:Tryz.prog.underlying t=some .bool)(h:Rd enc w base sp held n t d):∃ b,d=.lit (.bool b)/\∀ m,n<=m->dv Tryz.prog m t d=some [.bool b]:=by
 obtain ⟨cs,ps,h⟩:=h;have hn:n≠0:=fun e=>by subst e; simp[DataW.trod] at h
 obtain ⟨b,rfl,hx⟩:=DataW.trod_bool hu h;cases hx;refine ⟨b,rfl,fun m hm=>?_⟩
 cases m with
 | zero=>omega
 | succ m=>simp only[dv,hu]
theorem hu4:Tryz.prog.cellsOf 72=6:=by kernel_rfl
theorem gn2:Tryz.prog.cellsOf 77=2:=by kernel_rfl
theorem ii7:Tryz.prog.cellsOf 27=5:=by kernel_rfl
theorem hu5:Tryz.prog.cellsOf 4=1:=by kernel_rfl
theorem hu6:Tryz.prog.cellsOf 24=1:=by kernel_rfl
theorem gx8:Tryz.prog.cellsOf 25=1:=by kernel_rfl
theorem gx9 {n:Nat}{d:DataW H}(h:Rd enc w base sp held n 70 d)(hw:WT Tryz.prog 70 d):∃ e:Dep,(0<=e.op/\e.op<256)/\∀ m,n<=m->dv Tryz.prog m 70 d=some e.cs:=by
 obtain ⟨n',ds,rfl,rfl,hl,hf⟩:=ar5 Tryz.underlying70 h hw
 match ds,hl with
 | [d0,d1,d2],_=>
  obtain ⟨r0,w0⟩:=hf 0 _ d0 rfl rfl;obtain ⟨r1,w1⟩:=hf 1 _ d1 rfl rfl;obtain ⟨r2,w2⟩:=hf 2 _ d2 rfl rfl;obtain ⟨s0,l0,e0⟩:=cl3 Tryz.underlying9 r0 w0;obtain ⟨z,_,hz,e1⟩:=bc9 Tryz.underlying5 r1;obtain ⟨e,l2,e2⟩:=fn8 r2 w2;refine ⟨⟨s0,z,e⟩,hp5 hz,fun m hm=>?_⟩
  cases m with
  | zero=>omega
  | succ m=>
   simp only[dv,Tryz.underlying70,List.map_cons,List.map_nil,dvF,e0 m (by omega),e1 m (by omega),e2 m (by omega),EVR.cs,List.length_cons,List.length_nil,gd5,gv2,gv3,fn9,List.cons_append,List.nil_append,List.append_nil,Nat.reduceAdd,↓reduceIte];rfl
theorem hu7 {n:Nat}{d:DataW H}(h:Rd enc w base sp held n 72 d)(hw:WT Tryz.prog 72 d):∃ j:Job,(0<=j.dep.op/\j.dep.op<256)/\∀ m,n<=m->dv Tryz.prog m 72 d=some j.cs:=by
 obtain ⟨n',ds,rfl,rfl,hl,hf⟩:=ar5 Tryz.underlying72 h hw
 match ds,hl with
 | [d0,d1],_=>
  obtain ⟨r0,w0⟩:=hf 0 _ d0 rfl rfl;obtain ⟨r1,w1⟩:=hf 1 _ d1 rfl rfl;obtain ⟨z,_,hz,e0⟩:=bc9 Tryz.underlying5 r0;obtain ⟨e,l1,e1⟩:=gx9 r1 w1;refine ⟨⟨z,e⟩,l1,fun m hm=>?_⟩
  cases m with
  | zero=>omega
  | succ m=>
   simp only[dv,Tryz.underlying72,List.map_cons,List.map_nil,dvF,e0 m (by omega),e1 m (by omega),Dep.cs,List.length_cons,List.length_nil,gv2,fn9,hu4,List.cons_append,List.nil_append,List.append_nil,Nat.reduceAdd,↓reduceIte];rfl
theorem gy1 {n:Nat}{d:DataW H}(h:Rd enc w base sp held n 77 d)(hw:WT Tryz.prog 77 d):∃ e:at5,True/\∀ m,n<=m->dv Tryz.prog m 77 d=some e.cs:=by
 obtain ⟨n',ds,rfl,rfl,hl,hf⟩:=ar5 Tryz.underlying77 h hw
 match ds,hl with
 | [d0,d1],_=>
  obtain ⟨r0,w0⟩:=hf 0 _ d0 rfl rfl;obtain ⟨r1,w1⟩:=hf 1 _ d1 rfl rfl;obtain ⟨z,_,hz,e0⟩:=bc9 Tryz.underlying5 r0;obtain ⟨y,_,hy,e1⟩:=bc9 Tryz.underlying3 r1;refine ⟨⟨z,y⟩,trivial,fun m hm=>?_⟩
  cases m with
  | zero=>omega
  | succ m=>
   simp only[dv,Tryz.underlying77,List.map_cons,List.map_nil,dvF,e0 m (by omega),e1 m (by omega),List.length_cons,List.length_nil,gv2,gd4,gn2,List.cons_append,List.nil_append,List.append_nil,Nat.reduceAdd,↓reduceIte];rfl
theorem gy2 {n:Nat}{d:DataW H}(h:Rd enc w base sp held n 24 d)(hw:WT Tryz.prog 24 d):∃ l:List Job,l.length<2^62/\(∀ j∈l,0<=j.dep.op/\j.dep.op<256)/\∀ m,n<=m->dv Tryz.prog m 24 d=some [av1 l]:=
 aw4 Job.cs (fun j=>0<=j.dep.op/\j.dep.op<256) Tryz.underlying24 hu4 (by decide) (by decide +kernel) (fun _=>rfl) (fun _ _ _ hr hw'=>hu7 hr hw') h hw
theorem gi6 {n:Nat}{d:DataW H}(h:Rd enc w base sp held n 25 d)(hw:WT Tryz.prog 25 d):∃ l:List at5,l.length<2^62/\(∀ j∈l,True)/\∀ m,n<=m->dv Tryz.prog m 25 d=some [am1 l]:=
 aw4 at5.cs (fun _=>True) Tryz.underlying25 gn2 (by decide) (by decide +kernel) (fun _=>rfl) (fun _ _ _ hr hw'=>gy1 hr hw') h hw
theorem gy3 {n:Nat}{d:DataW H}(h:Rd enc w base sp held n 28 d)(hw:WT Tryz.prog 28 d):∃ l:List Int,l.length<2^62/\(∀ j∈l,True)/\∀ m,n<=m->dv Tryz.prog m 28 d=some [.aa5 (l.map Md.af2)]:=
 aw4 Md.af2 (fun _=>True) Tryz.underlying28 gd4 (by decide) (by decide +kernel) (fun _=>rfl) (fun _ _ _ hr hw'=>by
  obtain ⟨z,_,_,e⟩:=bc9 Tryz.underlying3 hr;exact ⟨z,trivial,e⟩) h hw
theorem gn3 {n:Nat}{d:DataW H}(h:Rd enc w base sp held n 3 d)(hw:WT Tryz.prog 3 d):∃ z:Int,∀ m,n<=m->dv Tryz.prog m 3 d=some [.int .i64 z]:=by
 obtain ⟨z,_,_,e⟩:=bc9 Tryz.underlying3 h;exact ⟨z,e⟩
theorem hu8 {n:Nat}{d:DataW H}(h:Rd enc w base sp held n 27 d)(hw:WT Tryz.prog 27 d):∃ r:Req,(∀ j∈r.af3,0<=j.dep.op/\j.dep.op<256)/\∀ m,n<=m->dv Tryz.prog m 27 d=some r.cs:=by
 obtain ⟨n',ds,rfl,rfl,hl,hf⟩:=ar5 Tryz.underlying27 h hw
 match ds,hl with
 | [d0,d1,d2,d3,d4],_=>
  obtain ⟨r0,w0⟩:=hf 0 _ d0 rfl rfl;obtain ⟨r1,w1⟩:=hf 1 _ d1 rfl rfl;obtain ⟨r2,w2⟩:=hf 2 _ d2 rfl rfl;obtain ⟨r3,w3⟩:=hf 3 _ d3 rfl rfl;obtain ⟨r4,w4⟩:=hf 4 _ d4 rfl rfl;obtain ⟨x0,_,_,e0⟩:=bc9 Tryz.underlying5 r0;obtain ⟨x1,_,e1⟩:=gx7 Tryz.underlying4 r1;obtain ⟨x2,_,k2,e2⟩:=gy2 r2 w2;obtain ⟨x3,_,_,e3⟩:=gi6 r3 w3;obtain ⟨x4,_,_,e4⟩:=bc9 Tryz.underlying3 r4;refine ⟨⟨x0,x1,x2,x3,x4⟩,k2,fun m hm=>?_⟩
  cases m with
  | zero=>omega
  | succ m=>
   simp only[dv,Tryz.underlying27,List.map_cons,List.map_nil,dvF,e0 m (by omega),e1 m (by omega),e2 m (by omega),e3 m (by omega),e4 m (by omega),List.length_cons,List.length_nil,gv2,hu5,hu6,gx8,gd4,ii7,List.cons_append,List.nil_append,List.append_nil,Nat.reduceAdd,↓reduceIte];rfl
theorem hu9 {r:Req}(h:∀ j∈r.af3,0<=j.dep.op/\j.dep.op<256)(b:az2 r.cs<=1048576):fs6 r:=by
 have hs:∀ j:Job,az2 j.cs=j.dep.name.length+j.dep.evr.ver.length+j.dep.evr.rel.length+6:=fun j=>by
  simp only[Job.cs,az2,isz]; omega
 have he:∀ e:at5,1<=az2 e.cs:=fun e=>by simp only[at5.cs,az2,isz]; omega
 simp only[Req.cs,az2,isz] at b;have l1:=ap9 Job.cs (fun j=>by rw[hs]; omega) r.af3;have l2:=ap9 at5.cs he r.ae1;refine ⟨by omega,by omega,fun j hj=>?_⟩;have l3:=bn3 Job.cs r.af3 j hj;rw[hs] at l3;exact ⟨⟨(h j hj).1,(h j hj).2,by omega,by omega⟩,by omega⟩
theorem gy4 {l:List Int}(b:az2 [IV.aa5 (l.map Md.af2)]<=1048576):l.length<2^30:=by
 simp only[az2,isz] at b;have:=ap9 Md.af2 (fun z=>by simp only[Md.af2,az2,isz]; omega) l;omega
end Go.Id.Tryz
