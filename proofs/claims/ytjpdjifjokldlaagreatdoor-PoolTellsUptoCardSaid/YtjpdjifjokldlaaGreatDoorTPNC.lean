/- The keys of a map,told in any order. Conditions: none. -/
import Derived.Test.YtjpdjifjokldlaaGreatDoorTPPB
import Derived.Test.YtjpdjifjokldlaaGreatDoorTp
import Derived.Test.YtjpdjifjokldlaaGreatDoorFwZb
import Derived.Test.YtjpdjifjokldlaaGreatDoorMv
set_option linter.all false
namespace Go.Id.Tryz
open Go Go.Id Go.Proofs Go.Id.Md
set_option maxRecDepth 100000
theorem go2 {S S':Nat->Prop}{o:ak2}(h:NmO S o)(hS:∀ i,S i->S' i):NmO S' o:=by
 cases o with
 | cells cs=>exact fun c hc=>(h c hc).weak hS
 | row cs=>exact fun c hc=>(h c hc).weak hS
 | map es=>exact ⟨fun e he=>(h.1 e he).weak hS,fun e he=>(h.2 e he).weak hS⟩
 | as1 s pos=>trivial
 | loop N tmps params assign body st pend=>exact fun t=>(h t).weak hS
 | aj5 left cur=>exact ⟨fun e he=>(h.1 e he).weak hS,fun e he=>(h.2.1 e he).weak hS,fun c hc=>⟨(h.2.2 c hc).1.weak hS,(h.2.2 c hc).2.weak hS⟩⟩
theorem fx3 (es:List (IV×IV))(hes:∀ e∈es,Bnd 0 e.1):cm4 Tryz.prog EE (.func (.func 48) [] [.ad4 [.am4 es]]) (es.map fun e=>[e.1]) (fun _=>True):=by
 intro yid I S σ hperm hown hstab hy hi;refine ⟨fok48.1,jh8 fun hwf hwa=>?_⟩
 have hyid:yid<σ.next:=by
  have:=hwa (.yield yid) (List.mem_cons_self ..);cases this; assumption
 refine ih4 fok48 (nZ rfl) ?_;simp only[ic48];refine aw6 (ax9 ?_);simp only[go_sem]
 have hw0:∀ j o,j≠σ.next->((Store.put ⟨σ.next+1,σ.obj⟩ σ.next (ak2.aj5 es none)).obj j=some o)->NmO (fun i=>decide (i≠σ.next)=true) o:=by
  intro j o hj ho;simp only[aa5,if_neg hj] at ho;exact go2 (hwf j o ho) fun i hlt=>by simp; omega
 refine ce6 (gn8 (fun i fr t=>∃ left c,left.length+i=es.length/\(∀ e∈left,e∈es)/\(fr=[(0,.yield yid),(5,.ptr σ.next 0)]\/fr=[(0,.yield yid),(5,.ptr σ.next 0),(13,.bool false)])/\t.obj σ.next=some (.aj5 left c)/\σ.next<t.next/\I (left.map fun e=>[e.1]) (t.only fun i=>decide (i≠σ.next)) /\
  ∀ j o,j≠σ.next->t.obj j=some o->NmO (fun i=>decide (i≠σ.next)=true) o) es.length ?_ ?_)
 ·refine ⟨es,none,rfl,fun _ h=>h,.inl rfl,by simp only[aa5,if_true],Nat.lt_succ_self _,?_,hw0⟩;refine hstab _ σ _ hi (Nat.le_succ _) fun i hlt=>?_
  have e:i≠σ.next:=by omega
  simp[Store.only,e,aa5]
 rintro i fr t hle ⟨left,c,hlen,hin,rfl|rfl,hob,hnx,hI,hnm⟩
 all_goals
  refine aw6 (ax9 ?_);simp only[go_sem,ix6 hob];refine ⟨fun hnil=>?_,fun j hj=>?_⟩
  ·subst hnil;refine aw6 (dd7 (b:=false) rfl ?_);refine gt6 (S:=fun i=>decide (i≠σ.next)) (fun _=>.inl rfl) (ax9 ?_);simp only[go_sem];exact ⟨by show σ.next<=t.next; omega,.inl hI⟩
  ·have hx:left.getD j (.undef,.undef)=left[j]:=by simp[List.getD_eq_getElem?_getD,hj]
   rw[hx];have hmem:=List.getElem_mem hj;have hI2:I ([left[j].1]::(left.eraseIdx j).map fun e=>[e.1]) (t.only fun i=>decide (i≠σ.next)):=hperm _ _ _ ((cz6 left j hj).map fun e=>[e.1]) hI;have hel:(left.eraseIdx j).length+(i+1)=es.length:=by rw[List.length_eraseIdx,if_pos hj]; omega
   have hein:∀ e∈left.eraseIdx j,e∈es:=fun e he=>hin e (List.mem_of_mem_eraseIdx he)
   have hbx:Bnd 0 left[j].1:=hes _ (hin _ hmem);generalize left[j]=x at *;generalize left.eraseIdx j=l2 at *;refine aw6 (ax9 ?_);simp only[go_sem];refine ce6 (aw6 (ax9 ?_));have hme:∀ m,be1 ⟨m,(t.put σ.next (.aj5 l2 (some x))).obj⟩ (.ptr σ.next 0)=some (.tuple [x.1,x.2]):=fun m=>im1 (s:=⟨m,(t.put σ.next (.aj5 l2 (some x))).obj⟩) (l:=l2) (by simp only[aa5,if_true])
   simp only[go_sem,hme,im1 (s:=t.put σ.next (.aj5 l2 (some x))) (id:=σ.next) (l:=l2) (c:=x) (by simp only[aa5,if_true])];refine aw6 (ax9 ?_);simp only[go_sem]
   have hyx:CV Tryz.prog EE (.yield yid) [x.1] (Store.only ⟨t.next,(t.put σ.next (.aj5 l2 (some x))).obj⟩ fun i=>decide (i≠σ.next)) fun v s=>t.next<=s.next/\((v=.bool true/\I (l2.map fun e=>[e.1]) s)\/(v=.bool false/\S s)):=by
    refine hy [x.1] (l2.map fun e=>[e.1]) (Store.only ⟨t.next,(t.put σ.next (.aj5 l2 (some x))).obj⟩ fun i=>decide (i≠σ.next)) (hstab _ (t.only fun i=>decide (i≠σ.next)) _ hI2 (Nat.le_refl _) fun k _=>?_);show (if _ then (t.put σ.next _).obj k else none)=if _ then t.obj k else none
    by_cases hk:k=σ.next
    ·simp[hk]
    ·simp only[aa5,if_neg hk]
   have hsome:((t.put σ.next (.aj5 l2 (some x))).obj yid).isSome=true:=by
    have h:=hyx.1;have e:yid≠σ.next:=by omega
    simpa [Store.only,e] using h
   have hfr:=fx8 (σ:=⟨t.next,(t.put σ.next (.aj5 l2 (some x))).obj⟩) (by simp; omega) (fun i hi=>by
    have hi:t.next<=i:=hi;simp; omega) (fun a ha=>by
    simp only[List.mem_cons,List.not_mem_nil,or_false] at ha;subst ha;exact hbx.weak fun i h=>absurd h (Nat.not_lt_zero _)) (fun k o hk ho=>by
    have hk':k≠σ.next:=by simpa using hk
    simp only[aa5,if_neg hk'] at ho;exact hnm k o hk' ho) hE (by rintro v s ⟨h,_⟩; exact h) hyx.2
   refine ⟨_,⟨hsome,hfr⟩,?_⟩;rintro v s ⟨σ',⟨hn',hcase⟩,rfl,hnv,hob',hnone⟩;have hn':t.next<=σ'.next:=hn';refine ⟨hn',?_⟩
   have hback:∀ u:Store,(⟨σ'.next,fun i=>if decide (i≠σ.next)=true then (σ'.back u fun i=>decide (i≠σ.next)).obj i else none⟩:Store)=σ':=by
    intro u
    cases σ' with
    | mk nx ob=>
     congr 1;funext k;by_cases hk:k=σ.next
     ·have:=hnone k (by simp[hk]);simp[hk] at this ⊢;exact this.symm
     ·simp[Store.back,hk]
   rcases hcase with ⟨rfl,hI'⟩|⟨rfl,hS'⟩
   ·simp only[go_sem];refine ax9 ?_;simp only[go_sem];refine ⟨by omega,l2,some x,hel,hein,.inr trivial,by simp[Store.back,aa5],by show σ.next<σ'.next; omega,?_,fun k o hk ho=>?_⟩
    ·exact cast (congrArg (I _) (hback ⟨t.next,(t.put σ.next (.aj5 l2 (some x))).obj⟩).symm) hI'
    ·refine hob' k o (by simpa using hk) ?_
     simpa [Store.back,hk] using ho
   ·simp only[go_sem];refine dd7 (b:=true) rfl ?_;refine gt6 (S:=fun i=>decide (i≠σ.next)) (fun _=>.inl rfl) (ax9 ?_);simp only[go_sem];refine ⟨by show σ.next<=σ'.next; omega,.inr ?_⟩;exact cast (congrArg S (hback ⟨t.next,(t.put σ.next (.aj5 l2 (some x))).obj⟩).symm) hS'
open Go Go.Id Go.Proofs Go.Shelf
def jh5:Go.Shelf.Ren where
 f:=fun n=>(List.lookup n [(0,0),(1,1),(2,2),(99,83),(119,165),(122,137),(125,76),(128,111),(129,112),(137,82),(151,162),(152,164),(161,154),(190,47),(197,161),(206,118),(215,144),(217,117),(224,166),(225,167),(227,157),(228,160),(231,156),(233,158),(235,159),(258,75),(260,163),(266,133),(302,102),(303,103),(304,104),(305,105),(306,106),(307,107),(308,108),(309,109),(310,110),(329,125),(330,126),(333,124),(334,127),(335,128),(336,129),(344,134),(347,168),(348,169),(349,170),(350,171),(351,172),(352,173),(353,174),(354,175),(355,176),(356,177),(357,178),(358,179),(359,180),(360,181),(361,182),(366,184),(367,191)]).getD 0
 t:=fun n=>(List.lookup n [(0,0),(1,1),(2,2),(3,3),(4,4),(5,5),(7,7),(8,8),(9,9),(10,10),(11,11),(12,12),(13,13),(14,14),(15,15),(16,16),(17,17),(18,18),(20,20),(21,21),(22,116),(23,181),(27,155),(28,34),(31,40),(34,37),(40,197),(41,106),(43,161),(46,110),(47,109),(51,138),(52,137),(53,140),(54,139),(55,114),(63,191),(64,192),(80,198),(81,33),(100,84),(101,39),(102,91),(104,78),(105,189),(106,190),(111,51),(112,42),(114,53),(115,183),(116,184),(117,185),(118,186),(119,193),(122,182),(123,187),(124,188),(127,207),(131,76),(135,108),(137,194),(139,196),(164,212),(182,131),(183,132),(188,130),(189,133),(190,134),(191,135),(192,136),(214,174),(218,148),(219,149),(220,150),(222,152),(224,151),(225,153),(228,157),(229,158),(231,159),(238,199),(239,200),(240,201),(241,202),(242,203),(245,206),(248,210)]).getD 0
 g:=fun n=>n
theorem hp5:Lays.n190 Tryz.prog jh5 where
 mixed:=by kernel_rfl
 f125:=Tryz.func76.trans (congrArg some (by kernel_rfl))
 f128:=Tryz.func111.trans (congrArg some (by kernel_rfl))
 f129:=Tryz.func112.trans (congrArg some (by kernel_rfl))
 f190:=Tryz.func47.trans (congrArg some (by kernel_rfl))
 f258:=Tryz.func75.trans (congrArg some (by kernel_rfl))
 f302:=Tryz.func102.trans (congrArg some (by kernel_rfl))
 f303:=Tryz.func103.trans (congrArg some (by kernel_rfl))
 f304:=Tryz.func104.trans (congrArg some (by kernel_rfl))
 f305:=Tryz.func105.trans (congrArg some (by kernel_rfl))
 f306:=Tryz.func106.trans (congrArg some (by kernel_rfl))
 f307:=Tryz.func107.trans (congrArg some (by kernel_rfl))
 f308:=Tryz.func108.trans (congrArg some (by kernel_rfl))
 f309:=Tryz.func109.trans (congrArg some (by kernel_rfl))
 f310:=Tryz.func110.trans (congrArg some (by kernel_rfl))
 f329:=Tryz.func125.trans (congrArg some (by kernel_rfl))
 f330:=Tryz.func126.trans (congrArg some (by kernel_rfl))
 f333:=Tryz.func124.trans (congrArg some (by kernel_rfl))
 f334:=Tryz.func127.trans (congrArg some (by kernel_rfl))
 f335:=Tryz.func128.trans (congrArg some (by kernel_rfl))
 f336:=Tryz.func129.trans (congrArg some (by kernel_rfl))
 f344:=Tryz.func134.trans (congrArg some (by kernel_rfl))
 t0:=by kernel_rfl
 a0:=Tryz.isAgg0
 z0:=fun _=>by kernel_rfl
 v0:=fun _=>by kernel_rfl
 t3:=by kernel_rfl
 a3:=Tryz.isAgg3
 z3:=fun _=>by kernel_rfl
 v3:=fun _=>by kernel_rfl
 t4:=by kernel_rfl
 a4:=Tryz.isAgg4
 z4:=fun _=>by kernel_rfl
 v4:=fun _=>by kernel_rfl
 t5:=by kernel_rfl
 a5:=Tryz.isAgg5
 z5:=fun _=>by kernel_rfl
 v5:=fun _=>by kernel_rfl
 t9:=by kernel_rfl
 a9:=Tryz.isAgg9
 z9:=fun _=>by kernel_rfl
 v9:=fun _=>by kernel_rfl
 t31:=by kernel_rfl
 a31:=Tryz.isAgg40
 z31:=fun _=>by kernel_rfl
 v31:=fun _=>by kernel_rfl
 t46:=by kernel_rfl
 a46:=Tryz.isAgg110
 z46:=fun _=>by kernel_rfl
 v46:=fun _=>by kernel_rfl
 t51:=by kernel_rfl
 a51:=Tryz.isAgg138
 z51:=fun _=>by kernel_rfl
 v51:=fun _=>by kernel_rfl
 t53:=by kernel_rfl
 a53:=Tryz.isAgg140
 z53:=fun _=>by kernel_rfl
 v53:=fun _=>by kernel_rfl
 t131:=by kernel_rfl
 a131:=Tryz.isAgg76
 z131:=fun _=>by kernel_rfl
 v131:=fun _=>by kernel_rfl
 t182:=by kernel_rfl
 a182:=Tryz.isAgg131
 z182:=fun _=>by kernel_rfl
 v182:=fun _=>by kernel_rfl
 t183:=by kernel_rfl
 a183:=Tryz.isAgg132
 z183:=fun _=>by kernel_rfl
 v183:=fun _=>by kernel_rfl
 t218:=by kernel_rfl
 a218:=Tryz.isAgg148
 z218:=fun _=>by kernel_rfl
 v218:=fun _=>by kernel_rfl
 t222:=by kernel_rfl
 a222:=Tryz.isAgg152
 z222:=fun _=>by kernel_rfl
 v222:=fun _=>by kernel_rfl
 t228:=by kernel_rfl
 a228:=Tryz.isAgg157
 z228:=fun _=>by kernel_rfl
 v228:=fun _=>by kernel_rfl
 t229:=by kernel_rfl
 a229:=Tryz.isAgg158
 z229:=fun _=>by kernel_rfl
 v229:=fun _=>by kernel_rfl
def fy6 (l:List (List UInt8)):List (List UInt8):=l.mergeSort fun x y=>decide (x<=y)
theorem fc1 {σ:Store}{id:Nat}{zs:List (List UInt8)}(hz:zs.length<4611686018427387904)(ho:σ.obj id=some (.row (zs.map IV.str))) :
  C Tryz.prog EE 47 [.slice id 0 zs.length 1] σ fun v s=>v=.tuple []/\s=σ.put id (.row ((fy6 zs).map IV.str)):=
 hb8 (enc:=encStr) (en:=IV.str) (srt:=fy6) (fun _ _ x=>.str _) (fun _ _ x r h=>by cases h; rfl) (fun l=>List.length_mergeSort l) (by unfold fy6; rw[List.mergeSort_nil])
  (fun blk off cap zs w h1 h2 h3=>Any.slices_Sort_string hp5 blk off cap zs w h1 h2 h3) (fun p cap w=>Any.slices_Sort_string_none hp5 p cap w) hz ho
open Go Go.Id Go.Proofs Go.Shelf Go.Id.Md
theorem fx4 (l:List Str):∀ x∈l.map ap8,x.length=1/\x.all IV.leaf=true:=by
 intro x hx;obtain ⟨s,_,rfl⟩:=List.mem_map.1 hx;exact ⟨rfl,rfl⟩
def evK (k:Str):List IV:=[.str k]
def kEv:List IV->Str
 | [.str k]=>k
 | _=>[]
theorem hp9 {rs:List Str}{r':List (List IV)}(h:(rs.map evK).Perm r'):∃ rs':List Str,r'=rs'.map evK/\rs.Perm rs':=by
 have e1:∀ l:List Str,(l.map evK).map kEv=l:=fun l=>by
  rw[List.map_map]; exact (List.map_congr_left fun _ _=>rfl).trans (List.map_id l)
 have e2:r'=(r'.map kEv).map evK:=by
  have h2:∀ e∈r',evK (kEv e)=e:=fun e he=>by
   obtain ⟨k,_,rfl⟩:=List.mem_map.1 (h.mem_iff.2 he);rfl
  rw[List.map_map];exact ((List.map_congr_left fun e he=>h2 e he).trans (List.map_id r')).symm
 have h3:=h.map kEv;rw[e1] at h3;exact ⟨r'.map kEv,e2,h3⟩
theorem go3 (ks:List Str)(fv:IV)(hT:cm4 Tryz.prog EE fv (ks.map evK) (fun _=>True))(hn:ks.length<2^30)(σ:Store) :
  C Tryz.prog EE 74 [.aa1,fv] σ fun v t=>∃ zs:List Str,zs.Perm ks/\σ.next<=t.next/\Grow t v 1 (zs.map ap8):=by
 refine C_f fok74 (nZ rfl) ?_;simp only[ic74,go_sem];refine go7 hT (fun rest t=>∃ (zs rs:List Str) (v:IV),rest=rs.map evK/\(zs++rs).Perm ks/\t.obj σ.next=some (.cells [v])/\σ.next+1<t.next/\Grow t v 1 (zs.map ap8)/\∀ id k,v=.slice id 0 k 1->σ.next+1<id) ?_ (fun _ _ _=>trivial) ?_ ?_ ?_ ?_ ?_
 ·rintro r r' s hp ⟨zs,rs,v,rfl,h2,h3⟩;obtain ⟨rs',e,hp'⟩:=hp9 hp;exact ⟨zs,rs',v,e,(hp'.symm.append_left zs).trans h2,h3⟩
 ·rintro rest t t' ⟨zs,rs,v,h1,h2,h3,h4,h5,h6⟩ hn ho;exact ⟨zs,rs,v,h1,h2,by rw[ho _ (by omega)]; exact h3,by omega,h5.mono hn fun id _ hid=>ho id hid,h6⟩
 ·intro a ha;obtain ⟨p,_,rfl⟩:=List.mem_map.1 ha;rfl
 ·intro o;have e0:¬ σ.next=σ.next+1:=by omega
  refine ⟨[],ks,.aa1,rfl,List.Perm.refl _,?_,by show σ.next+1<σ.next+1+1; omega,.inl ⟨rfl,rfl⟩,fun id k h=>by cases h⟩;simp only[aa5,ab4,e0,if_false,if_true]
 ·rintro L pre a rest t hev ⟨zs,rs,v,h1,h2,h3,h4,h5,h6⟩ hL hlt
  cases rs with
  | nil=>cases h1
  | cons k rs=>
  rw[List.map_cons] at h1;obtain ⟨ha,hrest⟩:=List.cons.inj h1;subst ha;simp only[evK,ab4] at hL hlt ⊢;have e1:¬ σ.next+1=t.next:=by omega
  have e2:¬ σ.next=t.next:=by omega
  have e3:¬ σ.next=σ.next+1:=by omega
  simp only[go_sem,hL,e1,e2,e3,h3];generalize hU:t.put (σ.next+1) (L .busy none)=U
  have hUo:∀ i,i≠σ.next+1->U.obj i=t.obj i:=fun i hne=>by
   rw[<- hU]; simp only[aa5,hne,if_false]
  have hUL:U.obj (σ.next+1)=some (L .busy none):=by rw[<- hU]; simp only[aa5,if_true]
  have hg:Grow ⟨t.next+1,U.obj⟩ v 1 (zs.map ap8):=by
   refine h5.mono (by show t.next<=t.next+1; omega) fun id hv hid=>?_
   have:=h6 _ _ hv;exact hUo id (by omega)
  have hzl:zs.length<2^30:=by have:=h2.length_eq; rw[List.length_append] at this; omega
  have hap:=al1 (nid:=t.next) (e:=[IV.str k]) hg (fx4 _) ⟨rfl,rfl⟩ (by rw[List.length_map]; omega);have k1:=ah6 hg σ.next (.cells [v]) (by show U.obj _=_; rw[hUo _ e3]; exact h3) (fun _ h=>by cases h)
  have k2:(ai3 v ⟨t.next+1,U.obj⟩).obj (σ.next+1)=some (L .busy none):=by
   cases hv:v<;>try exact hUL
   rename_i id o n' e;show (if σ.next+1=id then none else U.obj _)=_;rcases h5 with ⟨h,_⟩|⟨id',h,_,_⟩
   ·rw[h] at hv; cases hv
   ·rw[hv] at h; cases h;have:=h6 _ _ hv;rw[if_neg (by omega)]; exact hUL
  have kn:=ae1 (σ:=⟨t.next+1,U.obj⟩) v;rw[List.length_map] at hap;have e6:¬ σ.next=t.next:=by omega
  have e7:¬ σ.next+1=t.next:=by omega
  have e8:¬ σ.next+1=σ.next:=by omega
  simp only[go_sem,hap,e6,k1,e7,e8,k2];refine dl4 (by rw[ab4,ab4,ab4,kn]; show t.next<=t.next+1; omega) (by simp only[aa5,if_true]) ?_;refine ⟨zs++[k],rs,.slice t.next 0 (zs.length+1) 1,hrest,by rw[List.append_assoc]; exact h2,?_,?_,?_,fun id k h=>?_⟩
  ·simp only[aa5,e3,if_false,if_true]
  ·simp only[ab4,kn]; omega
  ·rw[List.map_append];refine .inr ⟨t.next,by simp,?_,by simp only[ab4,kn]; omega⟩;have g1:¬ t.next=σ.next+1:=by omega
   have g2:¬ t.next=σ.next:=by omega
   simp only[aa5,g1,g2,if_false,if_true]; rfl
  ·cases h; omega
 ·rintro t o ⟨zs,rs,v,h1,h2,h3,h4,h5,h6⟩ hlt ho
  cases rs with
  | cons k rs=>cases h1
  | nil=>
  rw[List.append_nil] at h2;have e3:¬ σ.next=σ.next+1:=by omega
  simp only[ab4] at hlt ho ⊢;simp only[go_sem,e3,h3];refine ⟨zs,h2,by omega,h5.mono (Nat.le_refl _) fun id hv hid=>?_⟩;have:=h6 _ _ hv;have g1:¬ id=σ.next+1:=by omega
  show (if id=σ.next+1 then none else t.obj id)=_;rw[if_neg g1]
theorem fx5 (ks:List Str)(fv:IV)(hT:cm4 Tryz.prog EE fv (ks.map evK) (fun _=>True))(hn:ks.length<2^30)(σ:Store) :
  C Tryz.prog EE 46 [fv] σ fun v t=>∃ zs:List Str,zs.Perm ks/\σ.next<=t.next/\Grow t v 1 (zs.map ap8):=by
 refine C_f fok46 (nZ rfl) ?_;simp only[ic46,go_sem];refine am1 fok74 (go3 ks fv hT hn _) ?_;rintro v t ⟨zs,h1,h2,h3⟩;have h2:σ.next<=t.next:=Nat.le_trans (by first|exact Nat.le_refl _|exact Nat.le_succ _) h2;refine ⟨by omega,?_⟩;simp only[go_sem];exact ⟨zs,h1,h2,h3⟩
theorem fc2 {σ:Store}:C Tryz.prog EE 47 [.aa1] σ fun v s=>v=.tuple []/\s=σ:=fx2 fun p cap w=>Any.slices_Sort_string_none hp5 p cap w
theorem ei8 (zs:List Str):(zs.map ap8).flatten=zs.map IV.str:=by
 induction zs with
 | nil=>rfl
 | cons z zs ih=>simp only[List.map_cons,List.flatten_cons,ih]; rfl
theorem go4 (ks:List Str)(fv:IV)(hT:cm4 Tryz.prog EE fv (ks.map evK) (fun _=>True))(hn:ks.length<2^30)(σ:Store) :
  C Tryz.prog EE 29 [fv] σ fun v t=>∃ zs:List Str,zs.Perm ks/\σ.next<=t.next/\Grow t v 1 ((fy6 zs).map ap8):=by
 refine C_f fok29 (nZ rfl) ?_;simp only[ic29,go_sem];refine am1 fok46 (fx5 ks fv hT hn _) ?_;rintro v t ⟨zs,h1,h2,h3⟩;have h2:σ.next<=t.next:=Nat.le_trans (by first|exact Nat.le_refl _|exact Nat.le_succ _) h2;refine ⟨by omega,?_⟩;have hzl:zs.length<2^30:=by have:=h1.length_eq; omega
 rcases h3 with ⟨rfl,he⟩|⟨id,rfl,ho,hid⟩
 ·have hz:zs=[]:=List.map_eq_nil_iff.1 he;subst hz;simp only[go_sem];refine am1 fok47 fc2 ?_;rintro v s ⟨rfl,rfl⟩;refine ⟨Nat.le_refl _,?_⟩;simp only[go_sem];exact ⟨[],h1,h2,.inl ⟨rfl,by unfold fy6; rw[List.mergeSort_nil]; rfl⟩⟩
 ·rw[ei8] at ho;simp only[go_sem,List.length_map];refine am1 fok47 (fc1 (zs:=zs) (by omega) ho) ?_;rintro v s ⟨rfl,rfl⟩;refine ⟨Nat.le_refl _,?_⟩;simp only[go_sem];have hsl:(fy6 zs).length=zs.length:=List.length_mergeSort _;exact ⟨zs,h1,h2,.inr ⟨id,by rw[List.length_map,hsl],by rw[ei8]; simp only[aa5,if_true],hid⟩⟩
theorem dh2 {α:Type}{r:α->α->Prop}(anti:∀ a b,r a b->r b a->a=b):∀ {l1 l2:List α},l1.Perm l2->l1.Pairwise r->l2.Pairwise r->l1=l2:=by
 intro l1
 induction l1 with
 | nil=>intro l2 h _ _; exact (List.nil_perm.1 h).symm
 | cons a l1 ih=>
  intro l2 h h1 h2
  cases l2 with
  | nil=>exact absurd h.length_eq (by simp)
  | cons b l2=>
   obtain ⟨a1,a2⟩:=List.pairwise_cons.1 h1;obtain ⟨b1,b2⟩:=List.pairwise_cons.1 h2
   have e:a=b:=by
    rcases List.mem_cons.1 (h.mem_iff.1 (List.mem_cons_self ..)) with e|e
    ·exact e
    ·rcases List.mem_cons.1 (h.mem_iff.2 (List.mem_cons_self ..)) with e2|e2
     ·exact e2.symm
     ·exact anti a b (a1 b e2) (b1 a e)
   subst e;rw[ih h.cons_inv a2 b2]
theorem ea4 (l:List Str):(fy6 l).Pairwise (·<=·):=by
 refine List.Pairwise.imp (fun h=>of_decide_eq_true h) (List.pairwise_mergeSort (le:=fun x y:Str=>decide (x<=y)) (fun a b c h1 h2=>?_) (fun a b=>?_) _)
 ·exact decide_eq_true (List.le_trans (of_decide_eq_true h1) (of_decide_eq_true h2))
 ·rcases List.le_total a b with h|h
  ·simp[h]
  ·simp[h]
theorem fx6 {zs ks:List Str}(h:zs.Perm ks):fy6 zs=fy6 ks :=
 dh2 (fun a b h1 h2=>List.le_antisymm h1 h2) (((List.mergeSort_perm _ _).trans h).trans (List.mergeSort_perm _ _).symm) (ea4 zs) (ea4 ks)
theorem hq5 (es:List (IV×IV)):PC Tryz.prog EE 30 [.am4 es] (.func (.func 48) [] [.ad4 [.am4 es]]):=by
 refine aw2 fok30 (nZ rfl) fun σ=>?_
 simp only[ic30,go_sem]
def cz8 (p:Pool):List Str:=fy6 (p.nm.map (·.1))
theorem dr4 (p:Pool)(hn:p.nm.length<2^30):PC Tryz.prog EE 14 [p.v] (.aa3 ((cz8 p).map ap8)):=by
 refine aj6 hE fok14 (nZ rfl) (af7 (au7 p)) ?_;have hnil:∀ (d:TypeId) (cs:List IV) (c:IV),bs3 (.pointer d) (.ad4 (c::cs))=some false:=fun _ _ _=>rfl
 simp only[ic14,go_sem,Pool.v,hnil];refine aa4 fok30 (hq5 _) ?_;simp only[go_sem];have hev:(nmV p.nm).map (fun e=>[e.1])=(p.nm.map (·.1)).map evK:=by simp only[nmV,List.map_map]; rfl
 have hT:=fx3 (nmV p.nm) (fun e he=>by
  obtain ⟨t,_,rfl⟩:=List.mem_map.1 he;exact .str _)
 rw[hev] at hT;refine am1 fok29 (go4 (p.nm.map (·.1)) _ hT (by rw[List.length_map]; exact hn) _) ?_;rintro v t ⟨zs,h1,h2,h3⟩;refine ⟨h2,?_⟩;simp only[go_sem];rw[fx6 h1] at h3;refine h3.frz (fun y hy=>(fx4 _ y hy).1) (fun _ _=>Nat.not_lt_zero _) fun e he c hc=>?_
 obtain ⟨k,_,rfl⟩:=List.mem_map.1 he
 cases hc with
 | head=>exact .str _
 | tail _ h=>cases h
theorem dr5 (zs:List Int)(hz:zs≠[])(hl:zs.length<2^30):PC Tryz.prog EE 28 [.aa3 (zs.map Md.ai9)] (.aa3 (zs.map Md.ai9)):=by
 refine aj6 hE fok28 (nZ rfl) (af7 (ar7 zs)) ?_
 have hnil:∀ (d:TypeId),bs3 (.slice d) (.aa3 (zs.map Md.ai9))=some false:=fun d=>by
  cases zs with
  | nil=>exact absurd rfl hz
  | cons z zs=>rfl
 simp only[ic28,go_sem,hnil];have hg:Grow ((⟨2,emp.obj⟩:Store).put 0 (ak2.row [])) (.slice 0 0 0 1) 1 (([]:List Int).map Md.ai9):=.inr ⟨0,rfl,by simp only[aa5,if_true]; rfl,by show 0<2; omega⟩;obtain ⟨v',σ',ha,hn',hG⟩:=gn9 (nid:=1) (xs:=zs) hg (by simp only[List.length_nil]; omega);have hn2:σ'.next=2:=hn';have hf:=hG σ' rfl (by omega) (Nat.le_of_eq hn'.symm);rw[List.nil_append] at hf;simp only[go_sem,ha];refine hf.frz (fun y hy=>(dg5 _ y hy).1) (fun _ _=>Nat.not_lt_zero _) fun e he c hc=>?_
 obtain ⟨n,_,rfl⟩:=List.mem_map.1 he
 cases hc with
 | head=>exact .int _ _
 | tail _ h=>cases h
theorem fc3 (nm:Nms)(k:Str)(h:ae6 nm k≠[])(σ:Store):co5 σ 2 .aa1 false (.am4 (nmV nm)) (.str k)=some (.aa3 ((ae6 nm k).map Md.ai9)):=by
 obtain ⟨v,h1,h2⟩:=gv5 nm σ k;rcases h2 with rfl|⟨_,h0⟩
 ·exact h1
 ·exact absurd h0 h
theorem dr6 (p:Pool)(k:Str)(h:ae6 p.nm k≠[])(hl:(ae6 p.nm k).length<2^30):PC Tryz.prog EE 11 [p.v,.str k] (.aa3 ((ae6 p.nm k).map Md.ai9)):=by
 refine aj6 hE fok11 (nZ rfl) (ah5 (au7 p) (.str _)) ?_;have hnil:∀ (d:TypeId) (cs:List IV) (c:IV),bs3 (.pointer d) (.ad4 (c::cs))=some false:=fun _ _ _=>rfl
 have hk:=fc3 p.nm k h;have hc:=dr5 (ae6 p.nm k) h hl;have hb:=ar7 (ae6 p.nm k);generalize ae6 p.nm k=l at *;simp only[ic11,go_sem,Pool.v,hnil,hk];refine aa4 fok28 hc ?_;simp only[go_sem];exact .keep _ hb
end Go.Id.Tryz
set_option linter.all false
namespace Go.Id.Tryz
open Go Go.Id Go.Proofs Go.Id.Md
set_option maxRecDepth 100000
def mP (name:Str)(bd4 obs:List Dep)(files:List Str):aa2:={ name:=name,evr:=⟨0,[49],[49]⟩,de2:=1,vendor:=[],provides:=bd4,requires:=[],conflicts:=[],ab2:=obs,ab7:=[],ab3:=[],suggests:=[],ac3:=[],files:=files }
def dP (name:Str)(op:Int)(ver:Str):Dep:=⟨name,op,⟨0,ver,[]⟩⟩
def cP (name:Str)(bd4 obs files:IV):List IV:=[.str name,.int .i64 0,.str [49],.str [49],.int .u8 1,.str [],bd4,.aa1,.aa1,obs,.aa1,.aa1,.aa1,.aa1,files]
def mA:aa2:=mP [97] [] [] []
def mB:aa2:=mP [98] [dP [97] 2 [50]] [dP [97] 1 [50]] []
def mC:aa2:=mP [99] [] [] [[47,102]]
def mT:aa2:=mP [97] [dP [97] 2 [51],dP [97] 2 [52],dP [97] 0 []] [dP [97] 0 [],dP [98] 0 [],dP [98] 1 [57]] []
def mD:aa2:=mP [98] [] [] []
def cA:List IV:=cP [97] .aa1 .aa1 .aa1
def cB:List IV:=cP [98] (deps [dP [97] 2 [50]]) (deps [dP [97] 1 [50]]) .aa1
def cC:List IV:=cP [99] .aa1 .aa1 (strs [[47,102]])
def cT:List IV:=cP [97] (deps [dP [97] 2 [51],dP [97] 2 [52],dP [97] 0 []]) (deps [dP [97] 0 [],dP [98] 0 [],dP [98] 1 [57]]) .aa1
def cD:List IV:=cP [98] .aa1 .aa1 .aa1
theorem im6 {name:Str}{bd4 obs:List Dep}{files:List Str}(h1:name.length<100)(h2:bd4.length<100)(h3:obs.length<100)(h4:files.length<100)(h5:(bd4++obs).all (fun d=>decide (d.name.length<100)&&decide (d.evr.ver.length<100)&&decide (d.evr.rel.length<100))=true)(h6:files.all (fun s=>decide (s.length<100))=true):(mP name bd4 obs files).Fit:=by
 have hd:∀ d∈bd4++obs,d.fit:=fun d hd=>by
  have:=List.all_eq_true.1 h5 d hd;simp only[Bool.and_eq_true,decide_eq_true_eq] at this;exact ⟨by omega,by show d.evr.ver.length<_; omega,by show d.evr.rel.length<_; omega⟩
 refine ⟨by show name.length<_; omega,⟨by show ([49]:Str).length<2^62; decide,by show ([49]:Str).length<2^62; decide⟩,⟨by show bd4.length<_; omega,fun d h=>hd d (List.mem_append_left _ h)⟩,⟨by show obs.length<_; omega,fun d h=>hd d (List.mem_append_right _ h)⟩,⟨by show files.length<_; omega,fun s h=>by have:=List.all_eq_true.1 h6 s h; simp only[decide_eq_true_eq] at this; omega⟩,fun x hx=>?_⟩;simp only[aa2.rows,mP,List.mem_cons,List.not_mem_nil,or_false] at hx;rcases hx with rfl|rfl|rfl|rfl|rfl|rfl<;>exact ⟨by decide,fun r h=>by cases h⟩
theorem dh3:∀ p∈[mA,mB,mC,mT,mD],p.Fit:=by
 intro p hp;simp only[List.mem_cons,List.not_mem_nil,or_false] at hp;rcases hp with rfl|rfl|rfl|rfl|rfl<;>exact im6 (by decide) (by decide) (by decide) (by decide) (by decide) (by decide)
def p1M:Pool:=⟨rowsOf [mA,mB,mC] (-1) 1025,3,[([97],[0]),([98],[1]),([99],[2])]⟩
def p2M:Pool:=⟨rowsOf [mB,mC] (-1) 1025++rowsOf [mA] 0 0++rowsOf [mT,mD] 1 0,2,[([98],[0,4]),([99],[1]),([97],[2,3])]⟩
theorem jh6:ij1 (bq8 [] [mA,mB,mC])=.tuple [p1M.v,.int .i64 0]:=by kernel_rfl
theorem jh7:ij1 (bq8 [⟨0,[mA]⟩,⟨0,[mT,mD]⟩] [mB,mC])=.tuple [p2M.v,.int .i64 0]:=by kernel_rfl
def a1:List IV:=[.aa1,.aa3 [cA,cB,cC]]
def a2:List IV:=[.aa3 [[.int .i64 0,.aa3 [cA]],[.int .i64 0,.aa3 [cT,cD]]],.aa3 [cB,cC]]
theorem e1:PC Tryz.prog EE 6 a1 (.tuple [p1M.v,.int .i64 0]):=by
 rw[<- jh6];refine gg6 (args':=[aq4 [],ay8 [mA,mB,mC]]) (by kernel_rfl) (ca5 [] [mA,mB,mC] (by decide) (by decide) (by decide) (fun r h=>by cases h) fun p hp=>dh3 p ?_);simp only[List.mem_cons,List.not_mem_nil,or_false] at hp ⊢;rcases hp with h|h|h<;>simp[h]
theorem e2:PC Tryz.prog EE 6 a2 (.tuple [p2M.v,.int .i64 0]):=by
 rw[<- jh7];refine gg6 (args':=[aq4 [⟨0,[mA]⟩,⟨0,[mT,mD]⟩],ay8 [mB,mC]]) (by kernel_rfl) (ca5 _ _ (by decide) (by decide) (by decide) (fun r hr=>?_) fun p hp=>dh3 p ?_)
 ·simp only[List.mem_cons,List.not_mem_nil,or_false] at hr;rcases hr with rfl|rfl
  ·exact ⟨by decide,fun p hp=>dh3 p (by simp only[List.mem_cons,List.not_mem_nil,or_false] at hp ⊢; simp[hp])⟩
  ·exact ⟨by decide,fun p hp=>dh3 p (by simp only[List.mem_cons,List.not_mem_nil,or_false] at hp ⊢; rcases hp with h|h<;>simp[h])⟩
 ·simp only[List.mem_cons,List.not_mem_nil,or_false] at hp ⊢;rcases hp with h|h<;>simp[h]
theorem cd3 (p:Pool)(n m:Nat)(h:n<p.rows.length)(h':m<p.rows.length)(hne:n≠m)(hs:∀ r∈p.rows,Pkg.small r.pkg):PC Tryz.prog EE 16 [p.v,.int .i64 n,.int .i64 m] (.bool (ab2 p.rows[n].pkg p.rows[m].pkg)):=by
 refine aj6 hE fok16 (nZ rfl) (fun a ha=>by
  simp only[List.mem_cons,List.not_mem_nil,or_false] at ha;rcases ha with rfl|rfl|rfl
  ·exact au7 p
  ·exact .int _ _
  ·exact .int _ _) ?_
 have c1:(n:Int)<p.rows.length:=by omega
 have c2:(0:Int)<=n:=by omega
 have c3:(m:Int)<p.rows.length:=by omega
 have c4:(0:Int)<=m:=by omega
 have c5:¬ (n:Int)=m:=by omega
 have hg:(p.rows.map aq1.cs).getD n []=p.rows[n].cs:=by simp[List.getD_eq_getElem?_getD,h]
 have hg':(p.rows.map aq1.cs).getD m []=p.rows[m].cs:=by simp[List.getD_eq_getElem?_getD,h']
 have hnil:∀ (d:TypeId) (cs:List IV) (c:IV),bs3 (.pointer d) (.ad4 (c::cs))=some false:=fun _ _ _=>rfl
 have ho:=dr2 p.rows[n].pkg p.rows[m].pkg (hs _ (List.getElem_mem h)) (hs _ (List.getElem_mem h'));simp only[ic16,go_sem,Pool.v,hnil];refine aa4 fok31 (ak7 p.rows n) ?_;simp only[go_sem,c1,c2,Bool.and_self];refine aa4 fok31 (ak7 p.rows m) ?_;simp only[go_sem,c1,c2,c3,c4,c5,hg,hg',au6,ei2,Bool.and_self];refine aa4 fok32 ho ?_;simp only[go_sem];exact ab1 _
open Go Go.Id Go.Proofs Go.Shelf Go.Id.Md Go.Sort
theorem cm2 (p:Pool):(cz8 p).Perm (p.nm.map (·.1)):=List.mergeSort_perm _ _
theorem fx7 {p:Pool}(h:KN p.nm):(cz8 p).Pairwise fun a b=>Op.bytesLess a b=true:=by
 have h1:(cz8 p).Nodup:=(cm2 p).nodup_iff.2 h;have h2:(cz8 p).Pairwise (·<=·):=ea4 _;refine (h1.and h2).imp fun {a b} q=>?_
 rw[bytesLess_eq];refine decide_eq_true ?_;rcases Decidable.em (a<b) with h|h
 ·exact h
 ·exact absurd (List.le_antisymm q.2 (List.not_lt.1 h)) q.1
theorem dh4 (p:Pool)(n m:Nat)(h:n<p.rows.length)(h':m<p.rows.length)(hs:∀ r∈p.rows,Pkg.small r.pkg):PC Tryz.prog EE 16 [p.v,.int .i64 n,.int .i64 m] (.bool (decide (n≠m)&&ab2 p.rows[n].pkg p.rows[m].pkg)):=by
 by_cases hne:n=m
 ·subst hne
  refine aj6 hE fok16 (nZ rfl) (fun a ha=>by
   simp only[List.mem_cons,List.not_mem_nil,or_false] at ha;rcases ha with rfl|rfl|rfl
   ·exact au7 p
   ·exact .int _ _
   ·exact .int _ _) ?_
  have c1:(n:Int)<p.rows.length:=by omega
  have c2:(0:Int)<=n:=by omega
  have hnil:∀ (d:TypeId) (cs:List IV) (c:IV),bs3 (.pointer d) (.ad4 (c::cs))=some false:=fun _ _ _=>rfl
  simp only[ic16,go_sem,Pool.v,hnil];refine aa4 fok31 (ak7 p.rows n) ?_;simp only[go_sem,c1,c2,Bool.and_self];refine aa4 fok31 (ak7 p.rows n) ?_;simp only[go_sem,c1,c2,Bool.and_self,ne_eq,not_true_eq_false,Bool.false_and];exact ab1 _
 ·have h3:=cd3 p n m h h' hne hs;have e:decide (n≠m)=true:=decide_eq_true hne;rw[e,Bool.true_and];exact h3
end Go.Id.Tryz
set_option linter.all false
namespace Go.Id.Tryz
open Go Go.Id Go.Proofs Go.Id.Md
set_option maxRecDepth 100000
theorem ae8 {S:Nat->Prop}{s:Store}{a b:Bool}(h:a=b):Frz s S (.bool a) (.bool b):=h▸ab1 a
theorem dh5 {S:Nat->Prop}{s:Store}{k:IntKind}{a b:Int}(h:a=b):Frz s S (.int k a) (.int k b):=h▸.keep _ (.int _ _)
end Go.Id.Tryz
set_option linter.all false
namespace Go.Id.Tryz
open Go Go.Id Go.Proofs Go.Id.Md
set_option maxRecDepth 100000
set_option maxHeartbeats 1000000
theorem df3 (b:UInt8):PC Tryz.prog EE 147 [.int .u8 b.toNat] (.int .u8 (ac5 b)):=by
 rw[fv9];have hb:=b.toNat_lt;generalize b.toNat=n at *;unfold vkN;refine aj6 hE fok147 (nZ rfl) (af7 (.int _ _)) ?_;by_cases e1:n=126
 ·have e1':(n:Int)=126:=by omega
  rw[if_pos e1];simp only[ic147,go_sem,e1'];exact .keep _ (.int _ _)
 have e1':¬ (n:Int)=126:=by omega
 rw[if_neg e1];by_cases e2:n=94
 ·have e2':(n:Int)=94:=by omega
  have q:¬ (94:Int)=126:=by decide
  rw[if_pos e2];simp only[ic147,go_sem,e2',q];exact .keep _ (.int _ _)
 have e2':¬ (n:Int)=94:=by omega
 rw[if_neg e2];by_cases e3:97<=n/\n<=122
 ·have f1:(97:Int)<=n:=by omega
  have f2:(n:Int)<=122:=by omega
  rw[if_pos (.inl e3)];simp only[ic147,go_sem,e1',e2',f1,f2];exact .keep _ (.int _ _)
 by_cases e4:65<=n/\n<=90
 ·have f1:¬ (97:Int)<=n:=by omega
  have f3:(65:Int)<=n:=by omega
  have f4:(n:Int)<=90:=by omega
  rw[if_pos (.inr e4)];simp only[ic147,go_sem,e1',e2',f1,f3,f4];exact .keep _ (.int _ _)
 rw[if_neg (fun h=>h.elim e3 e4)];by_cases e5:48<=n/\n<=57
 ·have f1:¬ (97:Int)<=n:=by omega
  have f3:¬ (65:Int)<=n:=by omega
  have f5:(48:Int)<=n:=by omega
  have f6:(n:Int)<=57:=by omega
  rw[if_pos e5];simp only[ic147,go_sem,e1',e2',f1,f3,f5,f6];exact .keep _ (.int _ _)
 rw[if_neg e5];by_cases f1:(97:Int)<=n
 ·have f2:¬ (n:Int)<=122:=by omega
  have f3:(65:Int)<=n:=by omega
  have f4:¬ (n:Int)<=90:=by omega
  have f5:(48:Int)<=n:=by omega
  have f6:¬ (n:Int)<=57:=by omega
  simp only[ic147,go_sem,e1',e2',f1,f2,f3,f4,f5,f6];exact .keep _ (.int _ _)
 by_cases f3:(65:Int)<=n
 ·have f4:¬ (n:Int)<=90:=by omega
  have f5:(48:Int)<=n:=by omega
  have f6:¬ (n:Int)<=57:=by omega
  simp only[ic147,go_sem,e1',e2',f1,f3,f4,f5,f6];exact .keep _ (.int _ _)
 by_cases f5:(48:Int)<=n
 ·have f6:¬ (n:Int)<=57:=by omega
  simp only[ic147,go_sem,e1',e2',f1,f3,f5,f6];exact .keep _ (.int _ _)
 ·simp only[ic147,go_sem,e1',e2',f1,f3,f5];exact .keep _ (.int _ _)
theorem eg8 (p:Part):∀ c∈Part.cs p,Bnd 0 c:=cc3 (.int _ _) (.str _)
theorem dp5 (l:List Part):Bnd 0 (.aa3 (l.map Part.cs)):=.aa3 _ fun e he c hc=>by
 obtain ⟨d,_,rfl⟩:=List.mem_map.1 he; exact eg8 d c hc
theorem ck7 {t:Store}{gv:IV}{esz n nid:Nat}{es:List (List IV)}{e:List IV}(hg:Grow t gv esz es)(hall:∀ x∈es,x.length=esz/\x.all IV.leaf=true)(he:e.length=esz/\e.all IV.leaf=true)(hl:es.length<2147483648)(h1:t.next<=nid)(h2:nid<t.next+n) :
  ∃ v' σ',aq2 ⟨t.next+n,t.obj⟩ nid esz gv (.aa3 [e])=some (v',σ')/\σ'.next=t.next+n/\Grow σ' v' esz (es++[e]):=by
 have hg2:Grow ⟨t.next+n,t.obj⟩ gv esz es:=hg.mono (Nat.le_add_right _ _) fun _ _ _=>rfl
 have hap:=al1 (nid:=nid) (e:=e) hg2 hall he hl;have kn:(ai3 gv (⟨t.next+n,t.obj⟩:Store)).next=t.next+n:=ae1 gv;refine ⟨_,_,hap,by rw[ab4,kn],.inr ⟨nid,by rw[List.length_append,List.length_singleton],by simp only[aa5,if_true],by rw[ab4,kn]; exact h2⟩⟩
theorem dp6 (s:Str)(hs:s.length<2^30):PC Tryz.prog EE 141 [.str s] (.aa3 ((ab6 s).map Part.cs)):=by
 refine aj6 hE fok141 (nZ rfl) (be9 (.str _)) ?_;simp only[ic141,go_sem];refine ac2 noT (fun j fr t=>∃ (a:Nat) (gv:IV) (pre:List Part),fr=[(0,.str s),(3,gv),(4,.int .i64 (a:Int))]/\j<=a/\a<=s.length/\pre.length<=a/\ab6 s=pre++ab6 (s.drop a)/\Grow t gv 2 (pre.map Part.cs)) s.length ⟨0,.aa1,[],rfl,Nat.le_refl _,Nat.zero_le _,Nat.le_refl _,rfl,.inl ⟨rfl,rfl⟩⟩ ?_;rintro j fr t hj ⟨a,gv,pre,rfl,hja,has,hpl,hv,hg⟩;by_cases hlt:a<s.length
 ·obtain ⟨b,hb,hget,hdr,_,htk⟩:=ad2 s a hlt;have c1:(a:Int)<s.length:=by omega
  have c2:(0:Int)<=a:=by omega
  have w1:=af6 (i:=a) (by omega);have hk:=df3 b;rw[hdr] at hv;simp only[go_sem,c1,aw3,c2,Int.toNat_natCast,hget,Option.map]
  first|refine aa4 fok147 (hk) ?_|refine aa6 (hk) ?_
  by_cases h0:ac5 b=0
  ·have k0:((ac5 b:Nat):Int)=0:=by omega
   rw[ef8 h0] at hv;simp only[go_sem,k0,w1];exact ⟨by omega,a+1,gv,pre,rfl,by omega,by omega,by omega,hv,hg⟩
  have k0:¬ ((ac5 b:Nat):Int)=0:=by omega
  by_cases h4:ac5 b<4
  ·have k4:((ac5 b:Nat):Int)<4:=by omega
   rw[ef9 h0 h4] at hv;obtain ⟨v',σ',h1,h2,h3⟩:=ck7 (n:=1) (nid:=t.next) (e:=[.int .u8 (ac5 b:Nat),.str []]) hg (ay7 _) ⟨rfl,rfl⟩ (by rw[List.length_map]; omega) (Nat.le_refl _) (by omega);simp only[go_sem,k0,k4,h1,w1];refine ⟨by omega,a+1,v',pre++[⟨ac5 b,[]⟩],rfl,by omega,by omega,by rw[List.length_append]; simp only[List.length_singleton]; omega,by rw[hv]; simp,?_⟩;rw[List.map_append]; exact h3
  have k4:¬ ((ac5 b:Nat):Int)<4:=by omega
  simp only[go_sem,k0,k4];obtain ⟨R,hR⟩:∃ R,R=fc8 b (s.drop (a+1)):=⟨_,rfl⟩;have hrl:=gu9 b (s.drop (a+1));rw[<- hR,List.length_drop] at hrl
  have hrun:∀ m,m<R+1->∃ c,s[a+m]? = some c/\ac5 c=ac5 b:=fun m hm=>by
   cases m with
   | zero=>exact ⟨b,hget,rfl⟩
   | succ m=>
    obtain ⟨c,h1,h2⟩:=gu7 (b:=b) (l:=s.drop (a+1)) (m:=m) (by omega);rw[List.getElem?_drop] at h1;exact ⟨c,by rw[<- h1]; congr 1; omega,h2⟩
  have hend:∀ c,s[a+(R+1)]? = some c->ac5 c≠ac5 b:=fun c h=>gu8 (l:=s.drop (a+1)) (by rw[<- hR,List.getElem?_drop,<- h]; congr 1; omega)
  refine ac2 noT (fun m fr u=>fr=[(0,.str s),(3,gv),(4,.int .i64 (a:Int)),(5,.int .u8 (ac5 b:Nat)),(6,.int .i64 ((a+m:Nat):Int))]/\u.obj=t.obj/\t.next<=u.next) (R+1) ⟨rfl,rfl,Nat.le_refl _⟩ ?_;rintro m fr u hmR ⟨rfl,uo,un⟩;have d2:(0:Int)<=((a+m:Nat):Int):=by omega
  have w2:=af6 (i:=a+m) (by omega);by_cases hm:m<R+1
  ·obtain ⟨c,hc1,hc2⟩:=hrun m hm;have k2:((a+m:Nat):Int)<s.length:=by omega
   have k3:=df3 c;rw[hc2] at k3;simp only[go_sem,k2,aw3,d2,Int.toNat_natCast,hc1,Option.map]
   first|refine aa4 fok147 (k3) ?_|refine aa6 (k3) ?_
   simp only[go_sem,w2];exact ⟨hm,rfl,uo,un⟩
  have hm':m=R+1:=by omega
  subst hm';have hw:((b::s.drop (a+1)).take (R+1))=(s.drop a).take (R+1):=by rw[hdr]
  have hv4:=hv;rw[eg1 h4,<- hR,hw,List.drop_drop] at hv4;have hdd:a+1+R=a+(R+1):=by omega
  rw[hdd] at hv4;obtain ⟨w,hwd⟩:∃ w,w=(s.drop a).take (R+1):=⟨_,rfl⟩;rw[<- hwd] at hv4;have hwl:w.length=R+1:=by rw[hwd,List.length_take,List.length_drop]; omega
  have hwg:∀ z,z<R+1->w[z]? = s[a+z]?:=fun z hz=>by rw[hwd,List.getElem?_take,if_pos hz,List.getElem?_drop]
  by_cases hen:a+(R+1)<s.length
  case' pos=>
   have k2:((a+(R+1):Nat):Int)<s.length:=by omega
   have hc:s[a+(R+1)]? = some s[a+(R+1)]:=List.getElem?_eq_getElem hen;have hne:=hend _ hc;have k7:¬ ((ac5 s[a+(R+1)]:Nat):Int)=ac5 b:=by omega
   have k3:=df3 s[a+(R+1)];simp only[go_sem,k2,aw3,d2,Int.toNat_natCast,hc,Option.map]
   first|refine aa4 fok147 (k3) ?_|refine aa6 (k3) ?_
   simp only[go_sem,k7]
  case' neg=>
   have k2:¬ ((a+(R+1):Nat):Int)<s.length:=by omega
   simp only[go_sem,k2]
  all_goals
   obtain ⟨Z,hZ⟩:∃ Z,Z=if ac5 b=5 then (w.takeWhile (· == 48)).length else 0:=⟨_,rfl⟩
   have hZl:Z<=R+1:=by
    rw[hZ]; split
    ·rw[<- hwl]; exact (List.takeWhile_sublist _).length_le
    ·omega
   have hdw:(if ac5 b=5 then w.dropWhile (· == 48) else w)=w.drop Z:=by
    rw[hZ]; split
    ·exact (cf1 _ w).2
    ·rfl
   rw[hdw] at hv4;refine ac2 noT (fun z fr v=>(∃ tl:Frm,fr=(0,.str s)::(3,gv)::(4,.int .i64 ((a+z:Nat):Int))::(5,.int .u8 (ac5 b:Nat))::(6,.int .i64 ((a+(R+1):Nat):Int))::tl)/\v.obj=t.obj/\t.next<=v.next) Z ⟨⟨_,rfl⟩,uo,by first|exact un|(show t.next<=_; omega)⟩ ?_;rintro z fr v hz ⟨⟨tl,rfl⟩,vo,vn⟩;have z2:(0:Int)<=((a+z:Nat):Int):=by omega
   have z3:=af6 (i:=a+z) (by omega);by_cases hzz:z<Z
   ·have h5:ac5 b=5:=by
     by_cases h:ac5 b=5
     ·exact h
     ·rw[if_neg h] at hZ; omega
    have k5:((ac5 b:Nat):Int)=5:=by omega
    rw[if_pos h5] at hZ;obtain ⟨c,hc1,hc2⟩:=ij6 (p:=fun c=>c==48) w z (by omega);have hc0:c=48:=by simpa using hc2
    rw[hwg z (by omega),hc0] at hc1;have e1:((a+z:Nat):Int)<((a+(R+1):Nat):Int):=by omega
    have e2:((a+z:Nat):Int)<s.length:=by omega
    have e3:((48:UInt8).toNat:Int)=48:=rfl;simp only[go_sem,k5,e1,e2,aw3,z2,Int.toNat_natCast,hc1,Option.map,e3,z3];exact ⟨hzz,⟨_,rfl⟩,vo,vn⟩
   ·have hz':z=Z:=by omega
    subst hz'
    have hss:bs2 (some (.int .i64 ((a+z:Nat):Int))) (some (.int .i64 ((a+(R+1):Nat):Int))) (.str s)=some (.str (w.drop z)):=by
     have e1:(0:Int)<=((a+(R+1):Nat):Int):=by omega
     have e2:a+z<=a+(R+1)/\a+(R+1)<=s.length:=by omega
     simp only[bs2,bs1,cm6,z2,e1,if_true,Int.toNat_natCast,e2,and_self];rw[hwd,List.drop_take,List.drop_take,List.drop_drop];congr 3; omega
    have hvg:Grow v gv 2 (pre.map Part.cs):=hg.mono vn fun _ _ _=>by rw[vo]
    obtain ⟨v',σ',h1,h2,h3⟩:=ck7 (n:=1) (nid:=v.next) (e:=[.int .u8 (ac5 b:Nat),.str (w.drop z)]) hvg (ay7 _) ⟨rfl,rfl⟩ (by rw[List.length_map]; omega) (Nat.le_refl _) (by omega)
    have fin:ab6 s=(pre++[(⟨ac5 b,w.drop z⟩:Part)])++ab6 (s.drop (a+(R+1)))/\Grow σ' v' 2 ((pre++[(⟨ac5 b,w.drop z⟩:Part)]).map Part.cs)/\(pre++[(⟨ac5 b,w.drop z⟩:Part)]).length<=a+(R+1):=by
     refine ⟨by rw[hv4]; simp,by rw[List.map_append]; exact h3,by rw[List.length_append,List.length_singleton]; omega⟩
    by_cases h5:ac5 b=5
    ·have k5:((ac5 b:Nat):Int)=5:=by omega
     rw[if_pos h5] at hZ;by_cases hzR:z<R+1
     ·have e1:((a+z:Nat):Int)<((a+(R+1):Nat):Int):=by omega
      have e2:((a+z:Nat):Int)<s.length:=by omega
      have hc:s[a+z]? = some s[a+z]:=List.getElem?_eq_getElem (by omega)
      have hne:¬ s[a+z]=48:=by
       have:=ij7 (p:=fun c=>c==48) w s[a+z] (by rw[<- hZ,hwg z hzR]; exact hc)
       simpa using this
      have hne2:¬ (s[a+z].toNat:Int)=48:=fun h=>hne (UInt8.toNat_inj.1 (by show _=48; omega))
      simp only[k5] at h1;simp only[go_sem,k5,e1,e2,aw3,z2,Int.toNat_natCast,hc,Option.map,hne2,hss,h1];exact ⟨by omega,a+(R+1),v',_,rfl,by omega,by omega,fin.2.2,fin.1,fin.2.1⟩
     ·have e1:¬ ((a+z:Nat):Int)<((a+(R+1):Nat):Int):=by omega
      simp only[k5] at h1;simp only[go_sem,k5,e1,hss,h1];exact ⟨by omega,a+(R+1),v',_,rfl,by omega,by omega,fin.2.2,fin.1,fin.2.1⟩
    ·have k5:¬ ((ac5 b:Nat):Int)=5:=by omega
     simp only[go_sem,k5,hss,h1];exact ⟨by omega,a+(R+1),v',_,rfl,by omega,by omega,fin.2.2,fin.1,fin.2.1⟩
 ·have ha:a=s.length:=by omega
  subst ha;have c1:¬ (s.length:Int)<s.length:=by omega
  rw[List.drop_length,ez2,List.append_nil] at hv;rw[hv];simp only[go_sem,c1];exact hg.frz (fun x hx=>(ay7 _ x hx).1) (fun _ _=>Nat.not_lt_zero _) (aj2 (dp5 pre))
end Go.Id.Tryz
set_option linter.all false
namespace Go.Id.Tryz
open Go Go.Id Go.Proofs Go.Shelf Go.Id.Md
set_option maxRecDepth 100000
theorem gq5 {d:TypeId}{c:IV}{cs:List IV}:bs3 (.pointer d) (.ad4 (c::cs))=some false:=rfl
end Go.Id.Tryz
set_option linter.all false
namespace Go.Id.Tryz
open Go Go.Id Go.Proofs Go.Id.Md
set_option maxRecDepth 100000
set_option maxHeartbeats 1000000
def dp7 (a b:Part):Bool:=decide (ag3 a b=-1)
theorem dy2 {a b:Int}:ap9 a b=-1↔a<b:=by
 unfold ap9;by_cases h:a<b
 ·simp[h]
 ·rw[if_neg h]; split<;>simp[h]
theorem hl9 {a b:Str}:ce7 a b=-1↔Op.bytesLess a b=true:=by
 unfold ce7
 cases h:Op.bytesLess a b with
 | true=>simp
 | false=>
  simp only[Bool.false_eq_true,if_false];split<;>simp
theorem gk7 (a b:Part):dp7 a b=if a.kind≠b.kind then decide (a.kind<b.kind) else if a.kind=5/\a.s.length≠b.s.length then decide (a.s.length<b.s.length) else Op.bytesLess a.s b.s:=by
 unfold dp7;have hp:ag3 a b=if ap9 a.kind b.kind≠0 then ap9 a.kind b.kind else if (if a.kind=5/\b.kind=5 then ap9 a.s.length b.s.length else 0)≠0 then (if a.kind=5/\b.kind=5 then ap9 a.s.length b.s.length else 0) else ce7 a.s b.s:=rfl
 rw[hp];have key:∀ (x:Int) (p:Prop) [Decidable p] ,(x=-1↔p)->decide (x=-1)=decide p:=fun x p _ h=>decide_eq_decide.2 h
 have hS:decide (ce7 a.s b.s=-1)=Op.bytesLess a.s b.s:=by
  rw[key _ _ hl9]; simp
 by_cases hk:a.kind=b.kind
 ·have e0:ap9 a.kind b.kind=0:=aw9.2 (by omega);have q0:¬ (a.kind≠b.kind):=fun h=>h hk
  have q1:¬ (ap9 (a.kind:Int) (b.kind:Int)≠0):=fun h=>h e0
  rw[if_neg q1,if_neg q0];by_cases h5:a.kind=5
  ·have q2:a.kind=5/\b.kind=5:=⟨h5,by omega⟩;simp only[if_pos q2];by_cases hl:a.s.length=b.s.length
   ·have e1:ap9 a.s.length b.s.length=0:=aw9.2 (by omega);have q3:¬ (ap9 (a.s.length:Int) (b.s.length:Int)≠0):=fun h=>h e1
    have q4:¬ (a.kind=5/\a.s.length≠b.s.length):=fun h=>h.2 hl
    rw[if_neg q3,if_neg q4,hS]
   ·have e1:ap9 (a.s.length:Int) (b.s.length:Int)≠0:=fun h=>hl (by have:=aw9.1 h; omega)
    have q4:a.kind=5/\a.s.length≠b.s.length:=⟨h5,hl⟩;rw[if_pos e1,if_pos q4,key _ _ dy2];exact decide_eq_decide.2 (by omega)
  ·have q2:¬ (a.kind=5/\b.kind=5):=fun h=>h5 h.1
   have q3:¬ ((0:Int)≠0):=fun h=>h rfl
   have q4:¬ (a.kind=5/\a.s.length≠b.s.length):=fun h=>h5 h.1
   simp only[if_neg q2];rw[if_neg q3,if_neg q4,hS]
 ·have e0:ap9 (a.kind:Int) (b.kind:Int)≠0:=fun h=>hk (by have:=aw9.1 h; omega)
  have q0:a.kind≠b.kind:=hk;rw[if_pos e0,if_pos q0,key _ _ dy2];exact decide_eq_decide.2 (by omega)
theorem gk8 (p:Part):(Part.cs p).length=2:=rfl
theorem bf6 (p:Part):(Part.cs p).all IV.leaf=true:=rfl
theorem fs4 (p:Part):(Part.cs p).take 2=Part.cs p:=rfl
theorem eg9 (p:Part):(Part.cs p).head? = some (.int .u8 p.kind):=rfl
theorem fs5 (p:Part):((Part.cs p).drop 1).head? = some (.str p.s):=rfl
theorem br4 (p:Part):Bnd 0 (.agg (Part.cs p)):=.agg _ (eg8 p)
theorem dp8 (a b:Part)(ha:a.s.length<2^62)(hb:b.s.length<2^62):PC Tryz.prog EE 142 [.agg (Part.cs a),.agg (Part.cs b)] (.bool (dp7 a b)):=by
 refine aj6 hE fok142 (nZ rfl) (cc3 (br4 a) (br4 b)) ?_;rw[gk7];by_cases hk:a.kind=b.kind
 case neg=>
  have e:¬ (a.kind:Int)=b.kind:=by omega
  have e2:decide (a.kind<b.kind)=decide ((a.kind:Int)<b.kind):=by simp
  rw[if_pos hk,e2];simp only[ic142,go_sem,bf6,eg9,e];exact ae8 rfl
 have e:(a.kind:Int)=b.kind:=by omega
 rw[if_neg (by simpa using hk)];by_cases h5:a.kind=5
 ·have e5:(b.kind:Int)=5:=by omega
  by_cases hl:a.s.length=b.s.length
  ·rw[if_neg (fun h=>h.2 hl)];have el:(a.s.length:Int)=b.s.length:=by omega
   simp only[ic142,go_sem,bf6,eg9,fs5,e,e5,el];exact ae8 rfl
  ·rw[if_pos ⟨h5,hl⟩];have el:¬ (a.s.length:Int)=b.s.length:=by omega
   have e2:decide (a.s.length<b.s.length)=decide ((a.s.length:Int)<b.s.length):=by simp
   rw[e2];simp only[ic142,go_sem,bf6,eg9,fs5,e,e5,el];exact ae8 rfl
 ·have e5:¬ (b.kind:Int)=5:=by omega
  rw[if_neg (fun h=>h5 h.1)];simp only[ic142,go_sem,bf6,eg9,fs5,e,e5];exact ae8 rfl
def atP (l:List Part)(i:Nat):Part:=l.getD i ef6
theorem gv3 (l:List Part)(i:Nat):PC Tryz.prog EE 143 [.aa3 (l.map Part.cs),.int .i64 i] (.agg (Part.cs (atP l i))):=by
 refine aj6 hE fok143 (nZ rfl) (cc3 (dp5 l) (.int _ _)) ?_;unfold atP;by_cases h:i<l.length
 ·have c1:¬ (l.length:Int)<=i:=by omega
  have c2:(i:Int)<l.length:=by omega
  have c3:(0:Int)<=(i:Int):=by omega
  have g:=fw2 l i h;have e:l.getD i ef6=l[i]:=by simp[List.getD_eq_getElem?_getD,h]
  rw[e];simp only[ic143,go_sem,c1,c2,c3,g,gk8,bf6,fs4];exact .keep _ (br4 _)
 ·have c1:(l.length:Int)<=i:=by omega
  have e:l.getD i ef6=ef6:=by simp[List.getD_eq_getElem?_getD,List.getElem?_eq_none (Nat.le_of_not_lt h)]
  rw[e];simp only[ic143,go_sem,c1];exact .keep _ (br4 ef6)
theorem ik4 (s:Str)(i:Nat)(h:i<=(ab6 s).length):(vL s)[i]? = some (atP (ab6 s) i):=by
 unfold atP;by_cases hl:i<(ab6 s).length
 ·rw[List.getElem?_append_left hl,List.getElem?_eq_getElem hl]; simp[List.getD_eq_getElem?_getD,hl]
 ·have:i=(ab6 s).length:=by omega
  subst this;rw[List.getElem?_append_right (Nat.le_refl _),Nat.sub_self];simp[List.getD_eq_getElem?_getD]
theorem ck8 (a b:Str)(ha:a.length<2^30)(hb:b.length<2^30):PC Tryz.prog EE 132 [.str a,.str b] (.int .i64 (as8 a b)):=by
 refine aj6 hE fok132 (nZ rfl) (cc3 (.str _) (.str _)) ?_;have la:=ba8 a;have lb:=ba8 b;have pa:=dp6 a ha;have pb:=dp6 b hb;have na:=do7 a;have nb:=do7 b;simp only[ic132,go_sem]
 first|refine aa4 fok141 (pa) ?_|refine aa6 (pa) ?_
 simp only[go_sem]
 first|refine aa4 fok141 (pb) ?_|refine aa6 (pb) ?_
 simp only[go_sem];refine ac2 noT (fun i fr s=>fr=[(5,.aa3 ((ab6 a).map Part.cs)),(6,.aa3 ((ab6 b).map Part.cs)),(7,.int .i64 (i:Int))]/\i<=(ab6 a).length/\i<=(ab6 b).length/\as8 a b=ai8 ((vL a).drop i) ((vL b).drop i)) (2^30) ⟨rfl,Nat.zero_le _,Nat.zero_le _,rfl⟩ ?_;rintro i fr s hi ⟨rfl,ia,ib,hv⟩;have w1:=af6 (i:=i) (by omega);have xa:=ik4 a i ia;have xb:=ik4 b i ib;obtain ⟨hia,hxa⟩:=List.getElem?_eq_some_iff.1 xa;obtain ⟨hib,hxb⟩:=List.getElem?_eq_some_iff.1 xb;rw[br6 hia hib,hxa,hxb] at hv;by_cases hmore:i<(ab6 a).length\/i<(ab6 b).length
 ·have ga:=gv3 (ab6 a) i;have gb:=gv3 (ab6 b) i;have sa:(atP (ab6 a) i).s.length<=a.length:=io8 a _ (hxa▸List.getElem_mem hia);have sb:(atP (ab6 b) i).s.length<=b.length:=io8 b _ (hxb▸List.getElem_mem hib);have b1:=dp8 (atP (ab6 a) i) (atP (ab6 b) i) (by omega) (by omega);have b2:=dp8 (atP (ab6 b) i) (atP (ab6 a) i) (by omega) (by omega);have h3:=dq9 (atP (ab6 a) i) (atP (ab6 b) i);have hneg:=dx7 (atP (ab6 a) i) (atP (ab6 b) i)
  have hnext:ag3 (atP (ab6 a) i) (atP (ab6 b) i)=0->i+1<=(ab6 a).length/\i+1<=(ab6 b).length:=fun h0=>by
   have hk:=fr5 h0;rcases hmore with h|h
   ·refine ⟨h,?_⟩;by_cases h':i<(ab6 b).length
    ·exact h'
    ·have e1:atP (ab6 b) i=ef6:=by unfold atP; simp[List.getD_eq_getElem?_getD,List.getElem?_eq_none (Nat.le_of_not_lt h')]
     have e2:atP (ab6 a) i=(ab6 a)[i]:=by unfold atP; simp[List.getD_eq_getElem?_getD,h]
     rw[e1,e2] at hk;exact absurd hk (na _ (List.getElem_mem h))
   ·refine ⟨?_,h⟩;by_cases h':i<(ab6 a).length
    ·exact h'
    ·have e1:atP (ab6 a) i=ef6:=by unfold atP; simp[List.getD_eq_getElem?_getD,List.getElem?_eq_none (Nat.le_of_not_lt h')]
     have e2:atP (ab6 b) i=(ab6 b)[i]:=by unfold atP; simp[List.getD_eq_getElem?_getD,h]
     rw[e1,e2] at hk;exact absurd hk.symm (nb _ (List.getElem_mem h))
  have v1:dp7 (atP (ab6 a) i) (atP (ab6 b) i)=decide (ag3 (atP (ab6 a) i) (atP (ab6 b) i)=-1):=rfl;have v2:dp7 (atP (ab6 b) i) (atP (ab6 a) i)=decide (ag3 (atP (ab6 b) i) (atP (ab6 a) i)=-1):=rfl;rw[v1] at b1;rw[v2] at b2;generalize atP (ab6 a) i=x at *;generalize atP (ab6 b) i=y at *;generalize ag3 y x=c2 at *;generalize ag3 x y=c at *;by_cases hA:i<(ab6 a).length
  case' pos=>
   have d1:(i:Int)<(ab6 a).length:=by omega
   simp only[go_sem,d1]
  case' neg=>
   have d1:¬ (i:Int)<(ab6 a).length:=by omega
   have d2:(i:Int)<(ab6 b).length:=by omega
   simp only[go_sem,d1,d2]
  all_goals
   first|refine aa4 fok143 (ga) ?_|refine aa6 (ga) ?_
   simp only[go_sem]
   first|refine aa4 fok143 (gb) ?_|refine aa6 (gb) ?_
   simp only[go_sem]
   first|refine aa4 fok142 (b1) ?_|refine aa6 (b1) ?_
   rcases h3 with h|h|h
   ·subst h;rw[if_pos (by decide)] at hv;simp only[go_sem,decide_true];rw[hv]; exact ac4 _ _
   ·subst h;have hc2:c2=0:=by omega
    subst hc2;rw[if_neg (by decide)] at hv;obtain ⟨n1,n2⟩:=hnext rfl;simp only[go_sem,Int.reduceEq,Int.reduceNeg,decide_false]
    first|refine aa4 fok143 (gb) ?_|refine aa6 (gb) ?_
    simp only[go_sem]
    first|refine aa4 fok143 (ga) ?_|refine aa6 (ga) ?_
    simp only[go_sem]
    first|refine aa4 fok142 (b2) ?_|refine aa6 (b2) ?_
    simp only[go_sem,Int.reduceEq,Int.reduceNeg,decide_false,w1];exact ⟨by omega,n1,n2,hv⟩
   ·subst h;subst hneg;rw[if_pos (by decide)] at hv;simp only[go_sem,Int.reduceEq,Int.reduceNeg,decide_false]
    first|refine aa4 fok143 (gb) ?_|refine aa6 (gb) ?_
    simp only[go_sem]
    first|refine aa4 fok143 (ga) ?_|refine aa6 (ga) ?_
    simp only[go_sem]
    first|refine aa4 fok142 (b2) ?_|refine aa6 (b2) ?_
    simp only[go_sem,decide_true];rw[hv]; exact ac4 _ _
 ·have ea:i=(ab6 a).length:=by omega
  have eb:i=(ab6 b).length:=by omega
  have d1:¬ (i:Int)<(ab6 a).length:=by omega
  have d2:¬ (i:Int)<(ab6 b).length:=by omega
  have e1:atP (ab6 a) i=ef6:=by unfold atP; simp[List.getD_eq_getElem?_getD,List.getElem?_eq_none (show (ab6 a).length<=i by omega)]
  have e2:atP (ab6 b) i=ef6:=by unfold atP; simp[List.getD_eq_getElem?_getD,List.getElem?_eq_none (show (ab6 b).length<=i by omega)]
  have h0:ag3 ef6 ef6=0:=by decide
  have hend:ai8 ((vL a).drop (i+1)) ((vL b).drop (i+1))=0:=cb2 (.inl (by simp only[List.length_append,List.length_singleton]; omega));rw[e1,e2,h0,if_neg (by decide),hend] at hv;simp only[go_sem,d1,d2];rw[hv]; exact ac4 _ _
set_option maxHeartbeats 1000000
theorem df4 (e:EVR):e.cs.all IV.leaf=true:=rfl
theorem hm3 (e:EVR):e.cs.head? = some (.int .i64 e.ai4):=rfl
theorem iw7 (e:EVR):(e.cs.drop 1).head? = some (.str e.ver):=rfl
theorem hm4 (e:EVR):(e.cs.drop 2).head? = some (.str e.rel):=rfl
theorem dy3 (a b:EVR)(ha:EVR.small a)(hb:EVR.small b):PC Tryz.prog EE 115 [.agg a.cs,.agg b.cs] (.int .i64 (bc8 a b)):=by
 refine aj6 hE fok115 (nZ rfl) (cc3 (bk2 a) (bk2 b)) ?_;have h1:=ck8 a.ver b.ver ha.1 hb.1;have h2:=ck8 a.rel b.rel ha.2 hb.2;unfold bc8;by_cases e1:a.ai4<b.ai4
 ·have c0:ap9 a.ai4 b.ai4=-1:=dy2.2 e1;rw[c0,if_pos (by decide)];simp only[ic115,go_sem,df4,hm3,e1];exact ac4 _ _
 by_cases e2:b.ai4<a.ai4
 ·have c0:ap9 a.ai4 b.ai4=1:=by
   unfold ap9;rw[if_neg e1,if_neg (by omega)]
  rw[c0,if_pos (by decide)];simp only[ic115,go_sem,df4,hm3,e1,e2];exact ac4 _ _
 have c0:ap9 a.ai4 b.ai4=0:=aw9.2 (by omega);have nn:∀ {α:Type} (x y:α),(if (0:Int)≠0 then x else y)=y:=fun _ _=>if_neg (by decide)
 rw[c0,nn];simp only[ic115,go_sem,df4,hm3,iw7,e1,e2]
 first|refine aa4 fok132 (h1) ?_|refine aa6 (h1) ?_
 generalize as8 a.ver b.ver=n at *;by_cases hn:n=0
 ·subst hn;rw[nn];by_cases r1:a.rel=[]
  ·rw[if_pos (.inl r1)];simp only[go_sem,hm4,r1];exact ac4 _ _
  by_cases r2:b.rel=[]
  ·rw[if_pos (.inr r2)];simp only[go_sem,hm4,r1,r2];exact ac4 _ _
  rw[if_neg (by simp[r1,r2])];simp only[go_sem,hm4,r1,r2]
  first|refine aa4 fok132 (h2) ?_|refine aa6 (h2) ?_
  simp only[go_sem];exact ac4 _ _
 ·have hn':n≠0:=hn;rw[if_pos hn'];simp only[go_sem,hn];exact ac4 _ _
theorem gk9 (a b:Dep)(ha:Dep.small a)(hb:Dep.small b):PC Tryz.prog EE 80 [.agg a.cs,.agg b.cs] (.bool (meet a b)):=by
 refine aj6 hE fok80 (nZ rfl) (ah5 (ap7 a) (ap7 b)) ?_;obtain ⟨a1,a2,a3⟩:=ha;obtain ⟨b1,b2,b3⟩:=hb;have hc:=dy3 a.evr b.evr a3 b3;have h3:=ei5 a.evr b.evr;unfold meet;generalize bc8 a.evr b.evr=n at hc h3;simp only[EVR.cs] at hc;obtain ⟨x,hx⟩:∃ x:Nat,a.op=x:=⟨a.op.toNat,by omega⟩;obtain ⟨y,hy⟩:∃ y:Nat,b.op=y:=⟨b.op.toNat,by omega⟩;have hx2:x<256:=by omega
 have hy2:y<256:=by omega
 rw[hx,hy,Int.toNat_natCast,Int.toNat_natCast];have tm:∀ k:Nat,(k:Int).tmod 8=((k%8:Nat):Int):=fun k=>rfl
 have z0:∀ k:Nat,((k:Int)=0)↔k=0:=fun k=>by omega
 have bt:∀ (k i:Nat),bit (k:Int) i=k.testBit i:=fun k i=>by unfold bit; rw[Int.toNat_natCast]
 by_cases hx0:x%8=0
 ·have q:(x:Int).tmod 8=0:=by rw[tm,z0]; exact hx0
  rw[if_pos (.inl hx0)];simp only[ic80,go_sem,Dep.cs,hx,hy,q,Int.reduceEq,true_and,not_false_eq_true];exact ab1 _
 have q:¬ (x:Int).tmod 8=0:=by rw[tm,z0]; exact hx0
 by_cases hy0:y%8=0
 ·have q2:(y:Int).tmod 8=0:=by rw[tm,z0]; exact hy0
  rw[if_pos (.inr hy0)];simp only[ic80,go_sem,Dep.cs,hx,hy,q,q2,Int.reduceEq,true_and,not_false_eq_true];exact ab1 _
 have q2:¬ (y:Int).tmod 8=0:=by rw[tm,z0]; exact hy0
 rw[if_neg (fun h=>h.elim hx0 hy0)];simp only[ic80,go_sem,Dep.cs,hx,hy,q,q2,Int.reduceEq,true_and,not_false_eq_true]
 first|refine aa4 fok115 (hc) ?_|refine aa6 (hc) ?_
 have exy:bd6 x y=((x &&& y:Nat):Int):=al6 x y hx2 hy2;have hxy:x &&& y<256:=Nat.lt_of_le_of_lt Nat.and_le_left hx2;have exy7:bd6 ((x &&& y:Nat):Int) 7=((x &&& y &&& 7:Nat):Int):=al6 _ 7 hxy (by omega);have x1:bd6 x 1=((x &&& 1:Nat):Int):=al6 x 1 hx2 (by omega);have x4:bd6 x 4=((x &&& 4:Nat):Int):=al6 x 4 hx2 (by omega);have y1:bd6 y 1=((y &&& 1:Nat):Int):=al6 y 1 hy2 (by omega);have y4:bd6 y 4=((y &&& 4:Nat):Int):=al6 y 4 hy2 (by omega);rcases h3 with rfl|rfl|rfl
 ·have g1:side (- -1)=2:=by decide
  have g2:side (-1)=0:=by decide
  have m0:¬ ((-1:Int)=0):=by decide
  have m1:((-1:Int)<0):=by decide
  simp only[go_sem,m0,m1,g1,g2,bt,if_false]
  cases hb:x.testBit 2 with
  | true=>
   have e:¬ bd6 x 4=0:=by rw[x4,z0,gw1 x hx2,hb]; simp
   simp only[go_sem,an7,e]
   exact ab1 _
  | false=>
   have e:bd6 x 4=0:=by rw[x4,z0,gw1 x hx2,hb]
   simp only[go_sem,an7,e]
   cases hc:y.testBit 0 with
   | true=>
    have e2:¬ bd6 y 1=0:=by rw[y1,z0,and1 y hy2,hc]; simp
    simp only[go_sem,an7,e2]
    exact ab1 _
   | false=>
    have e2:bd6 y 1=0:=by rw[y1,z0,and1 y hy2,hc]
    simp only[go_sem,an7,e2];exact ab1 _
 ·have m1:¬ ((0:Int)<0):=by decide
  simp only[go_sem,an7,exy,exy7,bt,m1]
  have e:(!decide (((x &&& y &&& 7:Nat):Int)=0))=(x.testBit 0&&y.testBit 0||x.testBit 1&&y.testBit 1||x.testBit 2&&y.testBit 2):=by
   by_cases hz:x &&& y &&& 7=0
   ·obtain ⟨t0,t1,t2⟩:=(dg9 _ hxy).1 hz;rw[Nat.testBit_and] at t0 t1 t2;rw[hz,t0,t1,t2]; rfl
   ·have hz':¬ ((x &&& y &&& 7:Nat):Int)=0:=fun h=>hz (by omega)
    have ht:¬ ((x &&& y).testBit 0=false/\(x &&& y).testBit 1=false/\(x &&& y).testBit 2=false):=fun h=>hz ((dg9 _ hxy).2 h)
    rw[Nat.testBit_and,Nat.testBit_and,Nat.testBit_and] at ht;rw[decide_eq_false hz']
    revert ht
    generalize (x.testBit 0&&y.testBit 0)=b0;generalize (x.testBit 1&&y.testBit 1)=b1;generalize (x.testBit 2&&y.testBit 2)=b2;cases b0<;>cases b1<;>cases b2<;>simp
  exact ae8 e
 ·have g1:side (-1)=0:=by decide
  have g2:side 1=2:=by decide
  have m0:¬ ((1:Int)=0):=by decide
  have m1:¬ ((1:Int)<0):=by decide
  have m2:(0:Int)<1:=by decide
  simp only[go_sem,m0,m1,m2,g1,g2,bt,if_false]
  cases hb:x.testBit 0 with
  | true=>
   have e:¬ bd6 x 1=0:=by rw[x1,z0,and1 x hx2,hb]; simp
   simp only[go_sem,an7,e]
   exact ab1 _
  | false=>
   have e:bd6 x 1=0:=by rw[x1,z0,and1 x hx2,hb]
   simp only[go_sem,an7,e]
   cases hc:y.testBit 2 with
   | true=>
    have e2:¬ bd6 y 4=0:=by rw[y4,z0,gw1 y hy2,hc]; simp
    simp only[go_sem,an7,e2]
    exact ab1 _
   | false=>
    have e2:bd6 y 4=0:=by rw[y4,z0,gw1 y hy2,hc]
    simp only[go_sem,an7,e2];exact ab1 _
end Go.Id.Tryz
