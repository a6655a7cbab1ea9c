/- What a package may offer; numbers that a list has. Conditions: sizes that fit. -/
import Derived.Test.YtjpdjifjokldlaaGreatDoorTPQC
import Derived.Test.YtjpdjifjokldlaaGreatDoorMv
import Derived.Test.YtjpdjifjokldlaaGreatDoorTPPE
import Derived.Test.YtjpdjifjokldlaaGreatDoorFwZb
import Derived.Test.YtjpdjifjokldlaaGreatDoorTPPB
import Derived.Test.YtjpdjifjokldlaaGreatDoorFwZ
import Derived.Test.YtjpdjifjokldlaaGreatDoorFwQ
set_option linter.all false
namespace Go.Id.Tryz
open Go Go.Id Go.Proofs Go.Id.Md
theorem ho7 (nm:Nms):Bnd 0 (.am4 (nmV nm)):=by
 refine .am4 _ (fun e he=>?_) (fun e he=>?_)<;>(simp only[nmV,List.mem_map] at he; obtain ⟨t,_,rfl⟩:=he)
 ·exact .str _
 ·refine .aa3 _ fun x hx c hc=>?_
  obtain ⟨n,_,rfl⟩:=List.mem_map.1 hx
  cases hc with
  | head=>exact .int _ _
  | tail _ h=>cases h
theorem gn1 (l:List aq1):Bnd 0 (.aa3 (l.map aq1.cs)):=.aa3 _ fun e he c hc=>by
 obtain ⟨r,_,rfl⟩:=List.mem_map.1 he; exact eh9 r c hc
theorem au7 (p:Pool):Bnd 0 p.v:=.ad4 _ fun c hc=>by
 simp only[List.mem_cons,List.not_mem_nil,or_false] at hc;rcases hc with rfl|rfl|rfl
 ·exact gn1 _
 ·exact .int _ _
 ·exact ho7 _
theorem ak7 (l:List aq1)(n:Int):PC Tryz.prog EE 31 [.aa3 (l.map aq1.cs),.int .i64 n] (.bool (decide (0<=n)&&decide (n<l.length))):=by
 refine aw2 fok31 (nZ rfl) fun σ=>?_
 by_cases h:0<=n
 ·simp only[ic31,go_sem,h,and_self]
 ·simp only[ic31,go_sem,h,and_self]
theorem dq7 (p:Pool):PC Tryz.prog EE 8 [p.v] (.int .i64 p.rows.length):=by
 refine aw2 fok8 (nZ rfl) fun σ=>?_
 simp only[ic8,go_sem,Pool.v,and_self]
theorem cd2 (p:Pool):PC Tryz.prog EE 9 [p.v] (.int .i64 p.inst):=by
 refine aw2 fok9 (nZ rfl) fun σ=>?_
 simp only[ic9,go_sem,Pool.v,and_self]
theorem ei2 (r:aq1):r.cs.take 15=r.pkg.cs:=rfl
theorem cn8 (p:Pool)(n:Nat)(h:n<p.rows.length)(hf:p.rows[n].pkg.Fit):PC Tryz.prog EE 18 [p.v,.int .i64 n] (.tuple [.agg p.rows[n].pkg.cs,.int .i64 0]):=by
 refine aj6 hE fok18 (nZ rfl) (ah5 (au7 p) (.int _ _)) ?_;have c1:(n:Int)<p.rows.length:=by omega
 have c2:(0:Int)<=n:=by omega
 have hg:(p.rows.map aq1.cs).getD n []=p.rows[n].cs:=by simp[List.getD_eq_getElem?_getD,h]
 have h15:∀ r:aq1,(15<=r.cs.length)=True:=fun r=>by rw[au6]; simp
 simp only[ic18,go_sem,Pool.v];refine aa4 fok31 (ak7 p.rows n) ?_;simp only[go_sem,c1,c2,hg,au6,ei2];refine aa4 fok34 (cz2 _ hf) ?_;simp only[go_sem,ao3,am6,ad9];exact .keep _ (.tuple _ (ah5 (al2 _) (.int _ _)))
structure MS (s:Store) (tag:Nat->Nat) (c mid:Nat) (L:NmL) (B:Nat):Prop where
 map:s.obj mid=some (.map (mEs L))
 row:∀ t∈L,s.obj t.2.2=some (.row (t.2.1.map Md.ai9).flatten)/\t.2.2<s.next/\t.2.1.length<=B
 gw2:∀ t∈L,tag t.2.2=c
 ids:(L.map (·.2.2)).Nodup
 keys:(L.map (·.1)).Nodup
 lt:mid<s.next
 ix8:tag mid=c
theorem MS.keep {s s':Store}{tag tag':Nat->Nat}{c mid:Nat}{L:NmL}{B B':Nat}(h:MS s tag c mid L B)(hB:B<=B')(hn:s.next<=s'.next)(ho:∀ i,i<s.next->tag i=c->s'.obj i=s.obj i)(ht:∀ i,i<s.next->tag' i=tag i):MS s' tag' c mid L B' where
 map:=by rw[ho _ h.lt h.ix8]; exact h.map
 row:=fun t m=>⟨by rw[ho _ (h.row t m).2.1 (h.gw2 t m)]; exact (h.row t m).1,by have:=(h.row t m).2.1; omega,by have:=(h.row t m).2.2; omega⟩
 gw2:=fun t m=>by rw[ht _ (h.row t m).2.1]; exact h.gw2 t m
 ids:=h.ids
 keys:=h.keys
 lt:=by have:=h.lt; omega
 ix8:=by rw[ht _ h.lt]; exact h.ix8
def io7 (tag:Nat->Nat)(c nid:Nat):Nat->Nat:=fun i=>if i=nid then c else tag i
theorem dg7 {tag:Nat->Nat}{c nid n:Nat}(h:n<=nid):∀ i,i<n->io7 tag c nid i=tag i:=fun i hi=>by
 unfold io7; rw[if_neg (by omega)]
theorem MS.cur {s:Store}{tag:Nat->Nat}{c mid:Nat}{L:NmL}{B:Nat}(h:MS s tag c mid L B)(k:Str)(m:Nat)(hm:s.next<=m):Grow ⟨m,s.obj⟩ (dx4 L k) 1 ((di1 L k).map Md.ai9)/\(di1 L k).length<=B:=by
 rcases ce8 L k with ⟨h1,h2⟩|⟨t,ht,_,h1,h2⟩
 ·rw[h1,h2]; exact ⟨.inl ⟨rfl,rfl⟩,Nat.zero_le _⟩
 ·rw[h1,h2]; exact ⟨.inr ⟨t.2.2,by rw[List.length_map],(h.row t ht).1,by have:=(h.row t ht).2.1; show t.2.2<m; omega⟩,(h.row t ht).2.2⟩
theorem MS.frz {s:Store}{tag:Nat->Nat}{c mid:Nat}{L:NmL}{B:Nat}(h:MS s tag c mid L B){nm:Nms}(hp:(bz8 L).Perm nm):dh8 s 0 (.map mid) (.am4 (nmV nm)):=by
 have hat:∀ i,i<(mEs L).length->∃ t∈L,(mEs L).getD i (.undef,.undef)=(.str t.1,.slice t.2.2 0 t.2.1.length 1)/\(nmV (bz8 L)).getD i (.undef,.undef)=(.str t.1,.aa3 (t.2.1.map Md.ai9)):=by
  intro i hi;have hi':i<L.length:=by simpa [mEs] using hi
  exact ⟨L[i],List.getElem_mem hi',by simp[mEs,List.getD_eq_getElem?_getD,hi'],by simp[nmV,bz8,List.getD_eq_getElem?_getD,hi']⟩
 have hkn:KN nm:=KN.perm (nm:=bz8 L) (by show ((bz8 L).map (·.1)).Nodup; unfold bz8; rw[List.map_map]; exact h.keys) hp;refine .map mid (mEs L) (nmV (bz8 L)) (nmV nm) (Nat.not_lt_zero _) h.map (by simp[nmV,bz8,mEs]) (hp.map _) ⟨?_,.str,fun e he=>?_⟩ (fun i hi=>?_) (fun i hi=>?_)
 ·have:(nmV nm).map (·.1)=(nm.map (·.1)).map IV.str:=by simp[nmV]
  rw[this];exact List.Pairwise.map _ (fun a b hab e=>hab (by cases e; rfl)) hkn
 ·simp only[nmV,List.mem_map] at he;obtain ⟨t,_,rfl⟩:=he;trivial
 ·obtain ⟨t,ht,e1,e2⟩:=hat i hi;rw[e1,e2]; exact ar1 _
 ·obtain ⟨t,ht,e1,e2⟩:=hat i hi;rw[e1,e2];obtain ⟨r1,r2,_⟩:=h.row t ht;have hg:Grow s (.slice t.2.2 0 t.2.1.length 1) 1 (t.2.1.map Md.ai9):=.inr ⟨t.2.2,by rw[List.length_map],r1,r2⟩;refine hg.frz (fun x hx=>(dg5 _ x hx).1) (fun _ _=>Nat.not_lt_zero _) fun e he c hc=>?_
  obtain ⟨n,_,rfl⟩:=List.mem_map.1 he
  cases hc with
  | head=>exact .int _ _
  | tail _ h=>cases h
structure IS (s:Store) (pp m1 m2 m3:Nat) (all:List aa2) (rv:IV) (L1 L2 L3:NmL) (tag:Nat->Nat) (B:Nat):Prop where
 cell:s.obj pp=some (.cells [rv,.map m1,.map m2,.map m3])
 ltp:pp<s.next
 grow:Grow s rv 15 (all.map aa2.cs)
 gw2:∀ id n,rv=.slice id 0 n 15->tag id=0
 m1:MS s tag 1 m1 L1 B
 m2:MS s tag 2 m2 L2 B
 m3:MS s tag 3 m3 L3 B
 im3:tag pp=4
theorem IS.mono {s s':Store}{pp m1 m2 m3:Nat}{all:List aa2}{rv:IV}{L1 L2 L3:NmL}{tag:Nat->Nat}{B B':Nat}(h:IS s pp m1 m2 m3 all rv L1 L2 L3 tag B)(hB:B<=B')(hn:s.next<=s'.next)(ho:∀ i,i<s.next->s'.obj i=s.obj i):IS s' pp m1 m2 m3 all rv L1 L2 L3 tag B' where
 cell:=by rw[ho _ h.ltp]; exact h.cell
 ltp:=by have:=h.ltp; omega
 grow:=h.grow.mono hn fun id _ hid=>ho id hid
 gw2:=h.gw2
 m1:=h.m1.keep hB hn (fun i hi _=>ho i hi) fun _ _=>rfl
 m2:=h.m2.keep hB hn (fun i hi _=>ho i hi) fun _ _=>rfl
 m3:=h.m3.keep hB hn (fun i hi _=>ho i hi) fun _ _=>rfl
 im3:=h.im3
theorem fw1 (l:List aa2):∀ e∈l.map aa2.cs,e.length=15/\e.all IV.leaf=true:=fun e he=>by
 obtain ⟨x,_,rfl⟩:=List.mem_map.1 he;exact ⟨ao3 x,ad9 x⟩
theorem IS.push {s:Store}{pp m1 m2 m3:Nat}{all:List aa2}{rv:IV}{L1 L2 L3:NmL}{tag:Nat->Nat}{B:Nat}(h:IS s pp m1 m2 m3 all rv L1 L2 L3 tag B)(x:aa2)(m nid:Nat)(hm:s.next<=m)(hnew:s.next<=nid)(hb:all.length<2^30) :
  ∃ s1,aq2 ⟨m,s.obj⟩ nid 15 rv (.aa3 [x.cs])=some (.slice nid 0 (all.length+1) 15,s1)/\s1.next=m/\s1.obj pp=s.obj pp/\(∀ i o,i<s.next->s.obj i=some o->(∀ cs,o≠.row cs)->s1.obj i=some o) /\
   ∀ nx,nid<nx->IS ⟨nx,(s1.put pp (.cells [.slice nid 0 (all.length+1) 15,.map m1,.map m2,.map m3])).obj⟩ pp m1 m2 m3 (all++[x]) (.slice nid 0 (all.length+1) 15) L1 L2 L3 (io7 tag 0 nid) B:=by
 have hg:Grow ⟨m,s.obj⟩ rv 15 (all.map aa2.cs):=Grow.mono (σ:=s) h.grow hm fun _ _ _=>rfl
 have hap:=al1 (nid:=nid) (e:=x.cs) hg (fw1 all) ⟨ao3 x,ad9 x⟩ (by rw[List.length_map]; omega);rw[List.length_map] at hap;have hlt:=h.ltp;have hpp:¬ pp=nid:=by omega
 have kp:=ah6 hg pp _ h.cell (fun _ e=>by cases e)
 have kk:∀ i,i<s.next->tag i≠0->tag i≠4->((ai3 rv ⟨m,s.obj⟩).put nid (.row (all.map aa2.cs++[x.cs]).flatten) |>.put pp (.cells [.slice nid 0 (all.length+1) 15,.map m1,.map m2,.map m3])).obj i=s.obj i:=by
  intro i hi h0 h4;show (if i=pp then _ else if i=nid then _ else (ai3 rv ⟨m,s.obj⟩).obj i)=_;rw[if_neg (fun e=>h4 (by rw[e]; exact h.im3)),if_neg (by omega)];rcases h.grow with ⟨hv,_⟩|⟨id,hv,ho,hl⟩
  ·rw[hv]; rfl
  ·have ht:=h.gw2 id _ hv;rw[hv];show (if i=id then none else s.obj i)=_;rw[if_neg (fun e=>h0 (by rw[e]; exact ht))]
 refine ⟨_,hap,by rw[ab4,ae1],by rw[aa5,if_neg hpp,kp,h.cell],?_,fun nx hnx=>?_⟩
 ·intro i o hi ho hr;rw[aa5,if_neg (by omega)]; exact ah6 hg i _ ho hr
 ·exact {
   cell:=by
    show (if pp=pp then _ else _)=_;rw[if_pos rfl]
   ltp:=by show pp<nx; omega
   grow:=by
    refine .inr ⟨nid,by rw[List.map_append,List.length_append,List.length_map]; rfl,?_,hnx⟩;show (if nid=pp then _ else if nid=nid then _ else _)=_;rw[if_neg (fun e=>hpp e.symm),if_pos rfl,List.map_append]; rfl
   gw2:=fun id n hv=>by cases hv; unfold io7; rw[if_pos rfl]
   m1:=h.m1.keep (Nat.le_refl _) (by show s.next<=nx; omega) (fun i hi e=>kk i hi (by rw[e]; decide) (by rw[e]; decide)) (dg7 hnew)
   m2:=h.m2.keep (Nat.le_refl _) (by show s.next<=nx; omega) (fun i hi e=>kk i hi (by rw[e]; decide) (by rw[e]; decide)) (dg7 hnew)
   m3:=h.m3.keep (Nat.le_refl _) (by show s.next<=nx; omega) (fun i hi e=>kk i hi (by rw[e]; decide) (by rw[e]; decide)) (dg7 hnew)
   im3:=by rw[dg7 hnew _ h.ltp]; exact h.im3 }
theorem IS.frz {s:Store}{pp m1 m2 m3:Nat}{all:List aa2}{rv:IV}{L1 L2 L3:NmL}{tag:Nat->Nat}{B:Nat}(h:IS s pp m1 m2 m3 all rv L1 L2 L3 tag B){x:Index}(h0:x.all=all)(h1:(bz8 L1).Perm x.bd4)(h2:(bz8 L2).Perm x.names)(h3:(bz8 L3).Perm x.over):dh8 s 0 (.ptr pp 0) x.v:=by
 subst h0;refine .ptr pp 0 _ _ (Nat.not_lt_zero _) (.inl h.cell) (Nat.le_refl _) fun j hj=>?_
 have hj3:j=0\/j=1\/j=2\/j=3:=by simp only[List.length_cons,List.length_nil] at hj; omega
 rcases hj3 with rfl|rfl|rfl|rfl
 ·refine h.grow.frz (fun x hx=>(fw1 _ x hx).1) (fun _ _=>Nat.not_lt_zero _) fun e he c hc=>?_
  obtain ⟨r,_,rfl⟩:=List.mem_map.1 he;exact bn7 r c hc
 ·exact h.m1.frz h1
 ·exact h.m2.frz h2
 ·exact h.m3.frz h3
theorem cz6 {α:Type}:∀ (l:List α) (k:Nat) (h:k<l.length),l.Perm (l[k]::l.eraseIdx k)
 | [],k,h=>by simp at h
 | a::l,0,_=>.refl _
 | a::l,k+1,h=>((cz6 l k (by simpa using h)).cons a).trans (.swap _ _ _)
theorem ix6 {s:Store}{id:Nat}{l:List (IV×IV)}{c:Option (IV×IV)}(h:s.obj id=some (.aj5 l c)):at6 s (.ptr id 0)=some (id,l):=by simp only[at6,h]
theorem im1 {s:Store}{id:Nat}{l:List (IV×IV)}{c:IV×IV}(h:s.obj id=some (.aj5 l (some c))):be1 s (.ptr id 0)=some (.tuple [c.1,c.2]):=by simp only[be1,h]
theorem ho8 {f:Nat}{args:List IV}{v:IV}{σ:Store}{K:IV->Store->Prop}(hf:okF Tryz.prog f=true)(h:PC Tryz.prog EE f args v)(hk:K v σ):ci4 Tryz.prog EE none f args σ K :=
 au5 hf (gt3 h) fun _ _ ⟨h1,h2⟩=>by subst h1; subst h2; exact ⟨Nat.le_refl _,hk⟩
set_option maxRecDepth 100000
theorem dq8 (s:Str):PC Tryz.prog EE 148 [.str s] (.func (.func 152) [] [.ad4 [.str s]]):=by
 refine aj6 hE fok148 (nZ rfl) (af7 (.str _)) ?_;simp only[ic148,go_sem];have h1:∀ c∈[IV.str s],Bnd 0 c:=af7 (.str _);have h2:∀ c∈[IV.ad4 [.str s]],Bnd 0 c:=af7 (.ad4 _ h1);exact .keep _ (.func _ _ _ (fun c hc=>by cases hc) h2)
theorem ay7 (l:List Part):∀ e∈l.map Part.cs,e.length=2/\e.all IV.leaf=true:=fun e he=>by
 obtain ⟨x,_,rfl⟩:=List.mem_map.1 he; exact ⟨rfl,rfl⟩
theorem fb4:∀ (n:Nat) (l:Str),l.length<=n->(ao7 n l).length<=l.length:=by
 intro n
 induction n with
 | zero=>intro l h; simp[ao7]
 | succ n ih=>
  intro l h
  cases l with
  | nil=>simp[ao7]
  | cons b l=>
   simp only[List.length_cons] at h;simp only[ao7];split
   ·exact Nat.le_trans (ih l (by omega)) (by simp)
   ·split
    ·simp only[List.length_cons]; have:=ih l (by omega); omega
    ·simp only[List.length_cons]
     have hd:((b::l).dropWhile fun c=>ac5 c==ac5 b).length<=l.length:=by
      rw[List.dropWhile_cons,if_pos (by simp)]; exact ce9 l
     have:=ih _ (Nat.le_trans hd (by omega));omega
theorem ba8 (s:Str):(ab6 s).length<=s.length:=fb4 _ _ (Nat.le_refl _)
theorem cz7 (s:Str)(hs:s.length<2^30)(σ:Store):C Tryz.prog EE 145 [.str s] σ fun v t=>(∀ i,i<σ.next->t.obj i=σ.obj i)/\σ.next<=t.next/\Grow t v 2 ((ab6 s).map Part.cs)/\∀ id n,v=.slice id 0 n 2->σ.next<=id:=by
 refine C_f fok145 (nZ rfl) ?_;simp only[ic145,go_sem];refine aa4 fok148 (dq8 s) ?_;simp only[go_sem];have hvl:=ba8 s;refine db6 (gm9 s (by omega)) (fun rest t=>∃ n v,n<=(ab6 s).length/\rest=((ab6 s).drop n).map evP/\(∀ i,i<σ.next->t.obj i=σ.obj i)/\t.obj σ.next=some (.cells [v])/\σ.next<t.next/\Grow t v 2 (((ab6 s).take n).map Part.cs)/\∀ id k,v=.slice id 0 k 2->σ.next+1<id) (fun _ _ _=>trivial) ?_ ?_ ?_ ?_ ?_
 ·rintro rest t t' ⟨n,v,h0,h1,h2,h3,h4,h5,h6⟩ hn ho;exact ⟨n,v,h0,h1,fun i hi=>by rw[ho i (by omega)]; exact h2 i hi,by rw[ho _ h4]; exact h3,by omega,h5.mono hn fun id _ hid=>ho id hid,h6⟩
 ·intro a ha;obtain ⟨p,_,rfl⟩:=List.mem_map.1 ha;rfl
 ·intro o;have e0:¬ σ.next=σ.next+1:=by omega
  refine ⟨0,.aa1,Nat.zero_le _,rfl,fun i hi=>?_,?_,by show σ.next<σ.next+1+1; omega,.inl ⟨rfl,by simp⟩,fun id k h=>by cases h⟩
  ·have e1:¬ i=σ.next:=by omega
   have e2:¬ i=σ.next+1:=by omega
   simp only[aa5,ab4,e1,e2,if_false]
  ·simp only[aa5,ab4,e0,if_false,if_true]
 ·rintro L pre a rest t hev ⟨n,v,h0,h1,h2,h3,h4,h5,h6⟩ hL hlt
  have hn:n<(ab6 s).length:=by
   rcases Nat.lt_or_ge n (ab6 s).length with h|h
   ·exact h
   ·rw[List.drop_of_length_le h] at h1; cases h1
  rw[List.drop_eq_getElem_cons hn,List.map_cons] at h1;obtain ⟨ha,hrest⟩:=List.cons.inj h1;subst ha;simp only[evP,Part.cs,ab4] at hL hlt ⊢;have e1:¬ σ.next+1=t.next:=by omega
  have e2:¬ σ.next=t.next:=by omega
  have e3:¬ σ.next=σ.next+1:=by omega
  have e4:¬ t.next=σ.next+1:=by omega
  have e5:¬ t.next=σ.next:=by omega
  simp only[go_sem,hL,e1,e2,e3,e4,h3];generalize hU:(((Store.put ⟨t.next+1,t.obj⟩ t.next (ak2.cells [IV.int .u8 0,IV.str []])).put t.next (ak2.cells [IV.int .u8 ↑(ab6 s)[n].kind,IV.str (ab6 s)[n].s])).put (σ.next+1) (L .busy none))=U
  have hUo:∀ i,i<t.next->i≠σ.next+1->U.obj i=t.obj i:=fun i hi hne=>by
   have:¬ i=t.next:=by omega
   rw[<- hU]; simp only[aa5,hne,this,if_false]
  have hUL:U.obj (σ.next+1)=some (L .busy none):=by rw[<- hU]; simp only[aa5,if_true]
  have hg:Grow ⟨t.next+1+1,U.obj⟩ v 2 (((ab6 s).take n).map Part.cs):=by
   refine h5.mono (by show t.next<=t.next+1+1; omega) fun id hv hid=>?_
   have:=h6 _ _ hv;exact hUo id hid (by omega)
  have hl0:(((ab6 s).take n).map Part.cs).length=n:=by rw[List.length_map,List.length_take]; omega
  have hap:=al1 (nid:=t.next+1) (e:=[IV.int .u8 ↑(ab6 s)[n].kind,IV.str (ab6 s)[n].s]) hg (ay7 _) ⟨rfl,rfl⟩ (by rw[hl0]; omega);have k1:=ah6 hg σ.next (.cells [v]) (by show U.obj _=_; rw[hUo _ h4 e3]; exact h3) (fun _ h=>by cases h)
  have k2:(ai3 v ⟨t.next+1+1,U.obj⟩).obj (σ.next+1)=some (L .busy none):=by
   cases hv:v<;>try exact hUL
   rename_i id o n' e;show (if σ.next+1=id then none else U.obj _)=_;rcases h5 with ⟨h,_⟩|⟨id',h,_,_⟩
   ·rw[h] at hv; cases hv
   ·rw[hv] at h; cases h;have:=h6 _ _ hv;rw[if_neg (by omega)]; exact hUL
  have k3:∀ i,i<σ.next->(ai3 v ⟨t.next+1+1,U.obj⟩).obj i=σ.obj i:=fun i hi=>by
   have e7:U.obj i=σ.obj i:=by rw[hUo i (by omega) (by omega)]; exact h2 i hi
   cases hv:v<;>try exact e7
   rename_i id o n' e;show (if i=id then none else U.obj _)=_;rcases h5 with ⟨h,_⟩|⟨id',h,_,_⟩
   ·rw[h] at hv; cases hv
   ·rw[hv] at h; cases h;have:=h6 _ _ hv;rw[if_neg (by omega)]; exact e7
  have kn:=ae1 (σ:=⟨t.next+1+1,U.obj⟩) v;rw[hl0] at hap;have e6:¬ σ.next=t.next+1:=by omega
  have e7:¬ σ.next+1=t.next+1:=by omega
  have e8:¬ σ.next+1=σ.next:=by omega
  simp only[go_sem,hap,e6,k1,e7,e8,k2];refine dl4 (by rw[ab4,ab4,ab4,kn]; show t.next<=t.next+1+1; omega) (by simp only[aa5,if_true]) ?_;refine ⟨n+1,.slice (t.next+1) 0 (n+1) 2,hn,hrest,fun i hi=>?_,?_,?_,?_,fun id k h=>?_⟩
  ·have g1:¬ i=σ.next+1:=by omega
   have g2:¬ i=σ.next:=by omega
   have g3:¬ i=t.next+1:=by omega
   simp only[aa5,g1,g2,g3,if_false]; exact k3 i hi
  ·simp only[aa5,e3,if_false,if_true]
  ·simp only[ab4,kn]; omega
  ·have htk:(ab6 s).take (n+1)=(ab6 s).take n++[(ab6 s)[n]]:=by rw[List.take_succ_eq_append_getElem hn]
   rw[htk,List.map_append];refine .inr ⟨t.next+1,by simp; omega,?_,by simp only[ab4,kn]; omega⟩;have g1:¬ t.next+1=σ.next+1:=by omega
   have g2:¬ t.next+1=σ.next:=by omega
   simp only[aa5,g1,g2,if_false,if_true]; rfl
  ·cases h; omega
 ·rintro t o ⟨n,v,h0,h1,h2,h3,h4,h5,h6⟩ hlt ho
  have hn:n=(ab6 s).length:=by
   rcases Nat.lt_or_ge n (ab6 s).length with h|h
   ·rw[List.drop_eq_getElem_cons h] at h1; cases h1
   ·omega
  subst hn;have e3:¬ σ.next=σ.next+1:=by omega
  simp only[ab4] at hlt ho ⊢;simp only[go_sem,e3,h3];rw[List.take_length] at h5;refine ⟨fun i hi=>?_,by omega,h5.mono (Nat.le_refl _) fun id hv hid=>?_,fun id k h=>?_⟩
  ·have g1:¬ i=σ.next+1:=by omega
   rw[if_neg g1]; exact h2 i hi
  ·have:=h6 _ _ hv;have g1:¬ id=σ.next+1:=by omega
   show (if id=σ.next+1 then none else t.obj id)=_;rw[if_neg g1]
  ·have:=h6 _ _ h; omega
theorem gv9 {p:UInt8->Bool}(l:Str):(l.takeWhile p).length<=l.length:=(List.takeWhile_sublist _).length_le
theorem gn2:∀ (n:Nat) (l:Str),l.length<=n->∀ p∈ao7 n l,p.s.length<=l.length:=by
 intro n
 induction n with
 | zero=>intro l h p hp; simp[ao7] at hp
 | succ n ih=>
  intro l h p hp
  cases l with
  | nil=>simp[ao7] at hp
  | cons b l=>
   simp only[List.length_cons] at h;simp only[ao7] at hp;split at hp
   ·exact Nat.le_trans (ih l (by omega) p hp) (by simp)
   ·split at hp
    ·rcases List.mem_cons.1 hp with rfl|hp
     ·simp
     ·exact Nat.le_trans (ih l (by omega) p hp) (by simp)
    ·have hd:((b::l).dropWhile fun c=>ac5 c==ac5 b).length<=l.length:=by
      rw[List.dropWhile_cons,if_pos (by simp)]; exact ce9 l
     rcases List.mem_cons.1 hp with rfl|hp
     ·simp only;split
      ·exact Nat.le_trans (ce9 _) (gv9 _)
      ·exact gv9 _
     ·exact Nat.le_trans (ih _ (Nat.le_trans hd (by omega)) p hp) (Nat.le_trans hd (by simp))
theorem gn3 (s:Str):∀ p∈ab6 s,p.s.length<=s.length:=gn2 _ _ (Nat.le_refl _)
def ef6:Part:=⟨2,[]⟩
abbrev vL (s:Str):List Part:=ab6 s++[ef6]
theorem io8 (s:Str):∀ p∈vL s,p.s.length<=s.length:=fun p hp=>by
 rcases List.mem_append.1 hp with h|h
 ·exact gn3 s p h
 ·simp[ef6] at h; subst h; exact Nat.zero_le _
theorem br6 {xs ys:List Part}{i:Nat}(h1:i<xs.length)(h2:i<ys.length):ai8 (xs.drop i) (ys.drop i)=if ag3 xs[i] ys[i]≠0 then ag3 xs[i] ys[i] else ai8 (xs.drop (i+1)) (ys.drop (i+1)):=by
 rw[List.drop_eq_getElem_cons h1,List.drop_eq_getElem_cons h2,ai8]
theorem cb2 {xs ys:List Part}{i:Nat}(h:xs.length<=i\/ys.length<=i):ai8 (xs.drop i) (ys.drop i)=0:=by
 rcases h with h|h
 ·rw[List.drop_of_length_le h,ai8]; intros; contradiction
 ·rw[List.drop_of_length_le h]; cases xs.drop i<;>rw[ai8]<;>intros<;>contradiction
theorem fw2 (l:List Part)(i:Nat)(h:i<l.length):(l.map Part.cs).getD i []=Part.cs l[i]:=by simp[List.getD_eq_getElem?_getD,h]
theorem fw3 {σ:Store}{id i:Nat}{l:List Part}(ho:σ.obj id=some (.row (l.map Part.cs).flatten))(h:i<l.length):dc8 (some 2) (i*2) (σ.obj id)=some (.agg (Part.cs l[i])):=by
 have hall:∀ e∈l.map Part.cs,e.length=2:=fun e he=>(ay7 l e he).1
 have hlen:=ap6 hall;rw[List.length_map] at hlen;have hp:=aw4 hall i (by rw[List.length_map]; exact h);rw[ho];simp only[dc8];have h1:i*2+2<=l.length*2:=by omega
 rw[if_pos (by rw[List.length_drop,hlen]; omega),hp,fw2 l i h]
theorem br7 (a b:Str)(ha:a.length<2^30)(hb:b.length<2^30):PC Tryz.prog EE 139 [.str a,.str b] (.int .i64 (as8 a b)):=by
 refine aj6 hE fok139 (nZ rfl) (ah5 (.str _) (.str _)) ?_;have la:=ba8 a;have lb:=ba8 b;simp only[ic139,go_sem];refine am1 fok145 (cz7 a ha _) ?_;rintro v1 s1 ⟨-,n1,g1,-⟩;refine ⟨n1,?_⟩;have n1:2<=s1.next:=n1;have ap1:=al1 (nid:=0) (e:=[IV.int .u8 2,IV.str []]) g1 (ay7 _) ⟨rfl,rfl⟩ (by rw[List.length_map]; omega);simp only[go_sem,ap1];have hl1:∀ e∈(vL a).map Part.cs,e.length=2:=fun e he=>(ay7 _ e he).1
 have r1:((ab6 a).map Part.cs++[[IV.int .u8 2,IV.str []]]).flatten=((vL a).map Part.cs).flatten:=by rw[List.map_append]; rfl
 have r2:((ab6 b).map Part.cs++[[IV.int .u8 2,IV.str []]]).flatten=((vL b).map Part.cs).flatten:=by rw[List.map_append]; rfl
 rw[r1];refine am1 fok145 (cz7 b hb _) ?_;rintro v2 s2 ⟨o2,n2,g2,h2⟩;refine ⟨n2,?_⟩;have n2:2<=s2.next:=by rw[ab4,ae1] at n2; omega
 have ap2:=al1 (nid:=1) (e:=[IV.int .u8 2,IV.str []]) g2 (ay7 _) ⟨rfl,rfl⟩ (by rw[List.length_map]; omega)
 have q0:s2.obj 0=some (.row ((vL a).map Part.cs).flatten):=by
  rw[o2 0 (by rw[ab4,ae1]; omega)];simp only[aa5,if_true]
 have q1:(ai3 v2 s2).obj 0=some (.row ((vL a).map Part.cs).flatten):=by
  rcases g2 with ⟨rfl,_⟩|⟨id,rfl,_,_⟩
  ·exact q0
  ·have:=h2 _ _ rfl;rw[ab4,ae1] at this;show (if 0=id then none else s2.obj 0)=_;rw[if_neg (by omega)]; exact q0
 rw[r2] at ap2;simp only[go_sem,ap2];generalize hS:(ai3 v2 s2).put 1 (.row ((vL b).map Part.cs).flatten)=S;have k0:S.obj 0=some (.row ((vL a).map Part.cs).flatten):=by rw[<- hS]; exact q1
 have k1:S.obj 1=some (.row ((vL b).map Part.cs).flatten):=by rw[<- hS]; simp only[aa5,if_true]
 clear hS ap1 ap2
 have hmin:(if ((ab6 b).length+1:Nat)<(((ab6 a).length+1:Nat):Int) then (((ab6 b).length+1:Nat):Int) else (((ab6 a).length+1:Nat):Int))=((min (vL a).length (vL b).length:Nat):Int):=by
  simp only[List.length_append,List.length_cons,List.length_nil];split<;>omega
 rw[hmin];have hA:(ab6 a).length+1=(vL a).length:=by simp
 have hB:(ab6 b).length+1=(vL b).length:=by simp
 rw[hA,hB];have hNa:min (vL a).length (vL b).length<=(vL a).length:=Nat.min_le_left _ _;have hNb:min (vL a).length (vL b).length<=(vL b).length:=Nat.min_le_right _ _;have hN:(vL a).length<=min (vL a).length (vL b).length\/(vL b).length<=min (vL a).length (vL b).length:=by omega
 have hsm:min (vL a).length (vL b).length<2^40:=by rw[<- hA] at hNa; omega
 generalize min (vL a).length (vL b).length=N at *;refine ac2 noT (fun i fr s=>fr=[(5,.slice 0 0 (vL a).length 2),(6,.slice 1 0 (vL b).length 2),(23,.int .i64 N),(24,.int .i64 i)]/\s.obj=S.obj/\as8 a b=ai8 ((vL a).drop i) ((vL b).drop i)) N ⟨rfl,rfl,rfl⟩ ?_;rintro i fr s hle ⟨rfl,hs,hI⟩;by_cases hlt:i<N
 ·have c1:(i:Int)<N:=by omega
  have c2:(0:Int)<=i:=by omega
  have ia:i<(vL a).length:=by omega
  have ib:i<(vL b).length:=by omega
  have c3:(i:Int)<(vL a).length:=by omega
  have c4:(i:Int)<(vL b).length:=by omega
  have w1:=af6 (i:=i) (by omega);have l0:=fw3 k0 ia;have l1:=fw3 k1 ib;rw[br6 ia ib] at hI;have hp:=fb3 (vL a)[i] (vL b)[i] (by have:=io8 a _ (List.getElem_mem ia); omega) (by have:=io8 b _ (List.getElem_mem ib); omega);generalize (vL a)[i]=x at *;generalize (vL b)[i]=y at *;simp only[go_sem,c1,c2,c3,c4,hs,l0,l1];refine aa4 fok146 hp ?_;by_cases hz:ag3 x y=0
  ·simp only[go_sem,hz,w1];rw[hz,if_neg (by simp)] at hI;exact ⟨hlt,hI⟩
  ·rw[if_pos hz] at hI;simp only[go_sem,hz];rw[hI]; exact ac4 _ _
 ·have hi':i=N:=by omega
  subst hi';have c1:¬ (i:Int)<i:=by omega
  rw[cb2 hN] at hI;simp only[go_sem,c1];rw[hI]; exact ac4 _ _
theorem fw4 (a b:EVR):PC Tryz.prog EE 136 [.ad4 a.cs,.ad4 b.cs] (.int .i64 (ap9 a.ai4 b.ai4)):=by
 refine aw2 fok136 (nZ rfl) fun σ=>?_
 simp only[ic136,go_sem,EVR.cs];refine aa4 fok137 (dz5 _ _) ?_;simp only[go_sem,and_self]
theorem fw5 (a b:EVR)(h1:a.ver.length<2^30)(h2:b.ver.length<2^30):PC Tryz.prog EE 138 [.ad4 a.cs,.ad4 b.cs] (.int .i64 (as8 a.ver b.ver)):=by
 refine aw2 fok138 (nZ rfl) fun σ=>?_
 simp only[ic138,go_sem,EVR.cs];refine aa4 fok139 (br7 _ _ h1 h2) ?_;simp only[go_sem,and_self]
theorem fw6 (a b:EVR)(h1:a.rel.length<2^30)(h2:b.rel.length<2^30):PC Tryz.prog EE 140 [.ad4 a.cs,.ad4 b.cs] (.int .i64 (if a.rel=[]\/b.rel=[] then 0 else as8 a.rel b.rel)):=by
 refine aw2 fok140 (nZ rfl) fun σ=>?_
 by_cases e1:a.rel=[]
 ·simp only[ic140,go_sem,EVR.cs,e1,true_or,and_self]
 ·by_cases e2:b.rel=[]
  ·simp only[ic140,go_sem,EVR.cs,e1,e2,or_true,and_self]
  ·simp only[ic140,go_sem,EVR.cs,e1,e2,or_self];refine aa4 fok139 (br7 _ _ h1 h2) ?_;simp only[go_sem,and_self]
def fnC (f:Nat×List IV):List IV:=[.func (.func f.1) [] f.2]
theorem dz9 (fs:List (Nat×List IV))(vals:List Int)(hl:fs.length=vals.length)(hn:fs.length<2^40)(hb:∀ f∈fs,∀ c∈f.2,Bnd 0 c)
  (h:∀ i (h1:i<fs.length) (h2:i<vals.length),okF Tryz.prog fs[i].1=true/\PC Tryz.prog EE fs[i].1 fs[i].2 (.int .i64 vals[i])):PC Tryz.prog EE 135 [.aa3 (fs.map fnC)] (.int .i64 (orM vals)):=by
 refine aj6 hE fok135 (nZ rfl) (af7 (.aa3 _ fun e he c hc=>?_)) ?_
 ·obtain ⟨f,hf,rfl⟩:=List.mem_map.1 he
  cases hc with
  | head=>exact .func _ _ _ (fun c hc=>by cases hc) (hb f hf)
  | tail _ h=>cases h
 simp only[ic135,go_sem];refine ac2 noT (fun i fr s=>fr=[(6,.aa3 (fs.map fnC)),(7,.int .i64 fs.length),(8,.int .i64 i)]/\orM vals=orM (vals.drop i)) fs.length ⟨rfl,rfl⟩ ?_;rintro i fr s hle ⟨rfl,hI⟩;by_cases hlt:i<fs.length
 ·obtain ⟨f,hf,hget0,hdr,hget,htk⟩:=ad2 fs i hlt;have hlt2:i<vals.length:=by omega
  have c1:(i:Int)<fs.length:=by omega
  have c2:(0:Int)<=i:=by omega
  have w1:=af6 (i:=i) (by omega);obtain ⟨k1,k2⟩:=h i hlt hlt2
  have hfi:fs[i]=f:=by
   have:=List.getElem?_eq_getElem hlt; rw[this] at hget0; exact Option.some.inj hget0
  rw[hfi] at k1 k2;rw[List.drop_eq_getElem_cons hlt2,orM] at hI;generalize vals[i]=x at *;simp only[go_sem,c1,c2,hget,fnC];refine ho8 k1 k2 ?_;by_cases hx:x=0
  ·subst hx;simp only[go_sem,w1];exact ⟨hlt,by simpa using hI⟩
  ·rw[if_neg hx] at hI;simp only[go_sem,hx];rw[hI]; exact ac4 _ _
 ·have hi':i=fs.length:=by omega
  subst hi';have c1:¬ (fs.length:Int)<fs.length:=by omega
  rw[hl,List.drop_length,orM] at hI;simp only[go_sem,c1];rw[hI]; exact ac4 _ _
theorem ei3 (a:EVR):Bnd 0 (.ad4 a.cs):=.ad4 _ fun c hc=>by
 simp only[EVR.cs,List.mem_cons,List.not_mem_nil,or_false] at hc;rcases hc with rfl|rfl|rfl
 ·exact .int _ _
 ·exact .str _
 ·exact .str _
theorem bk2 (a:EVR):Bnd 0 (.agg a.cs):=.agg _ fun c hc=>by
 simp only[EVR.cs,List.mem_cons,List.not_mem_nil,or_false] at hc;rcases hc with rfl|rfl|rfl
 ·exact .int _ _
 ·exact .str _
 ·exact .str _
def EVR.small (e:EVR):Prop:=e.ver.length<2^30/\e.rel.length<2^30
theorem dg8 (a b:EVR)(ha:EVR.small a)(hb:EVR.small b):PC Tryz.prog EE 130 [.agg a.cs,.agg b.cs] (.int .i64 (bc8 a b)):=by
 refine aj6 hE fok130 (nZ rfl) (ah5 (bk2 a) (bk2 b)) ?_
 have hv:bc8 a b=orM [ap9 a.ai4 b.ai4,as8 a.ver b.ver,if a.rel=[]\/b.rel=[] then 0 else as8 a.rel b.rel]:=by
  rw[io6]; unfold bc8;split
  ·rfl
  ·split
   ·rfl
   ·rfl
 have hf:=dz9 [(136,[.ad4 a.cs,.ad4 b.cs]),(138,[.ad4 a.cs,.ad4 b.cs]),(140,[.ad4 a.cs,.ad4 b.cs])] [ap9 a.ai4 b.ai4,as8 a.ver b.ver,if a.rel=[]\/b.rel=[] then 0 else as8 a.rel b.rel] rfl (by simp)
  (fun f hf c hc=>by
   simp only[List.mem_cons,List.not_mem_nil,or_false] at hf;rcases hf with rfl|rfl|rfl<;>exact ah5 (ei3 a) (ei3 b) c hc)
  (fun i h1 h2=>by
   match i,h1 with
   | 0,_=>exact ⟨fok136.1,fw4 a b⟩
   | 1,_=>exact ⟨fok138.1,fw5 a b ha.1 hb.1⟩
   | 2,_=>exact ⟨fok140.1,fw6 a b ha.2 hb.2⟩
   | i+3,h=>simp at h; omega)
 rw[<- hv] at hf;have ea:(IV.agg a.cs).cs.all IV.leaf=true:=rfl;have eb:(IV.agg b.cs).cs.all IV.leaf=true:=rfl;simp only[EVR.cs] at hf ⊢;simp only[ic130,go_sem];refine aa4 fok135 hf ?_;simp only[go_sem];exact ac4 _ _
def bd6 (a b:Int):Int:=IntKind.u8.wrap ((BitVec.ofInt 8 a &&& BitVec.ofInt 8 b).toNat:Int)
theorem an7 (a b:Int):at1 .and (.int .u8 a) (.int .u8 b)=some (.int .u8 (bd6 a b)):=rfl
theorem ix7 {n:Nat}(h:n<256):IntKind.u8.wrap (n:Int)=n:=by
 simp[IntKind.wrap,IntKind.bits,IntKind.signed]; omega
theorem al6 (a b:Nat)(ha:a<256)(hb:b<256):bd6 a b=((a &&& b:Nat):Int):=by
 unfold bd6;rw[BitVec.toNat_and]
 have e:∀ n:Nat,n<256->(BitVec.ofInt 8 (n:Int)).toNat=n:=fun n hn=>by
  rw[BitVec.toNat_ofInt]; omega
 rw[e a ha,e b hb];exact ix7 (Nat.lt_of_le_of_lt Nat.and_le_left ha)
theorem and7:∀ a,a<256->((a &&& 7=0)↔a%8=0):=by decide +kernel
theorem dg9:∀ x,x<256->((x &&& 7=0)↔(x.testBit 0=false/\x.testBit 1=false/\x.testBit 2=false)):=by decide +kernel
theorem and1:∀ a,a<256->((a &&& 1=0)↔a.testBit 0=false):=by decide +kernel
theorem gw1:∀ a,a<256->((a &&& 4=0)↔a.testBit 2=false):=by decide +kernel
theorem fw7 (a b:Int):ap9 a b=-1\/ap9 a b=0\/ap9 a b=1:=by
 unfold ap9; split
 ·exact .inl rfl
 ·split
  ·exact .inr (.inl rfl)
  ·exact .inr (.inr rfl)
theorem im2 (a b:Str):ce7 a b=-1\/ce7 a b=0\/ce7 a b=1:=by
 unfold ce7; split
 ·exact .inl rfl
 ·split
  ·exact .inr (.inl rfl)
  ·exact .inr (.inr rfl)
theorem dq9 (a b:Part):ag3 a b=-1\/ag3 a b=0\/ag3 a b=1:=by
 have h:∀ k n s:Int,(k=-1\/k=0\/k=1)->(n=-1\/n=0\/n=1)->(s=-1\/s=0\/s=1)->((if k≠0 then k else if n≠0 then n else s)=-1\/(if k≠0 then k else if n≠0 then n else s)=0\/(if k≠0 then k else if n≠0 then n else s)=1):=by
  intro k n s h1 h2 h3;rcases h1 with rfl|rfl|rfl<;>rcases h2 with rfl|rfl|rfl<;>simp<;>exact h3
 refine h (ap9 a.kind b.kind) (if a.kind=5/\b.kind=5 then ap9 a.s.length b.s.length else 0) (ce7 a.s b.s) (fw7 _ _) ?_ (im2 _ _);split
 ·exact fw7 _ _
 ·exact .inr (.inl rfl)
theorem fb5:∀ (l m:List Part),ai8 l m=-1\/ai8 l m=0\/ai8 l m=1:=by
 intro l
 induction l with
 | nil=>intro m; exact .inr (.inl (by rw[ai8]; intros; contradiction))
 | cons a l ih=>
  intro m
  cases m with
  | nil=>exact .inr (.inl (by rw[ai8]; intros; contradiction))
  | cons b m=>
   rw[ai8];split
   ·exact dq9 a b
   ·exact ih m
theorem ei4 (a b:Str):as8 a b=-1\/as8 a b=0\/as8 a b=1:=fb5 _ _
theorem ei5 (a b:EVR):bc8 a b=-1\/bc8 a b=0\/bc8 a b=1:=by
 unfold bc8;split
 ·exact fw7 _ _
 ·split
  ·exact ei4 _ _
  ·split
   ·exact .inr (.inl rfl)
   ·exact ei4 _ _
def Dep.small (d:Dep):Prop:=0<=d.op/\d.op<256/\EVR.small d.evr
theorem ap7 (d:Dep):Bnd 0 (.agg d.cs):=.agg _ fun c hc=>by
 simp only[Dep.cs,List.mem_cons,List.not_mem_nil,or_false] at hc;rcases hc with rfl|rfl|rfl|rfl|rfl
 ·exact .str _
 ·exact .int _ _
 ·exact .int _ _
 ·exact .str _
 ·exact .str _
theorem ea1 (a b:Dep)(ha:Dep.small a)(hb:Dep.small b):PC Tryz.prog EE 113 [.agg a.cs,.agg b.cs] (.bool (meet a b)):=by
 refine aj6 hE fok113 (nZ rfl) (ah5 (ap7 a) (ap7 b)) ?_;obtain ⟨a1,a2,a3⟩:=ha;obtain ⟨b1,b2,b3⟩:=hb;have hc:=dg8 a.evr b.evr a3 b3;have h3:=ei5 a.evr b.evr;unfold meet;generalize bc8 a.evr b.evr=n at hc h3;simp only[EVR.cs] at hc;obtain ⟨x,hx⟩:∃ x:Nat,a.op=x:=⟨a.op.toNat,by omega⟩;obtain ⟨y,hy⟩:∃ y:Nat,b.op=y:=⟨b.op.toNat,by omega⟩;have hx2:x<256:=by omega
 have hy2:y<256:=by omega
 have ex7:bd6 x 7=((x &&& 7:Nat):Int):=al6 x 7 hx2 (by omega);have ey7:bd6 y 7=((y &&& 7:Nat):Int):=al6 y 7 hy2 (by omega);rw[hx,hy,Int.toNat_natCast,Int.toNat_natCast];by_cases hx0:x%8=0
 ·have q:=(and7 x hx2).2 hx0;rw[q] at ex7;have q':bd6 x 7=0:=ex7;simp only[ic113,go_sem,Dep.cs,hx,hy,an7,q',hx0,true_or];exact ab1 _
 ·have q:¬ (x &&& 7=0):=fun e=>hx0 ((and7 x hx2).1 e)
  have q':¬ bd6 x 7=0:=by rw[ex7]; omega
  by_cases hy0:y%8=0
  ·have r:=(and7 y hy2).2 hy0;rw[r] at ey7;have r':bd6 y 7=0:=ey7;simp only[ic113,go_sem,Dep.cs,hx,hy,an7,q',r',hy0,or_true];exact ab1 _
  ·have r:¬ (y &&& 7=0):=fun e=>hy0 ((and7 y hy2).1 e)
   have r':¬ bd6 y 7=0:=by rw[ey7]; omega
   simp only[ic113,go_sem,Dep.cs,hx,hy,an7,q',r',hx0,hy0,or_self];refine aa4 fok130 hc ?_;have exy:bd6 x y=((x &&& y:Nat):Int):=al6 x y hx2 hy2;have hxy:x &&& y<256:=Nat.lt_of_le_of_lt Nat.and_le_left hx2;have exy7:bd6 ((x &&& y:Nat):Int) 7=((x &&& y &&& 7:Nat):Int):=al6 _ 7 hxy (by omega);have s1:=fv8 1 (.inr (.inr rfl));have s2:=fv8 (-1) (.inl rfl);have n1:¬ ((1:Int)<0):=by decide
   have n2:¬ ((1:Int)=0):=by decide
   have n3:((-1:Int)<0):=by decide
   rw[if_neg n1,if_neg n2] at s1;rw[if_pos n3] at s2;have x1:bd6 x 1=((x &&& 1:Nat):Int):=al6 x 1 hx2 (by omega);have x4:bd6 x 4=((x &&& 4:Nat):Int):=al6 x 4 hx2 (by omega);have y1:bd6 y 1=((y &&& 1:Nat):Int):=al6 y 1 hy2 (by omega);have y4:bd6 y 4=((y &&& 4:Nat):Int):=al6 y 4 hy2 (by omega);have w1:IntKind.i64.wrap (0 - -1)=1:=by decide
   have w2:IntKind.i64.wrap (0-1)=-1:=by decide
   have bt:∀ (k i:Nat),bit (k:Int) i=k.testBit i:=fun k i=>by unfold bit; rw[Int.toNat_natCast]
   have z0:∀ k:Nat,((k:Int)=0)↔k=0:=fun k=>by omega
   rcases h3 with rfl|rfl|rfl
   ·have g1:side (- -1)=2:=by decide
    have g2:side (-1)=0:=by decide
    have m0:¬ ((-1:Int)=0):=by decide
    simp only[go_sem,m0,w1,g1,g2,bt];refine aa6 s1 ?_
    cases hb:x.testBit 2 with
    | true=>
     have e:¬ bd6 x 4=0:=by rw[x4,z0,gw1 x hx2,hb]; simp
     simp only[go_sem,an7,e]
     exact ab1 _
    | false=>
     have e:bd6 x 4=0:=by rw[x4,z0,gw1 x hx2,hb]
     simp only[go_sem,an7,e];refine aa6 s2 ?_
     cases hc:y.testBit 0 with
     | true=>
      have e2:¬ bd6 y 1=0:=by rw[y1,z0,and1 y hy2,hc]; simp
      simp only[go_sem,an7,e2]
      exact ab1 _
     | false=>
      have e2:bd6 y 1=0:=by rw[y1,z0,and1 y hy2,hc]
      simp only[go_sem,an7,e2];exact ab1 _
   ·simp only[go_sem,an7,exy,exy7,bt]
    have e:(!decide (((x &&& y &&& 7:Nat):Int)=0))=(x.testBit 0&&y.testBit 0||x.testBit 1&&y.testBit 1||x.testBit 2&&y.testBit 2):=by
     by_cases hz:x &&& y &&& 7=0
     ·obtain ⟨t0,t1,t2⟩:=(dg9 _ hxy).1 hz;rw[Nat.testBit_and] at t0 t1 t2;rw[hz,t0,t1,t2]; rfl
     ·have hz':¬ ((x &&& y &&& 7:Nat):Int)=0:=fun h=>hz (by omega)
      have ht:¬ ((x &&& y).testBit 0=false/\(x &&& y).testBit 1=false/\(x &&& y).testBit 2=false):=fun h=>hz ((dg9 _ hxy).2 h)
      rw[Nat.testBit_and,Nat.testBit_and,Nat.testBit_and] at ht;rw[decide_eq_false hz']
      revert ht
      generalize (x.testBit 0&&y.testBit 0)=b0;generalize (x.testBit 1&&y.testBit 1)=b1;generalize (x.testBit 2&&y.testBit 2)=b2;cases b0<;>cases b1<;>cases b2<;>simp
    rw[e];exact ab1 _
   ·have g1:side (-1)=0:=by decide
    have g2:side 1=2:=by decide
    simp only[go_sem,n2,w2,g1,g2,bt];refine aa6 s2 ?_
    cases hb:x.testBit 0 with
    | true=>
     have e:¬ bd6 x 1=0:=by rw[x1,z0,and1 x hx2,hb]; simp
     simp only[go_sem,an7,e]
     exact ab1 _
    | false=>
     have e:bd6 x 1=0:=by rw[x1,z0,and1 x hx2,hb]
     simp only[go_sem,an7,e];refine aa6 s1 ?_
     cases hc:y.testBit 2 with
     | true=>
      have e2:¬ bd6 y 4=0:=by rw[y4,z0,gw1 y hy2,hc]; simp
      simp only[go_sem,an7,e2]
      exact ab1 _
     | false=>
      have e2:bd6 y 4=0:=by rw[y4,z0,gw1 y hy2,hc]
      simp only[go_sem,an7,e2];exact ab1 _
theorem gn4 (a d:Dep)(ha:Dep.small a)(hd:Dep.small d):PC Tryz.prog EE 78 [.agg a.cs,.agg d.cs] (.bool (meets a d)):=by
 refine aj6 hE fok78 (nZ rfl) (ah5 (ap7 a) (ap7 d)) ?_;have hm:=ea1 a d ha hd;unfold meets;simp only[Dep.cs] at hm;by_cases h:a.name=d.name
 ·simp only[ic78,go_sem,Dep.cs,h] at hm ⊢;refine aa4 fok113 hm ?_;simp only[go_sem];exact ab1 _
 ·simp only[ic78,go_sem,Dep.cs,h];exact ab1 _
theorem fw8 (n:Str)(e:EVR):PC Tryz.prog EE 114 [.str n,.agg e.cs] (.agg (Dep.cs ⟨n,2,e⟩)):=by
 refine aj6 hE fok114 (nZ rfl) (ah5 (.str _) (bk2 e)) ?_;simp only[ic114,go_sem,EVR.cs,Dep.cs]
 exact .keep _ (.agg _ fun c hc=>by
  simp only[List.mem_cons,List.not_mem_nil,or_false] at hc;rcases hc with rfl|rfl|rfl|rfl|rfl
  ·exact .str _
  ·exact .int _ _
  ·exact .int _ _
  ·exact .str _
  ·exact .str _)
theorem fw9 (p:aa2):PC Tryz.prog EE 79 [.agg p.cs] (.agg (own p).cs):=by
 refine aj6 hE fok79 (nZ rfl) (af7 (al2 p)) ?_;have ho:=fw8 p.name p.evr;simp only[EVR.cs,Dep.cs] at ho;simp only[ic79,go_sem,aa2.cs,own,Dep.cs];refine aa4 fok114 ho ?_;simp only[go_sem];exact .keep _ (ap7 (own p))
def Pkg.small (p:aa2):Prop:=EVR.small p.evr/\(∀ d∈p.provides,Dep.small d)/\(∀ d∈p.ab2,Dep.small d)/\p.provides.length<2^40/\p.ab2.length<2^40/\p.files.length<2^40
theorem dr1 {p:aa2}(h:Pkg.small p):Dep.small (own p):=⟨by show (0:Int)<=2; decide,by show (2:Int)<256; decide,h.1⟩
theorem ah2 (p:aa2):p.cs.length=15:=rfl
theorem af9 (p:aa2):p.cs.take 15=p.cs:=rfl
theorem af1 (p:aa2):p.cs.all IV.leaf=true:=rfl
theorem gn5 (p:aa2)(d:Dep)(hp:Pkg.small p)(hd:Dep.small d):PC Tryz.prog EE 51 [.agg p.cs,.agg d.cs] (.bool (named p d)):=by
 refine aj6 hE fok51 (nZ rfl) (ah5 (al2 p) (ap7 d)) ?_;have ho:=fw9 p;have hm:=gn4 (own p) d (dr1 hp) hd;generalize hx:Dep.cs (own p)=x at ho hm;simp only[ic51,go_sem,ah2,af9,af1,ar3,an8,ar6];refine aa6 ho ?_;simp only[go_sem,ar3,an8,ar6];refine aa6 hm ?_;simp only[go_sem];exact ab1 _
theorem gn6 (q:aa2)(d:Dep)(hq:Pkg.small q)(hd:Dep.small d):PC Tryz.prog EE 50 ([]++[.agg d.cs]++[.ad4 q.cs]) (.bool (named q d)):=by
 refine aj6 hE fok50 (nZ rfl) (ah5 (ap7 d) (.ad4 _ (bn7 q))) ?_;simp only[ic50,go_sem,ah2,af9,af1,ar3,an8,ar6];refine aa4 fok51 (gn5 q d hq hd) ?_;simp only[go_sem];exact ab1 _
theorem dr2 (p q:aa2)(hp:Pkg.small p)(hq:Pkg.small q):PC Tryz.prog EE 32 [.agg p.cs,.agg q.cs] (.bool (ab2 p q)):=by
 refine aj6 hE fok32 (nZ rfl) (ah5 (al2 p) (al2 q)) ?_;have hc:=dq4 p.ab2 50 [] [.ad4 q.cs] (fun d=>named q d) (by have:=hp.2.2.2.2.1; omega) fok50.1 fun d hd=>gn6 q d hq (hp.2.2.1 d hd)
 have hf:(p.cs.drop 9).head? = some (deps p.ab2):=rfl;simp only[ic32,go_sem,af1,hf];refine aa4 fok49 hc ?_;simp only[go_sem];exact ab1 _
end Go.Id.Tryz
set_option linter.all false
namespace Go.Id.Tryz
open Go Go.Id Go.Proofs Go.Id.Md
set_option maxRecDepth 100000
theorem gv5 (nm:Nms)(σ:Store)(k:Str):∃ v,co5 σ 2 .aa1 false (.am4 (nmV nm)) (.str k)=some v/\(v=.aa3 ((ae6 nm k).map Md.ai9)\/v=.aa1/\ae6 nm k=[]):=by
 have h:∀ nm:Nms,∃ r,au1 2 (.str k) (nmV nm)=some r/\((∃ v,r=some v/\v=.aa3 ((ae6 nm k).map Md.ai9))\/r=none/\ae6 nm k=[]):=by
  intro nm
  induction nm with
  | nil=>exact ⟨none,rfl,.inr ⟨rfl,rfl⟩⟩
  | cons t ts ih=>
   obtain ⟨r,h1,h2⟩:=ih;simp only[nmV,List.map_cons,au1,fk6,ae6] at h1 ⊢;by_cases e:k=t.1
   ·simp only[e,decide_true,if_true];exact ⟨_,rfl,.inl ⟨_,rfl,rfl⟩⟩
   ·simp only[e,decide_false,if_false];exact ⟨r,h1,h2⟩
 obtain ⟨r,h1,h2⟩:=h nm;rcases h2 with ⟨v,rfl,rfl⟩|⟨rfl,h3⟩
 ·refine ⟨.aa3 ((ae6 nm k).map Md.ai9),?_,.inl rfl⟩;simp only[co5,bk3,h1];rfl
 ·refine ⟨.aa1,?_,.inr ⟨rfl,h3⟩⟩;simp only[co5,bk3,h1];rfl
theorem getD_at (l:List aa2)(m:Nat)(h:m<l.length):l.getD m default=l[m]:=by simp[List.getD_eq_getElem?_getD,h]
def fzN:Nat->Nat->List Nat:=fun _ _=>[]
noncomputable abbrev iw9 (M:ed2)(d k:Nat)(az:List IV):Option IV:=(en7 (tabOf tabT (fun _=>true) (ge3 119 M) fzN) EE 100000 d 0 k az ⟨0,.e⟩).map (·.1)
abbrev MK:=MOK Tryz.prog EE
theorem ix1 {k:Nat}{M:ed2}{az:List IV}{v:IV}(d:Nat)(hM:MK M)(hk:okF Tryz.prog k=true)(h:iw9 M d k az=some v):MK ((k,az,v)::M):=by
 unfold iw9 at h;rw[he9] at h;exact ge4 tabT_ok fok119 rfl hE hk hM h
theorem il1 {k:Nat}{M:ed2}{az:List IV}{v:IV}(d:Nat)(hM:MK M)(hk:okF Tryz.prog k=true)(h:iw9 M d k az=some v):PC Tryz.prog EE k az v :=
 (ix1 d hM hk h _ (List.mem_cons_self ..)).2
theorem ar8:PC Tryz.prog EE 5 [] (.bool true):=il1 60 .nil (by kernel_rfl) (by kernel_rfl)
end Go.Id.Tryz
set_option linter.all false
namespace Go.Id.Tryz
open Go Go.Id Go.Proofs Go.Id.Md
set_option maxRecDepth 100000
structure im4 (repos:List ak1) (inst:List aa2):Prop where
 r1:repos.length<2^20
 i1:inst.length<2^20
 s1:aj1 repos<2^40
 rf:∀ r∈repos,ak1.Fit r
 pf:∀ p∈inst,p.Fit
 ro:∀ r∈repos,ak1.Ok r
 po:∀ p∈inst,p.Ok
theorem fb9 {p:aa2}(h:p.Tiny):Pkg.small p:=by
 have e:∀ v:EVR,v.tiny->EVR.small v:=fun v hv=>⟨by have:=hv.1; omega,by have:=hv.2; omega⟩
 refine ⟨e _ h.evr,fun d hd=>?_,fun d hd=>?_,?_,?_,?_⟩
 ·obtain ⟨a,b,c,_⟩:=h.bd4.2 d hd; exact ⟨a,b,e _ c⟩
 ·obtain ⟨a,b,c,_⟩:=h.obs.2 d hd; exact ⟨a,b,e _ c⟩
 ·have:=h.bd4.1; omega
 ·have:=h.obs.1; omega
 ·have:=h.files; omega
theorem im5 {repos:List ak1}{inst:List aa2}{p:Pool}(hI:im4 repos inst)(h:bq8 repos inst=.inl p):∀ x∈ac1 p,x.Fit/\Pkg.small x/\x.Tiny:=by
 intro x hx;obtain ⟨h1,h2⟩:=gj6 h x hx;refine ⟨?_,fb9 (ef2 h1),ef2 h1⟩;rcases h2 with h2|⟨r,hr,h2⟩
 ·exact hI.pf x h2
 ·exact (hI.rf r hr).2 x h2
abbrev iv (n:Int):IV:=.int .i64 n
end Go.Id.Tryz
set_option linter.all false
namespace Go.Id.Tryz
open Go Go.Id Go.Proofs Go.Shelf Go.Id.Md
set_option maxRecDepth 100000
theorem fx2 {P:Program}{E:Nat->IV}{f:Nat}(hn:∀ (p:Option Addr) (cap:Nat) (w:World),Calls P f #[.slice p 0 cap] w fun e w'=>e=.returned (.tuple #[])/\w'=w){σ:Store}:C P E f [.aa1] σ fun v s=>v=.tuple []/\s=σ:=by
 intro ρ w rargs hs hr;obtain ⟨hr1,hr2⟩:=hr;have hv0:=hr2 0 (by simp);obtain ⟨al⟩:=rargs
 match al,hr1,hv0 with
 | [r],_,hv0=>
  have hv0:VR ρ w .aa1 r:=hv0;cases hv0;refine callsIn_wide.2 ((hn _ _ w).mono ?_);rintro e w' ⟨rfl,rfl⟩;exact ⟨.tuple [],_,ρ,σ,rfl,⟨rfl,rfl⟩,hs,.tuple [] #[] rfl (fun i hi=>by simp at hi),ax6.refl _ _ _⟩
end Go.Id.Tryz
/- Whom a package ab2: the function walked. Conditions: sizes that fit. -/
namespace Go.Id
open Go Go.Id
theorem gn8 {P:Program}{E:Nat->IV}{N n0:Nat}{fr:Frm}{σ:Store}{x:IC}{Q:Exit->Frm->Store->Prop}(I:Nat->Frm->Store->Prop)(n:Nat)(h:I 0 fr σ)
  (hI:∀ i fr σ,i<=n->I i fr σ->RI P E N n0 x fr σ (upQ I i n Q)):RI P E N n0 (.loop x) fr σ Q:=by
 refine ee6 (fun m fr σ=>∃ i,i<=n/\m=n-i/\I i fr σ) n ⟨0,Nat.zero_le _,rfl,h⟩ ?_;rintro m fr σ ⟨i,hi,rfl,hi0⟩;refine ao1 (hI i fr σ hi hi0) ?_;intro e f s q
 cases e with
 | normal=>exact ⟨n-(i+1),by have:=q.1; omega,i+1,q.1,rfl,q.2⟩
 | _=>exact q
theorem gn9 {σ:Store}{v:IV}{nid:Nat}{zs xs:List Int}(hg:Grow σ v 1 (zs.map Md.ai9))(hn:zs.length+xs.length<=2147483648) :
  ∃ v' σ',aq2 σ nid 1 v (.aa3 (xs.map Md.ai9))=some (v',σ')/\σ'.next=σ.next/\∀ τ:Store,τ.obj=σ'.obj->nid<τ.next->σ.next<=τ.next->Grow τ v' 1 ((zs++xs).map Md.ai9):=by
 have ha:∀ l:List Int,∀ x∈l.map Md.ai9,x.length=1/\x.all IV.leaf=true:=by
  intro l x hx;obtain ⟨y,_,rfl⟩:=List.mem_map.1 hx;exact ⟨rfl,rfl⟩
 have hsrc:av8 σ 1 (.aa3 (xs.map Md.ai9))=some (xs.length,(xs.map Md.ai9).flatten):=by
  have h1:(xs.map Md.ai9).all (fun e=>e.length==1)=true:=List.all_eq_true.2 fun x hx=>by rw[(ha xs x hx).1]; rfl
  simp only[av8,h1,if_true,List.length_map]
 have hx1:(xs.map Md.ai9).flatten.all IV.leaf=true:=az3 fun x hx=>(ha xs x hx).2
 have hz1:(zs.map Md.ai9).flatten.all IV.leaf=true:=az3 fun x hx=>(ha zs x hx).2
 have hz2:(zs.map Md.ai9).flatten.length=zs.length:=by rw[ap6 fun x hx=>(ha zs x hx).1,List.length_map]; omega
 have hx0:¬ ((xs.map Md.ai9).flatten.all IV.leaf=false):=by rw[hx1]; decide
 unfold aq2;rw[hsrc];simp only[hx0,if_false];by_cases h0:xs.length=0
 ·have hxs:xs=[]:=List.length_eq_zero_iff.1 h0;subst hxs;rw[List.append_nil];rcases hg with ⟨rfl,he⟩|⟨id,rfl,ho,hid⟩
  ·exact ⟨.aa1,σ,rfl,rfl,fun τ _ _ _=>.inl ⟨rfl,he⟩⟩
  ·simp only[ho,List.length_nil,and_self,if_true];exact ⟨_,_,rfl,rfl,fun τ h1 _ h3=>.inr ⟨id,rfl,by rw[h1]; exact ho,by omega⟩⟩
 ·rcases hg with ⟨rfl,he⟩|⟨id,rfl,ho,hid⟩
  ·have hzs:zs=[]:=List.map_eq_nil_iff.1 he;subst hzs;have hle:xs.length<=2147483648:=by omega
   simp only[h0,if_false,hle,if_true];refine ⟨_,_,rfl,rfl,fun τ h1 h2 _=>.inr ⟨nid,by rw[List.nil_append,List.length_map],?_,h2⟩⟩;rw[h1,aa5,if_pos rfl]; rfl
  ·have h1:0+(zs.map Md.ai9).length*1=(zs.map Md.ai9).flatten.length:=by rw[hz2,List.length_map]; omega
   have h2:(zs.map Md.ai9).length+xs.length<=2147483648:=by rw[List.length_map]; exact hn
   simp only[ho,h0,and_false,if_false,h1,h2,List.drop_zero,hz1,and_self,if_true];refine ⟨_,_,rfl,rfl,fun τ h3 h4 _=>.inr ⟨nid,by rw[List.map_append,List.length_append,List.length_map,List.length_map],?_,h4⟩⟩;rw[h3,aa5,if_pos rfl,List.map_append,List.flatten_append]
   try rfl
end Go.Id
namespace Go.Id.Tryz
open Go Go.Id Go.Proofs Go.Shelf Go.Id.Md
end Go.Id.Tryz
set_option linter.all false
namespace Go.Id
open Go
variable {P:Program} {E:Nat->IV} {σ σ':Store} {N n0:Nat} {fr:Frm}
theorem fx8 {S:Nat->Bool}{yid:Nat}{args:List IV}{Q:IV->Store->Prop}(hid:S yid=true)(hS:∀ i,σ.next<=i->S i=true)(ha:∀ a∈args,Nm (fun i=>S i=true) a)(hob:∀ i o,S i=true->σ.obj i=some o->NmO (fun i=>S i=true) o)(hE:∀ g,Bnd 0 (E g))
  (hQn:∀ v σ',Q v σ'->σ.next<=σ'.next) (h:CYd P E yid args (σ.only S) Q):CYd P E yid args σ fun v σ''=>∃ σ',Q v σ'/\σ''=σ'.back σ S/\Nm (fun i=>S i=true) v/\(∀ i o,S i=true->σ'.obj i=some o->NmO (fun i=>S i=true) o)/\∀ i,S i=false->σ'.obj i=none:=by
 intro ρ w rargs B0 d0 hs hr hB;obtain ⟨ρ0,hk,hX⟩:=ci5 (fun i=>S i=true) ρ;have hlive:∀ v:IV,Bnd 0 v->Nm (fun i=>S i=true) v:=fun v hv=>hv.weak fun i h=>absurd h (Nat.not_lt_zero _)
 have hs0:Sim E ρ0 w (σ.only S):=hs.hu8 hk (fun i hi=>by simp[Store.only,hi]) (fun i hi=>by simp[Store.only,hi]) (fun i o hi ho=>hob i o hi (by simpa [Store.only,hi] using ho))
  (fun i hi=>by
   have hn:σ.next<=i:=hi;rw[hk.on i (hS i hn)]; exact hs.fresh i hn) (fun g=>hlive _ (hE g))
 have hr0:CR ρ0 w args rargs:=⟨hr.1,fun i hi=>(hr.2 i hi).cut hk (ha _ (ad3 _ hi))⟩;obtain ⟨fn,tmps,assign,body,h1,h2⟩:=h ρ0 w rargs B0 d0 hs0 hr0 (by rw[hk.on yid hid]; exact hB);refine ⟨fn,tmps,assign,body,h1,RoundIn.mono h2 ?_⟩;rintro e w' ⟨v,r,ρ',σ',rfl,hq,hs',hv',hx⟩
 -- what is hidden stands for nothing,before and behind
 have hoff:∀ i,S i=false->ρ' i=.no:=fun i hi=>by
  have hlt:i<σ.next:=by
   rcases Nat.lt_or_ge i σ.next with h|h
   ·exact h
   ·rw[hS i h] at hi; cases hi
  exact hx.no i hlt (hk.off i (by simp[hi]))
 have hlv:∀ i,ρ' i≠.no->S i=true:=fun i h=>by
  cases hsi:S i with
  | true=>rfl
  | false=>exact absurd (hoff i hsi) h
 have hsame:∀ i B d,S i=false->ρ i=.at B d->w'.heap[B]? = w.heap[B]?:=fun i B d hi hat=>hx.keep B ⟨hs.lt i B d hat,fun j d' hj=>by
  obtain ⟨h1,h2⟩:=hk.at hj;have:=hs.inj j i B d' d h2 hat;subst this;rw[hi] at h1; cases h1⟩
 have hnew:∀ i j B d d',S j=false->ρ' i=.at B d->ρ j=.at B d'->False:=fun i j B d d' hj h1 h2=>by
  rcases hx.img i B d h1 with ⟨k,d2,hk2⟩|hge
  ·obtain ⟨g1,g2⟩:=hk.at hk2;have:=hs.inj k j B d2 d' g2 h2;subst this;rw[hj] at g1; cases g1
  ·have:=hs.lt j B d' h2; omega
 let ρ2:Rho:=⟨fun i=>if S i then ρ' i else ρ i,ρ.X⟩;have on:∀ i,S i=true->ρ2 i=ρ' i:=fun i h=>by show (if S i=true then ρ' i else ρ i)=_; rw[if_pos h]
 have off:∀ i,S i=false->ρ2 i=ρ i:=fun i h=>by show (if S i=true then ρ' i else ρ i)=_; rw[if_neg (by simp[h])]
 have hXx:∀ b,ρ'.X b↔ρ.X b\/∃ i d,¬ (S i=true)/\ρ i=.at b d:=fun b=>by rw[hx.X]; exact hX b
 -- what is simulated behind the call is so with what was hidden
 have hcut:bp2 (fun i=>S i=true) ρ2 ρ':=⟨fun i h=>(on i h).symm,fun i h=>hoff i (by simpa using h),fun b hb=>by
  rcases (hXx b).1 hb with h|⟨i,d,hi,hat⟩
  ·exact .inl h
  ·exact .inr ⟨i,d,hi,by rw[off i (by simpa using hi)]; exact hat⟩⟩
 have hfb:∀ b,FB ρ' w' b->FB ρ2 w' b:=fun b hb=>⟨hb.1,fun i d hi=>by
  cases hsi:S i with
  | true=>rw[on i hsi] at hi; exact hb.2 i d hi
  | false=>rw[off i hsi] at hi; exact hb.3 ((hXx b).2 (.inr ⟨i,d,by simp[hsi],hi⟩)),fun hxb=>hb.3 ((hXx b).2 (.inl hxb))⟩
 have hrf:∀ i,ρ' i≠.no->ρ2 i=ρ' i:=fun i h=>on i (hlv i h)
 -- from before: what was hidden is aZ it was
 have hxO:Ext 0 ρ w ρ2 w':=by
  refine ⟨hx.size,fun b hb=>hx.keep b ⟨hb.1,fun i d hi=>hb.2 i d (hk.at hi).2⟩,hx.shape,fun i B d hi=>?_,fun i B d hi=>?_,fun i hi=>?_,fun i hi=>absurd hi (Nat.not_lt_zero _),hx.output,hx.os,hx.tape,hx.loops,rfl⟩
  ·cases hsi:S i with
   | true=>
    rw[on i hsi] at hi;rcases hx.img i B d hi with ⟨j,d',hj⟩|h
    ·exact .inl ⟨j,d',(hk.at hj).2⟩
    ·exact .inr h
   | false=>rw[off i hsi] at hi; exact .inl ⟨i,d,hi⟩
  ·cases hsi:S i with
   | true=>
    rw[on i hsi]
    have hlt:i<σ.next:=by
     rcases Nat.lt_or_ge i σ.next with h|h
     ·exact h
     ·rw[hs.fresh i h] at hi; cases hi
    exact hx.at_ i B d hlt (by rw[hk.on i hsi]; exact hi)
   | false=>rw[off i hsi]; exact .inl hi
  ·cases hsi:S i with
   | true=>
    rw[on i hsi]
    have hlt:i<σ.next:=by
     rcases Nat.lt_or_ge i σ.next with h|h
     ·exact h
     ·rw[hs.fresh i h] at hi; cases hi
    exact hx.dead i hlt (by rw[hk.on i hsi]; exact hi)
   | false=>rw[off i hsi]; exact hi
 have hsim:Sim E ρ2 w' (σ'.back σ S):=by
  refine ⟨fun i j B d d' hi hj=>?_,fun i B d hi=>?_,fun i B d hi=>?_,fun i hi=>?_,fun i hi=>?_,fun i hi=>?_,fun g=>(hs'.env g).refs hrf hfb,fun i B d hi hxb=>?_,fun b hb=>Nat.lt_of_lt_of_le (hs.xlt b hb) hx.size⟩
  ·cases hsi:S i with
   | true=>
    rw[on i hsi] at hi
    cases hsj:S j with
    | true=>rw[on j hsj] at hj; exact hs'.inj i j B d d' hi hj
    | false=>rw[off j hsj] at hj; exact (hnew i j B d d' hsj hi hj).elim
   | false=>
    rw[off i hsi] at hi
    cases hsj:S j with
    | true=>rw[on j hsj] at hj; exact (hnew j i B d' d hsi hj hi).elim
    | false=>rw[off j hsj] at hj; exact hs.inj i j B d d' hi hj
  ·cases hsi:S i with
   | true=>rw[on i hsi] at hi; exact hs'.lt i B d hi
   | false=>rw[off i hsi] at hi; exact Nat.lt_of_lt_of_le (hs.lt i B d hi) hx.size
  ·cases hsi:S i with
   | true=>
    rw[on i hsi] at hi;obtain ⟨o,h1,h2⟩:=hs'.obj i B d hi
    exact ⟨o,by simp[Store.back,hsi,h1],h2.refs hrf hfb⟩
   | false=>
    rw[off i hsi] at hi;obtain ⟨o,h1,h2⟩:=hs.obj i B d hi;exact ⟨o,by simp[Store.back,hsi,h1],h2.mono hxO (hsame i B d hsi hi)⟩
  ·cases hsi:S i with
   | true=>rw[on i hsi] at hi; simp[Store.back,hsi,hs'.dead i hi]
   | false=>rw[off i hsi] at hi; simp[Store.back,hsi,hs.dead i hi]
  ·have hn:σ'.next<=i:=hi
   cases hsi:S i with
   | true=>rw[on i hsi]; exact hs'.fresh i hn
   | false=>
    rw[off i hsi]
    cases hri:ρ i with
    | no=>rfl
    | _=>
     exfalso
     have hlt:i<σ.next:=by
      rcases Nat.lt_or_ge i σ.next with h|h
      ·exact h
      ·rw[hS i h] at hsi; cases hsi
     have:=hQn v σ' hq;omega
  ·cases hsi:S i with
   | true=>rw[on i hsi] at hi; simp[Store.back,hsi,hs'.al7 i hi]
   | false=>rw[off i hsi] at hi; simp[Store.back,hsi,hs.al7 i hi]
  ·cases hsi:S i with
   | true=>rw[on i hsi] at hi; exact hs'.nx i B d hi ((hXx B).2 (.inl hxb))
   | false=>rw[off i hsi] at hi; exact hs.nx i B d hi hxb
 refine ⟨v,r,ρ2,_,rfl,⟨σ',hq,rfl,hv'.nm hlv,fun i o _ ho=>hs'.nmO hlv i o ho,fun i hi=>hs'.al7 i (hoff i hi)⟩,hsim,hv'.refs hrf hfb,⟨hxO.size,hxO.keep,hxO.shape,hxO.img,fun i B d _ hi=>hxO.at_ i B d hi,fun i _ hi=>hxO.dead i hi,fun i hlt hi=>?_,hxO.output,hxO.os,hxO.tape,hxO.loops,rfl⟩⟩
 cases hsi:S i with
 | true=>rw[on i hsi]; exact hx.no i hlt (by rw[hk.on i hsi]; exact hi)
 | false=>rw[off i hsi]; exact hi
theorem jh8 {f:Nat}{args:List IV}{Q:IV->Store->Prop}(h:(∀ i o,σ.obj i=some o->NmO (fun i=>i<σ.next) o)->(∀ a∈args,Nm (fun i=>i<σ.next) a)->C P E f args σ Q):C P E f args σ Q:=by
 intro ρ w rargs hs hr
 have hlv:∀ i,ρ i≠.no->i<σ.next:=fun i hi=>by
  rcases Nat.lt_or_ge i σ.next with h|h
  ·exact h
  ·exact absurd (hs.fresh i h) hi
 refine h (fun i o ho=>hs.nmO hlv i o ho) (fun a ha=>?_) ρ w rargs hs hr;obtain ⟨i,hi,rfl⟩:=List.mem_iff_getElem.1 ha;have:=(hr.2 i hi).nm hlv
 simpa [List.getD_eq_getElem?_getD,hi] using this
def cm4 (P:Program)(E:Nat->IV)(fv:IV)(evs:List (List IV))(own:Store->Prop):Prop :=
 ∀ (yid:Nat) (I:List (List IV)->Store->Prop) (S:Store->Prop) (σ:Store),(∀ r r' s,r.Perm r'->I r s->I r' s)->(∀ rest s,I rest s->own s)->gz1 I->en2 P E yid I S->I evs σ->CVf P E fv [.yield yid] σ (gz2 σ.next I S)
theorem go7 {g:IX}{ps:List Nat}{y x:IC}{Q:Exit->Frm->Store->Prop}{evs:List (List IV)}{own:Store->Prop}(hT:cm4 P E (g.ev E fr) evs own)
  (J:List (List IV)->Store->Prop) (hperm:∀ r r' s,r.Perm r'->J r s->J r' s) (hown:∀ rest s,J rest s->own s) (hstab:gz1 J) (hlen:∀ a∈evs,a.length=ps.length)
  (hinit:∀ o,J evs ⟨σ.next+1,(σ.put σ.next o).obj⟩)
  (hbody:∀ (L:LoopState->Option JX->ak2) (pre:List (List IV)) (a:List IV) (rest:List (List IV)) (s:Store),evs.Perm (pre++a::rest)->J (a::rest) s->s.obj σ.next=some (L .ready none)->σ.next<s.next ->
   wpT noP noC P E N s.next y (bt2 fr ps a) s (iq3 P E N s.next σ.next L x (goQ σ.next s.next L J Q fr rest)))
  (hend:∀ s o,J [] s->σ.next<s.next->s.obj σ.next=some o->Q .normal fr (s.kill σ.next)) :
  RI P E N n0 (.rfunc g ps y x) fr σ Q:=by
 refine db1 fun L hL=>?_
 let I:List (List IV)->Store->Prop:=fun rest s=>(∃ pre,evs.Perm (pre++rest))/\s.obj σ.next=some (L .ready none)/\σ.next<s.next/\J rest s
 let S:Store->Prop:=fun s=>∃ st pend,st≠.busy/\s.obj σ.next=some (L st pend)/\gb9 Q fr (s.kill σ.next) pend
 have hI:gz1 I:=by
  rintro rest s s' ⟨hp,h1,h2,h3⟩ hn hs;exact ⟨hp,by rw[hs _ h2]; exact h1,Nat.lt_of_lt_of_le h2 hn,hstab rest s s' h3 hn hs⟩
 have hst:en2 P E σ.next I S:=by
  rintro a rest s ⟨⟨pre,hp⟩,h1,h2,h3⟩;refine ⟨by rw[h1]; rfl,?_⟩;have hb:=hbody L pre a rest s hp h3 h1 h2;refine hL s a _ (hlen a (hp.mem_iff.2 (by simp))) h1 ?_;refine (as3 y _ _ _ (bb5 y _ _ _ _ ?_ (as6 noT y _ _ _ hb)));intro e f s1 q
  cases e with
  | normal=>
   refine ⟨rfl,q.1,?_⟩;refine (as3 x _ _ _ (bb5 x _ _ _ _ ?_ (as6 noT x _ _ _ q.2)))
   have hK:∀ v s2,goQ σ.next s.next L J Q fr rest v s2->s.next<=s2.next/\((v=.bool true/\I rest s2)\/(v=.bool false/\S s2)):=by
    rintro v s2 ⟨hn,h|h⟩
    ·exact ⟨hn,.inl ⟨h.1,⟨pre++[a],by simpa using hp⟩,h.2.1,Nat.lt_of_lt_of_le h2 hn,h.2.2⟩⟩
    ·exact ⟨hn,.inr ⟨h.1,h.2⟩⟩
   intro e f s2 q2
   cases e with
   | normal=>exact ⟨q2.1,hK _ _ q2.2⟩
   | ret=>exact ⟨q2.1,hK _ _ q2.2⟩
   | exit i=>exact ⟨q2.1,hK _ _ q2.2⟩
   | _=>exact q2
  | _=>exact q.elim
 have h:=hT σ.next I S ⟨σ.next+1,(σ.put σ.next (L .ready none)).obj⟩ (fun r r' s hp h=>⟨h.1.imp fun pre hq=>hq.trans (hp.append_left pre),h.2.1,h.2.2.1,hperm r r' s hp h.2.2.2⟩) (fun rest s h=>hown rest s h.2.2.2) hI hst ⟨⟨[],List.Perm.refl _⟩,by simp only[aa5,if_true],Nat.lt_succ_self _,hinit _⟩;refine h.mono ?_;rintro v s ⟨hn,h|h⟩
 ·exact ⟨Nat.le_of_lt hn,.ready,none,(fun h=>by cases h),h.2.1,hend s _ h.2.2.2 h.2.2.1 h.2.1⟩
 ·exact ⟨Nat.le_of_lt hn,h⟩
end Go.Id
