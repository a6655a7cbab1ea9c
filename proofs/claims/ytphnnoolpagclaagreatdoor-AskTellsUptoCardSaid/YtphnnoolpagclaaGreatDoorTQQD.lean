/- What a package may offer; numbers that a list has. Conditions: sizes that fit. -/
import Derived.Test.YtphnnoolpagclaaGreatDoorTQQC
import Derived.Test.YtphnnoolpagclaaGreatDoorMv
import Derived.Test.YtphnnoolpagclaaGreatDoorTQPE
set_option linter.all false
namespace Go.Id.Tryz
open Go Go.Id Go.Proofs Go.Id.Md
def idxOf (n:Int):List Int->Nat->Int
 | [],_=>-1
 | a::l,i=>if n=a then Int.ofNat i else idxOf n l (i+1)
theorem da7 (n:Int):∀ (l:List Int) (i:Nat),(0<=idxOf n l i↔n∈l):=by
 intro l
 induction l with
 | nil=>intro i; simp[idxOf]
 | cons a l ih=>
  intro i;simp only[idxOf];split
  ·rename_i e; subst e; simp
  ·rename_i e; rw[ih]; simp[e]
theorem dz9 (l:List Int)(n:Int)(hl:l.length<2^40):PC Tryz.prog EE 143 [.aa5 (l.map Md.af2),.int .i64 n] (.int .i64 (idxOf n l 0)):=by
 refine av4 fok143 (nZ rfl) fun σ=>?_
 simp only[ic143,go_sem];refine ab5 noT (fun i fr s=>fr=[(0,.aa5 (l.map Md.af2)),(1,.int .i64 n),(7,.int .i64 l.length),(8,.int .i64 i)]/\s=σ/\idxOf n l 0=idxOf n (l.drop i) i) l.length ⟨rfl,rfl,rfl⟩ ?_;rintro i fr s hle ⟨rfl,rfl,hI⟩;by_cases hlt:i<l.length
 ·obtain ⟨x,hx,_,hdr,hget,htk⟩:=ad5 l i hlt;have c1:(i:Int)<l.length:=by omega
  have c2:(0:Int)<=i:=by omega
  have w1:=ad9 (i:=i) (by omega);rw[hdr,idxOf] at hI;by_cases e:n=x
  ·rw[if_pos e] at hI;subst e;have hI:idxOf n l 0=(i:Int):=hI;simp only[go_sem,c1,c2,hget,Md.af2,hI,and_self]
  ·rw[if_neg e] at hI;simp only[go_sem,c1,c2,hget,Md.af2,e,w1];exact ⟨hlt,hI⟩
 ·have hi':i=l.length:=by omega
  subst hi';have c1:¬ (l.length:Int)<l.length:=by omega
  rw[List.drop_length,idxOf] at hI;simp only[go_sem,c1,hI,and_self]
theorem cn4 (l:List Int)(n:Int)(hl:l.length<2^40):PC Tryz.prog EE 94 [.aa5 (l.map Md.af2),.int .i64 n] (.bool (decide (n∈l))):=by
 refine av4 fok94 (nZ rfl) fun σ=>?_
 simp only[ic94,go_sem];refine aa4 fok143 (dz9 l n hl) ?_
 have e:decide (0<=idxOf n l 0)=decide (n∈l):=by
  by_cases h:n∈l
  ·simp[h,(da7 n l 0).2 h]
  ·rw[decide_eq_false h,decide_eq_false (fun x=>h ((da7 n l 0).1 x))]
 simp only[go_sem,e,and_self]
def sE (k:Str):IV×IV:=(.str k,.agg [])
theorem ge4 (l:List Str)(k:Str):em3 2 (.str k) (.agg []) (l.map sE)=some ((aq9 l k).map sE):=by
 have go:∀ l:List Str,em3 2 (.str k) (.agg []) (l.map sE)=some ((if k∈l then l else l++[k]).map sE):=by
  intro l
  induction l with
  | nil=>rfl
  | cons a l ih=>
   simp only[List.map_cons,sE,em3,ee1] at ih ⊢;by_cases h:k=a
   ·subst h; simp[sE]
   ·simp only[h,decide_false,List.mem_cons,false_or] at ih ⊢;rw[ih];split<;>simp[sE]
 exact go l
theorem dh3 {σ:Store}{mid:Nat}{l:List Str}(h:σ.obj mid=some (.map (l.map sE)))(k:Str):as7 σ 2 (.map mid) (.str k) (.agg [])=some (σ.put mid (.map ((aq9 l k).map sE))):=by
 simp only[as7,h,ge4,Option.map]
theorem fp1 {l:List Str}(h:l.Nodup)(k:Str):(aq9 l k).Nodup:=by
 unfold aq9;split
 ·exact h
 ·rename_i hk;refine List.nodup_append.2 ⟨h,by simp,fun a ha b hb e=>?_⟩;cases List.mem_singleton.1 hb;exact hk (e▸ha)
theorem cd7:∀ (ks:List Str) {l:List Str},l.Nodup->(ks.foldl aq9 l).Nodup
 | [],_,h=>h
 | k::ks,_,h=>cd7 ks (fp1 h k)
theorem gv8 (p:aa3):(cl8 p).Nodup:=cd7 _ (cd7 _ (by simp))
theorem ez1 (p:aa3)(hp:p.Fit):PC Tryz.prog EE 93 [.agg p.cs] (.ak1 ((cl8 p).map sE)):=by
 have f1:=hp.as2.1;have f2:=hp.files.1;refine af5 hE fok93 (nZ rfl) (fun a ha=>by cases List.mem_singleton.1 ha; exact .agg _ (ay6 p)) ?_;simp only[ic93,go_sem,ah9,aa3.cs,be5];rw[dh3 (l:=[]) (by simp only[aa7,if_true]; rfl)];simp only[go_sem];refine ab5 noT (fun i fr s=>fr=[(1,.ab7 p.cs),(3,.map 0),(14,deps p.provides),(15,.int .i64 p.provides.length),(16,.int .i64 i)]/\1<=s.next/\s.obj 0=some (.map ((((p.provides.take i).map (·.name)).foldl aq9 [p.name]).map sE))) p.provides.length ⟨rfl,by simp,by simp only[aa7,if_true]; rfl⟩ ?_;rintro i fr s hle ⟨rfl,hn,ho⟩;by_cases hlt:i<p.provides.length
 ·obtain ⟨x,hx,_,hdr,hget,htk⟩:=ad5 p.provides i hlt;have c1:(i:Int)<p.provides.length:=by omega
  have c2:(0:Int)<=i:=by omega
  have c3:¬ 0=s.next:=by omega
  have w1:=ad9 (i:=i) (by omega);simp only[go_sem,c1,c2,hget,Dep.cs];rw[dh3 (l:=((p.provides.take i).map (·.name)).foldl aq9 [p.name]) (by simp only[aa7,c3,if_false]; exact ho)];simp only[go_sem,w1];refine ⟨hlt,?_⟩;rw[htk,List.map_append,List.foldl_append]
  first|rfl|(simp only[aa7,if_true]; rfl)
 have hi':i=p.provides.length:=by omega
 subst hi';have c1:¬ (p.provides.length:Int)<p.provides.length:=by omega
 rw[List.take_length] at ho;simp only[go_sem,c1,aa3.cs];refine ab5 noT (fun i fr s=>fr=[(3,.map 0),(26,strs p.files),(27,.int .i64 p.files.length),(28,.int .i64 i)]/\s.obj 0=some (.map (((p.files.take i).foldl aq9 ((p.provides.map (·.name)).foldl aq9 [p.name])).map sE))) p.files.length ⟨rfl,ho⟩ ?_;rintro i fr s hle ⟨rfl,ho⟩;by_cases hlt:i<p.files.length
 ·obtain ⟨x,hx,_,hdr,hget,htk⟩:=ad5 p.files i hlt;have c1:(i:Int)<p.files.length:=by omega
  have c2:(0:Int)<=i:=by omega
  have w1:=ad9 (i:=i) (by omega);simp only[go_sem,c1,c2,hget,bm3];rw[dh3 ho];simp only[go_sem,w1];refine ⟨hlt,?_⟩;rw[htk,List.foldl_append]
  first|rfl|(simp only[aa7,if_true]; rfl)
 have hi':i=p.files.length:=by omega
 subst hi';have c1:¬ (p.files.length:Int)<p.files.length:=by omega
 rw[List.take_length] at ho;simp only[go_sem,c1];refine .map 0 _ _ _ (Nat.not_lt_zero _) ho rfl (List.Perm.refl _) ⟨?_,.str,fun e he=>?_⟩ (fun i hi=>?_) (fun i hi=>?_)
 ·have:((cl8 p).map sE).map (·.1)=(cl8 p).map IV.str:=by simp[sE]
  rw[this];exact List.Pairwise.map _ (fun a b hab e=>hab (by cases e; rfl)) (gv8 p)
 ·obtain ⟨k,_,rfl⟩:=List.mem_map.1 he;trivial
 ·exact .keep _ (by
   obtain ⟨k,_,e⟩:=List.mem_map.1 (ac9 (.undef,.undef) hi);rw[<- e]; exact .str _)
 ·exact .keep _ (by
   obtain ⟨k,_,e⟩:=List.mem_map.1 (ac9 (.undef,.undef) hi);rw[<- e]; exact .agg _ fun c hc=>by cases hc)
theorem dh4 (nm:Nms):Bnd 0 (.ak1 (nmV nm)):=by
 refine .ak1 _ (fun e he=>?_) (fun e he=>?_)<;>(simp only[nmV,List.mem_map] at he; obtain ⟨t,_,rfl⟩:=he)
 ·exact .str _
 ·refine .aa5 _ fun x hx c hc=>?_
  obtain ⟨n,_,rfl⟩:=List.mem_map.1 hx
  cases hc with
  | head=>exact .int _ _
  | tail _ h=>cases h
theorem ge5 (l:List bb5):Bnd 0 (.aa5 (l.map bb5.cs)):=.aa5 _ fun e he c hc=>by
 obtain ⟨r,_,rfl⟩:=List.mem_map.1 he; exact eh9 r c hc
theorem be8 (p:Pool):Bnd 0 p.v:=.ab7 _ fun c hc=>by
 simp only[List.mem_cons,List.not_mem_nil,or_false] at hc;rcases hc with rfl|rfl|rfl
 ·exact ge5 _
 ·exact .int _ _
 ·exact dh4 _
theorem fp3 (l:List bb5)(n:Int):PC Tryz.prog EE 97 [.aa5 (l.map bb5.cs),.int .i64 n] (.bool (decide (0<=n)&&decide (n<l.length))):=by
 refine av4 fok97 (nZ rfl) fun σ=>?_
 by_cases h:0<=n
 ·simp only[ic97,go_sem,h,and_self]
 ·simp only[ic97,go_sem,h,and_self]
theorem bh7 (p:Pool):PC Tryz.prog EE 13 [p.v] (.int .i64 p.rows.length):=by
 refine av4 fok13 (nZ rfl) fun σ=>?_
 simp only[ic13,go_sem,Pool.v,and_self]
theorem bf4 (p:Pool):PC Tryz.prog EE 42 [p.v] (.int .i64 p.inst):=by
 refine av4 fok42 (nZ rfl) fun σ=>?_
 simp only[ic42,go_sem,Pool.v,and_self]
theorem ge6 (r:bb5):r.cs.take 15=r.pkg.cs:=rfl
theorem bo1 (p:Pool)(n:Nat)(h:n<p.rows.length)(hf:p.rows[n].pkg.Fit):PC Tryz.prog EE 45 [p.v,.int .i64 n] (.tuple [.agg p.rows[n].pkg.cs,.int .i64 0]):=by
 refine af5 hE fok45 (nZ rfl) (ag9 (be8 p) (.int _ _)) ?_;have c1:(n:Int)<p.rows.length:=by omega
 have c2:(0:Int)<=n:=by omega
 have hg:(p.rows.map bb5.cs).getD n []=p.rows[n].cs:=by simp[List.getD_eq_getElem?_getD,h]
 have h15:∀ r:bb5,(15<=r.cs.length)=True:=fun r=>by rw[bm8]; simp
 simp only[ic45,go_sem,Pool.v];refine aa4 fok97 (fp3 p.rows n) ?_;simp only[go_sem,c1,c2,hg,bm8,ge6];refine aa4 fok85 (da6 _ hf) ?_;simp only[go_sem,al9,al2,ah9];exact .keep _ (.tuple _ (ag9 (aj7 _) (.int _ _)))
structure MS (s:Store) (tag:Nat->Nat) (c mid:Nat) (L:NmL) (B:Nat):Prop where
 map:s.obj mid=some (.map (mEs L))
 row:∀ t∈L,s.obj t.2.2=some (.row (t.2.1.map Md.af2).flatten)/\t.2.2<s.next/\t.2.1.length<=B
 cf2:∀ t∈L,tag t.2.2=c
 ids:(L.map (·.2.2)).Nodup
 keys:(L.map (·.1)).Nodup
 lt:mid<s.next
 gf1:tag mid=c
theorem MS.keep {s s':Store}{tag tag':Nat->Nat}{c mid:Nat}{L:NmL}{B B':Nat}(h:MS s tag c mid L B)(hB:B<=B')(hn:s.next<=s'.next)(ho:∀ i,i<s.next->tag i=c->s'.obj i=s.obj i)(ht:∀ i,i<s.next->tag' i=tag i):MS s' tag' c mid L B' where
 map:=by rw[ho _ h.lt h.gf1]; exact h.map
 row:=fun t m=>⟨by rw[ho _ (h.row t m).2.1 (h.cf2 t m)]; exact (h.row t m).1,by have:=(h.row t m).2.1; omega,by have:=(h.row t m).2.2; omega⟩
 cf2:=fun t m=>by rw[ht _ (h.row t m).2.1]; exact h.cf2 t m
 ids:=h.ids
 keys:=h.keys
 lt:=by have:=h.lt; omega
 gf1:=by rw[ht _ h.lt]; exact h.gf1
def ea1 (tag:Nat->Nat)(c nid:Nat):Nat->Nat:=fun i=>if i=nid then c else tag i
theorem ap3 {tag:Nat->Nat}{c nid n:Nat}(h:n<=nid):∀ i,i<n->ea1 tag c nid i=tag i:=fun i hi=>by
 unfold ea1; rw[if_neg (by omega)]
theorem MS.cur {s:Store}{tag:Nat->Nat}{c mid:Nat}{L:NmL}{B:Nat}(h:MS s tag c mid L B)(k:Str)(m:Nat)(hm:s.next<=m):Grow ⟨m,s.obj⟩ (cl4 L k) 1 ((bv6 L k).map Md.af2)/\(bv6 L k).length<=B:=by
 rcases bs9 L k with ⟨h1,h2⟩|⟨t,ht,_,h1,h2⟩
 ·rw[h1,h2]; exact ⟨.inl ⟨rfl,rfl⟩,Nat.zero_le _⟩
 ·rw[h1,h2]; exact ⟨.inr ⟨t.2.2,by rw[List.length_map],(h.row t ht).1,by have:=(h.row t ht).2.1; show t.2.2<m; omega⟩,(h.row t ht).2.2⟩
theorem MS.upd {s:Store}{tag:Nat->Nat}{c mid:Nat}{L:NmL}{B:Nat}(h:MS s tag c mid L B)(k:Str)(n:Int)(m nid:Nat)(hm:s.next<=m)(hnew:s.next<=nid)(hb:B<2^30) :
  ∃ s1,ba7 ⟨m,s.obj⟩ nid 1 (cl4 L k) (.aa5 [[.int .i64 n]])=some (.slice nid 0 ((bv6 L k).length+1) 1,s1)/\s1.next=m/\s1.obj mid=some (.map (mEs L))/\(∀ i o,i<s.next->s.obj i=some o->(∀ cs,o≠.row cs)->s1.obj i=some o) /\
   ∀ nx,nid<nx->MS ⟨nx,(s1.put mid (.map (mEs (az1 L k n nid)))).obj⟩ (ea1 tag c nid) c mid (az1 L k n nid) (B+1)/\∀ i,i<s.next->tag i≠c->(s1.put mid (.map (mEs (az1 L k n nid)))).obj i=s.obj i:=by
 obtain ⟨hg,hlen⟩:=h.cur k m hm;have hap:=am2 (nid:=nid) (e:=[.int .i64 n]) hg (bp8 _) ⟨rfl,rfl⟩ (by rw[List.length_map]; omega);rw[List.length_map] at hap;have hlt:=h.lt;have hmid:¬ mid=nid:=by omega
 have kother:∀ i,(∀ t∈L,t.1=k->t.2.2≠i)->(ai4 (cl4 L k) ⟨m,s.obj⟩).obj i=s.obj i:=by
  intro i hne;rcases bs9 L k with ⟨h1,_⟩|⟨t,ht,hk,h1,_⟩
  ·rw[h1]; rfl
  ·rw[h1];show (if i=t.2.2 then none else s.obj i)=_;rw[if_neg (fun e=>hne t ht hk e.symm)]
 have hrow_ne_mid:∀ i cs,s.obj i=some (.row cs)->¬ i=mid:=fun i cs hi e=>by subst e; rw[h.map] at hi; cases hi
 refine ⟨_,hap,by rw[ab4,ad8],?_,?_,fun nx hnx=>⟨?_,?_⟩⟩
 ·rw[aa7,if_neg hmid]; exact ai6 hg mid _ h.map (fun _ e=>by cases e)
 ·intro i o hi ho hr;rw[aa7,if_neg (by omega)]; exact ai6 hg i _ ho hr
 ·exact {
   map:=by
    show (if mid=mid then _ else _)=_;rw[if_pos rfl]
   row:=by
    intro t ht;rcases df4 h.keys t ht with ⟨h1,h2⟩|rfl
    ·obtain ⟨r1,r2,r3⟩:=h.row t h1;refine ⟨?_,by show t.2.2<nx; omega,by omega⟩;show (if t.2.2=mid then _ else if t.2.2=nid then _ else (ai4 (cl4 L k) ⟨m,s.obj⟩).obj t.2.2)=_;rw[if_neg (hrow_ne_mid _ _ r1),if_neg (by omega),kother _ fun u hu hk e=>h2 (by rw[<- fk7 h.keys h.ids u hu t h1 e]; exact hk)];exact r1
    ·refine ⟨?_,hnx,?_⟩
     ·show (if nid=mid then _ else if nid=nid then _ else _)=_;rw[if_neg (fun e=>hmid e.symm),if_pos rfl,List.map_append];rfl
     ·show (bv6 L k++[n]).length<=B+1;rw[List.length_append]; simp; exact hlen
   cf2:=by
    intro t ht;rcases df4 h.keys t ht with ⟨h1,h2⟩|rfl
    ·rw[ap3 hnew _ (h.row t h1).2.1]; exact h.cf2 t h1
    ·unfold ea1; rw[if_pos rfl]
   ids:=(fk6 L h.ids (fun hm=>by
    obtain ⟨t,ht,e⟩:=List.mem_map.1 hm;have:=(h.row t ht).2.1;have e':t.2.2=nid:=e;omega)).1
   keys:=(ee9 L h.keys).1
   lt:=by show mid<nx; omega
   gf1:=by rw[ap3 hnew _ h.lt]; exact h.gf1 }
 ·intro i hi hc;show (if i=mid then _ else if i=nid then _ else (ai4 (cl4 L k) ⟨m,s.obj⟩).obj i)=_;rw[if_neg (fun e=>hc (by rw[e]; exact h.gf1)),if_neg (by omega),kother _ fun t ht _ e=>hc (by rw[<- e]; exact h.cf2 t ht)]
theorem MS.frz {s:Store}{tag:Nat->Nat}{c mid:Nat}{L:NmL}{B:Nat}(h:MS s tag c mid L B){nm:Nms}(hp:(ax5 L).Perm nm):dj1 s 0 (.map mid) (.ak1 (nmV nm)):=by
 have hat:∀ i,i<(mEs L).length->∃ t∈L,(mEs L).getD i (.undef,.undef)=(.str t.1,.slice t.2.2 0 t.2.1.length 1)/\(nmV (ax5 L)).getD i (.undef,.undef)=(.str t.1,.aa5 (t.2.1.map Md.af2)):=by
  intro i hi;have hi':i<L.length:=by simpa [mEs] using hi
  exact ⟨L[i],List.getElem_mem hi',by simp[mEs,List.getD_eq_getElem?_getD,hi'],by simp[nmV,ax5,List.getD_eq_getElem?_getD,hi']⟩
 have hkn:KN nm:=KN.perm (nm:=ax5 L) (by show ((ax5 L).map (·.1)).Nodup; unfold ax5; rw[List.map_map]; exact h.keys) hp;refine .map mid (mEs L) (nmV (ax5 L)) (nmV nm) (Nat.not_lt_zero _) h.map (by simp[nmV,ax5,mEs]) (hp.map _) ⟨?_,.str,fun e he=>?_⟩ (fun i hi=>?_) (fun i hi=>?_)
 ·have:(nmV nm).map (·.1)=(nm.map (·.1)).map IV.str:=by simp[nmV]
  rw[this];exact List.Pairwise.map _ (fun a b hab e=>hab (by cases e; rfl)) hkn
 ·simp only[nmV,List.mem_map] at he;obtain ⟨t,_,rfl⟩:=he;trivial
 ·obtain ⟨t,ht,e1,e2⟩:=hat i hi;rw[e1,e2]; exact be3 _
 ·obtain ⟨t,ht,e1,e2⟩:=hat i hi;rw[e1,e2];obtain ⟨r1,r2,_⟩:=h.row t ht;have hg:Grow s (.slice t.2.2 0 t.2.1.length 1) 1 (t.2.1.map Md.af2):=.inr ⟨t.2.2,by rw[List.length_map],r1,r2⟩;refine hg.frz (fun x hx=>(bp8 _ x hx).1) (fun _ _=>Nat.not_lt_zero _) fun e he c hc=>?_
  obtain ⟨n,_,rfl⟩:=List.mem_map.1 he
  cases hc with
  | head=>exact .int _ _
  | tail _ h=>cases h
structure IS (s:Store) (pp m1 m2 m3:Nat) (all:List aa3) (rv:IV) (L1 L2 L3:NmL) (tag:Nat->Nat) (B:Nat):Prop where
 cell:s.obj pp=some (.cells [rv,.map m1,.map m2,.map m3])
 ltp:pp<s.next
 grow:Grow s rv 15 (all.map aa3.cs)
 cf2:∀ id n,rv=.slice id 0 n 15->tag id=0
 m1:MS s tag 1 m1 L1 B
 m2:MS s tag 2 m2 L2 B
 m3:MS s tag 3 m3 L3 B
 dq6:tag pp=4
theorem IS.mono {s s':Store}{pp m1 m2 m3:Nat}{all:List aa3}{rv:IV}{L1 L2 L3:NmL}{tag:Nat->Nat}{B B':Nat}(h:IS s pp m1 m2 m3 all rv L1 L2 L3 tag B)(hB:B<=B')(hn:s.next<=s'.next)(ho:∀ i,i<s.next->s'.obj i=s.obj i):IS s' pp m1 m2 m3 all rv L1 L2 L3 tag B' where
 cell:=by rw[ho _ h.ltp]; exact h.cell
 ltp:=by have:=h.ltp; omega
 grow:=h.grow.mono hn fun id _ hid=>ho id hid
 cf2:=h.cf2
 m1:=h.m1.keep hB hn (fun i hi _=>ho i hi) fun _ _=>rfl
 m2:=h.m2.keep hB hn (fun i hi _=>ho i hi) fun _ _=>rfl
 m3:=h.m3.keep hB hn (fun i hi _=>ho i hi) fun _ _=>rfl
 dq6:=h.dq6
theorem dh5 {s s':Store}{rv:IV}{es:List (List IV)}{tag:Nat->Nat}(h:Grow s rv 15 es)(ht:∀ id n,rv=.slice id 0 n 15->tag id=0)(hn:s.next<=s'.next)(ho:∀ i,i<s.next->tag i=0->s'.obj i=s.obj i):Grow s' rv 15 es :=
 h.mono hn fun id hv hid=>ho id hid (ht id _ hv)
theorem dh6 {s:Store}{rv:IV}{es:List (List IV)}{tag:Nat->Nat}{c nid:Nat}(h:Grow s rv 15 es)(ht:∀ id n,rv=.slice id 0 n 15->tag id=0)(hn:s.next<=nid):∀ id n,rv=.slice id 0 n 15->ea1 tag c nid id=0:=fun id n hv=>by
 rcases h with ⟨h1,_⟩|⟨id',h1,_,hlt⟩
 ·rw[h1] at hv; cases hv
 ·have e:id'=id:=by rw[h1] at hv; cases hv; rfl
  subst e;rw[ap3 hn _ hlt]; exact ht _ _ hv
theorem IS.of1 {s s':Store}{pp m1 m2 m3 nid:Nat}{all:List aa3}{rv:IV}{L1 L2 L3 L':NmL}{tag:Nat->Nat}{B:Nat}(h:IS s pp m1 m2 m3 all rv L1 L2 L3 tag B)(hn:s.next<=s'.next)(hnid:s.next<=nid)(hm:MS s' (ea1 tag 1 nid) 1 m1 L' (B+1))(ho:∀ i,i<s.next->tag i≠1->s'.obj i=s.obj i):IS s' pp m1 m2 m3 all rv L' L2 L3 (ea1 tag 1 nid) (B+1) where
 cell:=by rw[ho _ h.ltp (by rw[h.dq6]; decide)]; exact h.cell
 ltp:=by have:=h.ltp; omega
 grow:=dh5 h.grow h.cf2 hn fun i hi e=>ho i hi (by rw[e]; decide)
 cf2:=dh6 h.grow h.cf2 hnid
 m1:=hm
 m2:=h.m2.keep (Nat.le_succ _) hn (fun i hi e=>ho i hi (by rw[e]; decide)) (ap3 hnid)
 m3:=h.m3.keep (Nat.le_succ _) hn (fun i hi e=>ho i hi (by rw[e]; decide)) (ap3 hnid)
 dq6:=by rw[ap3 hnid _ h.ltp]; exact h.dq6
theorem IS.of2 {s s':Store}{pp m1 m2 m3 nid:Nat}{all:List aa3}{rv:IV}{L1 L2 L3 L':NmL}{tag:Nat->Nat}{B:Nat}(h:IS s pp m1 m2 m3 all rv L1 L2 L3 tag B)(hn:s.next<=s'.next)(hnid:s.next<=nid)(hm:MS s' (ea1 tag 2 nid) 2 m2 L' (B+1))(ho:∀ i,i<s.next->tag i≠2->s'.obj i=s.obj i):IS s' pp m1 m2 m3 all rv L1 L' L3 (ea1 tag 2 nid) (B+1) where
 cell:=by rw[ho _ h.ltp (by rw[h.dq6]; decide)]; exact h.cell
 ltp:=by have:=h.ltp; omega
 grow:=dh5 h.grow h.cf2 hn fun i hi e=>ho i hi (by rw[e]; decide)
 cf2:=dh6 h.grow h.cf2 hnid
 m1:=h.m1.keep (Nat.le_succ _) hn (fun i hi e=>ho i hi (by rw[e]; decide)) (ap3 hnid)
 m2:=hm
 m3:=h.m3.keep (Nat.le_succ _) hn (fun i hi e=>ho i hi (by rw[e]; decide)) (ap3 hnid)
 dq6:=by rw[ap3 hnid _ h.ltp]; exact h.dq6
theorem IS.of3 {s s':Store}{pp m1 m2 m3 nid:Nat}{all:List aa3}{rv:IV}{L1 L2 L3 L':NmL}{tag:Nat->Nat}{B:Nat}(h:IS s pp m1 m2 m3 all rv L1 L2 L3 tag B)(hn:s.next<=s'.next)(hnid:s.next<=nid)(hm:MS s' (ea1 tag 3 nid) 3 m3 L' (B+1))(ho:∀ i,i<s.next->tag i≠3->s'.obj i=s.obj i):IS s' pp m1 m2 m3 all rv L1 L2 L' (ea1 tag 3 nid) (B+1) where
 cell:=by rw[ho _ h.ltp (by rw[h.dq6]; decide)]; exact h.cell
 ltp:=by have:=h.ltp; omega
 grow:=dh5 h.grow h.cf2 hn fun i hi e=>ho i hi (by rw[e]; decide)
 cf2:=dh6 h.grow h.cf2 hnid
 m1:=h.m1.keep (Nat.le_succ _) hn (fun i hi e=>ho i hi (by rw[e]; decide)) (ap3 hnid)
 m2:=h.m2.keep (Nat.le_succ _) hn (fun i hi e=>ho i hi (by rw[e]; decide)) (ap3 hnid)
 m3:=hm
 dq6:=by rw[ap3 hnid _ h.ltp]; exact h.dq6
theorem bh8 (l:List aa3):∀ e∈l.map aa3.cs,e.length=15/\e.all IV.leaf=true:=fun e he=>by
 obtain ⟨x,_,rfl⟩:=List.mem_map.1 he;exact ⟨al9 x,ah9 x⟩
theorem IS.push {s:Store}{pp m1 m2 m3:Nat}{all:List aa3}{rv:IV}{L1 L2 L3:NmL}{tag:Nat->Nat}{B:Nat}(h:IS s pp m1 m2 m3 all rv L1 L2 L3 tag B)(x:aa3)(m nid:Nat)(hm:s.next<=m)(hnew:s.next<=nid)(hb:all.length<2^30) :
  ∃ s1,ba7 ⟨m,s.obj⟩ nid 15 rv (.aa5 [x.cs])=some (.slice nid 0 (all.length+1) 15,s1)/\s1.next=m/\s1.obj pp=s.obj pp/\(∀ i o,i<s.next->s.obj i=some o->(∀ cs,o≠.row cs)->s1.obj i=some o) /\
   ∀ nx,nid<nx->IS ⟨nx,(s1.put pp (.cells [.slice nid 0 (all.length+1) 15,.map m1,.map m2,.map m3])).obj⟩ pp m1 m2 m3 (all++[x]) (.slice nid 0 (all.length+1) 15) L1 L2 L3 (ea1 tag 0 nid) B:=by
 have hg:Grow ⟨m,s.obj⟩ rv 15 (all.map aa3.cs):=Grow.mono (σ:=s) h.grow hm fun _ _ _=>rfl
 have hap:=am2 (nid:=nid) (e:=x.cs) hg (bh8 all) ⟨al9 x,ah9 x⟩ (by rw[List.length_map]; omega);rw[List.length_map] at hap;have hlt:=h.ltp;have hpp:¬ pp=nid:=by omega
 have kp:=ai6 hg pp _ h.cell (fun _ e=>by cases e)
 have kk:∀ i,i<s.next->tag i≠0->tag i≠4->((ai4 rv ⟨m,s.obj⟩).put nid (.row (all.map aa3.cs++[x.cs]).flatten) |>.put pp (.cells [.slice nid 0 (all.length+1) 15,.map m1,.map m2,.map m3])).obj i=s.obj i:=by
  intro i hi h0 h4;show (if i=pp then _ else if i=nid then _ else (ai4 rv ⟨m,s.obj⟩).obj i)=_;rw[if_neg (fun e=>h4 (by rw[e]; exact h.dq6)),if_neg (by omega)];rcases h.grow with ⟨hv,_⟩|⟨id,hv,ho,hl⟩
  ·rw[hv]; rfl
  ·have ht:=h.cf2 id _ hv;rw[hv];show (if i=id then none else s.obj i)=_;rw[if_neg (fun e=>h0 (by rw[e]; exact ht))]
 refine ⟨_,hap,by rw[ab4,ad8],by rw[aa7,if_neg hpp,kp,h.cell],?_,fun nx hnx=>?_⟩
 ·intro i o hi ho hr;rw[aa7,if_neg (by omega)]; exact ai6 hg i _ ho hr
 ·exact {
   cell:=by
    show (if pp=pp then _ else _)=_;rw[if_pos rfl]
   ltp:=by show pp<nx; omega
   grow:=by
    refine .inr ⟨nid,by rw[List.map_append,List.length_append,List.length_map]; rfl,?_,hnx⟩;show (if nid=pp then _ else if nid=nid then _ else _)=_;rw[if_neg (fun e=>hpp e.symm),if_pos rfl,List.map_append]; rfl
   cf2:=fun id n hv=>by cases hv; unfold ea1; rw[if_pos rfl]
   m1:=h.m1.keep (Nat.le_refl _) (by show s.next<=nx; omega) (fun i hi e=>kk i hi (by rw[e]; decide) (by rw[e]; decide)) (ap3 hnew)
   m2:=h.m2.keep (Nat.le_refl _) (by show s.next<=nx; omega) (fun i hi e=>kk i hi (by rw[e]; decide) (by rw[e]; decide)) (ap3 hnew)
   m3:=h.m3.keep (Nat.le_refl _) (by show s.next<=nx; omega) (fun i hi e=>kk i hi (by rw[e]; decide) (by rw[e]; decide)) (ap3 hnew)
   dq6:=by rw[ap3 hnew _ h.ltp]; exact h.dq6 }
theorem IS.frz {s:Store}{pp m1 m2 m3:Nat}{all:List aa3}{rv:IV}{L1 L2 L3:NmL}{tag:Nat->Nat}{B:Nat}(h:IS s pp m1 m2 m3 all rv L1 L2 L3 tag B){x:Index}(h0:x.all=all)(h1:(ax5 L1).Perm x.as2)(h2:(ax5 L2).Perm x.names)(h3:(ax5 L3).Perm x.over):dj1 s 0 (.ptr pp 0) x.v:=by
 subst h0;refine .ptr pp 0 _ _ (Nat.not_lt_zero _) (.inl h.cell) (Nat.le_refl _) fun j hj=>?_
 have hj3:j=0\/j=1\/j=2\/j=3:=by simp only[List.length_cons,List.length_nil] at hj; omega
 rcases hj3 with rfl|rfl|rfl|rfl
 ·refine h.grow.frz (fun x hx=>(bh8 _ x hx).1) (fun _ _=>Nat.not_lt_zero _) fun e he c hc=>?_
  obtain ⟨r,_,rfl⟩:=List.mem_map.1 he;exact ay6 r c hc
 ·exact h.m1.frz h1
 ·exact h.m2.frz h2
 ·exact h.m3.frz h3
theorem MS.fp4 {s s':Store}{tag:Nat->Nat}{c mid:Nat}{L:NmL}{B B':Nat}(h:MS s tag c mid L B)(hB:B<=B')(hn:s.next<=s'.next)(ho:∀ i o,i<s.next->s.obj i=some o->(∀ l c,o≠.ap4 l c)->s'.obj i=some o):MS s' tag c mid L B' where
 map:=ho _ _ h.lt h.map (fun _ _ e=>by cases e)
 row:=fun t m=>⟨ho _ _ (h.row t m).2.1 (h.row t m).1 (fun _ _ e=>by cases e),by have:=(h.row t m).2.1; omega,by have:=(h.row t m).2.2; omega⟩
 cf2:=h.cf2
 ids:=h.ids
 keys:=h.keys
 lt:=by have:=h.lt; omega
 gf1:=h.gf1
theorem IS.fp4 {s s':Store}{pp m1 m2 m3:Nat}{all:List aa3}{rv:IV}{L1 L2 L3:NmL}{tag:Nat->Nat}{B B':Nat}(h:IS s pp m1 m2 m3 all rv L1 L2 L3 tag B)(hB:B<=B')(hn:s.next<=s'.next)(ho:∀ i o,i<s.next->s.obj i=some o->(∀ l c,o≠.ap4 l c)->s'.obj i=some o):IS s' pp m1 m2 m3 all rv L1 L2 L3 tag B' where
 cell:=ho _ _ h.ltp h.cell (fun _ _ e=>by cases e)
 ltp:=by have:=h.ltp; omega
 grow:=by
  rcases h.grow with h0|⟨id,hv,hr,hid⟩
  ·exact .inl h0
  ·exact .inr ⟨id,hv,ho _ _ hid hr (fun _ _ e=>by cases e),by omega⟩
 cf2:=h.cf2
 m1:=h.m1.fp4 hB hn ho
 m2:=h.m2.fp4 hB hn ho
 m3:=h.m3.fp4 hB hn ho
 dq6:=h.dq6
theorem dq4 {α β:Type}(f:α->β):∀ (l:List α) (k:Nat),(l.map f).eraseIdx k=(l.eraseIdx k).map f
 | [],_=>rfl
 | _::_,0=>rfl
 | a::l,k+1=>by simp[dq4 f l k]
theorem da8 {α:Type}:∀ (l:List α) (k:Nat) (h:k<l.length),l.Perm (l[k]::l.eraseIdx k)
 | [],k,h=>by simp at h
 | a::l,0,_=>.refl _
 | a::l,k+1,h=>((da8 l k (by simpa using h)).cons a).trans (.swap _ _ _)
theorem ih8 {s:Store}{id:Nat}{l:List (IV×IV)}{c:Option (IV×IV)}(h:s.obj id=some (.ap4 l c)):bg1 s (.ptr id 0)=some (id,l):=by simp only[bg1,h]
theorem ih9 {s:Store}{id:Nat}{l:List (IV×IV)}{c:IV×IV}(h:s.obj id=some (.ap4 l (some c))):cg1 s (.ptr id 0)=some (.tuple [c.1,c.2]):=by simp only[cg1,h]
theorem bp9:∀ (ks l:List Str),(ks.foldl aq9 l).length<=l.length+ks.length
 | [],l=>Nat.le_refl _
 | k::ks,l=>by
  refine Nat.le_trans (bp9 ks _) ?_
  have:(aq9 l k).length<=l.length+1:=by
   unfold aq9; split
   ·omega
   ·simp
  simp only[List.length_cons]; omega
theorem ge7 (p:aa3):(cl8 p).length<=p.provides.length+p.files.length+1:=by
 refine Nat.le_trans (bp9 _ _) ?_;have:=bp9 (p.provides.map (·.name)) [p.name];simp only[List.length_map,List.length_cons,List.length_nil] at this;omega
theorem bq1 (p:Pool)(hf:∀ r∈p.rows,r.pkg.Fit)(hlen:p.rows.length<=2^14)(hs:∀ r∈p.rows,r.pkg.provides.length+r.pkg.files.length+r.pkg.aa8.length+3<=2^15) :
  PC Tryz.prog EE 43 [p.v] (.tuple [(ae2 (p.rows.map (·.pkg))).v,.int .i64 0]):=by
 obtain ⟨pk,hpk0⟩:∃ pk,p.rows.map (·.pkg)=pk:=⟨_,rfl⟩;have hpl:pk.length=p.rows.length:=by rw[<- hpk0,List.length_map]
 rw[hpk0];obtain ⟨W,hW⟩:∃ W:Nat,W=2^15:=⟨_,rfl⟩;have hC:=bh7 p;have hP:=fun (n:Nat) (h:n<p.rows.length)=>bo1 p n h (hf _ (List.getElem_mem h))
 have hb:=be8 p;obtain ⟨cs,hcs⟩:∃ cs,p.v=.ab7 cs:=⟨_,rfl⟩;rw[hcs] at hC hP hb ⊢;refine af5 hE fok43 (nZ rfl) (fun a ha=>by cases List.mem_singleton.1 ha; exact hb) ?_;simp only[ic43,go_sem];refine aa4 fok13 hC ?_;simp only[go_sem]
 refine ab5 noT (fun i fr s=>fr=[(0,.ab7 cs),(4,.ptr 3 0),(19,.int .i64 p.rows.length),(20,.int .i64 i)]/\∃ rv L1 L2 L3 tag,IS s 3 0 1 2 (pk.take i) rv L1 L2 L3 tag (i*W) /\
  (ax5 L1).Perm (ae2 (pk.take i)).as2/\(ax5 L2).Perm (ae2 (pk.take i)).names/\(ax5 L3).Perm (ae2 (pk.take i)).over) p.rows.length ⟨rfl,.aa1,[],[],[],(fun i=>if i=0 then 1 else if i=1 then 2 else if i=2 then 3 else 4),?_,.refl _,.refl _,.refl _⟩ ?_
 ·have e0:∀ (c mid:Nat) (L:NmL) (st:Store) (tag:Nat->Nat),L=[]->st.obj mid=some (.map [])->mid<st.next->tag mid=c->MS st tag c mid L (0*W):=fun c mid L st tag h1 h2 h3 h4=>by
   subst h1;exact { map:=h2,row:=fun t ht=>(by cases ht),cf2:=fun t ht=>(by cases ht),ids:=List.nodup_nil,keys:=List.nodup_nil,lt:=h3,gf1:=h4 }
  refine { cell:=rfl,ltp:=Nat.lt_succ_self 3,grow:=.inl ⟨rfl,rfl⟩,cf2:=fun id n h=>(by cases h),m1:=e0 1 0 [] _ _ rfl rfl ?_ rfl,m2:=e0 2 1 [] _ _ rfl rfl ?_ rfl,m3:=e0 3 2 [] _ _ rfl rfl ?_ rfl,dq6:=rfl }
  ·show 0<4; decide
  ·show 1<4; decide
  ·show 2<4; decide
 rintro i fr s hle ⟨rfl,rv,L1,L2,L3,tag,hI,p1,p2,p3⟩;by_cases hlt:i<p.rows.length
 ·have c1:(i:Int)<p.rows.length:=by omega
  have c2:(0:Int)<=i:=by omega
  have w1:=ad9 (i:=i) (by omega);have hQ:=hP i hlt;have hx:p.rows[i]∈p.rows:=List.getElem_mem hlt;have hfx:=hf _ hx;have hsx:=hs _ hx
  have htk:pk.take (i+1)=pk.take i++[p.rows[i].pkg]:=by
   rw[<- hpk0,List.take_add_one,List.getElem?_map,List.getElem?_eq_getElem hlt]; rfl
  generalize hpk:p.rows[i].pkg=x at *;simp only[go_sem,c1,c2];refine aa4 fok45 hQ ?_;have e3:¬ 3=s.next:=by have:=hI.ltp; omega
  have hiW:i*W+W<=2^29:=by
   have h1:i*W+W=(i+1)*W:=(Nat.succ_mul i W).symm;rw[h1,hW]; omega
  have hWx:x.provides.length+x.files.length+x.aa8.length+3<=W:=by rw[hW]; exact hsx
  have e3':¬ s.next=3:=fun e=>e3 e.symm
  simp only[go_sem,al9,al2,ah9,e3,hI.cell,Nat.add_assoc];generalize hS:Store.put (Store.put _ s.next _) s.next (al1.cells x.cs)=S1;have hS1:S1.next=s.next+1:=by rw[<- hS]; rfl
  have hbx:S1.obj s.next=some (.cells x.cs):=by rw[<- hS]; simp only[aa7,if_true]
  have h1:IS S1 3 0 1 2 (pk.take i) rv L1 L2 L3 tag (i*W):=hI.mono (Nat.le_refl _) (by omega) fun j hj=>by
   have e:¬ j=s.next:=by omega
   rw[<- hS]; simp only[aa7,e,if_false]
  clear hS;have hal:(pk.take i).length=i:=by rw[List.length_take]; omega
  obtain ⟨t1,ha1,ha2,ha3,ha4,hps⟩:=h1.push x (s.next+12) (s.next+8) (by omega) (by omega) (by rw[hal]; omega);rw[hal] at ha1 hps;rw[ha1];have hc1:t1.obj 3=some (.cells [rv,.map 0,.map 1,.map 2]):=by rw[ha3]; exact h1.cell
  have hb1:t1.obj s.next=some (.cells x.cs):=ha4 _ _ (by omega) hbx (fun _ e=>by cases e);have h2:=hps t1.next (by omega);generalize hX:(al1.cells [.slice (s.next+8) 0 (i+1) 15,.map 0,.map 1,.map 2])=X at hps h2;have hlk2:∀ m,co8 ⟨m,(t1.put 3 X).obj⟩ 2 .aa1 false (.map 1) (.str x.name)=some (cl4 L2 x.name):=fun m=>gd8 (σ:=⟨m,(t1.put 3 X).obj⟩) h2.m2.map x.name
  obtain ⟨t2,ib1,ib2,ib3,ib4,hpt⟩:=h2.m2.upd x.name (i:Int) (t1.next+17) (t1.next+15) (by show t1.next<=_; omega) (by show t1.next<=_; omega) (by omega);simp only at ib1 ib3;subst hX;simp only[go_sem,e3',hc1,hb1,ei3,hlk2,ib1,Nat.add_assoc];rw[ei2 ib3 x.name (i:Int) (t1.next+15)];have g3:3<s.next:=hI.ltp
  have hb2:(t2.put 1 (al1.map (mEs (az1 L2 x.name (i:Int) (t1.next+15))))).obj s.next=some (.cells x.cs):=by
   have e:¬ s.next=1:=by omega
   simp only[aa7,e,if_false];refine ib4 _ _ (by show s.next<t1.next; omega) ?_ (fun _ e=>by cases e);simp only[aa7,e3',if_false]; exact hb1
  have hn2:(t2.put 1 (al1.map (mEs (az1 L2 x.name (i:Int) (t1.next+15))))).next=t1.next+17:=ib2;have hpt':=hpt (t2.put 1 (al1.map (mEs (az1 L2 x.name (i:Int) (t1.next+15))))).next (by rw[hn2]; omega);have h3:=h2.of2 (s':=t2.put 1 (al1.map (mEs (az1 L2 x.name (i:Int) (t1.next+15))))) (nid:=t1.next+15) (by rw[hn2]; show t1.next<=_; omega) (by show t1.next<=_; omega) hpt'.1 hpt'.2;clear hpt'
  have q2:(ax5 (az1 L2 x.name (i:Int) (t1.next+15))).Perm (ao5 (ae2 (pk.take i)).names x.name i):=by
   rw[ch6]; exact bm5 (by show ((ax5 L2).map (·.1)).Nodup; unfold ax5; rw[List.map_map]; exact hI.m2.keys) p2
  generalize az1 L2 x.name (i:Int) (t1.next+15)=L2' at *;generalize t2.put 1 (al1.map (mEs L2'))=S2 at *;generalize ea1 (ea1 tag 0 (s.next+8)) 2 (t1.next+15)=tag2 at *;clear hpt hps ib1 ib2 ib3 ib4 hlk2;simp only[go_sem,hb2,al9,al2,ah9];refine aa4 fok93 (ez1 x hfx) ?_;simp only[go_sem,Nat.add_assoc];clear h1 h2 ha4 ha3 hc1 hb1 ha1 p2;have hkn1:KN (ae2 (pk.take i)).as2:=KN.perm (nm:=ax5 L1) (by show ((ax5 L1).map (·.1)).Nodup; unfold ax5; rw[List.map_map]; exact hI.m1.keys) p1;have hol:(cl8 x).length<=x.provides.length+x.files.length+1:=ge7 x
  have hidx:ae2 (pk.take (i+1))=do4 (ae2 (pk.take i)) i x:=by
   rw[htk]; unfold ae2; rw[do5,hal,Nat.zero_add]
  generalize pk.take i++[x]=allI at *;generalize IV.slice (s.next+8) 0 (i+1) 15=rv2 at *;have hsm:¬ s.next=S2.next:=by omega
  refine ab5 noT (fun j fr t=>fr=[(0,.ab7 cs),(4,.ptr 3 0),(5,.int .i64 i),(6,.ptr s.next 0),(19,.int .i64 p.rows.length),(20,.int .i64 i),(60,.ptr S2.next 0)]/\S2.next+1<=t.next/\t.obj s.next=some (.cells x.cs) /\
   ∃ done left cur L tg,(done++left).Perm (cl8 x)/\done.length=j/\t.obj S2.next=some (.ap4 (left.map sE) cur)/\IS t 3 0 1 2 allI rv2 L L2' L3 tg (i*W+1+j)/\(ax5 L).Perm (ax6 (ae2 (pk.take i)).as2 done i)) (cl8 x).length
   ⟨rfl,Nat.le_refl _,?_,[],cl8 x,none,L1,tag2,.refl _,rfl,?_,?_,p1⟩ ?_
  ·simp only[aa7,hsm,if_false]; exact hb2
  ·simp only[aa7,if_true]
  ·refine h3.mono (Nat.le_refl _) (by show S2.next<=S2.next+1; omega) fun j hj=>?_
   have e:¬ j=S2.next:=by omega
   simp only[aa7,e,if_false]
  rintro j fr t hjle ⟨rfl,hnt,hbt,done,left,cur,L,tg,hpm,hdl,hmi,hIt,hpL⟩;have hll:done.length+left.length=(cl8 x).length:=by rw[<- hpm.length_eq,List.length_append]
  simp only[go_sem,ih8 hmi];refine ⟨fun hnil=>?_,fun k hk=>?_⟩
  ·have hl0:left=[]:=by simpa using hnil
   subst hl0;rw[List.append_nil] at hpm;have q1:=hpL.trans (do3 hpm hkn1);simp only[go_sem,hbt,aa3.cs,be5];have hjl:j=(cl8 x).length:=by rw[<- hdl]; simpa using hll
   subst hjl;clear hmi hbt hpL hpm hll hdl
   refine ab5 noT (fun j fr u=>fr=[(0,.ab7 cs),(4,.ptr 3 0),(5,.int .i64 i),(19,.int .i64 p.rows.length),(20,.int .i64 i),(80,deps x.aa8),(81,.int .i64 x.aa8.length),(82,.int .i64 j)] /\
    ∃ L3' tg',IS u 3 0 1 2 allI rv2 L L2' L3' tg' (i*W+1+(cl8 x).length+j)/\(ax5 L3').Perm (aq3 (ae2 (pk.take i)).over ((x.aa8.take j).map (·.name)) i)) x.aa8.length ⟨rfl,L3,tg,hIt,p3⟩ ?_
   rintro j fr u hjo ⟨rfl,L3',tg',hIu,r3⟩;have hkn3:KN (ax5 L3'):=by show ((ax5 L3').map (·.1)).Nodup; unfold ax5; rw[List.map_map]; exact hIu.m3.keys
   by_cases hjlt:j<x.aa8.length
   ·obtain ⟨d,hd,_,hdr,hget,htk2⟩:=ad5 x.aa8 j hjlt;have d1:(j:Int)<x.aa8.length:=by omega
    have d2:(0:Int)<=j:=by omega
    have w2:=ad9 (i:=j) (by omega);have g3u:=hIu.ltp;have f3:¬ 3=u.next:=by omega
    simp only[go_sem,d1,d2,hget,Dep.cs,f3,hIu.cell,Nat.add_assoc];generalize hU:Store.put (Store.put _ u.next _) u.next _=U;have hUn:U.next=u.next+1:=by rw[<- hU]; rfl
    have hUd:U.obj u.next=some (.cells [.str d.name,.int .u8 d.op,.int .i64 d.evr.ao4,.str d.evr.ver,.str d.evr.rel]):=by rw[<- hU]; simp only[aa7,if_true]
    have hIU:IS U 3 0 1 2 allI rv2 L L2' L3' tg' (i*W+1+(cl8 x).length+j):=hIu.mono (Nat.le_refl _) (by omega) fun a ha=>by
     have e:¬ a=u.next:=by omega
     rw[<- hU]; simp only[aa7,e,if_false]
    clear hU;have hlk:∀ m,co8 ⟨m,U.obj⟩ 2 .aa1 false (.map 2) (.str d.name)=some (cl4 L3' d.name):=fun m=>gd8 (σ:=⟨m,U.obj⟩) hIU.m3.map d.name
    simp only[go_sem,hlk];obtain ⟨hcg,hcl⟩:=hIU.m3.cur d.name (u.next+11) (by omega)
    have hfz:dj1 (⟨u.next+11,U.obj⟩:Store) 0 (cl4 L3' d.name) (.aa5 ((bv6 L3' d.name).map Md.af2)):=hcg.frz (fun y hy=>(bp8 _ y hy).1) (fun _ _=>Nat.not_lt_zero _) fun e he c hc=>by
     obtain ⟨n,_,rfl⟩:=List.mem_map.1 he
     cases hc with
     | head=>exact .int _ _
     | tail _ h=>cases h
    have hat:=(fy3.cons hfz (fy3.cons (ac7 .i64 (i:Int)) .nil)).at;refine aj9 fok94 (de9 hE hat.1 hat.2 (by simp[IV.plain]) (cn4 (bv6 L3' d.name) i (by omega))) ?_;rintro v' s' ⟨rfl,rfl⟩;refine ⟨Nat.le_refl _,?_⟩
    have hin:(i:Int)∈ac6 (aq3 (ae2 (pk.take i)).over ((x.aa8.take j).map (·.name)) i) d.name↔(i:Int)∈bv6 L3' d.name:=by
     rw[<- cl6 hkn3 r3,ex1]
    cases hc:decide ((i:Int)∈bv6 L3' d.name) with
    | true=>
     have hc':(i:Int)∈bv6 L3' d.name:=of_decide_eq_true hc;simp only[go_sem,w2];refine ⟨hjlt,L3',tg',?_,?_⟩
     ·have:=hIU.mono (s':=⟨u.next+11,U.obj⟩) (Nat.le_succ _) (by show U.next<=u.next+11; omega) fun _ _=>rfl
      simpa only[Nat.add_assoc,Nat.succ_eq_add_one] using this
     ·rw[htk2,List.map_append,List.map_cons,List.map_nil,ce7,if_pos (hin.2 hc')]; exact r3
    | false=>
     have hc':¬ (i:Int)∈bv6 L3' d.name:=of_decide_eq_false hc;obtain ⟨t5,jb1,jb2,jb3,jb4,jpt⟩:=hIU.m3.upd d.name (i:Int) (u.next+28) (u.next+26) (by omega) (by omega) (by omega);simp only[go_sem,hIU.cell,hUd,hlk,jb1,Nat.add_assoc];rw[ei2 jb3 d.name (i:Int) (u.next+26)];have hn5:(t5.put 2 (al1.map (mEs (az1 L3' d.name (i:Int) (u.next+26))))).next=u.next+28:=jb2;have jpt':=jpt (t5.put 2 (al1.map (mEs (az1 L3' d.name (i:Int) (u.next+26))))).next (by rw[hn5]; omega);have hI5:=hIU.of3 (s':=t5.put 2 (al1.map (mEs (az1 L3' d.name (i:Int) (u.next+26))))) (nid:=u.next+26) (by rw[hn5]; omega) (by omega) jpt'.1 jpt'.2
     have hq:(ax5 (az1 L3' d.name (i:Int) (u.next+26))).Perm (ao5 (aq3 (ae2 (pk.take i)).over ((x.aa8.take j).map (·.name)) i) d.name i):=by
      rw[ch6];exact bm5 hkn3 r3
     clear jpt jpt' jb1 jb3 jb4;generalize t5.put 2 (al1.map (mEs (az1 L3' d.name (i:Int) (u.next+26))))=T5 at *;simp only[go_sem,w2];refine ⟨hjlt,az1 L3' d.name (i:Int) (u.next+26),_,by simpa only[Nat.add_assoc] using hI5,?_⟩;rw[htk2,List.map_append,List.map_cons,List.map_nil,ce7,if_neg (fun e=>hc' (hin.1 e))]; exact hq
   ·have hj':j=x.aa8.length:=by omega
    subst hj';have d1:¬ (x.aa8.length:Int)<x.aa8.length:=by omega
    rw[List.take_length] at r3;simp only[go_sem,d1,w1];refine ⟨hlt,rv2,L,L2',L3',tg',?_,?_,?_,?_⟩
    ·rw[htk];have hle2:i*W+1+(cl8 x).length+x.aa8.length<=(i+1)*W:=by rw[Nat.succ_mul]; omega
     exact hIu.mono hle2 (Nat.le_refl _) fun _ _=>rfl
    ·rw[hidx]; exact q1
    ·rw[hidx]; exact q2
    ·rw[hidx]; exact r3
  ·have hge:(left.map sE).getD k (.undef,.undef)=sE left[k]:=by simp[List.getD_eq_getElem?_getD,hk]
   rw[hge,dq4];generalize hT:Store.put t S2.next (al1.ap4 ((left.eraseIdx k).map sE) (some (sE left[k])))=T;have hTn:T.next=t.next:=by rw[<- hT]; rfl
   have hTm:T.obj S2.next=some (.ap4 ((left.eraseIdx k).map sE) (some (sE left[k]))):=by rw[<- hT]; simp only[aa7,if_true]
   have hTb:T.obj s.next=some (.cells x.cs):=by rw[<- hT]; simp only[aa7,hsm,if_false]; exact hbt
   have hIT:IS T 3 0 1 2 allI rv2 L L2' L3 tg (i*W+1+j):=hIt.fp4 (Nat.le_refl _) (by omega) fun a o ha hao hne=>by
    rw[<- hT];have e:¬ a=S2.next:=fun e=>by subst e; rw[hmi] at hao; cases hao; exact hne _ _ rfl
    simp only[aa7,e,if_false]; exact hao
   clear hT;generalize hkey:left[k]=key at *;obtain ⟨t3,ib1,ib2,ib3,ib4,hpt⟩:=hIT.m1.upd key (i:Int) (t.next+15) (t.next+13) (by omega) (by omega) (by omega);have hlk:∀ m,co8 ⟨m,T.obj⟩ 2 .aa1 false (.map 0) (.str key)=some (cl4 L key):=fun m=>gd8 (σ:=⟨m,T.obj⟩) hIT.m1.map key
   have hme:∀ m,cg1 ⟨m,T.obj⟩ (.ptr S2.next 0)=some (.tuple [.str key,.agg []]):=fun m=>ih9 (s:=⟨m,T.obj⟩) hTm
   simp only[go_sem,hme,hIT.cell,hlk,ib1,Nat.add_assoc];rw[ei2 ib3 key (i:Int) (t.next+13)];have hn4:(t3.put 0 (al1.map (mEs (az1 L key (i:Int) (t.next+13))))).next=t.next+15:=ib2;have hpt':=hpt (t3.put 0 (al1.map (mEs (az1 L key (i:Int) (t.next+13))))).next (by rw[hn4]; omega);have hI4:=hIT.of1 (s':=t3.put 0 (al1.map (mEs (az1 L key (i:Int) (t.next+13))))) (nid:=t.next+13) (by rw[hn4]; omega) (by omega) hpt'.1 hpt'.2
   have hmi4:(t3.put 0 (al1.map (mEs (az1 L key (i:Int) (t.next+13))))).obj S2.next=some (.ap4 ((left.eraseIdx k).map sE) (some (sE key))):=by
    have e:¬ S2.next=0:=by omega
    simp only[aa7,e,if_false];exact ib4 _ _ (by omega) hTm (fun _ e=>by cases e)
   have hb4:(t3.put 0 (al1.map (mEs (az1 L key (i:Int) (t.next+13))))).obj s.next=some (.cells x.cs):=by
    have e:¬ s.next=0:=by omega
    simp only[aa7,e,if_false];exact ib4 _ _ (by omega) hTb (fun _ e=>by cases e)
   have hq:(ax5 (az1 L key (i:Int) (t.next+13))).Perm (ax6 (ae2 (pk.take i)).as2 (done++[key]) i):=by
    rw[ch6,dx7];exact bm5 (by show ((ax5 L).map (·.1)).Nodup; unfold ax5; rw[List.map_map]; exact hIT.m1.keys) hpL
   clear hpt hpt' ib1 ib3 ib4;generalize t3.put 0 (al1.map (mEs (az1 L key (i:Int) (t.next+13))))=T4 at *;simp only[go_sem];refine ⟨by omega,by omega,hb4,done++[key],left.eraseIdx k,some (sE key),az1 L key (i:Int) (t.next+13),_,?_,by rw[List.length_append,hdl]; rfl,hmi4,by simpa only[Nat.add_assoc] using hI4,hq⟩;rw[List.append_assoc];refine List.Perm.trans (List.Perm.append_left done ?_) hpm;rw[<- hkey];exact (da8 left k hk).symm
 ·have hi':i=p.rows.length:=by omega
  subst hi';have c1:¬ (p.rows.length:Int)<p.rows.length:=by omega
  rw[<- hpl,List.take_length] at hI p1 p2 p3;simp only[go_sem,c1];refine .cs6 (.cons ?_ (.cons (ac7 _ _) .nil))
  have hall:∀ (l:List aa3) (y:Index) (n:Nat),(idxFrom y n l).all=y.all++l:=by
   intro l
   induction l with
   | nil=>intro y n; simp[idxFrom]
   | cons a l ih=>intro y n; simp only[idxFrom,ih,do4]; simp
  exact hI.frz (by unfold ae2; rw[hall]; rfl) p1 p2 p3
theorem ea2 {f:Nat}{args:List IV}{v:IV}{σ:Store}{K:IV->Store->Prop}(hf:okF Tryz.prog f=true)(h:PC Tryz.prog EE f args v)(hk:K v σ):ck8 Tryz.prog EE none f args σ K :=
 an2 hf (ew4 h) fun _ _ ⟨h1,h2⟩=>by subst h1; subst h2; exact ⟨Nat.le_refl _,hk⟩
theorem av7 (x:Index):Bnd 0 x.v:=.ab7 _ fun c hc=>by
 simp only[List.mem_cons,List.not_mem_nil,or_false] at hc;rcases hc with rfl|rfl|rfl|rfl
 ·exact ao6 _
 ·exact dh4 _
 ·exact dh4 _
 ·exact dh4 _
theorem ea3 (x:Index)(l:List Int)(hl:l.length<2^30)(k:Nat)(cap:List IV)(w:Int->Bool)(hcap:∀ c∈cap,Bnd 0 c)(hok:okF Tryz.prog k=true)
  (hW:∀ n∈l,∃ m:Nat,n=m/\∃ h:m<x.all.length,PC Tryz.prog EE k (.agg x.all[m].cs::.int .i64 n::cap) (.bool (w n))) :
  PC Tryz.prog EE 49 [x.v,.aa5 (l.map Md.af2),.func (.func k) [] cap] (.aa5 ((l.filter w).map Md.af2)):=by
 have hx:x.v=.ab7 [.aa5 (x.all.map aa3.cs),.ak1 (nmV x.as2),.ak1 (nmV x.names),.ak1 (nmV x.over)]:=rfl;have hbx:=av7 x;rw[hx] at hbx ⊢;generalize IV.ak1 (nmV x.as2)=v1 at *;generalize IV.ak1 (nmV x.names)=v2 at *;generalize IV.ak1 (nmV x.over)=v3 at *;refine af5 hE fok49 (nZ rfl) (fun a ha=>?_) ?_
 ·simp only[List.mem_cons,List.not_mem_nil,or_false] at ha;rcases ha with rfl|rfl|rfl
  ·exact hbx
  ·exact ag1 _
  ·exact .func _ _ _ (fun c hc=>by cases hc) hcap
 simp only[ic49,go_sem];refine ab5 noT (fun i fr s=>∃ gv,fr=[(0,.ab7 [.aa5 (x.all.map aa3.cs),v1,v2,v3]),(2,.func (.func k) [] cap),(7,gv),(10,.aa5 (l.map Md.af2)),(11,.int .i64 l.length),(12,.int .i64 i)]/\Grow s gv 1 (((l.take i).filter w).map Md.af2)) l.length ⟨.aa1,rfl,.inl ⟨rfl,rfl⟩⟩ ?_;rintro i fr s hle ⟨gv,rfl,hg⟩;by_cases hlt:i<l.length
 ·obtain ⟨n,hn,_,hdr,hget,htk⟩:=ad5 l i hlt;have c1:(i:Int)<l.length:=by omega
  have c2:(0:Int)<=i:=by omega
  have w1:=ad9 (i:=i) (by omega);obtain ⟨m,rfl,hm,hpc⟩:=hW n hn;have c3:(m:Int)<x.all.length:=by omega
  have c4:(0:Int)<=m:=by omega
  have hgm:(x.all.map aa3.cs).getD m []=x.all[m].cs:=by simp[List.getD_eq_getElem?_getD,hm]
  simp only[go_sem,c1,c2,c3,c4,hget,Md.af2,hgm,al9,al2,ah9,Int.toNat_natCast,List.length_map];refine ea2 hok hpc ?_
  cases hw:w (m:Int) with
  | false=>
   simp only[go_sem,w1]
   exact ⟨hlt,gv,rfl,by rw[htk,List.filter_append]; simpa [hw] using hg⟩
  | true=>
   have hg1:Grow ⟨s.next+1,s.obj⟩ gv 1 (((l.take i).filter w).map Md.af2):=Grow.mono (σ:=s) hg (Nat.le_succ _) fun _ _ _=>rfl
   have hlen:((l.take i).filter w).length<=i:=by
    refine Nat.le_trans (List.length_filter_le _ _) ?_;rw[List.length_take]; omega
   have hap:=am2 (nid:=s.next) (e:=[.int .i64 (m:Int)]) hg1 (bp8 _) ⟨rfl,rfl⟩ (by rw[List.length_map]; omega);simp only[go_sem,hap,w1];refine ⟨hlt,_,rfl,?_⟩;rw[htk,List.filter_append,List.map_append];have e:List.filter w [(m:Int)]=[(m:Int)]:=by simp[hw]
   rw[e];refine .inr ⟨s.next,by simp,?_,?_⟩
   ·show (if s.next=s.next then _ else _)=_;rw[if_pos rfl]; rfl
   ·show s.next<(ai4 gv _).next;rw[ad8]; exact Nat.lt_succ_self _
 ·have hi':i=l.length:=by omega
  subst hi';have c1:¬ (l.length:Int)<l.length:=by omega
  rw[List.take_length] at hg;simp only[go_sem,c1];refine hg.frz (fun y hy=>(bp8 _ y hy).1) (fun _ _=>Nat.not_lt_zero _) fun e he c hc=>?_
  obtain ⟨n,_,rfl⟩:=List.mem_map.1 he
  cases hc with
  | head=>exact .int _ _
  | tail _ h=>cases h
set_option maxRecDepth 100000
theorem dq5 (s:Str):PC Tryz.prog EE 190 [.str s] (.func (.func 207) [] [.ab7 [.str s]]):=by
 refine af5 hE fok190 (nZ rfl) (ae6 (.str _)) ?_;simp only[ic190,go_sem];have h1:∀ c∈[IV.str s],Bnd 0 c:=ae6 (.str _);have h2:∀ c∈[IV.ab7 [.str s]],Bnd 0 c:=ae6 (.ab7 _ h1);exact .keep _ (.func _ _ _ (fun c hc=>by cases hc) h2)
theorem ba2 (l:List Part):∀ e∈l.map Part.cs,e.length=2/\e.all IV.leaf=true:=fun e he=>by
 obtain ⟨x,_,rfl⟩:=List.mem_map.1 he; exact ⟨rfl,rfl⟩
theorem ez2:∀ (n:Nat) (l:Str),l.length<=n->(aq8 n l).length<=l.length:=by
 intro n
 induction n with
 | zero=>intro l h; simp[aq8]
 | succ n ih=>
  intro l h
  cases l with
  | nil=>simp[aq8]
  | cons b l=>
   simp only[List.length_cons] at h;simp only[aq8];split
   ·exact Nat.le_trans (ih l (by omega)) (by simp)
   ·split
    ·simp only[List.length_cons]; have:=ih l (by omega); omega
    ·simp only[List.length_cons]
     have hd:((b::l).dropWhile fun c=>ac4 c==ac4 b).length<=l.length:=by
      rw[List.dropWhile_cons,if_pos (by simp)]; exact ch7 l
     have:=ih _ (Nat.le_trans hd (by omega));omega
theorem bd7 (s:Str):(ab3 s).length<=s.length:=ez2 _ _ (Nat.le_refl _)
theorem da9 (s:Str)(hs:s.length<2^30)(σ:Store):C Tryz.prog EE 153 [.str s] σ fun v t=>(∀ i,i<σ.next->t.obj i=σ.obj i)/\σ.next<=t.next/\Grow t v 2 ((ab3 s).map Part.cs)/\∀ id n,v=.slice id 0 n 2->σ.next<=id:=by
 refine C_f fok153 (nZ rfl) ?_;simp only[ic153,go_sem];refine aa4 fok190 (dq5 s) ?_;simp only[go_sem];have hvl:=bd7 s;refine de1 (ge3 s (by omega)) (fun rest t=>∃ n v,n<=(ab3 s).length/\rest=((ab3 s).drop n).map evP/\(∀ i,i<σ.next->t.obj i=σ.obj i)/\t.obj σ.next=some (.cells [v])/\σ.next<t.next/\Grow t v 2 (((ab3 s).take n).map Part.cs)/\∀ id k,v=.slice id 0 k 2->σ.next+1<id) (fun _ _ _=>trivial) ?_ ?_ ?_ ?_ ?_
 ·rintro rest t t' ⟨n,v,h0,h1,h2,h3,h4,h5,h6⟩ hn ho;exact ⟨n,v,h0,h1,fun i hi=>by rw[ho i (by omega)]; exact h2 i hi,by rw[ho _ h4]; exact h3,by omega,h5.mono hn fun id _ hid=>ho id hid,h6⟩
 ·intro a ha;obtain ⟨p,_,rfl⟩:=List.mem_map.1 ha;rfl
 ·intro o;have e0:¬ σ.next=σ.next+1:=by omega
  refine ⟨0,.aa1,Nat.zero_le _,rfl,fun i hi=>?_,?_,by show σ.next<σ.next+1+1; omega,.inl ⟨rfl,by simp⟩,fun id k h=>by cases h⟩
  ·have e1:¬ i=σ.next:=by omega
   have e2:¬ i=σ.next+1:=by omega
   simp only[aa7,ab4,e1,e2,if_false]
  ·simp only[aa7,ab4,e0,if_false,if_true]
 ·rintro L pre a rest t hev ⟨n,v,h0,h1,h2,h3,h4,h5,h6⟩ hL hlt
  have hn:n<(ab3 s).length:=by
   rcases Nat.lt_or_ge n (ab3 s).length with h|h
   ·exact h
   ·rw[List.drop_of_length_le h] at h1; cases h1
  rw[List.drop_eq_getElem_cons hn,List.map_cons] at h1;obtain ⟨ha,hrest⟩:=List.cons.inj h1;subst ha;simp only[evP,Part.cs,ab4] at hL hlt ⊢;have e1:¬ σ.next+1=t.next:=by omega
  have e2:¬ σ.next=t.next:=by omega
  have e3:¬ σ.next=σ.next+1:=by omega
  have e4:¬ t.next=σ.next+1:=by omega
  have e5:¬ t.next=σ.next:=by omega
  simp only[go_sem,hL,e1,e2,e3,e4,h3];generalize hU:(((Store.put ⟨t.next+1,t.obj⟩ t.next (al1.cells [IV.int .u8 0,IV.str []])).put t.next (al1.cells [IV.int .u8 ↑(ab3 s)[n].kind,IV.str (ab3 s)[n].s])).put (σ.next+1) (L .busy none))=U
  have hUo:∀ i,i<t.next->i≠σ.next+1->U.obj i=t.obj i:=fun i hi hne=>by
   have:¬ i=t.next:=by omega
   rw[<- hU]; simp only[aa7,hne,this,if_false]
  have hUL:U.obj (σ.next+1)=some (L .busy none):=by rw[<- hU]; simp only[aa7,if_true]
  have hg:Grow ⟨t.next+1+1,U.obj⟩ v 2 (((ab3 s).take n).map Part.cs):=by
   refine h5.mono (by show t.next<=t.next+1+1; omega) fun id hv hid=>?_
   have:=h6 _ _ hv;exact hUo id hid (by omega)
  have hl0:(((ab3 s).take n).map Part.cs).length=n:=by rw[List.length_map,List.length_take]; omega
  have hap:=am2 (nid:=t.next+1) (e:=[IV.int .u8 ↑(ab3 s)[n].kind,IV.str (ab3 s)[n].s]) hg (ba2 _) ⟨rfl,rfl⟩ (by rw[hl0]; omega);have k1:=ai6 hg σ.next (.cells [v]) (by show U.obj _=_; rw[hUo _ h4 e3]; exact h3) (fun _ h=>by cases h)
  have k2:(ai4 v ⟨t.next+1+1,U.obj⟩).obj (σ.next+1)=some (L .busy none):=by
   cases hv:v<;>try exact hUL
   rename_i id o n' e;show (if σ.next+1=id then none else U.obj _)=_;rcases h5 with ⟨h,_⟩|⟨id',h,_,_⟩
   ·rw[h] at hv; cases hv
   ·rw[hv] at h; cases h;have:=h6 _ _ hv;rw[if_neg (by omega)]; exact hUL
  have k3:∀ i,i<σ.next->(ai4 v ⟨t.next+1+1,U.obj⟩).obj i=σ.obj i:=fun i hi=>by
   have e7:U.obj i=σ.obj i:=by rw[hUo i (by omega) (by omega)]; exact h2 i hi
   cases hv:v<;>try exact e7
   rename_i id o n' e;show (if i=id then none else U.obj _)=_;rcases h5 with ⟨h,_⟩|⟨id',h,_,_⟩
   ·rw[h] at hv; cases hv
   ·rw[hv] at h; cases h;have:=h6 _ _ hv;rw[if_neg (by omega)]; exact e7
  have kn:=ad8 (σ:=⟨t.next+1+1,U.obj⟩) v;rw[hl0] at hap;have e6:¬ σ.next=t.next+1:=by omega
  have e7:¬ σ.next+1=t.next+1:=by omega
  have e8:¬ σ.next+1=σ.next:=by omega
  simp only[go_sem,hap,e6,k1,e7,e8,k2];refine dv5 (by rw[ab4,ab4,ab4,kn]; show t.next<=t.next+1+1; omega) (by simp only[aa7,if_true]) ?_;refine ⟨n+1,.slice (t.next+1) 0 (n+1) 2,hn,hrest,fun i hi=>?_,?_,?_,?_,fun id k h=>?_⟩
  ·have g1:¬ i=σ.next+1:=by omega
   have g2:¬ i=σ.next:=by omega
   have g3:¬ i=t.next+1:=by omega
   simp only[aa7,g1,g2,g3,if_false]; exact k3 i hi
  ·simp only[aa7,e3,if_false,if_true]
  ·simp only[ab4,kn]; omega
  ·have htk:(ab3 s).take (n+1)=(ab3 s).take n++[(ab3 s)[n]]:=by rw[List.take_succ_eq_append_getElem hn]
   rw[htk,List.map_append];refine .inr ⟨t.next+1,by simp; omega,?_,by simp only[ab4,kn]; omega⟩;have g1:¬ t.next+1=σ.next+1:=by omega
   have g2:¬ t.next+1=σ.next:=by omega
   simp only[aa7,g1,g2,if_false,if_true]; rfl
  ·cases h; omega
 ·rintro t o ⟨n,v,h0,h1,h2,h3,h4,h5,h6⟩ hlt ho
  have hn:n=(ab3 s).length:=by
   rcases Nat.lt_or_ge n (ab3 s).length with h|h
   ·rw[List.drop_eq_getElem_cons h] at h1; cases h1
   ·omega
  subst hn;have e3:¬ σ.next=σ.next+1:=by omega
  simp only[ab4] at hlt ho ⊢;simp only[go_sem,e3,h3];rw[List.take_length] at h5;refine ⟨fun i hi=>?_,by omega,h5.mono (Nat.le_refl _) fun id hv hid=>?_,fun id k h=>?_⟩
  ·have g1:¬ i=σ.next+1:=by omega
   rw[if_neg g1]; exact h2 i hi
  ·have:=h6 _ _ hv;have g1:¬ id=σ.next+1:=by omega
   show (if id=σ.next+1 then none else t.obj id)=_;rw[if_neg g1]
  ·have:=h6 _ _ h; omega
theorem gm2 {p:UInt8->Bool}(l:Str):(l.takeWhile p).length<=l.length:=(List.takeWhile_sublist _).length_le
theorem ge8:∀ (n:Nat) (l:Str),l.length<=n->∀ p∈aq8 n l,p.s.length<=l.length:=by
 intro n
 induction n with
 | zero=>intro l h p hp; simp[aq8] at hp
 | succ n ih=>
  intro l h p hp
  cases l with
  | nil=>simp[aq8] at hp
  | cons b l=>
   simp only[List.length_cons] at h;simp only[aq8] at hp;split at hp
   ·exact Nat.le_trans (ih l (by omega) p hp) (by simp)
   ·split at hp
    ·rcases List.mem_cons.1 hp with rfl|hp
     ·simp
     ·exact Nat.le_trans (ih l (by omega) p hp) (by simp)
    ·have hd:((b::l).dropWhile fun c=>ac4 c==ac4 b).length<=l.length:=by
      rw[List.dropWhile_cons,if_pos (by simp)]; exact ch7 l
     rcases List.mem_cons.1 hp with rfl|hp
     ·simp only;split
      ·exact Nat.le_trans (ch7 _) (gm2 _)
      ·exact gm2 _
     ·exact Nat.le_trans (ih _ (Nat.le_trans hd (by omega)) p hp) (Nat.le_trans hd (by simp))
theorem ge9 (s:Str):∀ p∈ab3 s,p.s.length<=s.length:=ge8 _ _ (Nat.le_refl _)
def eg4:Part:=⟨2,[]⟩
abbrev vL (s:Str):List Part:=ab3 s++[eg4]
theorem hz5 (s:Str):∀ p∈vL s,p.s.length<=s.length:=fun p hp=>by
 rcases List.mem_append.1 hp with h|h
 ·exact ge9 s p h
 ·simp[eg4] at h; subst h; exact Nat.zero_le _
theorem bu4 {xs ys:List Part}{i:Nat}(h1:i<xs.length)(h2:i<ys.length):ak6 (xs.drop i) (ys.drop i)=if ag4 xs[i] ys[i]≠0 then ag4 xs[i] ys[i] else ak6 (xs.drop (i+1)) (ys.drop (i+1)):=by
 rw[List.drop_eq_getElem_cons h1,List.drop_eq_getElem_cons h2,ak6]
theorem cf1 {xs ys:List Part}{i:Nat}(h:xs.length<=i\/ys.length<=i):ak6 (xs.drop i) (ys.drop i)=0:=by
 rcases h with h|h
 ·rw[List.drop_of_length_le h,ak6]; intros; contradiction
 ·rw[List.drop_of_length_le h]; cases xs.drop i<;>rw[ak6]<;>intros<;>contradiction
theorem fp5 (l:List Part)(i:Nat)(h:i<l.length):(l.map Part.cs).getD i []=Part.cs l[i]:=by simp[List.getD_eq_getElem?_getD,h]
theorem fp6 {σ:Store}{id i:Nat}{l:List Part}(ho:σ.obj id=some (.row (l.map Part.cs).flatten))(h:i<l.length):de8 (some 2) (i*2) (σ.obj id)=some (.agg (Part.cs l[i])):=by
 have hall:∀ e∈l.map Part.cs,e.length=2:=fun e he=>(ba2 l e he).1
 have hlen:=au2 hall;rw[List.length_map] at hlen;have hp:=ax3 hall i (by rw[List.length_map]; exact h);rw[ho];simp only[de8];have h1:i*2+2<=l.length*2:=by omega
 rw[if_pos (by rw[List.length_drop,hlen]; omega),hp,fp5 l i h]
theorem bu5 (a b:Str)(ha:a.length<2^30)(hb:b.length<2^30):PC Tryz.prog EE 112 [.str a,.str b] (.int .i64 (au8 a b)):=by
 refine af5 hE fok112 (nZ rfl) (ag9 (.str _) (.str _)) ?_;have la:=bd7 a;have lb:=bd7 b;simp only[ic112,go_sem];refine aj9 fok153 (da9 a ha _) ?_;rintro v1 s1 ⟨-,n1,g1,-⟩;refine ⟨n1,?_⟩;have n1:2<=s1.next:=n1;have ap1:=am2 (nid:=0) (e:=[IV.int .u8 2,IV.str []]) g1 (ba2 _) ⟨rfl,rfl⟩ (by rw[List.length_map]; omega);simp only[go_sem,ap1];have hl1:∀ e∈(vL a).map Part.cs,e.length=2:=fun e he=>(ba2 _ e he).1
 have r1:((ab3 a).map Part.cs++[[IV.int .u8 2,IV.str []]]).flatten=((vL a).map Part.cs).flatten:=by rw[List.map_append]; rfl
 have r2:((ab3 b).map Part.cs++[[IV.int .u8 2,IV.str []]]).flatten=((vL b).map Part.cs).flatten:=by rw[List.map_append]; rfl
 rw[r1];refine aj9 fok153 (da9 b hb _) ?_;rintro v2 s2 ⟨o2,n2,g2,h2⟩;refine ⟨n2,?_⟩;have n2:2<=s2.next:=by rw[ab4,ad8] at n2; omega
 have ap2:=am2 (nid:=1) (e:=[IV.int .u8 2,IV.str []]) g2 (ba2 _) ⟨rfl,rfl⟩ (by rw[List.length_map]; omega)
 have q0:s2.obj 0=some (.row ((vL a).map Part.cs).flatten):=by
  rw[o2 0 (by rw[ab4,ad8]; omega)];simp only[aa7,if_true]
 have q1:(ai4 v2 s2).obj 0=some (.row ((vL a).map Part.cs).flatten):=by
  rcases g2 with ⟨rfl,_⟩|⟨id,rfl,_,_⟩
  ·exact q0
  ·have:=h2 _ _ rfl;rw[ab4,ad8] at this;show (if 0=id then none else s2.obj 0)=_;rw[if_neg (by omega)]; exact q0
 rw[r2] at ap2;simp only[go_sem,ap2];generalize hS:(ai4 v2 s2).put 1 (.row ((vL b).map Part.cs).flatten)=S;have k0:S.obj 0=some (.row ((vL a).map Part.cs).flatten):=by rw[<- hS]; exact q1
 have k1:S.obj 1=some (.row ((vL b).map Part.cs).flatten):=by rw[<- hS]; simp only[aa7,if_true]
 clear hS ap1 ap2
 have hmin:(if ((ab3 b).length+1:Nat)<(((ab3 a).length+1:Nat):Int) then (((ab3 b).length+1:Nat):Int) else (((ab3 a).length+1:Nat):Int))=((min (vL a).length (vL b).length:Nat):Int):=by
  simp only[List.length_append,List.length_cons,List.length_nil];split<;>omega
 rw[hmin];have hA:(ab3 a).length+1=(vL a).length:=by simp
 have hB:(ab3 b).length+1=(vL b).length:=by simp
 rw[hA,hB];have hNa:min (vL a).length (vL b).length<=(vL a).length:=Nat.min_le_left _ _;have hNb:min (vL a).length (vL b).length<=(vL b).length:=Nat.min_le_right _ _;have hN:(vL a).length<=min (vL a).length (vL b).length\/(vL b).length<=min (vL a).length (vL b).length:=by omega
 have hsm:min (vL a).length (vL b).length<2^40:=by rw[<- hA] at hNa; omega
 generalize min (vL a).length (vL b).length=N at *;refine ab5 noT (fun i fr s=>fr=[(5,.slice 0 0 (vL a).length 2),(6,.slice 1 0 (vL b).length 2),(23,.int .i64 N),(24,.int .i64 i)]/\s.obj=S.obj/\au8 a b=ak6 ((vL a).drop i) ((vL b).drop i)) N ⟨rfl,rfl,rfl⟩ ?_;rintro i fr s hle ⟨rfl,hs,hI⟩;by_cases hlt:i<N
 ·have c1:(i:Int)<N:=by omega
  have c2:(0:Int)<=i:=by omega
  have ia:i<(vL a).length:=by omega
  have ib:i<(vL b).length:=by omega
  have c3:(i:Int)<(vL a).length:=by omega
  have c4:(i:Int)<(vL b).length:=by omega
  have w1:=ad9 (i:=i) (by omega);have l0:=fp6 k0 ia;have l1:=fp6 k1 ib;rw[bu4 ia ib] at hI;have hp:=ey9 (vL a)[i] (vL b)[i] (by have:=hz5 a _ (List.getElem_mem ia); omega) (by have:=hz5 b _ (List.getElem_mem ib); omega);generalize (vL a)[i]=x at *;generalize (vL b)[i]=y at *;simp only[go_sem,c1,c2,c3,c4,hs,l0,l1];refine aa4 fok154 hp ?_;by_cases hz:ag4 x y=0
  ·simp only[go_sem,hz,w1];rw[hz,if_neg (by simp)] at hI;exact ⟨hlt,hI⟩
  ·rw[if_pos hz] at hI;simp only[go_sem,hz];rw[hI]; exact ac7 _ _
 ·have hi':i=N:=by omega
  subst hi';have c1:¬ (i:Int)<i:=by omega
  rw[cf1 hN] at hI;simp only[go_sem,c1];rw[hI]; exact ac7 _ _
end Go.Id.Tryz
