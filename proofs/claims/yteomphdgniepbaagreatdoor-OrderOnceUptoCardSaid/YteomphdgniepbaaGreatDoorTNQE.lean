/- Versions' parts,told. Conditions: sizes that fit. -/
import Derived.Test.YteomphdgniepbaaGreatDoorTNQB
import Derived.Test.YteomphdgniepbaaGreatDoorMv
import Derived.Test.YteomphdgniepbaaGreatDoorFwQ
import Derived.Test.YteomphdgniepbaaGreatDoorMg
set_option linter.all false
namespace Go.Id.Tryz
open Go Go.Id Go.Proofs Go.Id.Md
set_option maxRecDepth 100000
def evP (p:Part):List IV:=[.agg (Part.cs p)]
theorem gi7 (s:Str)(hs:s.length<2^62):cl5 Tryz.prog EE (.func (.func 314) [] [.ac7 [.str s]]) ((ae4 s).map evP) (fun _=>True):=by
 intro yid I S σ hown hstab hy hi;refine ⟨fok314.1,?_⟩;refine C_f fok314 (nZ rfl) ?_;simp only[ic314,go_sem];refine ab6 noT (fun j fr t=>∃ (at_:Nat) (tl:Frm),fr=(0,.yield yid)::(1,.ac7 [.str s])::(3,.int .i64 at_)::tl∧σ.next≤t.next∧j≤at_∧at_≤s.length∧I ((ae4 (s.drop at_)).map evP) t) s.length ⟨0,[],rfl,Nat.le_refl _,Nat.le_refl _,Nat.zero_le _,hi⟩ ?_;rintro j fr t hle ⟨a,tl,rfl,hn,hja,has,hI⟩;by_cases hlt:a<s.length
 ·obtain ⟨b,hb,hget,hdr,_,htk⟩:=ag5 s a hlt;have c1:(a:Int)<s.length:=by omega
  have c2:(0:Int)≤a:=by omega
  have w1:=ad6 (i:=a) (by omega);have hk:(4:Int)≤(ad8 b:Int)↔¬ ad8 b<4:=by omega
  simp only[go_sem,c1,bv5,c2,Int.toNat_natCast,hget,Option.map];refine aa7 (ea5 b) ?_;simp only[go_sem,w1];generalize hU:Store.put (Store.put _ t.next _) t.next _=U;have hUn:U.next=t.next+1:=by rw[← hU]; rfl
  have hUb:U.obj t.next=some (.cells [.int .u8 (ad8 b),.str []]):=by rw[← hU]; simp only[aa2,if_true]
  have hUI:∀ i,i<t.next→U.obj i=t.obj i:=fun i hi=>by
   have e:¬ i=t.next:=by omega
   rw[← hU]; simp only[aa2,e,if_false]
  clear hU;have hUe:(⟨t.next+1,U.obj⟩:Store)=U:=by rw[← hUn]
  rw[hUe];have hdl:(s.drop (a+1)).length=s.length-(a+1):=List.length_drop;have hrl:=hy5 b (s.drop (a+1));generalize hR:(if ad8 b<4 then 0 else fm1 b (s.drop (a+1)))=R
  have hRl:a+1+R≤s.length:=by
   rw[← hR]; split<;>omega
  refine ab6 noT (fun m fr u=>fr=[(0,.yield yid),(1,.ac7 [.str s]),(3,.int .i64 ((a+1+m:Nat):Int)),(4,.ptr t.next 0),(5,.int .i64 a)]∧t.next+1≤u.next∧u.obj t.next=some (.cells [.int .u8 (ad8 b),.str []])∧∀ i,i<t.next→u.obj i=t.obj i) R ⟨rfl,by omega,hUb,hUI⟩ ?_;clear hUe hUn hUb hUI;rintro m fr u hmR ⟨rfl,hUn,hUb,hUI⟩;have w2:=ad6 (i:=a+1+m) (by omega);have d2:(0:Int)≤((a+1+m:Nat):Int):=by omega
  by_cases hm:m<R
  ·have h4:¬ ad8 b<4:=fun h=>by rw[if_pos h] at hR; omega
   rw[if_neg h4] at hR;obtain ⟨c,hc1,hc2⟩:=hx8 (b:=b) (l:=s.drop (a+1)) (m:=m) (by omega);have hc:s[a+1+m]? = some c:=by rw[← hc1,List.getElem?_drop]
   have k1:(4:Int)≤ad8 b:=by omega
   have k2:((a+1+m:Nat):Int)<s.length:=by omega
   have k3:=ea5 c;rw[hc2] at k3;simp only[go_sem,hUb,k1,k2,bv5,d2,Int.toNat_natCast,hc,Option.map];refine aa7 k3 ?_;simp only[go_sem,hUb,w2];exact ⟨hm,rfl,by omega,hUI⟩
  ·have hmR:m=R:=by omega
   subst hmR;by_cases h4:ad8 b<4
   ·have k1:¬ (4:Int)≤ad8 b:=by omega
    rw[if_pos h4] at hR;subst hR;have k5:¬ ((ad8 b:Nat):Int)=5:=by omega
    have hUI2:I ((ae4 (s.drop a)).map evP) ⟨u.next+18,u.obj⟩:=hstab _ _ _ hI (by show t.next≤u.next+18; omega) hUI;rw[hdr] at hUI2;by_cases h0:ad8 b=0
    ·have k0:((ad8 b:Nat):Int)=0:=by omega
     rw[ge7 h0] at hUI2;have k6:¬ (0:Int)=5:=by omega
     simp only[go_sem,hUb,k1,k5,k0,k6];exact ⟨by omega,a+1,_,rfl,by omega,by omega,by omega,hUI2⟩
    ·have k0:¬ ((ad8 b:Nat):Int)=0:=by omega
     rw[ge8 h0 h4,List.map_cons] at hUI2;simp only[go_sem,hUb,k1,k5,k0];refine bv7 hy hUI2 (fun s1 n1 i1=>?_) (fun s1 n1 h1=>?_)
     ·have n1':u.next+18≤s1.next:=n1;simp only[go_sem];exact ⟨by omega,a+1,_,rfl,by omega,by omega,by omega,i1⟩
     ·have n1':u.next+18≤s1.next:=n1;simp only[go_sem];exact ⟨by omega,.inr h1⟩
   ·have k1:(4:Int)≤ad8 b:=by omega
    rw[if_neg h4] at hR
    have key:∀ s1:Store,t.next≤s1.next→(∀ i,i<t.next→s1.obj i=t.obj i)→I (evP ⟨ad8 b,if ad8 b=5 then ((s.drop a).take (m+1)).dropWhile (· == 48) else (s.drop a).take (m+1)⟩::(ae4 (s.drop (a+1+m))).map evP) s1:=fun s1 h1 h2=>by
     have:=hstab _ _ _ hI h1 h2;rw[hdr,ge9 h4,List.map_cons,hR,← hdr,List.drop_drop] at this;exact this
    have hss:cq4 (some (.int .i64 a)) (some (.int .i64 ((a+1+m:Nat):Int))) (.str s)=some (.str ((s.drop a).take (m+1))):=by
     have e1:(0:Int)≤a:=by omega
     have e2:a≤a+1+m∧a+1+m≤s.length:=by omega
     simp only[cq4,cg5,cq3,e1,d2,if_true,Int.toNat_natCast,e2,and_self];rw[List.drop_take];congr 3; omega
    have k0:¬ ((ad8 b:Nat):Int)=0:=by omega
    have ht:=gi6 ((s.drop a).take (m+1)) (by rw[List.length_take,List.length_drop]; omega);by_cases hend:a+1+m<s.length
    ·have k2:((a+1+m:Nat):Int)<s.length:=by omega
     have hc:s[a+1+m]? = some s[a+1+m]:=List.getElem?_eq_getElem hend;have hne:ad8 s[a+1+m]≠ad8 b:=hx9 (l:=s.drop (a+1)) (by rw[hR,List.getElem?_drop]; exact hc);have k7:¬ ((ad8 s[a+1+m]:Nat):Int)=ad8 b:=by omega
     simp only[go_sem,hUb,k1,k2,bv5,d2,Int.toNat_natCast,hc,Option.map];refine aa7 (ea5 _) ?_;simp only[go_sem,hUb,k1,k7,hss];by_cases h5:ad8 b=5
     ·have k5:((ad8 b:Nat):Int)=5:=by omega
      have key5:∀ s1:Store,t.next≤s1.next→(∀ i,i<t.next→s1.obj i=t.obj i)→I ([IV.agg [.int .u8 5,.str (((s.drop a).take (m+1)).dropWhile (· == 48))]]::(ae4 (s.drop (a+1+m))).map evP) s1:=fun s1 h1 h2=>by
       have:=key s1 h1 h2;rw[if_pos h5] at this;simp only[evP,Part.cs,k5] at this;exact this
      have k6:¬ (5:Int)=0:=by omega
      simp only[go_sem,hUb,k5];refine aa5 fok316 ht ?_;simp only[go_sem,hUb,k5,k6];refine bv7 hy (key5 _ (by simp only[aa8]; omega) fun i hi=>?_) (fun s1 n1 i1=>?_) (fun s1 n1 h1=>?_)
      ·have:¬ i=t.next:=by omega
       simp only[aa2,this,if_false]; exact hUI i hi
      ·have n1':u.next+18≤s1.next:=n1;simp only[go_sem];exact ⟨by omega,a+1+m,_,rfl,by omega,by omega,by omega,i1⟩
      ·have n1':u.next+18≤s1.next:=n1;simp only[go_sem];exact ⟨by omega,.inr h1⟩
     ·have k5:¬ ((ad8 b:Nat):Int)=5:=by omega
      have key5:∀ s1:Store,t.next≤s1.next→(∀ i,i<t.next→s1.obj i=t.obj i)→I ([IV.agg [.int .u8 (ad8 b),.str ((s.drop a).take (m+1))]]::(ae4 (s.drop (a+1+m))).map evP) s1:=fun s1 h1 h2=>by
       have:=key s1 h1 h2;rw[if_neg h5] at this;exact this
      simp only[go_sem,hUb,k5,k0];refine bv7 hy (key5 _ (by simp only[aa8]; omega) fun i hi=>?_) (fun s1 n1 i1=>?_) (fun s1 n1 h1=>?_)
      ·have:¬ i=t.next:=by omega
       simp only[aa2,this,if_false]; exact hUI i hi
      ·have n1':u.next+18≤s1.next:=n1;simp only[go_sem];exact ⟨by omega,a+1+m,_,rfl,by omega,by omega,by omega,i1⟩
      ·have n1':u.next+18≤s1.next:=n1;simp only[go_sem];exact ⟨by omega,.inr h1⟩
    ·have k2:¬ ((a+1+m:Nat):Int)<s.length:=by omega
     simp only[go_sem,hUb,k1,k2,hss];by_cases h5:ad8 b=5
     ·have k5:((ad8 b:Nat):Int)=5:=by omega
      have key5:∀ s1:Store,t.next≤s1.next→(∀ i,i<t.next→s1.obj i=t.obj i)→I ([IV.agg [.int .u8 5,.str (((s.drop a).take (m+1)).dropWhile (· == 48))]]::(ae4 (s.drop (a+1+m))).map evP) s1:=fun s1 h1 h2=>by
       have:=key s1 h1 h2;rw[if_pos h5] at this;simp only[evP,Part.cs,k5] at this;exact this
      have k6:¬ (5:Int)=0:=by omega
      simp only[go_sem,hUb,k5];refine aa5 fok316 ht ?_;simp only[go_sem,hUb,k5,k6];refine bv7 hy (key5 _ (by simp only[aa8]; omega) fun i hi=>?_) (fun s1 n1 i1=>?_) (fun s1 n1 h1=>?_)
      ·have:¬ i=t.next:=by omega
       simp only[aa2,this,if_false]; exact hUI i hi
      ·have n1':u.next+18≤s1.next:=n1;simp only[go_sem];exact ⟨by omega,a+1+m,_,rfl,by omega,by omega,by omega,i1⟩
      ·have n1':u.next+18≤s1.next:=n1;simp only[go_sem];exact ⟨by omega,.inr h1⟩
     ·have k5:¬ ((ad8 b:Nat):Int)=5:=by omega
      have key5:∀ s1:Store,t.next≤s1.next→(∀ i,i<t.next→s1.obj i=t.obj i)→I ([IV.agg [.int .u8 (ad8 b),.str ((s.drop a).take (m+1))]]::(ae4 (s.drop (a+1+m))).map evP) s1:=fun s1 h1 h2=>by
       have:=key s1 h1 h2;rw[if_neg h5] at this;exact this
      simp only[go_sem,hUb,k5,k0];refine bv7 hy (key5 _ (by simp only[aa8]; omega) fun i hi=>?_) (fun s1 n1 i1=>?_) (fun s1 n1 h1=>?_)
      ·have:¬ i=t.next:=by omega
       simp only[aa2,this,if_false]; exact hUI i hi
      ·have n1':u.next+18≤s1.next:=n1;simp only[go_sem];exact ⟨by omega,a+1+m,_,rfl,by omega,by omega,by omega,i1⟩
      ·have n1':u.next+18≤s1.next:=n1;simp only[go_sem];exact ⟨by omega,.inr h1⟩
 ·have ha:a=s.length:=by omega
  subst ha;have c1:¬ (s.length:Int)<s.length:=by omega
  rw[List.drop_length] at hI;simp only[go_sem,c1];exact ⟨hn,.inl hI⟩
end Go.Id.Tryz
set_option linter.all false
namespace Go.Id.Tryz
open Go Go.Id Go.Proofs Go.Id.Md
def idxOf (n:Int):List Int→Nat→Int
 | [],_=>-1
 | a::l,i=>if n=a then Int.ofNat i else idxOf n l (i+1)
theorem dc3 (n:Int):∀ (l:List Int) (i:Nat),(0≤idxOf n l i↔n∈l):=by
 intro l
 induction l with
 | nil=>intro i; simp[idxOf]
 | cons a l ih=>
  intro i;simp only[idxOf];split
  ·rename_i e; subst e; simp
  ·rename_i e; rw[ih]; simp[e]
theorem ea6 (l:List Int)(n:Int)(hl:l.length<2^40):PC Tryz.prog EE 260 [.aa3 (l.map Md.ag2),.int .i64 n] (.int .i64 (idxOf n l 0)):=by
 refine ar9 fok260 (nZ rfl) fun σ=>?_
 simp only[ic260,go_sem];refine ab6 noT (fun i fr s=>fr=[(0,.aa3 (l.map Md.ag2)),(1,.int .i64 n),(7,.int .i64 l.length),(8,.int .i64 i)]∧s=σ∧idxOf n l 0=idxOf n (l.drop i) i) l.length ⟨rfl,rfl,rfl⟩ ?_;rintro i fr s hle ⟨rfl,rfl,hI⟩;by_cases hlt:i<l.length
 ·obtain ⟨x,hx,_,hdr,hget,htk⟩:=ag5 l i hlt;have c1:(i:Int)<l.length:=by omega
  have c2:(0:Int)≤i:=by omega
  have w1:=ad6 (i:=i) (by omega);rw[hdr,idxOf] at hI;by_cases e:n=x
  ·rw[if_pos e] at hI;subst e;have hI:idxOf n l 0=(i:Int):=hI;simp only[go_sem,c1,c2,hget,Md.ag2,hI,and_self]
  ·rw[if_neg e] at hI;simp only[go_sem,c1,c2,hget,Md.ag2,e,w1];exact ⟨hlt,hI⟩
 ·have hi':i=l.length:=by omega
  subst hi';have c1:¬ (l.length:Int)<l.length:=by omega
  rw[List.drop_length,idxOf] at hI;simp only[go_sem,c1,hI,and_self]
theorem fq7 (l:List Int)(n:Int)(hl:l.length<2^40):PC Tryz.prog EE 188 [.aa3 (l.map Md.ag2),.int .i64 n] (.bool (decide (n∈l))):=by
 refine ar9 fok188 (nZ rfl) fun σ=>?_
 simp only[ic188,go_sem];refine aa5 fok260 (ea6 l n hl) ?_
 have e:decide (0≤idxOf n l 0)=decide (n∈l):=by
  by_cases h:n∈l
  ·simp[h,(dc3 n l 0).2 h]
  ·rw[decide_eq_false h,decide_eq_false (fun x=>h ((dc3 n l 0).1 x))]
 simp only[go_sem,e,and_self]
/-! ### A set of names -/
def sE (k:Str):IV×IV:=(.str k,.agg [])
theorem gi8 (l:List Str)(k:Str):cj9 2 (.str k) (.agg []) (l.map sE)=some ((ax3 l k).map sE):=by
 have go:∀ l:List Str,cj9 2 (.str k) (.agg []) (l.map sE)=some ((if k∈l then l else l++[k]).map sE):=by
  intro l
  induction l with
  | nil=>rfl
  | cons a l ih=>
   simp only[List.map_cons,sE,cj9,fi4] at ih ⊢;by_cases h:k=a
   ·subst h; simp[sE]
   ·simp only[h,decide_false,List.mem_cons,false_or] at ih ⊢;rw[ih];split<;>simp[sE]
 exact go l
theorem di4 {σ:Store}{mid:Nat}{l:List Str}(h:σ.obj mid=some (.map (l.map sE)))(k:Str):aj7 σ 2 (.map mid) (.str k) (.agg [])=some (σ.put mid (.map ((ax3 l k).map sE))):=by
 simp only[aj7,h,gi8,Option.map]
theorem fq8 {l:List Str}(h:l.Nodup)(k:Str):(ax3 l k).Nodup:=by
 unfold ax3;split
 ·exact h
 ·rename_i hk;refine List.nodup_append.2 ⟨h,by simp,fun a ha b hb e=>?_⟩;cases List.mem_singleton.1 hb;exact hk (e▸ha)
theorem cd1:∀ (ks:List Str) {l:List Str},l.Nodup→(ks.foldl ax3 l).Nodup
 | [],_,h=>h
 | k::ks,_,h=>cd1 ks (fq8 h k)
theorem hb9 (p:aa4):(dy7 p).Nodup:=cd1 _ (cd1 _ (by simp))
theorem ey1 (p:aa4)(hp:p.Fit):PC Tryz.prog EE 210 [.agg p.cs] (.ak5 ((dy7 p).map sE)):=by
 have f1:=hp.bp3.1;have f2:=hp.files.1;refine aq8 hE fok210 (nZ rfl) (fun a ha=>by cases List.mem_singleton.1 ha; exact .agg _ (ay5 p)) ?_;simp only[ic210,go_sem,af7,aa4.cs,bc3];rw[di4 (l:=[]) (by simp only[aa2,if_true]; rfl)];simp only[go_sem];refine ab6 noT (fun i fr s=>fr=[(1,.ac7 p.cs),(3,.map 0),(14,deps p.provides),(15,.int .i64 p.provides.length),(16,.int .i64 i)]∧1≤s.next∧s.obj 0=some (.map ((((p.provides.take i).map (·.name)).foldl ax3 [p.name]).map sE))) p.provides.length ⟨rfl,by simp,by simp only[aa2,if_true]; rfl⟩ ?_;rintro i fr s hle ⟨rfl,hn,ho⟩;by_cases hlt:i<p.provides.length
 ·obtain ⟨x,hx,_,hdr,hget,htk⟩:=ag5 p.provides i hlt;have c1:(i:Int)<p.provides.length:=by omega
  have c2:(0:Int)≤i:=by omega
  have c3:¬ 0=s.next:=by omega
  have w1:=ad6 (i:=i) (by omega);simp only[go_sem,c1,c2,hget,Dep.cs];rw[di4 (l:=((p.provides.take i).map (·.name)).foldl ax3 [p.name]) (by simp only[aa2,c3,if_false]; exact ho)];simp only[go_sem,w1];refine ⟨hlt,?_⟩;rw[htk,List.map_append,List.foldl_append]
  first|rfl|(simp only[aa2,if_true]; rfl)
 have hi':i=p.provides.length:=by omega
 subst hi';have c1:¬ (p.provides.length:Int)<p.provides.length:=by omega
 rw[List.take_length] at ho;simp only[go_sem,c1,aa4.cs];refine ab6 noT (fun i fr s=>fr=[(3,.map 0),(26,strs p.files),(27,.int .i64 p.files.length),(28,.int .i64 i)]∧s.obj 0=some (.map (((p.files.take i).foldl ax3 ((p.provides.map (·.name)).foldl ax3 [p.name])).map sE))) p.files.length ⟨rfl,ho⟩ ?_;rintro i fr s hle ⟨rfl,ho⟩;by_cases hlt:i<p.files.length
 ·obtain ⟨x,hx,_,hdr,hget,htk⟩:=ag5 p.files i hlt;have c1:(i:Int)<p.files.length:=by omega
  have c2:(0:Int)≤i:=by omega
  have w1:=ad6 (i:=i) (by omega);simp only[go_sem,c1,c2,hget,bm5];rw[di4 ho];simp only[go_sem,w1];refine ⟨hlt,?_⟩;rw[htk,List.foldl_append]
  first|rfl|(simp only[aa2,if_true]; rfl)
 have hi':i=p.files.length:=by omega
 subst hi';have c1:¬ (p.files.length:Int)<p.files.length:=by omega
 rw[List.take_length] at ho;simp only[go_sem,c1];refine .map 0 _ _ _ (Nat.not_lt_zero _) ho rfl (List.Perm.refl _) ⟨?_,.str,fun e he=>?_⟩ (fun i hi=>?_) (fun i hi=>?_)
 ·have:((dy7 p).map sE).map (·.1)=(dy7 p).map IV.str:=by simp[sE]
  rw[this];exact List.Pairwise.map _ (fun a b hab e=>hab (by cases e; rfl)) (hb9 p)
 ·obtain ⟨k,_,rfl⟩:=List.mem_map.1 he;trivial
 ·exact .keep _ (by
   obtain ⟨k,_,e⟩:=List.mem_map.1 (ac6 (.undef,.undef) hi);rw[← e]; exact .str _)
 ·exact .keep _ (by
   obtain ⟨k,_,e⟩:=List.mem_map.1 (ac6 (.undef,.undef) hi);rw[← e]; exact .agg _ fun c hc=>by cases hc)
theorem hc5 (nm:Nms):Bnd 0 (.ak5 (nmV nm)):=by
 refine .ak5 _ (fun e he=>?_) (fun e he=>?_)<;>(simp only[nmV,List.mem_map] at he; obtain ⟨t,_,rfl⟩:=he)
 ·exact .str _
 ·refine .aa3 _ fun x hx c hc=>?_
  obtain ⟨n,_,rfl⟩:=List.mem_map.1 hx
  cases hc with
  | head=>exact .int _ _
  | tail _ h=>cases h
theorem gi9 (l:List bb4):Bnd 0 (.aa3 (l.map bb4.cs)):=.aa3 _ fun e he c hc=>by
 obtain ⟨r,_,rfl⟩:=List.mem_map.1 he; exact eg3 r c hc
theorem ax5 (p:Pool):Bnd 0 p.v:=.ac7 _ fun c hc=>by
 simp only[List.mem_cons,List.not_mem_nil,or_false] at hc;rcases hc with rfl|rfl|rfl
 ·exact gi9 _
 ·exact .int _ _
 ·exact hc5 _
theorem dr6 (l:List bb4)(n:Int):PC Tryz.prog EE 98 [.aa3 (l.map bb4.cs),.int .i64 n] (.bool (decide (0≤n)&&decide (n<l.length))):=by
 refine ar9 fok98 (nZ rfl) fun σ=>?_
 by_cases h:0≤n
 ·simp only[ic98,go_sem,h,and_self]
 ·simp only[ic98,go_sem,h,and_self]
theorem ce5 (p:Pool):PC Tryz.prog EE 15 [p.v] (.int .i64 p.rows.length):=by
 refine ar9 fok15 (nZ rfl) fun σ=>?_
 simp only[ic15,go_sem,Pool.v,and_self]
theorem gj1 (r:bb4):r.cs.take 15=r.pkg.cs:=rfl
theorem bn5 (p:Pool)(n:Nat)(h:n<p.rows.length)(hf:p.rows[n].pkg.Fit):PC Tryz.prog EE 48 [p.v,.int .i64 n] (.tuple [.agg p.rows[n].pkg.cs,.int .i64 0]):=by
 refine aq8 hE fok48 (nZ rfl) (ap3 (ax5 p) (.int _ _)) ?_;have c1:(n:Int)<p.rows.length:=by omega
 have c2:(0:Int)≤n:=by omega
 have hg:(p.rows.map bb4.cs).getD n []=p.rows[n].cs:=by simp[List.getD_eq_getElem?_getD,h]
 have h15:∀ r:bb4,(15≤r.cs.length)=True:=fun r=>by rw[bm2]; simp
 simp only[ic48,go_sem,Pool.v];refine aa5 fok98 (dr6 p.rows n) ?_;simp only[go_sem,c1,c2,hg,bm2,gj1];refine aa5 fok117 (dc2 _ hf) ?_;simp only[go_sem,aj9,ai5,af7];exact .keep _ (.tuple _ (ap3 (bl9 _) (.int _ _)))
structure MS (s:Store) (tag:Nat→Nat) (c mid:Nat) (L:NmL) (B:Nat):Prop where
 map:s.obj mid=some (.map (mEs L))
 row:∀ t∈L,s.obj t.2.2=some (.row (t.2.1.map Md.ag2).flatten)∧t.2.2<s.next∧t.2.1.length≤B
 ce6:∀ t∈L,tag t.2.2=c
 ids:(L.map (·.2.2)).Nodup
 keys:(L.map (·.1)).Nodup
 lt:mid<s.next
 gj5:tag mid=c
theorem MS.keep {s s':Store}{tag tag':Nat→Nat}{c mid:Nat}{L:NmL}{B B':Nat}(h:MS s tag c mid L B)(hB:B≤B')(hn:s.next≤s'.next)(ho:∀ i,i<s.next→tag i=c→s'.obj i=s.obj i)(ht:∀ i,i<s.next→tag' i=tag i):MS s' tag' c mid L B' where
 map:=by rw[ho _ h.lt h.gj5]; exact h.map
 row:=fun t m=>⟨by rw[ho _ (h.row t m).2.1 (h.ce6 t m)]; exact (h.row t m).1,by have:=(h.row t m).2.1; omega,by have:=(h.row t m).2.2; omega⟩
 ce6:=fun t m=>by rw[ht _ (h.row t m).2.1]; exact h.ce6 t m
 ids:=h.ids
 keys:=h.keys
 lt:=by have:=h.lt; omega
 gj5:=by rw[ht _ h.lt]; exact h.gj5
def ea7 (tag:Nat→Nat)(c nid:Nat):Nat→Nat:=fun i=>if i=nid then c else tag i
theorem am9 {tag:Nat→Nat}{c nid n:Nat}(h:n≤nid):∀ i,i<n→ea7 tag c nid i=tag i:=fun i hi=>by
 unfold ea7; rw[if_neg (by omega)]
theorem MS.cur {s:Store}{tag:Nat→Nat}{c mid:Nat}{L:NmL}{B:Nat}(h:MS s tag c mid L B)(k:Str)(m:Nat)(hm:s.next≤m):Grow ⟨m,s.obj⟩ (cn2 L k) 1 ((bu5 L k).map Md.ag2)∧(bu5 L k).length≤B:=by
 rcases bs1 L k with ⟨h1,h2⟩|⟨t,ht,_,h1,h2⟩
 ·rw[h1,h2]; exact ⟨.inl ⟨rfl,rfl⟩,Nat.zero_le _⟩
 ·rw[h1,h2]; exact ⟨.inr ⟨t.2.2,by rw[List.length_map],(h.row t ht).1,by have:=(h.row t ht).2.1; show t.2.2<m; omega⟩,(h.row t ht).2.2⟩
theorem MS.upd {s:Store}{tag:Nat→Nat}{c mid:Nat}{L:NmL}{B:Nat}(h:MS s tag c mid L B)(k:Str)(n:Int)(m nid:Nat)(hm:s.next≤m)(hnew:s.next≤nid)(hb:B<2^30) :
  ∃ s1,be2 ⟨m,s.obj⟩ nid 1 (cn2 L k) (.aa3 [[.int .i64 n]])=some (.slice nid 0 ((bu5 L k).length+1) 1,s1)∧s1.next=m∧s1.obj mid=some (.map (mEs L))∧(∀ i o,i<s.next→s.obj i=some o→(∀ cs,o≠.row cs)→s1.obj i=some o) ∧
   ∀ nx,nid<nx→MS ⟨nx,(s1.put mid (.map (mEs (av9 L k n nid)))).obj⟩ (ea7 tag c nid) c mid (av9 L k n nid) (B+1)∧∀ i,i<s.next→tag i≠c→(s1.put mid (.map (mEs (av9 L k n nid)))).obj i=s.obj i:=by
 obtain ⟨hg,hlen⟩:=h.cur k m hm;have hap:=am2 (nid:=nid) (e:=[.int .i64 n]) hg (cp4 _) ⟨rfl,rfl⟩ (by rw[List.length_map]; omega);rw[List.length_map] at hap;have hlt:=h.lt;have hmid:¬ mid=nid:=by omega
 have kother:∀ i,(∀ t∈L,t.1=k→t.2.2≠i)→(ah2 (cn2 L k) ⟨m,s.obj⟩).obj i=s.obj i:=by
  intro i hne;rcases bs1 L k with ⟨h1,_⟩|⟨t,ht,hk,h1,_⟩
  ·rw[h1]; rfl
  ·rw[h1];show (if i=t.2.2 then none else s.obj i)=_;rw[if_neg (fun e=>hne t ht hk e.symm)]
 have hrow_ne_mid:∀ i cs,s.obj i=some (.row cs)→¬ i=mid:=fun i cs hi e=>by subst e; rw[h.map] at hi; cases hi
 refine ⟨_,hap,by rw[aa8,ae1],?_,?_,fun nx hnx=>⟨?_,?_⟩⟩
 ·rw[aa2,if_neg hmid]; exact ag1 hg mid _ h.map (fun _ e=>by cases e)
 ·intro i o hi ho hr;rw[aa2,if_neg (by omega)]; exact ag1 hg i _ ho hr
 ·exact {
   map:=by
    show (if mid=mid then _ else _)=_;rw[if_pos rfl]
   row:=by
    intro t ht;rcases dg3 h.keys t ht with ⟨h1,h2⟩|rfl
    ·obtain ⟨r1,r2,r3⟩:=h.row t h1;refine ⟨?_,by show t.2.2<nx; omega,by omega⟩;show (if t.2.2=mid then _ else if t.2.2=nid then _ else (ah2 (cn2 L k) ⟨m,s.obj⟩).obj t.2.2)=_;rw[if_neg (hrow_ne_mid _ _ r1),if_neg (by omega),kother _ fun u hu hk e=>h2 (by rw[← fl6 h.keys h.ids u hu t h1 e]; exact hk)];exact r1
    ·refine ⟨?_,hnx,?_⟩
     ·show (if nid=mid then _ else if nid=nid then _ else _)=_;rw[if_neg (fun e=>hmid e.symm),if_pos rfl,List.map_append];rfl
     ·show (bu5 L k++[n]).length≤B+1;rw[List.length_append]; simp; exact hlen
   ce6:=by
    intro t ht;rcases dg3 h.keys t ht with ⟨h1,h2⟩|rfl
    ·rw[am9 hnew _ (h.row t h1).2.1]; exact h.ce6 t h1
    ·unfold ea7; rw[if_pos rfl]
   ids:=(fl5 L h.ids (fun hm=>by
    obtain ⟨t,ht,e⟩:=List.mem_map.1 hm;have:=(h.row t ht).2.1;have e':t.2.2=nid:=e;omega)).1
   keys:=(ee4 L h.keys).1
   lt:=by show mid<nx; omega
   gj5:=by rw[am9 hnew _ h.lt]; exact h.gj5 }
 ·intro i hi hc;show (if i=mid then _ else if i=nid then _ else (ah2 (cn2 L k) ⟨m,s.obj⟩).obj i)=_;rw[if_neg (fun e=>hc (by rw[e]; exact h.gj5)),if_neg (by omega),kother _ fun t ht _ e=>hc (by rw[← e]; exact h.ce6 t ht)]
theorem MS.frz {s:Store}{tag:Nat→Nat}{c mid:Nat}{L:NmL}{B:Nat}(h:MS s tag c mid L B){nm:Nms}(hp:(av5 L).Perm nm):df5 s 0 (.map mid) (.ak5 (nmV nm)):=by
 have hat:∀ i,i<(mEs L).length→∃ t∈L,(mEs L).getD i (.undef,.undef)=(.str t.1,.slice t.2.2 0 t.2.1.length 1)∧(nmV (av5 L)).getD i (.undef,.undef)=(.str t.1,.aa3 (t.2.1.map Md.ag2)):=by
  intro i hi;have hi':i<L.length:=by simpa [mEs] using hi
  exact ⟨L[i],List.getElem_mem hi',by simp[mEs,List.getD_eq_getElem?_getD,hi'],by simp[nmV,av5,List.getD_eq_getElem?_getD,hi']⟩
 have hkn:KN nm:=KN.perm (nm:=av5 L) (by show ((av5 L).map (·.1)).Nodup; unfold av5; rw[List.map_map]; exact h.keys) hp;refine .map mid (mEs L) (nmV (av5 L)) (nmV nm) (Nat.not_lt_zero _) h.map (by simp[nmV,av5,mEs]) (hp.map _) ⟨?_,.str,fun e he=>?_⟩ (fun i hi=>?_) (fun i hi=>?_)
 ·have:(nmV nm).map (·.1)=(nm.map (·.1)).map IV.str:=by simp[nmV]
  rw[this];exact List.Pairwise.map _ (fun a b hab e=>hab (by cases e; rfl)) hkn
 ·simp only[nmV,List.mem_map] at he;obtain ⟨t,_,rfl⟩:=he;trivial
 ·obtain ⟨t,ht,e1,e2⟩:=hat i hi;rw[e1,e2]; exact bb9 _
 ·obtain ⟨t,ht,e1,e2⟩:=hat i hi;rw[e1,e2];obtain ⟨r1,r2,_⟩:=h.row t ht;have hg:Grow s (.slice t.2.2 0 t.2.1.length 1) 1 (t.2.1.map Md.ag2):=.inr ⟨t.2.2,by rw[List.length_map],r1,r2⟩;refine hg.frz (fun x hx=>(cp4 _ x hx).1) (fun _ _=>Nat.not_lt_zero _) fun e he c hc=>?_
  obtain ⟨n,_,rfl⟩:=List.mem_map.1 he
  cases hc with
  | head=>exact .int _ _
  | tail _ h=>cases h
structure IS (s:Store) (pp m1 m2 m3:Nat) (all:List aa4) (rv:IV) (L1 L2 L3:NmL) (tag:Nat→Nat) (B:Nat):Prop where
 cell:s.obj pp=some (.cells [rv,.map m1,.map m2,.map m3])
 ltp:pp<s.next
 grow:Grow s rv 15 (all.map aa4.cs)
 ce6:∀ id n,rv=.slice id 0 n 15→tag id=0
 m1:MS s tag 1 m1 L1 B
 m2:MS s tag 2 m2 L2 B
 m3:MS s tag 3 m3 L3 B
 ds2:tag pp=4
theorem IS.mono {s s':Store}{pp m1 m2 m3:Nat}{all:List aa4}{rv:IV}{L1 L2 L3:NmL}{tag:Nat→Nat}{B B':Nat}(h:IS s pp m1 m2 m3 all rv L1 L2 L3 tag B)(hB:B≤B')(hn:s.next≤s'.next)(ho:∀ i,i<s.next→s'.obj i=s.obj i):IS s' pp m1 m2 m3 all rv L1 L2 L3 tag B' where
 cell:=by rw[ho _ h.ltp]; exact h.cell
 ltp:=by have:=h.ltp; omega
 grow:=h.grow.mono hn fun id _ hid=>ho id hid
 ce6:=h.ce6
 m1:=h.m1.keep hB hn (fun i hi _=>ho i hi) fun _ _=>rfl
 m2:=h.m2.keep hB hn (fun i hi _=>ho i hi) fun _ _=>rfl
 m3:=h.m3.keep hB hn (fun i hi _=>ho i hi) fun _ _=>rfl
 ds2:=h.ds2
theorem di5 {s s':Store}{rv:IV}{es:List (List IV)}{tag:Nat→Nat}(h:Grow s rv 15 es)(ht:∀ id n,rv=.slice id 0 n 15→tag id=0)(hn:s.next≤s'.next)(ho:∀ i,i<s.next→tag i=0→s'.obj i=s.obj i):Grow s' rv 15 es :=
 h.mono hn fun id hv hid=>ho id hid (ht id _ hv)
theorem di6 {s:Store}{rv:IV}{es:List (List IV)}{tag:Nat→Nat}{c nid:Nat}(h:Grow s rv 15 es)(ht:∀ id n,rv=.slice id 0 n 15→tag id=0)(hn:s.next≤nid):∀ id n,rv=.slice id 0 n 15→ea7 tag c nid id=0:=fun id n hv=>by
 rcases h with ⟨h1,_⟩|⟨id',h1,_,hlt⟩
 ·rw[h1] at hv; cases hv
 ·have e:id'=id:=by rw[h1] at hv; cases hv; rfl
  subst e;rw[am9 hn _ hlt]; exact ht _ _ hv
theorem IS.of1 {s s':Store}{pp m1 m2 m3 nid:Nat}{all:List aa4}{rv:IV}{L1 L2 L3 L':NmL}{tag:Nat→Nat}{B:Nat}(h:IS s pp m1 m2 m3 all rv L1 L2 L3 tag B)(hn:s.next≤s'.next)(hnid:s.next≤nid)(hm:MS s' (ea7 tag 1 nid) 1 m1 L' (B+1))(ho:∀ i,i<s.next→tag i≠1→s'.obj i=s.obj i):IS s' pp m1 m2 m3 all rv L' L2 L3 (ea7 tag 1 nid) (B+1) where
 cell:=by rw[ho _ h.ltp (by rw[h.ds2]; decide)]; exact h.cell
 ltp:=by have:=h.ltp; omega
 grow:=di5 h.grow h.ce6 hn fun i hi e=>ho i hi (by rw[e]; decide)
 ce6:=di6 h.grow h.ce6 hnid
 m1:=hm
 m2:=h.m2.keep (Nat.le_succ _) hn (fun i hi e=>ho i hi (by rw[e]; decide)) (am9 hnid)
 m3:=h.m3.keep (Nat.le_succ _) hn (fun i hi e=>ho i hi (by rw[e]; decide)) (am9 hnid)
 ds2:=by rw[am9 hnid _ h.ltp]; exact h.ds2
theorem IS.of2 {s s':Store}{pp m1 m2 m3 nid:Nat}{all:List aa4}{rv:IV}{L1 L2 L3 L':NmL}{tag:Nat→Nat}{B:Nat}(h:IS s pp m1 m2 m3 all rv L1 L2 L3 tag B)(hn:s.next≤s'.next)(hnid:s.next≤nid)(hm:MS s' (ea7 tag 2 nid) 2 m2 L' (B+1))(ho:∀ i,i<s.next→tag i≠2→s'.obj i=s.obj i):IS s' pp m1 m2 m3 all rv L1 L' L3 (ea7 tag 2 nid) (B+1) where
 cell:=by rw[ho _ h.ltp (by rw[h.ds2]; decide)]; exact h.cell
 ltp:=by have:=h.ltp; omega
 grow:=di5 h.grow h.ce6 hn fun i hi e=>ho i hi (by rw[e]; decide)
 ce6:=di6 h.grow h.ce6 hnid
 m1:=h.m1.keep (Nat.le_succ _) hn (fun i hi e=>ho i hi (by rw[e]; decide)) (am9 hnid)
 m2:=hm
 m3:=h.m3.keep (Nat.le_succ _) hn (fun i hi e=>ho i hi (by rw[e]; decide)) (am9 hnid)
 ds2:=by rw[am9 hnid _ h.ltp]; exact h.ds2
theorem IS.of3 {s s':Store}{pp m1 m2 m3 nid:Nat}{all:List aa4}{rv:IV}{L1 L2 L3 L':NmL}{tag:Nat→Nat}{B:Nat}(h:IS s pp m1 m2 m3 all rv L1 L2 L3 tag B)(hn:s.next≤s'.next)(hnid:s.next≤nid)(hm:MS s' (ea7 tag 3 nid) 3 m3 L' (B+1))(ho:∀ i,i<s.next→tag i≠3→s'.obj i=s.obj i):IS s' pp m1 m2 m3 all rv L1 L2 L' (ea7 tag 3 nid) (B+1) where
 cell:=by rw[ho _ h.ltp (by rw[h.ds2]; decide)]; exact h.cell
 ltp:=by have:=h.ltp; omega
 grow:=di5 h.grow h.ce6 hn fun i hi e=>ho i hi (by rw[e]; decide)
 ce6:=di6 h.grow h.ce6 hnid
 m1:=h.m1.keep (Nat.le_succ _) hn (fun i hi e=>ho i hi (by rw[e]; decide)) (am9 hnid)
 m2:=h.m2.keep (Nat.le_succ _) hn (fun i hi e=>ho i hi (by rw[e]; decide)) (am9 hnid)
 m3:=hm
 ds2:=by rw[am9 hnid _ h.ltp]; exact h.ds2
theorem fq9 (l:List aa4):∀ e∈l.map aa4.cs,e.length=15∧e.all IV.leaf=true:=fun e he=>by
 obtain ⟨x,_,rfl⟩:=List.mem_map.1 he;exact ⟨aj9 x,af7 x⟩
theorem IS.push {s:Store}{pp m1 m2 m3:Nat}{all:List aa4}{rv:IV}{L1 L2 L3:NmL}{tag:Nat→Nat}{B:Nat}(h:IS s pp m1 m2 m3 all rv L1 L2 L3 tag B)(x:aa4)(m nid:Nat)(hm:s.next≤m)(hnew:s.next≤nid)(hb:all.length<2^30) :
  ∃ s1,be2 ⟨m,s.obj⟩ nid 15 rv (.aa3 [x.cs])=some (.slice nid 0 (all.length+1) 15,s1)∧s1.next=m∧s1.obj pp=s.obj pp∧(∀ i o,i<s.next→s.obj i=some o→(∀ cs,o≠.row cs)→s1.obj i=some o) ∧
   ∀ nx,nid<nx→IS ⟨nx,(s1.put pp (.cells [.slice nid 0 (all.length+1) 15,.map m1,.map m2,.map m3])).obj⟩ pp m1 m2 m3 (all++[x]) (.slice nid 0 (all.length+1) 15) L1 L2 L3 (ea7 tag 0 nid) B:=by
 have hg:Grow ⟨m,s.obj⟩ rv 15 (all.map aa4.cs):=Grow.mono (σ:=s) h.grow hm fun _ _ _=>rfl
 have hap:=am2 (nid:=nid) (e:=x.cs) hg (fq9 all) ⟨aj9 x,af7 x⟩ (by rw[List.length_map]; omega);rw[List.length_map] at hap;have hlt:=h.ltp;have hpp:¬ pp=nid:=by omega
 have kp:=ag1 hg pp _ h.cell (fun _ e=>by cases e)
 have kk:∀ i,i<s.next→tag i≠0→tag i≠4→((ah2 rv ⟨m,s.obj⟩).put nid (.row (all.map aa4.cs++[x.cs]).flatten) |>.put pp (.cells [.slice nid 0 (all.length+1) 15,.map m1,.map m2,.map m3])).obj i=s.obj i:=by
  intro i hi h0 h4;show (if i=pp then _ else if i=nid then _ else (ah2 rv ⟨m,s.obj⟩).obj i)=_;rw[if_neg (fun e=>h4 (by rw[e]; exact h.ds2)),if_neg (by omega)];rcases h.grow with ⟨hv,_⟩|⟨id,hv,ho,hl⟩
  ·rw[hv]; rfl
  ·have ht:=h.ce6 id _ hv;rw[hv];show (if i=id then none else s.obj i)=_;rw[if_neg (fun e=>h0 (by rw[e]; exact ht))]
 refine ⟨_,hap,by rw[aa8,ae1],by rw[aa2,if_neg hpp,kp,h.cell],?_,fun nx hnx=>?_⟩
 ·intro i o hi ho hr;rw[aa2,if_neg (by omega)]; exact ag1 hg i _ ho hr
 ·exact {
   cell:=by
    show (if pp=pp then _ else _)=_;rw[if_pos rfl]
   ltp:=by show pp<nx; omega
   grow:=by
    refine .inr ⟨nid,by rw[List.map_append,List.length_append,List.length_map]; rfl,?_,hnx⟩;show (if nid=pp then _ else if nid=nid then _ else _)=_;rw[if_neg (fun e=>hpp e.symm),if_pos rfl,List.map_append]; rfl
   ce6:=fun id n hv=>by cases hv; unfold ea7; rw[if_pos rfl]
   m1:=h.m1.keep (Nat.le_refl _) (by show s.next≤nx; omega) (fun i hi e=>kk i hi (by rw[e]; decide) (by rw[e]; decide)) (am9 hnew)
   m2:=h.m2.keep (Nat.le_refl _) (by show s.next≤nx; omega) (fun i hi e=>kk i hi (by rw[e]; decide) (by rw[e]; decide)) (am9 hnew)
   m3:=h.m3.keep (Nat.le_refl _) (by show s.next≤nx; omega) (fun i hi e=>kk i hi (by rw[e]; decide) (by rw[e]; decide)) (am9 hnew)
   ds2:=by rw[am9 hnew _ h.ltp]; exact h.ds2 }
theorem IS.frz {s:Store}{pp m1 m2 m3:Nat}{all:List aa4}{rv:IV}{L1 L2 L3:NmL}{tag:Nat→Nat}{B:Nat}(h:IS s pp m1 m2 m3 all rv L1 L2 L3 tag B){x:Index}(h0:x.all=all)(h1:(av5 L1).Perm x.bp3)(h2:(av5 L2).Perm x.names)(h3:(av5 L3).Perm x.over):df5 s 0 (.ptr pp 0) x.v:=by
 subst h0;refine .ptr pp 0 _ _ (Nat.not_lt_zero _) (.inl h.cell) (Nat.le_refl _) fun j hj=>?_
 have hj3:j=0∨j=1∨j=2∨j=3:=by simp only[List.length_cons,List.length_nil] at hj; omega
 rcases hj3 with rfl|rfl|rfl|rfl
 ·refine h.grow.frz (fun x hx=>(fq9 _ x hx).1) (fun _ _=>Nat.not_lt_zero _) fun e he c hc=>?_
  obtain ⟨r,_,rfl⟩:=List.mem_map.1 he;exact ay5 r c hc
 ·exact h.m1.frz h1
 ·exact h.m2.frz h2
 ·exact h.m3.frz h3
theorem MS.fr3 {s s':Store}{tag:Nat→Nat}{c mid:Nat}{L:NmL}{B B':Nat}(h:MS s tag c mid L B)(hB:B≤B')(hn:s.next≤s'.next)(ho:∀ i o,i<s.next→s.obj i=some o→(∀ l c,o≠.an7 l c)→s'.obj i=some o):MS s' tag c mid L B' where
 map:=ho _ _ h.lt h.map (fun _ _ e=>by cases e)
 row:=fun t m=>⟨ho _ _ (h.row t m).2.1 (h.row t m).1 (fun _ _ e=>by cases e),by have:=(h.row t m).2.1; omega,by have:=(h.row t m).2.2; omega⟩
 ce6:=h.ce6
 ids:=h.ids
 keys:=h.keys
 lt:=by have:=h.lt; omega
 gj5:=h.gj5
theorem IS.fr3 {s s':Store}{pp m1 m2 m3:Nat}{all:List aa4}{rv:IV}{L1 L2 L3:NmL}{tag:Nat→Nat}{B B':Nat}(h:IS s pp m1 m2 m3 all rv L1 L2 L3 tag B)(hB:B≤B')(hn:s.next≤s'.next)(ho:∀ i o,i<s.next→s.obj i=some o→(∀ l c,o≠.an7 l c)→s'.obj i=some o):IS s' pp m1 m2 m3 all rv L1 L2 L3 tag B' where
 cell:=ho _ _ h.ltp h.cell (fun _ _ e=>by cases e)
 ltp:=by have:=h.ltp; omega
 grow:=by
  rcases h.grow with h0|⟨id,hv,hr,hid⟩
  ·exact .inl h0
  ·exact .inr ⟨id,hv,ho _ _ hid hr (fun _ _ e=>by cases e),by omega⟩
 ce6:=h.ce6
 m1:=h.m1.fr3 hB hn ho
 m2:=h.m2.fr3 hB hn ho
 m3:=h.m3.fr3 hB hn ho
 ds2:=h.ds2
theorem dr7 {α β:Type}(f:α→β):∀ (l:List α) (k:Nat),(l.map f).eraseIdx k=(l.eraseIdx k).map f
 | [],_=>rfl
 | _::_,0=>rfl
 | a::l,k+1=>by simp[dr7 f l k]
theorem dc4 {α:Type}:∀ (l:List α) (k:Nat) (h:k<l.length),l.Perm (l[k]::l.eraseIdx k)
 | [],k,h=>by simp at h
 | a::l,0,_=>.refl _
 | a::l,k+1,h=>((dc4 l k (by simpa using h)).cons a).trans (.swap _ _ _)
theorem io5 {s:Store}{id:Nat}{l:List (IV×IV)}{c:Option (IV×IV)}(h:s.obj id=some (.an7 l c)):be6 s (.ptr id 0)=some (id,l):=by simp only[be6,h]
theorem io6 {s:Store}{id:Nat}{l:List (IV×IV)}{c:IV×IV}(h:s.obj id=some (.an7 l (some c))):cf1 s (.ptr id 0)=some (.tuple [c.1,c.2]):=by simp only[cf1,h]
theorem bo8:∀ (ks l:List Str),(ks.foldl ax3 l).length≤l.length+ks.length
 | [],l=>Nat.le_refl _
 | k::ks,l=>by
  refine Nat.le_trans (bo8 ks _) ?_
  have:(ax3 l k).length≤l.length+1:=by
   unfold ax3; split
   ·omega
   ·simp
  simp only[List.length_cons]; omega
theorem gj2 (p:aa4):(dy7 p).length≤p.provides.length+p.files.length+1:=by
 refine Nat.le_trans (bo8 _ _) ?_;have:=bo8 (p.provides.map (·.name)) [p.name];simp only[List.length_map,List.length_cons,List.length_nil] at this;omega
theorem cp6 (p:Pool)(hf:∀ r∈p.rows,r.pkg.Fit)(hlen:p.rows.length≤2^14)(hs:∀ r∈p.rows,r.pkg.provides.length+r.pkg.files.length+r.pkg.ab7.length+3≤2^15) :
  PC Tryz.prog EE 132 [p.v] (.tuple [(dj9 (p.rows.map (·.pkg))).v,.int .i64 0]):=by
 obtain ⟨pk,hpk0⟩:∃ pk,p.rows.map (·.pkg)=pk:=⟨_,rfl⟩;have hpl:pk.length=p.rows.length:=by rw[← hpk0,List.length_map]
 rw[hpk0];obtain ⟨W,hW⟩:∃ W:Nat,W=2^15:=⟨_,rfl⟩;have hC:=ce5 p;have hP:=fun (n:Nat) (h:n<p.rows.length)=>bn5 p n h (hf _ (List.getElem_mem h))
 have hb:=ax5 p;obtain ⟨cs,hcs⟩:∃ cs,p.v=.ac7 cs:=⟨_,rfl⟩;rw[hcs] at hC hP hb ⊢;refine aq8 hE fok132 (nZ rfl) (fun a ha=>by cases List.mem_singleton.1 ha; exact hb) ?_;simp only[ic132,go_sem];refine aa5 fok15 hC ?_;simp only[go_sem]
 refine ab6 noT (fun i fr s=>fr=[(0,.ac7 cs),(4,.ptr 3 0),(19,.int .i64 p.rows.length),(20,.int .i64 i)]∧∃ rv L1 L2 L3 tag,IS s 3 0 1 2 (pk.take i) rv L1 L2 L3 tag (i*W) ∧
  (av5 L1).Perm (dj9 (pk.take i)).bp3∧(av5 L2).Perm (dj9 (pk.take i)).names∧(av5 L3).Perm (dj9 (pk.take i)).over) p.rows.length ⟨rfl,.aa1,[],[],[],(fun i=>if i=0 then 1 else if i=1 then 2 else if i=2 then 3 else 4),?_,.refl _,.refl _,.refl _⟩ ?_
 ·have e0:∀ (c mid:Nat) (L:NmL) (st:Store) (tag:Nat→Nat),L=[]→st.obj mid=some (.map [])→mid<st.next→tag mid=c→MS st tag c mid L (0*W):=fun c mid L st tag h1 h2 h3 h4=>by
   subst h1;exact { map:=h2,row:=fun t ht=>(by cases ht),ce6:=fun t ht=>(by cases ht),ids:=List.nodup_nil,keys:=List.nodup_nil,lt:=h3,gj5:=h4 }
  refine { cell:=rfl,ltp:=Nat.lt_succ_self 3,grow:=.inl ⟨rfl,rfl⟩,ce6:=fun id n h=>(by cases h),m1:=e0 1 0 [] _ _ rfl rfl ?_ rfl,m2:=e0 2 1 [] _ _ rfl rfl ?_ rfl,m3:=e0 3 2 [] _ _ rfl rfl ?_ rfl,ds2:=rfl }
  ·show 0<4; decide
  ·show 1<4; decide
  ·show 2<4; decide
 rintro i fr s hle ⟨rfl,rv,L1,L2,L3,tag,hI,p1,p2,p3⟩;by_cases hlt:i<p.rows.length
 ·have c1:(i:Int)<p.rows.length:=by omega
  have c2:(0:Int)≤i:=by omega
  have w1:=ad6 (i:=i) (by omega);have hQ:=hP i hlt;have hx:p.rows[i]∈p.rows:=List.getElem_mem hlt;have hfx:=hf _ hx;have hsx:=hs _ hx
  have htk:pk.take (i+1)=pk.take i++[p.rows[i].pkg]:=by
   rw[← hpk0,List.take_add_one,List.getElem?_map,List.getElem?_eq_getElem hlt]; rfl
  generalize hpk:p.rows[i].pkg=x at *;simp only[go_sem,c1,c2];refine aa5 fok48 hQ ?_;have e3:¬ 3=s.next:=by have:=hI.ltp; omega
  have hiW:i*W+W≤2^29:=by
   have h1:i*W+W=(i+1)*W:=(Nat.succ_mul i W).symm;rw[h1,hW]; omega
  have hWx:x.provides.length+x.files.length+x.ab7.length+3≤W:=by rw[hW]; exact hsx
  have e3':¬ s.next=3:=fun e=>e3 e.symm
  simp only[go_sem,aj9,ai5,af7,e3,hI.cell,Nat.add_assoc];generalize hS:Store.put (Store.put _ s.next _) s.next (aj4.cells x.cs)=S1;have hS1:S1.next=s.next+1:=by rw[← hS]; rfl
  have hbx:S1.obj s.next=some (.cells x.cs):=by rw[← hS]; simp only[aa2,if_true]
  have h1:IS S1 3 0 1 2 (pk.take i) rv L1 L2 L3 tag (i*W):=hI.mono (Nat.le_refl _) (by omega) fun j hj=>by
   have e:¬ j=s.next:=by omega
   rw[← hS]; simp only[aa2,e,if_false]
  clear hS;have hal:(pk.take i).length=i:=by rw[List.length_take]; omega
  obtain ⟨t1,ha1,ha2,ha3,ha4,hps⟩:=h1.push x (s.next+12) (s.next+8) (by omega) (by omega) (by rw[hal]; omega);rw[hal] at ha1 hps;rw[ha1];have hc1:t1.obj 3=some (.cells [rv,.map 0,.map 1,.map 2]):=by rw[ha3]; exact h1.cell
  have hb1:t1.obj s.next=some (.cells x.cs):=ha4 _ _ (by omega) hbx (fun _ e=>by cases e);have h2:=hps t1.next (by omega);generalize hX:(aj4.cells [.slice (s.next+8) 0 (i+1) 15,.map 0,.map 1,.map 2])=X at hps h2;have hlk2:∀ m,cd5 ⟨m,(t1.put 3 X).obj⟩ 2 .aa1 false (.map 1) (.str x.name)=some (cn2 L2 x.name):=fun m=>gi3 (σ:=⟨m,(t1.put 3 X).obj⟩) h2.m2.map x.name
  obtain ⟨t2,ib1,ib2,ib3,ib4,hpt⟩:=h2.m2.upd x.name (i:Int) (t1.next+17) (t1.next+15) (by show t1.next≤_; omega) (by show t1.next≤_; omega) (by omega);simp only at ib1 ib3;subst hX;simp only[go_sem,e3',hc1,hb1,eg6,hlk2,ib1,Nat.add_assoc];rw[eg5 ib3 x.name (i:Int) (t1.next+15)];have g3:3<s.next:=hI.ltp
  have hb2:(t2.put 1 (aj4.map (mEs (av9 L2 x.name (i:Int) (t1.next+15))))).obj s.next=some (.cells x.cs):=by
   have e:¬ s.next=1:=by omega
   simp only[aa2,e,if_false];refine ib4 _ _ (by show s.next<t1.next; omega) ?_ (fun _ e=>by cases e);simp only[aa2,e3',if_false]; exact hb1
  have hn2:(t2.put 1 (aj4.map (mEs (av9 L2 x.name (i:Int) (t1.next+15))))).next=t1.next+17:=ib2;have hpt':=hpt (t2.put 1 (aj4.map (mEs (av9 L2 x.name (i:Int) (t1.next+15))))).next (by rw[hn2]; omega);have h3:=h2.of2 (s':=t2.put 1 (aj4.map (mEs (av9 L2 x.name (i:Int) (t1.next+15))))) (nid:=t1.next+15) (by rw[hn2]; show t1.next≤_; omega) (by show t1.next≤_; omega) hpt'.1 hpt'.2;clear hpt'
  have q2:(av5 (av9 L2 x.name (i:Int) (t1.next+15))).Perm (ao7 (dj9 (pk.take i)).names x.name i):=by
   rw[ch8]; exact bl4 (by show ((av5 L2).map (·.1)).Nodup; unfold av5; rw[List.map_map]; exact hI.m2.keys) p2
  generalize av9 L2 x.name (i:Int) (t1.next+15)=L2' at *;generalize t2.put 1 (aj4.map (mEs L2'))=S2 at *;generalize ea7 (ea7 tag 0 (s.next+8)) 2 (t1.next+15)=tag2 at *;clear hpt hps ib1 ib2 ib3 ib4 hlk2;simp only[go_sem,hb2,aj9,ai5,af7];refine aa5 fok210 (ey1 x hfx) ?_;simp only[go_sem,Nat.add_assoc];clear h1 h2 ha4 ha3 hc1 hb1 ha1 p2;have hkn1:KN (dj9 (pk.take i)).bp3:=KN.perm (nm:=av5 L1) (by show ((av5 L1).map (·.1)).Nodup; unfold av5; rw[List.map_map]; exact hI.m1.keys) p1;have hol:(dy7 x).length≤x.provides.length+x.files.length+1:=gj2 x
  have hidx:dj9 (pk.take (i+1))=ee6 (dj9 (pk.take i)) i x:=by
   rw[htk]; unfold dj9; rw[dp8,hal,Nat.zero_add]
  generalize pk.take i++[x]=allI at *;generalize IV.slice (s.next+8) 0 (i+1) 15=rv2 at *;have hsm:¬ s.next=S2.next:=by omega
  refine ab6 noT (fun j fr t=>fr=[(0,.ac7 cs),(4,.ptr 3 0),(5,.int .i64 i),(6,.ptr s.next 0),(19,.int .i64 p.rows.length),(20,.int .i64 i),(60,.ptr S2.next 0)]∧S2.next+1≤t.next∧t.obj s.next=some (.cells x.cs) ∧
   ∃ done left cur L tg,(done++left).Perm (dy7 x)∧done.length=j∧t.obj S2.next=some (.an7 (left.map sE) cur)∧IS t 3 0 1 2 allI rv2 L L2' L3 tg (i*W+1+j)∧(av5 L).Perm (bn3 (dj9 (pk.take i)).bp3 done i)) (dy7 x).length
   ⟨rfl,Nat.le_refl _,?_,[],dy7 x,none,L1,tag2,.refl _,rfl,?_,?_,p1⟩ ?_
  ·simp only[aa2,hsm,if_false]; exact hb2
  ·simp only[aa2,if_true]
  ·refine h3.mono (Nat.le_refl _) (by show S2.next≤S2.next+1; omega) fun j hj=>?_
   have e:¬ j=S2.next:=by omega
   simp only[aa2,e,if_false]
  rintro j fr t hjle ⟨rfl,hnt,hbt,done,left,cur,L,tg,hpm,hdl,hmi,hIt,hpL⟩;have hll:done.length+left.length=(dy7 x).length:=by rw[← hpm.length_eq,List.length_append]
  simp only[go_sem,io5 hmi];refine ⟨fun hnil=>?_,fun k hk=>?_⟩
  ·have hl0:left=[]:=by simpa using hnil
   subst hl0;rw[List.append_nil] at hpm;have q1:=hpL.trans (dp7 hpm hkn1);simp only[go_sem,hbt,aa4.cs,bc3];have hjl:j=(dy7 x).length:=by rw[← hdl]; simpa using hll
   subst hjl;clear hmi hbt hpL hpm hll hdl
   refine ab6 noT (fun j fr u=>fr=[(0,.ac7 cs),(4,.ptr 3 0),(5,.int .i64 i),(19,.int .i64 p.rows.length),(20,.int .i64 i),(80,deps x.ab7),(81,.int .i64 x.ab7.length),(82,.int .i64 j)] ∧
    ∃ L3' tg',IS u 3 0 1 2 allI rv2 L L2' L3' tg' (i*W+1+(dy7 x).length+j)∧(av5 L3').Perm (bc5 (dj9 (pk.take i)).over ((x.ab7.take j).map (·.name)) i)) x.ab7.length ⟨rfl,L3,tg,hIt,p3⟩ ?_
   rintro j fr u hjo ⟨rfl,L3',tg',hIu,r3⟩;have hkn3:KN (av5 L3'):=by show ((av5 L3').map (·.1)).Nodup; unfold av5; rw[List.map_map]; exact hIu.m3.keys
   by_cases hjlt:j<x.ab7.length
   ·obtain ⟨d,hd,_,hdr,hget,htk2⟩:=ag5 x.ab7 j hjlt;have d1:(j:Int)<x.ab7.length:=by omega
    have d2:(0:Int)≤j:=by omega
    have w2:=ad6 (i:=j) (by omega);have g3u:=hIu.ltp;have f3:¬ 3=u.next:=by omega
    simp only[go_sem,d1,d2,hget,Dep.cs,f3,hIu.cell,Nat.add_assoc];generalize hU:Store.put (Store.put _ u.next _) u.next _=U;have hUn:U.next=u.next+1:=by rw[← hU]; rfl
    have hUd:U.obj u.next=some (.cells [.str d.name,.int .u8 d.op,.int .i64 d.evr.av4,.str d.evr.ver,.str d.evr.rel]):=by rw[← hU]; simp only[aa2,if_true]
    have hIU:IS U 3 0 1 2 allI rv2 L L2' L3' tg' (i*W+1+(dy7 x).length+j):=hIu.mono (Nat.le_refl _) (by omega) fun a ha=>by
     have e:¬ a=u.next:=by omega
     rw[← hU]; simp only[aa2,e,if_false]
    clear hU;have hlk:∀ m,cd5 ⟨m,U.obj⟩ 2 .aa1 false (.map 2) (.str d.name)=some (cn2 L3' d.name):=fun m=>gi3 (σ:=⟨m,U.obj⟩) hIU.m3.map d.name
    simp only[go_sem,hlk];obtain ⟨hcg,hcl⟩:=hIU.m3.cur d.name (u.next+11) (by omega)
    have hfz:df5 (⟨u.next+11,U.obj⟩:Store) 0 (cn2 L3' d.name) (.aa3 ((bu5 L3' d.name).map Md.ag2)):=hcg.frz (fun y hy=>(cp4 _ y hy).1) (fun _ _=>Nat.not_lt_zero _) fun e he c hc=>by
     obtain ⟨n,_,rfl⟩:=List.mem_map.1 he
     cases hc with
     | head=>exact .int _ _
     | tail _ h=>cases h
    have hat:=(fv3.cons hfz (fv3.cons (ad4 .i64 (i:Int)) .nil)).at;refine ad1 fok188 (df6 hE hat.1 hat.2 (by simp[IV.plain]) (fq7 (bu5 L3' d.name) i (by omega))) ?_;rintro v' s' ⟨rfl,rfl⟩;refine ⟨Nat.le_refl _,?_⟩
    have hin:(i:Int)∈am6 (bc5 (dj9 (pk.take i)).over ((x.ab7.take j).map (·.name)) i) d.name↔(i:Int)∈bu5 L3' d.name:=by
     rw[← cn6 hkn3 r3,ev8]
    cases hc:decide ((i:Int)∈bu5 L3' d.name) with
    | true=>
     have hc':(i:Int)∈bu5 L3' d.name:=of_decide_eq_true hc;simp only[go_sem,w2];refine ⟨hjlt,L3',tg',?_,?_⟩
     ·have:=hIU.mono (s':=⟨u.next+11,U.obj⟩) (Nat.le_succ _) (by show U.next≤u.next+11; omega) fun _ _=>rfl
      simpa only[Nat.add_assoc,Nat.succ_eq_add_one] using this
     ·rw[htk2,List.map_append,List.map_cons,List.map_nil,ce4,if_pos (hin.2 hc')]; exact r3
    | false=>
     have hc':¬ (i:Int)∈bu5 L3' d.name:=of_decide_eq_false hc;obtain ⟨t5,jb1,jb2,jb3,jb4,jpt⟩:=hIU.m3.upd d.name (i:Int) (u.next+28) (u.next+26) (by omega) (by omega) (by omega);simp only[go_sem,hIU.cell,hUd,hlk,jb1,Nat.add_assoc];rw[eg5 jb3 d.name (i:Int) (u.next+26)];have hn5:(t5.put 2 (aj4.map (mEs (av9 L3' d.name (i:Int) (u.next+26))))).next=u.next+28:=jb2;have jpt':=jpt (t5.put 2 (aj4.map (mEs (av9 L3' d.name (i:Int) (u.next+26))))).next (by rw[hn5]; omega);have hI5:=hIU.of3 (s':=t5.put 2 (aj4.map (mEs (av9 L3' d.name (i:Int) (u.next+26))))) (nid:=u.next+26) (by rw[hn5]; omega) (by omega) jpt'.1 jpt'.2
     have hq:(av5 (av9 L3' d.name (i:Int) (u.next+26))).Perm (ao7 (bc5 (dj9 (pk.take i)).over ((x.ab7.take j).map (·.name)) i) d.name i):=by
      rw[ch8];exact bl4 hkn3 r3
     clear jpt jpt' jb1 jb3 jb4;generalize t5.put 2 (aj4.map (mEs (av9 L3' d.name (i:Int) (u.next+26))))=T5 at *;simp only[go_sem,w2];refine ⟨hjlt,av9 L3' d.name (i:Int) (u.next+26),_,by simpa only[Nat.add_assoc] using hI5,?_⟩;rw[htk2,List.map_append,List.map_cons,List.map_nil,ce4,if_neg (fun e=>hc' (hin.1 e))]; exact hq
   ·have hj':j=x.ab7.length:=by omega
    subst hj';have d1:¬ (x.ab7.length:Int)<x.ab7.length:=by omega
    rw[List.take_length] at r3;simp only[go_sem,d1,w1];refine ⟨hlt,rv2,L,L2',L3',tg',?_,?_,?_,?_⟩
    ·rw[htk];have hle2:i*W+1+(dy7 x).length+x.ab7.length≤(i+1)*W:=by rw[Nat.succ_mul]; omega
     exact hIu.mono hle2 (Nat.le_refl _) fun _ _=>rfl
    ·rw[hidx]; exact q1
    ·rw[hidx]; exact q2
    ·rw[hidx]; exact r3
  ·have hge:(left.map sE).getD k (.undef,.undef)=sE left[k]:=by simp[List.getD_eq_getElem?_getD,hk]
   rw[hge,dr7];generalize hT:Store.put t S2.next (aj4.an7 ((left.eraseIdx k).map sE) (some (sE left[k])))=T;have hTn:T.next=t.next:=by rw[← hT]; rfl
   have hTm:T.obj S2.next=some (.an7 ((left.eraseIdx k).map sE) (some (sE left[k]))):=by rw[← hT]; simp only[aa2,if_true]
   have hTb:T.obj s.next=some (.cells x.cs):=by rw[← hT]; simp only[aa2,hsm,if_false]; exact hbt
   have hIT:IS T 3 0 1 2 allI rv2 L L2' L3 tg (i*W+1+j):=hIt.fr3 (Nat.le_refl _) (by omega) fun a o ha hao hne=>by
    rw[← hT];have e:¬ a=S2.next:=fun e=>by subst e; rw[hmi] at hao; cases hao; exact hne _ _ rfl
    simp only[aa2,e,if_false]; exact hao
   clear hT;generalize hkey:left[k]=key at *;obtain ⟨t3,ib1,ib2,ib3,ib4,hpt⟩:=hIT.m1.upd key (i:Int) (t.next+15) (t.next+13) (by omega) (by omega) (by omega);have hlk:∀ m,cd5 ⟨m,T.obj⟩ 2 .aa1 false (.map 0) (.str key)=some (cn2 L key):=fun m=>gi3 (σ:=⟨m,T.obj⟩) hIT.m1.map key
   have hme:∀ m,cf1 ⟨m,T.obj⟩ (.ptr S2.next 0)=some (.tuple [.str key,.agg []]):=fun m=>io6 (s:=⟨m,T.obj⟩) hTm
   simp only[go_sem,hme,hIT.cell,hlk,ib1,Nat.add_assoc];rw[eg5 ib3 key (i:Int) (t.next+13)];have hn4:(t3.put 0 (aj4.map (mEs (av9 L key (i:Int) (t.next+13))))).next=t.next+15:=ib2;have hpt':=hpt (t3.put 0 (aj4.map (mEs (av9 L key (i:Int) (t.next+13))))).next (by rw[hn4]; omega);have hI4:=hIT.of1 (s':=t3.put 0 (aj4.map (mEs (av9 L key (i:Int) (t.next+13))))) (nid:=t.next+13) (by rw[hn4]; omega) (by omega) hpt'.1 hpt'.2
   have hmi4:(t3.put 0 (aj4.map (mEs (av9 L key (i:Int) (t.next+13))))).obj S2.next=some (.an7 ((left.eraseIdx k).map sE) (some (sE key))):=by
    have e:¬ S2.next=0:=by omega
    simp only[aa2,e,if_false];exact ib4 _ _ (by omega) hTm (fun _ e=>by cases e)
   have hb4:(t3.put 0 (aj4.map (mEs (av9 L key (i:Int) (t.next+13))))).obj s.next=some (.cells x.cs):=by
    have e:¬ s.next=0:=by omega
    simp only[aa2,e,if_false];exact ib4 _ _ (by omega) hTb (fun _ e=>by cases e)
   have hq:(av5 (av9 L key (i:Int) (t.next+13))).Perm (bn3 (dj9 (pk.take i)).bp3 (done++[key]) i):=by
    rw[ch8,dy6];exact bl4 (by show ((av5 L).map (·.1)).Nodup; unfold av5; rw[List.map_map]; exact hIT.m1.keys) hpL
   clear hpt hpt' ib1 ib3 ib4;generalize t3.put 0 (aj4.map (mEs (av9 L key (i:Int) (t.next+13))))=T4 at *;simp only[go_sem];refine ⟨by omega,by omega,hb4,done++[key],left.eraseIdx k,some (sE key),av9 L key (i:Int) (t.next+13),_,?_,by rw[List.length_append,hdl]; rfl,hmi4,by simpa only[Nat.add_assoc] using hI4,hq⟩;rw[List.append_assoc];refine List.Perm.trans (List.Perm.append_left done ?_) hpm;rw[← hkey];exact (dc4 left k hk).symm
 ·have hi':i=p.rows.length:=by omega
  subst hi';have c1:¬ (p.rows.length:Int)<p.rows.length:=by omega
  rw[← hpl,List.take_length] at hI p1 p2 p3;simp only[go_sem,c1];refine .cl7 (.cons ?_ (.cons (ad4 _ _) .nil))
  have hall:∀ (l:List aa4) (y:Index) (n:Nat),(idxFrom y n l).all=y.all++l:=by
   intro l
   induction l with
   | nil=>intro y n; simp[idxFrom]
   | cons a l ih=>intro y n; simp only[idxFrom,ih,ee6]; simp
  exact hI.frz (by unfold dj9; rw[hall]; rfl) p1 p2 p3
theorem al3 {f:Nat}{args:List IV}{v:IV}{σ:Store}{K:IV→Store→Prop}(hf:okF Tryz.prog f=true)(h:PC Tryz.prog EE f args v)(hk:K v σ):cr5 Tryz.prog EE none f args σ K :=
 aq9 hf (gc6 h) fun _ _ ⟨h1,h2⟩=>by subst h1; subst h2; exact ⟨Nat.le_refl _,hk⟩
set_option maxRecDepth 100000
theorem dr8 (s:Str):PC Tryz.prog EE 270 [.str s] (.func (.func 314) [] [.ac7 [.str s]]):=by
 refine aq8 hE fok270 (nZ rfl) (ai7 (.str _)) ?_;simp only[ic270,go_sem];have h1:∀ c∈[IV.str s],Bnd 0 c:=ai7 (.str _);have h2:∀ c∈[IV.ac7 [.str s]],Bnd 0 c:=ai7 (.ac7 _ h1);exact .keep _ (.func _ _ _ (fun c hc=>by cases hc) h2)
theorem bt5 (l:List Part):∀ e∈l.map Part.cs,e.length=2∧e.all IV.leaf=true:=fun e he=>by
 obtain ⟨x,_,rfl⟩:=List.mem_map.1 he; exact ⟨rfl,rfl⟩
theorem ey2:∀ (n:Nat) (l:Str),l.length≤n→(ap8 n l).length≤l.length:=by
 intro n
 induction n with
 | zero=>intro l h; simp[ap8]
 | succ n ih=>
  intro l h
  cases l with
  | nil=>simp[ap8]
  | cons b l=>
   simp only[List.length_cons] at h;simp only[ap8];split
   ·exact Nat.le_trans (ih l (by omega)) (by simp)
   ·split
    ·simp only[List.length_cons]; have:=ih l (by omega); omega
    ·simp only[List.length_cons]
     have hd:((b::l).dropWhile fun c=>ad8 c==ad8 b).length≤l.length:=by
      rw[List.dropWhile_cons,if_pos (by simp)]; exact ci1 l
     have:=ih _ (Nat.le_trans hd (by omega));omega
theorem cd2 (s:Str):(ae4 s).length≤s.length:=ey2 _ _ (Nat.le_refl _)
theorem dc5 (s:Str)(hs:s.length<2^30)(σ:Store):C Tryz.prog EE 202 [.str s] σ fun v t=>(∀ i,i<σ.next→t.obj i=σ.obj i)∧σ.next≤t.next∧Grow t v 2 ((ae4 s).map Part.cs)∧∀ id n,v=.slice id 0 n 2→σ.next≤id:=by
 refine C_f fok202 (nZ rfl) ?_;simp only[ic202,go_sem];refine aa5 fok270 (dr8 s) ?_;simp only[go_sem];have hvl:=cd2 s;refine bv6 (gi7 s (by omega)) (fun rest t=>∃ n v,n≤(ae4 s).length∧rest=((ae4 s).drop n).map evP∧(∀ i,i<σ.next→t.obj i=σ.obj i)∧t.obj σ.next=some (.cells [v])∧σ.next<t.next∧Grow t v 2 (((ae4 s).take n).map Part.cs)∧∀ id k,v=.slice id 0 k 2→σ.next+1<id) (fun _ _ _=>trivial) ?_ ?_ ?_ ?_ ?_
 ·rintro rest t t' ⟨n,v,h0,h1,h2,h3,h4,h5,h6⟩ hn ho;exact ⟨n,v,h0,h1,fun i hi=>by rw[ho i (by omega)]; exact h2 i hi,by rw[ho _ h4]; exact h3,by omega,h5.mono hn fun id _ hid=>ho id hid,h6⟩
 ·intro a ha;obtain ⟨p,_,rfl⟩:=List.mem_map.1 ha;rfl
 ·intro o;have e0:¬ σ.next=σ.next+1:=by omega
  refine ⟨0,.aa1,Nat.zero_le _,rfl,fun i hi=>?_,?_,by show σ.next<σ.next+1+1; omega,.inl ⟨rfl,by simp⟩,fun id k h=>by cases h⟩
  ·have e1:¬ i=σ.next:=by omega
   have e2:¬ i=σ.next+1:=by omega
   simp only[aa2,aa8,e1,e2,if_false]
  ·simp only[aa2,aa8,e0,if_false,if_true]
 ·rintro L pre a rest t hev ⟨n,v,h0,h1,h2,h3,h4,h5,h6⟩ hL hlt
  have hn:n<(ae4 s).length:=by
   rcases Nat.lt_or_ge n (ae4 s).length with h|h
   ·exact h
   ·rw[List.drop_of_length_le h] at h1; cases h1
  rw[List.drop_eq_getElem_cons hn,List.map_cons] at h1;obtain ⟨ha,hrest⟩:=List.cons.inj h1;subst ha;simp only[evP,Part.cs,aa8] at hL hlt ⊢;have e1:¬ σ.next+1=t.next:=by omega
  have e2:¬ σ.next=t.next:=by omega
  have e3:¬ σ.next=σ.next+1:=by omega
  have e4:¬ t.next=σ.next+1:=by omega
  have e5:¬ t.next=σ.next:=by omega
  simp only[go_sem,hL,e1,e2,e3,e4,h3];generalize hU:(((Store.put ⟨t.next+1,t.obj⟩ t.next (aj4.cells [IV.int .u8 0,IV.str []])).put t.next (aj4.cells [IV.int .u8 ↑(ae4 s)[n].kind,IV.str (ae4 s)[n].s])).put (σ.next+1) (L .busy none))=U
  have hUo:∀ i,i<t.next→i≠σ.next+1→U.obj i=t.obj i:=fun i hi hne=>by
   have:¬ i=t.next:=by omega
   rw[← hU]; simp only[aa2,hne,this,if_false]
  have hUL:U.obj (σ.next+1)=some (L .busy none):=by rw[← hU]; simp only[aa2,if_true]
  have hg:Grow ⟨t.next+1+1,U.obj⟩ v 2 (((ae4 s).take n).map Part.cs):=by
   refine h5.mono (by show t.next≤t.next+1+1; omega) fun id hv hid=>?_
   have:=h6 _ _ hv;exact hUo id hid (by omega)
  have hl0:(((ae4 s).take n).map Part.cs).length=n:=by rw[List.length_map,List.length_take]; omega
  have hap:=am2 (nid:=t.next+1) (e:=[IV.int .u8 ↑(ae4 s)[n].kind,IV.str (ae4 s)[n].s]) hg (bt5 _) ⟨rfl,rfl⟩ (by rw[hl0]; omega);have k1:=ag1 hg σ.next (.cells [v]) (by show U.obj _=_; rw[hUo _ h4 e3]; exact h3) (fun _ h=>by cases h)
  have k2:(ah2 v ⟨t.next+1+1,U.obj⟩).obj (σ.next+1)=some (L .busy none):=by
   cases hv:v<;>try exact hUL
   rename_i id o n' e;show (if σ.next+1=id then none else U.obj _)=_;rcases h5 with ⟨h,_⟩|⟨id',h,_,_⟩
   ·rw[h] at hv; cases hv
   ·rw[hv] at h; cases h;have:=h6 _ _ hv;rw[if_neg (by omega)]; exact hUL
  have k3:∀ i,i<σ.next→(ah2 v ⟨t.next+1+1,U.obj⟩).obj i=σ.obj i:=fun i hi=>by
   have e7:U.obj i=σ.obj i:=by rw[hUo i (by omega) (by omega)]; exact h2 i hi
   cases hv:v<;>try exact e7
   rename_i id o n' e;show (if i=id then none else U.obj _)=_;rcases h5 with ⟨h,_⟩|⟨id',h,_,_⟩
   ·rw[h] at hv; cases hv
   ·rw[hv] at h; cases h;have:=h6 _ _ hv;rw[if_neg (by omega)]; exact e7
  have kn:=ae1 (σ:=⟨t.next+1+1,U.obj⟩) v;rw[hl0] at hap;have e6:¬ σ.next=t.next+1:=by omega
  have e7:¬ σ.next+1=t.next+1:=by omega
  have e8:¬ σ.next+1=σ.next:=by omega
  simp only[go_sem,hap,e6,k1,e7,e8,k2];refine cr3 (by rw[aa8,aa8,aa8,kn]; show t.next≤t.next+1+1; omega) (by simp only[aa2,if_true]) ?_;refine ⟨n+1,.slice (t.next+1) 0 (n+1) 2,hn,hrest,fun i hi=>?_,?_,?_,?_,fun id k h=>?_⟩
  ·have g1:¬ i=σ.next+1:=by omega
   have g2:¬ i=σ.next:=by omega
   have g3:¬ i=t.next+1:=by omega
   simp only[aa2,g1,g2,g3,if_false]; exact k3 i hi
  ·simp only[aa2,e3,if_false,if_true]
  ·simp only[aa8,kn]; omega
  ·have htk:(ae4 s).take (n+1)=(ae4 s).take n++[(ae4 s)[n]]:=by rw[List.take_succ_eq_append_getElem hn]
   rw[htk,List.map_append];refine .inr ⟨t.next+1,by simp; omega,?_,by simp only[aa8,kn]; omega⟩;have g1:¬ t.next+1=σ.next+1:=by omega
   have g2:¬ t.next+1=σ.next:=by omega
   simp only[aa2,g1,g2,if_false,if_true]; rfl
  ·cases h; omega
 ·rintro t o ⟨n,v,h0,h1,h2,h3,h4,h5,h6⟩ hlt ho
  have hn:n=(ae4 s).length:=by
   rcases Nat.lt_or_ge n (ae4 s).length with h|h
   ·rw[List.drop_eq_getElem_cons h] at h1; cases h1
   ·omega
  subst hn;have e3:¬ σ.next=σ.next+1:=by omega
  simp only[aa8] at hlt ho ⊢;simp only[go_sem,e3,h3];rw[List.take_length] at h5;refine ⟨fun i hi=>?_,by omega,h5.mono (Nat.le_refl _) fun id hv hid=>?_,fun id k h=>?_⟩
  ·have g1:¬ i=σ.next+1:=by omega
   rw[if_neg g1]; exact h2 i hi
  ·have:=h6 _ _ hv;have g1:¬ id=σ.next+1:=by omega
   show (if id=σ.next+1 then none else t.obj id)=_;rw[if_neg g1]
  ·have:=h6 _ _ h; omega
theorem gq3 {p:UInt8→Bool}(l:Str):(l.takeWhile p).length≤l.length:=(List.takeWhile_sublist _).length_le
theorem gj3:∀ (n:Nat) (l:Str),l.length≤n→∀ p∈ap8 n l,p.s.length≤l.length:=by
 intro n
 induction n with
 | zero=>intro l h p hp; simp[ap8] at hp
 | succ n ih=>
  intro l h p hp
  cases l with
  | nil=>simp[ap8] at hp
  | cons b l=>
   simp only[List.length_cons] at h;simp only[ap8] at hp;split at hp
   ·exact Nat.le_trans (ih l (by omega) p hp) (by simp)
   ·split at hp
    ·rcases List.mem_cons.1 hp with rfl|hp
     ·simp
     ·exact Nat.le_trans (ih l (by omega) p hp) (by simp)
    ·have hd:((b::l).dropWhile fun c=>ad8 c==ad8 b).length≤l.length:=by
      rw[List.dropWhile_cons,if_pos (by simp)]; exact ci1 l
     rcases List.mem_cons.1 hp with rfl|hp
     ·simp only;split
      ·exact Nat.le_trans (ci1 _) (gq3 _)
      ·exact gq3 _
     ·exact Nat.le_trans (ih _ (Nat.le_trans hd (by omega)) p hp) (Nat.le_trans hd (by simp))
theorem gj4 (s:Str):∀ p∈ae4 s,p.s.length≤s.length:=gj3 _ _ (Nat.le_refl _)
def in5:Part:=⟨2,[]⟩
abbrev vL (s:Str):List Part:=ae4 s++[in5]
theorem iq9 (s:Str):∀ p∈vL s,p.s.length≤s.length:=fun p hp=>by
 rcases List.mem_append.1 hp with h|h
 ·exact gj4 s p h
 ·simp[in5] at h; subst h; exact Nat.zero_le _
theorem di7 {xs ys:List Part}{i:Nat}(h1:i<xs.length)(h2:i<ys.length):ak4 (xs.drop i) (ys.drop i)=if ao2 xs[i] ys[i]≠0 then ao2 xs[i] ys[i] else ak4 (xs.drop (i+1)) (ys.drop (i+1)):=by
 rw[List.drop_eq_getElem_cons h1,List.drop_eq_getElem_cons h2,ak4]
theorem dr9 {xs ys:List Part}{i:Nat}(h:xs.length≤i∨ys.length≤i):ak4 (xs.drop i) (ys.drop i)=0:=by
 rcases h with h|h
 ·rw[List.drop_of_length_le h,ak4]; intros; contradiction
 ·rw[List.drop_of_length_le h]; cases xs.drop i<;>rw[ak4]<;>intros<;>contradiction
theorem hc7 (l:List Part)(i:Nat)(h:i<l.length):(l.map Part.cs).getD i []=Part.cs l[i]:=by simp[List.getD_eq_getElem?_getD,h]
theorem fr4 {σ:Store}{id i:Nat}{l:List Part}(ho:σ.obj id=some (.row (l.map Part.cs).flatten))(h:i<l.length):cr6 (some 2) (i*2) (σ.obj id)=some (.agg (Part.cs l[i])):=by
 have hall:∀ e∈l.map Part.cs,e.length=2:=fun e he=>(bt5 l e he).1
 have hlen:=ao8 hall;rw[List.length_map] at hlen;have hp:=au9 hall i (by rw[List.length_map]; exact h);rw[ho];simp only[cr6];have h1:i*2+2≤l.length*2:=by omega
 rw[if_pos (by rw[List.length_drop,hlen]; omega),hp,hc7 l i h]
theorem bt6 (a b:Str)(ha:a.length<2^30)(hb:b.length<2^30):PC Tryz.prog EE 121 [.str a,.str b] (.int .i64 (ax2 a b)):=by
 refine aq8 hE fok121 (nZ rfl) (ap3 (.str _) (.str _)) ?_;have la:=cd2 a;have lb:=cd2 b;simp only[ic121,go_sem];refine ad1 fok202 (dc5 a ha _) ?_;rintro v1 s1 ⟨-,n1,g1,-⟩;refine ⟨n1,?_⟩;have n1:2≤s1.next:=n1;have ap1:=am2 (nid:=0) (e:=[IV.int .u8 2,IV.str []]) g1 (bt5 _) ⟨rfl,rfl⟩ (by rw[List.length_map]; omega);simp only[go_sem,ap1];have hl1:∀ e∈(vL a).map Part.cs,e.length=2:=fun e he=>(bt5 _ e he).1
 have r1:((ae4 a).map Part.cs++[[IV.int .u8 2,IV.str []]]).flatten=((vL a).map Part.cs).flatten:=by rw[List.map_append]; rfl
 have r2:((ae4 b).map Part.cs++[[IV.int .u8 2,IV.str []]]).flatten=((vL b).map Part.cs).flatten:=by rw[List.map_append]; rfl
 rw[r1];refine ad1 fok202 (dc5 b hb _) ?_;rintro v2 s2 ⟨o2,n2,g2,h2⟩;refine ⟨n2,?_⟩;have n2:2≤s2.next:=by rw[aa8,ae1] at n2; omega
 have ap2:=am2 (nid:=1) (e:=[IV.int .u8 2,IV.str []]) g2 (bt5 _) ⟨rfl,rfl⟩ (by rw[List.length_map]; omega)
 have q0:s2.obj 0=some (.row ((vL a).map Part.cs).flatten):=by
  rw[o2 0 (by rw[aa8,ae1]; omega)];simp only[aa2,if_true]
 have q1:(ah2 v2 s2).obj 0=some (.row ((vL a).map Part.cs).flatten):=by
  rcases g2 with ⟨rfl,_⟩|⟨id,rfl,_,_⟩
  ·exact q0
  ·have:=h2 _ _ rfl;rw[aa8,ae1] at this;show (if 0=id then none else s2.obj 0)=_;rw[if_neg (by omega)]; exact q0
 rw[r2] at ap2;simp only[go_sem,ap2];generalize hS:(ah2 v2 s2).put 1 (.row ((vL b).map Part.cs).flatten)=S;have k0:S.obj 0=some (.row ((vL a).map Part.cs).flatten):=by rw[← hS]; exact q1
 have k1:S.obj 1=some (.row ((vL b).map Part.cs).flatten):=by rw[← hS]; simp only[aa2,if_true]
 clear hS ap1 ap2
 have hmin:(if ((ae4 b).length+1:Nat)<(((ae4 a).length+1:Nat):Int) then (((ae4 b).length+1:Nat):Int) else (((ae4 a).length+1:Nat):Int))=((min (vL a).length (vL b).length:Nat):Int):=by
  simp only[List.length_append,List.length_cons,List.length_nil];split<;>omega
 rw[hmin];have hA:(ae4 a).length+1=(vL a).length:=by simp
 have hB:(ae4 b).length+1=(vL b).length:=by simp
 rw[hA,hB];have hNa:min (vL a).length (vL b).length≤(vL a).length:=Nat.min_le_left _ _;have hNb:min (vL a).length (vL b).length≤(vL b).length:=Nat.min_le_right _ _;have hN:(vL a).length≤min (vL a).length (vL b).length∨(vL b).length≤min (vL a).length (vL b).length:=by omega
 have hsm:min (vL a).length (vL b).length<2^40:=by rw[← hA] at hNa; omega
 generalize min (vL a).length (vL b).length=N at *;refine ab6 noT (fun i fr s=>fr=[(5,.slice 0 0 (vL a).length 2),(6,.slice 1 0 (vL b).length 2),(23,.int .i64 N),(24,.int .i64 i)]∧s.obj=S.obj∧ax2 a b=ak4 ((vL a).drop i) ((vL b).drop i)) N ⟨rfl,rfl,rfl⟩ ?_;rintro i fr s hle ⟨rfl,hs,hI⟩;by_cases hlt:i<N
 ·have c1:(i:Int)<N:=by omega
  have c2:(0:Int)≤i:=by omega
  have ia:i<(vL a).length:=by omega
  have ib:i<(vL b).length:=by omega
  have c3:(i:Int)<(vL a).length:=by omega
  have c4:(i:Int)<(vL b).length:=by omega
  have w1:=ad6 (i:=i) (by omega);have l0:=fr4 k0 ia;have l1:=fr4 k1 ib;rw[di7 ia ib] at hI;have hp:=ex9 (vL a)[i] (vL b)[i] (by have:=iq9 a _ (List.getElem_mem ia); omega) (by have:=iq9 b _ (List.getElem_mem ib); omega);generalize (vL a)[i]=x at *;generalize (vL b)[i]=y at *;simp only[go_sem,c1,c2,c3,c4,hs,l0,l1];refine aa5 fok203 hp ?_;by_cases hz:ao2 x y=0
  ·simp only[go_sem,hz,w1];rw[hz,if_neg (by simp)] at hI;exact ⟨hlt,hI⟩
  ·rw[if_pos hz] at hI;simp only[go_sem,hz];rw[hI]; exact ad4 _ _
 ·have hi':i=N:=by omega
  subst hi';have c1:¬ (i:Int)<i:=by omega
  rw[dr9 hN] at hI;simp only[go_sem,c1];rw[hI]; exact ad4 _ _
theorem fr5 (a b:EVR):PC Tryz.prog EE 119 [.ac7 a.cs,.ac7 b.cs] (.int .i64 (bd3 a.av4 b.av4)):=by
 refine ar9 fok119 (nZ rfl) fun σ=>?_
 simp only[ic119,go_sem,EVR.cs];refine aa5 fok69 (di3 _ _) ?_;simp only[go_sem,and_self]
theorem fr6 (a b:EVR)(h1:a.ver.length<2^30)(h2:b.ver.length<2^30):PC Tryz.prog EE 120 [.ac7 a.cs,.ac7 b.cs] (.int .i64 (ax2 a.ver b.ver)):=by
 refine ar9 fok120 (nZ rfl) fun σ=>?_
 simp only[ic120,go_sem,EVR.cs];refine aa5 fok121 (bt6 _ _ h1 h2) ?_;simp only[go_sem,and_self]
theorem fr7 (a b:EVR)(h1:a.rel.length<2^30)(h2:b.rel.length<2^30):PC Tryz.prog EE 122 [.ac7 a.cs,.ac7 b.cs] (.int .i64 (if a.rel=[]∨b.rel=[] then 0 else ax2 a.rel b.rel)):=by
 refine ar9 fok122 (nZ rfl) fun σ=>?_
 by_cases e1:a.rel=[]
 ·simp only[ic122,go_sem,EVR.cs,e1,true_or,and_self]
 ·by_cases e2:b.rel=[]
  ·simp only[ic122,go_sem,EVR.cs,e1,e2,or_true,and_self]
  ·simp only[ic122,go_sem,EVR.cs,e1,e2,or_self];refine aa5 fok121 (bt6 _ _ h1 h2) ?_;simp only[go_sem,and_self]
def fnC (f:Nat×List IV):List IV:=[.func (.func f.1) [] f.2]
theorem ea8 (fs:List (Nat×List IV))(vals:List Int)(hl:fs.length=vals.length)(hn:fs.length<2^40)(hb:∀ f∈fs,∀ c∈f.2,Bnd 0 c)
  (h:∀ i (h1:i<fs.length) (h2:i<vals.length),okF Tryz.prog fs[i].1=true∧PC Tryz.prog EE fs[i].1 fs[i].2 (.int .i64 vals[i])):PC Tryz.prog EE 118 [.aa3 (fs.map fnC)] (.int .i64 (orM vals)):=by
 refine aq8 hE fok118 (nZ rfl) (ai7 (.aa3 _ fun e he c hc=>?_)) ?_
 ·obtain ⟨f,hf,rfl⟩:=List.mem_map.1 he
  cases hc with
  | head=>exact .func _ _ _ (fun c hc=>by cases hc) (hb f hf)
  | tail _ h=>cases h
 simp only[ic118,go_sem];refine ab6 noT (fun i fr s=>fr=[(6,.aa3 (fs.map fnC)),(7,.int .i64 fs.length),(8,.int .i64 i)]∧orM vals=orM (vals.drop i)) fs.length ⟨rfl,rfl⟩ ?_;rintro i fr s hle ⟨rfl,hI⟩;by_cases hlt:i<fs.length
 ·obtain ⟨f,hf,hget0,hdr,hget,htk⟩:=ag5 fs i hlt;have hlt2:i<vals.length:=by omega
  have c1:(i:Int)<fs.length:=by omega
  have c2:(0:Int)≤i:=by omega
  have w1:=ad6 (i:=i) (by omega);obtain ⟨k1,k2⟩:=h i hlt hlt2
  have hfi:fs[i]=f:=by
   have:=List.getElem?_eq_getElem hlt; rw[this] at hget0; exact Option.some.inj hget0
  rw[hfi] at k1 k2;rw[List.drop_eq_getElem_cons hlt2,orM] at hI;generalize vals[i]=x at *;simp only[go_sem,c1,c2,hget,fnC];refine al3 k1 k2 ?_;by_cases hx:x=0
  ·subst hx;simp only[go_sem,w1];exact ⟨hlt,by simpa using hI⟩
  ·rw[if_neg hx] at hI;simp only[go_sem,hx];rw[hI]; exact ad4 _ _
 ·have hi':i=fs.length:=by omega
  subst hi';have c1:¬ (fs.length:Int)<fs.length:=by omega
  rw[hl,List.drop_length,orM] at hI;simp only[go_sem,c1];rw[hI]; exact ad4 _ _
theorem eg8 (a:EVR):Bnd 0 (.ac7 a.cs):=.ac7 _ fun c hc=>by
 simp only[EVR.cs,List.mem_cons,List.not_mem_nil,or_false] at hc;rcases hc with rfl|rfl|rfl
 ·exact .int _ _
 ·exact .str _
 ·exact .str _
theorem di8 (a:EVR):Bnd 0 (.agg a.cs):=.agg _ fun c hc=>by
 simp only[EVR.cs,List.mem_cons,List.not_mem_nil,or_false] at hc;rcases hc with rfl|rfl|rfl
 ·exact .int _ _
 ·exact .str _
 ·exact .str _
def EVR.small (e:EVR):Prop:=e.ver.length<2^30∧e.rel.length<2^30
theorem di9 (a b:EVR)(ha:EVR.small a)(hb:EVR.small b):PC Tryz.prog EE 49 [.agg a.cs,.agg b.cs] (.int .i64 (br8 a b)):=by
 refine aq8 hE fok49 (nZ rfl) (ap3 (di8 a) (di8 b)) ?_
 have hv:br8 a b=orM [bd3 a.av4 b.av4,ax2 a.ver b.ver,if a.rel=[]∨b.rel=[] then 0 else ax2 a.rel b.rel]:=by
  rw[if6]; unfold br8;split
  ·rfl
  ·split
   ·rfl
   ·rfl
 have hf:=ea8 [(119,[.ac7 a.cs,.ac7 b.cs]),(120,[.ac7 a.cs,.ac7 b.cs]),(122,[.ac7 a.cs,.ac7 b.cs])] [bd3 a.av4 b.av4,ax2 a.ver b.ver,if a.rel=[]∨b.rel=[] then 0 else ax2 a.rel b.rel] rfl (by simp)
  (fun f hf c hc=>by
   simp only[List.mem_cons,List.not_mem_nil,or_false] at hf;rcases hf with rfl|rfl|rfl<;>exact ap3 (eg8 a) (eg8 b) c hc)
  (fun i h1 h2=>by
   match i,h1 with
   | 0,_=>exact ⟨fok119.1,fr5 a b⟩
   | 1,_=>exact ⟨fok120.1,fr6 a b ha.1 hb.1⟩
   | 2,_=>exact ⟨fok122.1,fr7 a b ha.2 hb.2⟩
   | i+3,h=>simp at h; omega)
 rw[← hv] at hf;have ea:(IV.agg a.cs).cs.all IV.leaf=true:=rfl;have eb:(IV.agg b.cs).cs.all IV.leaf=true:=rfl;simp only[EVR.cs] at hf ⊢;simp only[ic49,go_sem];refine aa5 fok118 hf ?_;simp only[go_sem];exact ad4 _ _
end Go.Id.Tryz
