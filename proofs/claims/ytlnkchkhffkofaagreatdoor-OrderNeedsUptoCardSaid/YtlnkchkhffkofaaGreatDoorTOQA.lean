/- Versions' parts,told. Conditions: sizes that fit. -/
import Derived.Test.YtlnkchkhffkofaaGreatDoorTOQB
import Derived.Test.YtlnkchkhffkofaaGreatDoorMv
import Derived.Test.YtlnkchkhffkofaaGreatDoorFwQ
import Derived.Test.YtlnkchkhffkofaaGreatDoorMb
set_option linter.all false
namespace Go.Id.Tryz
open Go Go.Id Go.Proofs Go.Id.Md
set_option maxRecDepth 100000
def evP (p:Part):List IV:=[.agg (Part.cs p)]
theorem gm6 (s:Str)(hs:s.length<2^62):cn1 Tryz.prog EE (.func (.func 233) [] [.ac5 [.str s]]) ((ae6 s).map evP) (fun _=>True):=by
 intro yid I S σ hown hstab hy hi;refine ⟨fok233.1,?_⟩;refine C_f fok233 (nZ rfl) ?_;simp only[ic233,go_sem];refine ab7 noT (fun j fr t=>∃ (at_:Nat) (tl:Frm),fr=(0,.yield yid)::(1,.ac5 [.str s])::(3,.int .i64 at_)::tl∧σ.next≤t.next∧j≤at_∧at_≤s.length∧I ((ae6 (s.drop at_)).map evP) t) s.length ⟨0,[],rfl,Nat.le_refl _,Nat.le_refl _,Nat.zero_le _,hi⟩ ?_;rintro j fr t hle ⟨a,tl,rfl,hn,hja,has,hI⟩;by_cases hlt:a<s.length
 ·obtain ⟨b,hb,hget,hdr,_,htk⟩:=ah3 s a hlt;have c1:(a:Int)<s.length:=by omega
  have c2:(0:Int)≤a:=by omega
  have w1:=ad5 (i:=a) (by omega);have hk:(4:Int)≤(ae1 b:Int)↔¬ ae1 b<4:=by omega
  simp only[go_sem,c1,bx2,c2,Int.toNat_natCast,hget,Option.map];refine aa7 (ed6 b) ?_;simp only[go_sem,w1];generalize hU:Store.put (Store.put _ t.next _) t.next _=U;have hUn:U.next=t.next+1:=by rw[← hU]; rfl
  have hUb:U.obj t.next=some (.cells [.int .u8 (ae1 b),.str []]):=by rw[← hU]; simp only[aa2,if_true]
  have hUI:∀ i,i<t.next→U.obj i=t.obj i:=fun i hi=>by
   have e:¬ i=t.next:=by omega
   rw[← hU]; simp only[aa2,e,if_false]
  clear hU;have hUe:(⟨t.next+1,U.obj⟩:Store)=U:=by rw[← hUn]
  rw[hUe];have hdl:(s.drop (a+1)).length=s.length-(a+1):=List.length_drop;have hrl:=ie7 b (s.drop (a+1));generalize hR:(if ae1 b<4 then 0 else fq1 b (s.drop (a+1)))=R
  have hRl:a+1+R≤s.length:=by
   rw[← hR]; split<;>omega
  refine ab7 noT (fun m fr u=>fr=[(0,.yield yid),(1,.ac5 [.str s]),(3,.int .i64 ((a+1+m:Nat):Int)),(4,.ptr t.next 0),(5,.int .i64 a)]∧t.next+1≤u.next∧u.obj t.next=some (.cells [.int .u8 (ae1 b),.str []])∧∀ i,i<t.next→u.obj i=t.obj i) R ⟨rfl,by omega,hUb,hUI⟩ ?_;clear hUe hUn hUb hUI;rintro m fr u hmR ⟨rfl,hUn,hUb,hUI⟩;have w2:=ad5 (i:=a+1+m) (by omega);have d2:(0:Int)≤((a+1+m:Nat):Int):=by omega
  by_cases hm:m<R
  ·have h4:¬ ae1 b<4:=fun h=>by rw[if_pos h] at hR; omega
   rw[if_neg h4] at hR;obtain ⟨c,hc1,hc2⟩:=ie5 (b:=b) (l:=s.drop (a+1)) (m:=m) (by omega);have hc:s[a+1+m]? = some c:=by rw[← hc1,List.getElem?_drop]
   have k1:(4:Int)≤ae1 b:=by omega
   have k2:((a+1+m:Nat):Int)<s.length:=by omega
   have k3:=ed6 c;rw[hc2] at k3;simp only[go_sem,hUb,k1,k2,bx2,d2,Int.toNat_natCast,hc,Option.map];refine aa7 k3 ?_;simp only[go_sem,hUb,w2];exact ⟨hm,rfl,by omega,hUI⟩
  ·have hmR:m=R:=by omega
   subst hmR;by_cases h4:ae1 b<4
   ·have k1:¬ (4:Int)≤ae1 b:=by omega
    rw[if_pos h4] at hR;subst hR;have k5:¬ ((ae1 b:Nat):Int)=5:=by omega
    have hUI2:I ((ae6 (s.drop a)).map evP) ⟨u.next+18,u.obj⟩:=hstab _ _ _ hI (by show t.next≤u.next+18; omega) hUI;rw[hdr] at hUI2;by_cases h0:ae1 b=0
    ·have k0:((ae1 b:Nat):Int)=0:=by omega
     rw[gj6 h0] at hUI2;have k6:¬ (0:Int)=5:=by omega
     simp only[go_sem,hUb,k1,k5,k0,k6];exact ⟨by omega,a+1,_,rfl,by omega,by omega,by omega,hUI2⟩
    ·have k0:¬ ((ae1 b:Nat):Int)=0:=by omega
     rw[gj7 h0 h4,List.map_cons] at hUI2;simp only[go_sem,hUb,k1,k5,k0];refine bx4 hy hUI2 (fun s1 n1 i1=>?_) (fun s1 n1 h1=>?_)
     ·have n1':u.next+18≤s1.next:=n1;simp only[go_sem];exact ⟨by omega,a+1,_,rfl,by omega,by omega,by omega,i1⟩
     ·have n1':u.next+18≤s1.next:=n1;simp only[go_sem];exact ⟨by omega,.inr h1⟩
   ·have k1:(4:Int)≤ae1 b:=by omega
    rw[if_neg h4] at hR
    have key:∀ s1:Store,t.next≤s1.next→(∀ i,i<t.next→s1.obj i=t.obj i)→I (evP ⟨ae1 b,if ae1 b=5 then ((s.drop a).take (m+1)).dropWhile (· == 48) else (s.drop a).take (m+1)⟩::(ae6 (s.drop (a+1+m))).map evP) s1:=fun s1 h1 h2=>by
     have:=hstab _ _ _ hI h1 h2;rw[hdr,gj8 h4,List.map_cons,hR,← hdr,List.drop_drop] at this;exact this
    have hss:cr5 (some (.int .i64 a)) (some (.int .i64 ((a+1+m:Nat):Int))) (.str s)=some (.str ((s.drop a).take (m+1))):=by
     have e1:(0:Int)≤a:=by omega
     have e2:a≤a+1+m∧a+1+m≤s.length:=by omega
     simp only[cr5,cr4,de7,e1,d2,if_true,Int.toNat_natCast,e2,and_self];rw[List.drop_take];congr 3; omega
    have k0:¬ ((ae1 b:Nat):Int)=0:=by omega
    have ht:=gn7 ((s.drop a).take (m+1)) (by rw[List.length_take,List.length_drop]; omega);by_cases hend:a+1+m<s.length
    ·have k2:((a+1+m:Nat):Int)<s.length:=by omega
     have hc:s[a+1+m]? = some s[a+1+m]:=List.getElem?_eq_getElem hend;have hne:ae1 s[a+1+m]≠ae1 b:=ie6 (l:=s.drop (a+1)) (by rw[hR,List.getElem?_drop]; exact hc);have k7:¬ ((ae1 s[a+1+m]:Nat):Int)=ae1 b:=by omega
     simp only[go_sem,hUb,k1,k2,bx2,d2,Int.toNat_natCast,hc,Option.map];refine aa7 (ed6 _) ?_;simp only[go_sem,hUb,k1,k7,hss];by_cases h5:ae1 b=5
     ·have k5:((ae1 b:Nat):Int)=5:=by omega
      have key5:∀ s1:Store,t.next≤s1.next→(∀ i,i<t.next→s1.obj i=t.obj i)→I ([IV.agg [.int .u8 5,.str (((s.drop a).take (m+1)).dropWhile (· == 48))]]::(ae6 (s.drop (a+1+m))).map evP) s1:=fun s1 h1 h2=>by
       have:=key s1 h1 h2;rw[if_pos h5] at this;simp only[evP,Part.cs,k5] at this;exact this
      have k6:¬ (5:Int)=0:=by omega
      simp only[go_sem,hUb,k5];refine aa5 fok235 ht ?_;simp only[go_sem,hUb,k5,k6];refine bx4 hy (key5 _ (by simp only[aa8]; omega) fun i hi=>?_) (fun s1 n1 i1=>?_) (fun s1 n1 h1=>?_)
      ·have:¬ i=t.next:=by omega
       simp only[aa2,this,if_false]; exact hUI i hi
      ·have n1':u.next+18≤s1.next:=n1;simp only[go_sem];exact ⟨by omega,a+1+m,_,rfl,by omega,by omega,by omega,i1⟩
      ·have n1':u.next+18≤s1.next:=n1;simp only[go_sem];exact ⟨by omega,.inr h1⟩
     ·have k5:¬ ((ae1 b:Nat):Int)=5:=by omega
      have key5:∀ s1:Store,t.next≤s1.next→(∀ i,i<t.next→s1.obj i=t.obj i)→I ([IV.agg [.int .u8 (ae1 b),.str ((s.drop a).take (m+1))]]::(ae6 (s.drop (a+1+m))).map evP) s1:=fun s1 h1 h2=>by
       have:=key s1 h1 h2;rw[if_neg h5] at this;exact this
      simp only[go_sem,hUb,k5,k0];refine bx4 hy (key5 _ (by simp only[aa8]; omega) fun i hi=>?_) (fun s1 n1 i1=>?_) (fun s1 n1 h1=>?_)
      ·have:¬ i=t.next:=by omega
       simp only[aa2,this,if_false]; exact hUI i hi
      ·have n1':u.next+18≤s1.next:=n1;simp only[go_sem];exact ⟨by omega,a+1+m,_,rfl,by omega,by omega,by omega,i1⟩
      ·have n1':u.next+18≤s1.next:=n1;simp only[go_sem];exact ⟨by omega,.inr h1⟩
    ·have k2:¬ ((a+1+m:Nat):Int)<s.length:=by omega
     simp only[go_sem,hUb,k1,k2,hss];by_cases h5:ae1 b=5
     ·have k5:((ae1 b:Nat):Int)=5:=by omega
      have key5:∀ s1:Store,t.next≤s1.next→(∀ i,i<t.next→s1.obj i=t.obj i)→I ([IV.agg [.int .u8 5,.str (((s.drop a).take (m+1)).dropWhile (· == 48))]]::(ae6 (s.drop (a+1+m))).map evP) s1:=fun s1 h1 h2=>by
       have:=key s1 h1 h2;rw[if_pos h5] at this;simp only[evP,Part.cs,k5] at this;exact this
      have k6:¬ (5:Int)=0:=by omega
      simp only[go_sem,hUb,k5];refine aa5 fok235 ht ?_;simp only[go_sem,hUb,k5,k6];refine bx4 hy (key5 _ (by simp only[aa8]; omega) fun i hi=>?_) (fun s1 n1 i1=>?_) (fun s1 n1 h1=>?_)
      ·have:¬ i=t.next:=by omega
       simp only[aa2,this,if_false]; exact hUI i hi
      ·have n1':u.next+18≤s1.next:=n1;simp only[go_sem];exact ⟨by omega,a+1+m,_,rfl,by omega,by omega,by omega,i1⟩
      ·have n1':u.next+18≤s1.next:=n1;simp only[go_sem];exact ⟨by omega,.inr h1⟩
     ·have k5:¬ ((ae1 b:Nat):Int)=5:=by omega
      have key5:∀ s1:Store,t.next≤s1.next→(∀ i,i<t.next→s1.obj i=t.obj i)→I ([IV.agg [.int .u8 (ae1 b),.str ((s.drop a).take (m+1))]]::(ae6 (s.drop (a+1+m))).map evP) s1:=fun s1 h1 h2=>by
       have:=key s1 h1 h2;rw[if_neg h5] at this;exact this
      simp only[go_sem,hUb,k5,k0];refine bx4 hy (key5 _ (by simp only[aa8]; omega) fun i hi=>?_) (fun s1 n1 i1=>?_) (fun s1 n1 h1=>?_)
      ·have:¬ i=t.next:=by omega
       simp only[aa2,this,if_false]; exact hUI i hi
      ·have n1':u.next+18≤s1.next:=n1;simp only[go_sem];exact ⟨by omega,a+1+m,_,rfl,by omega,by omega,by omega,i1⟩
      ·have n1':u.next+18≤s1.next:=n1;simp only[go_sem];exact ⟨by omega,.inr h1⟩
 ·have ha:a=s.length:=by omega
  subst ha;have c1:¬ (s.length:Int)<s.length:=by omega
  rw[List.drop_length] at hI;simp only[go_sem,c1];exact ⟨hn,.inl hI⟩
def idxOf (n:Int):List Int→Nat→Int
 | [],_=>-1
 | a::l,i=>if n=a then Int.ofNat i else idxOf n l (i+1)
theorem dd8 (n:Int):∀ (l:List Int) (i:Nat),(0≤idxOf n l i↔n∈l):=by
 intro l
 induction l with
 | nil=>intro i; simp[idxOf]
 | cons a l ih=>
  intro i;simp only[idxOf];split
  ·rename_i e; subst e; simp
  ·rename_i e; rw[ih]; simp[e]
theorem ed2 (l:List Int)(n:Int)(hl:l.length<2^40):PC Tryz.prog EE 180 [.aa3 (l.map Md.ag9),.int .i64 n] (.int .i64 (idxOf n l 0)):=by
 refine as8 fok180 (nZ rfl) fun σ=>?_
 simp only[ic180,go_sem];refine ab7 noT (fun i fr s=>fr=[(0,.aa3 (l.map Md.ag9)),(1,.int .i64 n),(7,.int .i64 l.length),(8,.int .i64 i)]∧s=σ∧idxOf n l 0=idxOf n (l.drop i) i) l.length ⟨rfl,rfl,rfl⟩ ?_;rintro i fr s hle ⟨rfl,rfl,hI⟩;by_cases hlt:i<l.length
 ·obtain ⟨x,hx,_,hdr,hget,htk⟩:=ah3 l i hlt;have c1:(i:Int)<l.length:=by omega
  have c2:(0:Int)≤i:=by omega
  have w1:=ad5 (i:=i) (by omega);rw[hdr,idxOf] at hI;by_cases e:n=x
  ·rw[if_pos e] at hI;subst e;have hI:idxOf n l 0=(i:Int):=hI;simp only[go_sem,c1,c2,hget,Md.ag9,hI,and_self]
  ·rw[if_neg e] at hI;simp only[go_sem,c1,c2,hget,Md.ag9,e,w1];exact ⟨hlt,hI⟩
 ·have hi':i=l.length:=by omega
  subst hi';have c1:¬ (l.length:Int)<l.length:=by omega
  rw[List.drop_length,idxOf] at hI;simp only[go_sem,c1,hI,and_self]
theorem fu4 (l:List Int)(n:Int)(hl:l.length<2^40):PC Tryz.prog EE 111 [.aa3 (l.map Md.ag9),.int .i64 n] (.bool (decide (n∈l))):=by
 refine as8 fok111 (nZ rfl) fun σ=>?_
 simp only[ic111,go_sem];refine aa5 fok180 (ed2 l n hl) ?_
 have e:decide (0≤idxOf n l 0)=decide (n∈l):=by
  by_cases h:n∈l
  ·simp[h,(dd8 n l 0).2 h]
  ·rw[decide_eq_false h,decide_eq_false (fun x=>h ((dd8 n l 0).1 x))]
 simp only[go_sem,e,and_self]
/-! ### A set of names -/
def sE (k:Str):IV×IV:=(.str k,.agg [])
theorem gm7 (l:List Str)(k:Str):cl7 2 (.str k) (.agg []) (l.map sE)=some ((at1 l k).map sE):=by
 have go:∀ l:List Str,cl7 2 (.str k) (.agg []) (l.map sE)=some ((if k∈l then l else l++[k]).map sE):=by
  intro l
  induction l with
  | nil=>rfl
  | cons a l ih=>
   simp only[List.map_cons,sE,cl7,fm6] at ih ⊢;by_cases h:k=a
   ·subst h; simp[sE]
   ·simp only[h,decide_false,List.mem_cons,false_or] at ih ⊢;rw[ih];split<;>simp[sE]
 exact go l
theorem dk8 {σ:Store}{mid:Nat}{l:List Str}(h:σ.obj mid=some (.map (l.map sE)))(k:Str):ak4 σ 2 (.map mid) (.str k) (.agg [])=some (σ.put mid (.map ((at1 l k).map sE))):=by
 simp only[ak4,h,gm7,Option.map]
theorem fu5 {l:List Str}(h:l.Nodup)(k:Str):(at1 l k).Nodup:=by
 unfold at1;split
 ·exact h
 ·rename_i hk;refine List.nodup_append.2 ⟨h,by simp,fun a ha b hb e=>?_⟩;cases List.mem_singleton.1 hb;exact hk (e▸ha)
theorem cf1:∀ (ks:List Str) {l:List Str},l.Nodup→(ks.foldl at1 l).Nodup
 | [],_,h=>h
 | k::ks,_,h=>cf1 ks (fu5 h k)
theorem hk7 (p:aa4):(dm8 p).Nodup:=cf1 _ (cf1 _ (by simp))
theorem fc9 (p:aa4)(hp:p.Fit):PC Tryz.prog EE 172 [.agg p.cs] (.al2 ((dm8 p).map sE)):=by
 have f1:=hp.bf1.1;have f2:=hp.files.1;refine ar1 hE fok172 (nZ rfl) (fun a ha=>by cases List.mem_singleton.1 ha; exact .agg _ (az5 p)) ?_;simp only[ic172,go_sem,ag1,aa4.cs,bd2];rw[dk8 (l:=[]) (by simp only[aa2,if_true]; rfl)];simp only[go_sem];refine ab7 noT (fun i fr s=>fr=[(1,.ac5 p.cs),(3,.map 0),(14,deps p.provides),(15,.int .i64 p.provides.length),(16,.int .i64 i)]∧1≤s.next∧s.obj 0=some (.map ((((p.provides.take i).map (·.name)).foldl at1 [p.name]).map sE))) p.provides.length ⟨rfl,by simp,by simp only[aa2,if_true]; rfl⟩ ?_;rintro i fr s hle ⟨rfl,hn,ho⟩;by_cases hlt:i<p.provides.length
 ·obtain ⟨x,hx,_,hdr,hget,htk⟩:=ah3 p.provides i hlt;have c1:(i:Int)<p.provides.length:=by omega
  have c2:(0:Int)≤i:=by omega
  have c3:¬ 0=s.next:=by omega
  have w1:=ad5 (i:=i) (by omega);simp only[go_sem,c1,c2,hget,Dep.cs];rw[dk8 (l:=((p.provides.take i).map (·.name)).foldl at1 [p.name]) (by simp only[aa2,c3,if_false]; exact ho)];simp only[go_sem,w1];refine ⟨hlt,?_⟩;rw[htk,List.map_append,List.foldl_append]
  first|rfl|(simp only[aa2,if_true]; rfl)
 have hi':i=p.provides.length:=by omega
 subst hi';have c1:¬ (p.provides.length:Int)<p.provides.length:=by omega
 rw[List.take_length] at ho;simp only[go_sem,c1,aa4.cs];refine ab7 noT (fun i fr s=>fr=[(3,.map 0),(26,strs p.files),(27,.int .i64 p.files.length),(28,.int .i64 i)]∧s.obj 0=some (.map (((p.files.take i).foldl at1 ((p.provides.map (·.name)).foldl at1 [p.name])).map sE))) p.files.length ⟨rfl,ho⟩ ?_;rintro i fr s hle ⟨rfl,ho⟩;by_cases hlt:i<p.files.length
 ·obtain ⟨x,hx,_,hdr,hget,htk⟩:=ah3 p.files i hlt;have c1:(i:Int)<p.files.length:=by omega
  have c2:(0:Int)≤i:=by omega
  have w1:=ad5 (i:=i) (by omega);simp only[go_sem,c1,c2,hget,bn7];rw[dk8 ho];simp only[go_sem,w1];refine ⟨hlt,?_⟩;rw[htk,List.foldl_append]
  first|rfl|(simp only[aa2,if_true]; rfl)
 have hi':i=p.files.length:=by omega
 subst hi';have c1:¬ (p.files.length:Int)<p.files.length:=by omega
 rw[List.take_length] at ho;simp only[go_sem,c1];refine .map 0 _ _ _ (Nat.not_lt_zero _) ho rfl (List.Perm.refl _) ⟨?_,.str,fun e he=>?_⟩ (fun i hi=>?_) (fun i hi=>?_)
 ·have:((dm8 p).map sE).map (·.1)=(dm8 p).map IV.str:=by simp[sE]
  rw[this];exact List.Pairwise.map _ (fun a b hab e=>hab (by cases e; rfl)) (hk7 p)
 ·obtain ⟨k,_,rfl⟩:=List.mem_map.1 he;trivial
 ·exact .keep _ (by
   obtain ⟨k,_,e⟩:=List.mem_map.1 (ac7 (.undef,.undef) hi);rw[← e]; exact .str _)
 ·exact .keep _ (by
   obtain ⟨k,_,e⟩:=List.mem_map.1 (ac7 (.undef,.undef) hi);rw[← e]; exact .agg _ fun c hc=>by cases hc)
theorem hk8 (nm:Nms):Bnd 0 (.al2 (nmV nm)):=by
 refine .al2 _ (fun e he=>?_) (fun e he=>?_)<;>(simp only[nmV,List.mem_map] at he; obtain ⟨t,_,rfl⟩:=he)
 ·exact .str _
 ·refine .aa3 _ fun x hx c hc=>?_
  obtain ⟨n,_,rfl⟩:=List.mem_map.1 hx
  cases hc with
  | head=>exact .int _ _
  | tail _ h=>cases h
theorem gm8 (l:List bb4):Bnd 0 (.aa3 (l.map bb4.cs)):=.aa3 _ fun e he c hc=>by
 obtain ⟨r,_,rfl⟩:=List.mem_map.1 he; exact ej7 r c hc
theorem au7 (p:Pool):Bnd 0 p.v:=.ac5 _ fun c hc=>by
 simp only[List.mem_cons,List.not_mem_nil,or_false] at hc;rcases hc with rfl|rfl|rfl
 ·exact gm8 _
 ·exact .int _ _
 ·exact hk8 _
theorem du7 (l:List bb4)(n:Int):PC Tryz.prog EE 57 [.aa3 (l.map bb4.cs),.int .i64 n] (.bool (decide (0≤n)&&decide (n<l.length))):=by
 refine as8 fok57 (nZ rfl) fun σ=>?_
 by_cases h:0≤n
 ·simp only[ic57,go_sem,h,and_self]
 ·simp only[ic57,go_sem,h,and_self]
theorem cg7 (p:Pool):PC Tryz.prog EE 28 [p.v] (.int .i64 p.rows.length):=by
 refine as8 fok28 (nZ rfl) fun σ=>?_
 simp only[ic28,go_sem,Pool.v,and_self]
theorem gm9 (r:bb4):r.cs.take 15=r.pkg.cs:=rfl
theorem bo6 (p:Pool)(n:Nat)(h:n<p.rows.length)(hf:p.rows[n].pkg.Fit):PC Tryz.prog EE 19 [p.v,.int .i64 n] (.tuple [.agg p.rows[n].pkg.cs,.int .i64 0]):=by
 refine ar1 hE fok19 (nZ rfl) (ap9 (au7 p) (.int _ _)) ?_;have c1:(n:Int)<p.rows.length:=by omega
 have c2:(0:Int)≤n:=by omega
 have hg:(p.rows.map bb4.cs).getD n []=p.rows[n].cs:=by simp[List.getD_eq_getElem?_getD,h]
 have h15:∀ r:bb4,(15≤r.cs.length)=True:=fun r=>by rw[bn3]; simp
 simp only[ic19,go_sem,Pool.v];refine aa5 fok57 (du7 p.rows n) ?_;simp only[go_sem,c1,c2,hg,bn3,gm9];refine aa5 fok58 (dd7 _ hf) ?_;simp only[go_sem,ak6,aj1,ag1];exact .keep _ (.tuple _ (ap9 (bn1 _) (.int _ _)))
structure MS (s:Store) (tag:Nat→Nat) (c mid:Nat) (L:NmL) (B:Nat):Prop where
 map:s.obj mid=some (.map (mEs L))
 row:∀ t∈L,s.obj t.2.2=some (.row (t.2.1.map Md.ag9).flatten)∧t.2.2<s.next∧t.2.1.length≤B
 cg8:∀ t∈L,tag t.2.2=c
 ids:(L.map (·.2.2)).Nodup
 keys:(L.map (·.1)).Nodup
 lt:mid<s.next
 gn2:tag mid=c
theorem MS.keep {s s':Store}{tag tag':Nat→Nat}{c mid:Nat}{L:NmL}{B B':Nat}(h:MS s tag c mid L B)(hB:B≤B')(hn:s.next≤s'.next)(ho:∀ i,i<s.next→tag i=c→s'.obj i=s.obj i)(ht:∀ i,i<s.next→tag' i=tag i):MS s' tag' c mid L B' where
 map:=by rw[ho _ h.lt h.gn2]; exact h.map
 row:=fun t m=>⟨by rw[ho _ (h.row t m).2.1 (h.cg8 t m)]; exact (h.row t m).1,by have:=(h.row t m).2.1; omega,by have:=(h.row t m).2.2; omega⟩
 cg8:=fun t m=>by rw[ht _ (h.row t m).2.1]; exact h.cg8 t m
 ids:=h.ids
 keys:=h.keys
 lt:=by have:=h.lt; omega
 gn2:=by rw[ht _ h.lt]; exact h.gn2
def ed3 (tag:Nat→Nat)(c nid:Nat):Nat→Nat:=fun i=>if i=nid then c else tag i
theorem an7 {tag:Nat→Nat}{c nid n:Nat}(h:n≤nid):∀ i,i<n→ed3 tag c nid i=tag i:=fun i hi=>by
 unfold ed3; rw[if_neg (by omega)]
theorem MS.cur {s:Store}{tag:Nat→Nat}{c mid:Nat}{L:NmL}{B:Nat}(h:MS s tag c mid L B)(k:Str)(m:Nat)(hm:s.next≤m):Grow ⟨m,s.obj⟩ (cp4 L k) 1 ((bw1 L k).map Md.ag9)∧(bw1 L k).length≤B:=by
 rcases bt9 L k with ⟨h1,h2⟩|⟨t,ht,_,h1,h2⟩
 ·rw[h1,h2]; exact ⟨.inl ⟨rfl,rfl⟩,Nat.zero_le _⟩
 ·rw[h1,h2]; exact ⟨.inr ⟨t.2.2,by rw[List.length_map],(h.row t ht).1,by have:=(h.row t ht).2.1; show t.2.2<m; omega⟩,(h.row t ht).2.2⟩
theorem MS.upd {s:Store}{tag:Nat→Nat}{c mid:Nat}{L:NmL}{B:Nat}(h:MS s tag c mid L B)(k:Str)(n:Int)(m nid:Nat)(hm:s.next≤m)(hnew:s.next≤nid)(hb:B<2^30) :
  ∃ s1,bp4 ⟨m,s.obj⟩ nid 1 (cp4 L k) (.aa3 [[.int .i64 n]])=some (.slice nid 0 ((bw1 L k).length+1) 1,s1)∧s1.next=m∧s1.obj mid=some (.map (mEs L))∧(∀ i o,i<s.next→s.obj i=some o→(∀ cs,o≠.row cs)→s1.obj i=some o) ∧
   ∀ nx,nid<nx→MS ⟨nx,(s1.put mid (.map (mEs (ax3 L k n nid)))).obj⟩ (ed3 tag c nid) c mid (ax3 L k n nid) (B+1)∧∀ i,i<s.next→tag i≠c→(s1.put mid (.map (mEs (ax3 L k n nid)))).obj i=s.obj i:=by
 obtain ⟨hg,hlen⟩:=h.cur k m hm;have hap:=an1 (nid:=nid) (e:=[.int .i64 n]) hg (cq6 _) ⟨rfl,rfl⟩ (by rw[List.length_map]; omega);rw[List.length_map] at hap;have hlt:=h.lt;have hmid:¬ mid=nid:=by omega
 have kother:∀ i,(∀ t∈L,t.1=k→t.2.2≠i)→(ah9 (cp4 L k) ⟨m,s.obj⟩).obj i=s.obj i:=by
  intro i hne;rcases bt9 L k with ⟨h1,_⟩|⟨t,ht,hk,h1,_⟩
  ·rw[h1]; rfl
  ·rw[h1];show (if i=t.2.2 then none else s.obj i)=_;rw[if_neg (fun e=>hne t ht hk e.symm)]
 have hrow_ne_mid:∀ i cs,s.obj i=some (.row cs)→¬ i=mid:=fun i cs hi e=>by subst e; rw[h.map] at hi; cases hi
 refine ⟨_,hap,by rw[aa8,ae9],?_,?_,fun nx hnx=>⟨?_,?_⟩⟩
 ·rw[aa2,if_neg hmid]; exact ag8 hg mid _ h.map (fun _ e=>by cases e)
 ·intro i o hi ho hr;rw[aa2,if_neg (by omega)]; exact ag8 hg i _ ho hr
 ·exact {
   map:=by
    show (if mid=mid then _ else _)=_;rw[if_pos rfl]
   row:=by
    intro t ht;rcases di5 h.keys t ht with ⟨h1,h2⟩|rfl
    ·obtain ⟨r1,r2,r3⟩:=h.row t h1;refine ⟨?_,by show t.2.2<nx; omega,by omega⟩;show (if t.2.2=mid then _ else if t.2.2=nid then _ else (ah9 (cp4 L k) ⟨m,s.obj⟩).obj t.2.2)=_;rw[if_neg (hrow_ne_mid _ _ r1),if_neg (by omega),kother _ fun u hu hk e=>h2 (by rw[← fq3 h.keys h.ids u hu t h1 e]; exact hk)];exact r1
    ·refine ⟨?_,hnx,?_⟩
     ·show (if nid=mid then _ else if nid=nid then _ else _)=_;rw[if_neg (fun e=>hmid e.symm),if_pos rfl,List.map_append];rfl
     ·show (bw1 L k++[n]).length≤B+1;rw[List.length_append]; simp; exact hlen
   cg8:=by
    intro t ht;rcases di5 h.keys t ht with ⟨h1,h2⟩|rfl
    ·rw[an7 hnew _ (h.row t h1).2.1]; exact h.cg8 t h1
    ·unfold ed3; rw[if_pos rfl]
   ids:=(fq2 L h.ids (fun hm=>by
    obtain ⟨t,ht,e⟩:=List.mem_map.1 hm;have:=(h.row t ht).2.1;have e':t.2.2=nid:=e;omega)).1
   keys:=(eh9 L h.keys).1
   lt:=by show mid<nx; omega
   gn2:=by rw[an7 hnew _ h.lt]; exact h.gn2 }
 ·intro i hi hc;show (if i=mid then _ else if i=nid then _ else (ah9 (cp4 L k) ⟨m,s.obj⟩).obj i)=_;rw[if_neg (fun e=>hc (by rw[e]; exact h.gn2)),if_neg (by omega),kother _ fun t ht _ e=>hc (by rw[← e]; exact h.cg8 t ht)]
theorem MS.frz {s:Store}{tag:Nat→Nat}{c mid:Nat}{L:NmL}{B:Nat}(h:MS s tag c mid L B){nm:Nms}(hp:(aw7 L).Perm nm):dc1 s 0 (.map mid) (.al2 (nmV nm)):=by
 have hat:∀ i,i<(mEs L).length→∃ t∈L,(mEs L).getD i (.undef,.undef)=(.str t.1,.slice t.2.2 0 t.2.1.length 1)∧(nmV (aw7 L)).getD i (.undef,.undef)=(.str t.1,.aa3 (t.2.1.map Md.ag9)):=by
  intro i hi;have hi':i<L.length:=by simpa [mEs] using hi
  exact ⟨L[i],List.getElem_mem hi',by simp[mEs,List.getD_eq_getElem?_getD,hi'],by simp[nmV,aw7,List.getD_eq_getElem?_getD,hi']⟩
 have hkn:KN nm:=KN.perm (nm:=aw7 L) (by show ((aw7 L).map (·.1)).Nodup; unfold aw7; rw[List.map_map]; exact h.keys) hp;refine .map mid (mEs L) (nmV (aw7 L)) (nmV nm) (Nat.not_lt_zero _) h.map (by simp[nmV,aw7,mEs]) (hp.map _) ⟨?_,.str,fun e he=>?_⟩ (fun i hi=>?_) (fun i hi=>?_)
 ·have:(nmV nm).map (·.1)=(nm.map (·.1)).map IV.str:=by simp[nmV]
  rw[this];exact List.Pairwise.map _ (fun a b hab e=>hab (by cases e; rfl)) hkn
 ·simp only[nmV,List.mem_map] at he;obtain ⟨t,_,rfl⟩:=he;trivial
 ·obtain ⟨t,ht,e1,e2⟩:=hat i hi;rw[e1,e2]; exact bc8 _
 ·obtain ⟨t,ht,e1,e2⟩:=hat i hi;rw[e1,e2];obtain ⟨r1,r2,_⟩:=h.row t ht;have hg:Grow s (.slice t.2.2 0 t.2.1.length 1) 1 (t.2.1.map Md.ag9):=.inr ⟨t.2.2,by rw[List.length_map],r1,r2⟩;refine hg.frz (fun x hx=>(cq6 _ x hx).1) (fun _ _=>Nat.not_lt_zero _) fun e he c hc=>?_
  obtain ⟨n,_,rfl⟩:=List.mem_map.1 he
  cases hc with
  | head=>exact .int _ _
  | tail _ h=>cases h
structure IS (s:Store) (pp m1 m2 m3:Nat) (all:List aa4) (rv:IV) (L1 L2 L3:NmL) (tag:Nat→Nat) (B:Nat):Prop where
 cell:s.obj pp=some (.cells [rv,.map m1,.map m2,.map m3])
 ltp:pp<s.next
 grow:Grow s rv 15 (all.map aa4.cs)
 cg8:∀ id n,rv=.slice id 0 n 15→tag id=0
 m1:MS s tag 1 m1 L1 B
 m2:MS s tag 2 m2 L2 B
 m3:MS s tag 3 m3 L3 B
 du9:tag pp=4
theorem IS.mono {s s':Store}{pp m1 m2 m3:Nat}{all:List aa4}{rv:IV}{L1 L2 L3:NmL}{tag:Nat→Nat}{B B':Nat}(h:IS s pp m1 m2 m3 all rv L1 L2 L3 tag B)(hB:B≤B')(hn:s.next≤s'.next)(ho:∀ i,i<s.next→s'.obj i=s.obj i):IS s' pp m1 m2 m3 all rv L1 L2 L3 tag B' where
 cell:=by rw[ho _ h.ltp]; exact h.cell
 ltp:=by have:=h.ltp; omega
 grow:=h.grow.mono hn fun id _ hid=>ho id hid
 cg8:=h.cg8
 m1:=h.m1.keep hB hn (fun i hi _=>ho i hi) fun _ _=>rfl
 m2:=h.m2.keep hB hn (fun i hi _=>ho i hi) fun _ _=>rfl
 m3:=h.m3.keep hB hn (fun i hi _=>ho i hi) fun _ _=>rfl
 du9:=h.du9
theorem dk9 {s s':Store}{rv:IV}{es:List (List IV)}{tag:Nat→Nat}(h:Grow s rv 15 es)(ht:∀ id n,rv=.slice id 0 n 15→tag id=0)(hn:s.next≤s'.next)(ho:∀ i,i<s.next→tag i=0→s'.obj i=s.obj i):Grow s' rv 15 es :=
 h.mono hn fun id hv hid=>ho id hid (ht id _ hv)
theorem dl1 {s:Store}{rv:IV}{es:List (List IV)}{tag:Nat→Nat}{c nid:Nat}(h:Grow s rv 15 es)(ht:∀ id n,rv=.slice id 0 n 15→tag id=0)(hn:s.next≤nid):∀ id n,rv=.slice id 0 n 15→ed3 tag c nid id=0:=fun id n hv=>by
 rcases h with ⟨h1,_⟩|⟨id',h1,_,hlt⟩
 ·rw[h1] at hv; cases hv
 ·have e:id'=id:=by rw[h1] at hv; cases hv; rfl
  subst e;rw[an7 hn _ hlt]; exact ht _ _ hv
theorem IS.of1 {s s':Store}{pp m1 m2 m3 nid:Nat}{all:List aa4}{rv:IV}{L1 L2 L3 L':NmL}{tag:Nat→Nat}{B:Nat}(h:IS s pp m1 m2 m3 all rv L1 L2 L3 tag B)(hn:s.next≤s'.next)(hnid:s.next≤nid)(hm:MS s' (ed3 tag 1 nid) 1 m1 L' (B+1))(ho:∀ i,i<s.next→tag i≠1→s'.obj i=s.obj i):IS s' pp m1 m2 m3 all rv L' L2 L3 (ed3 tag 1 nid) (B+1) where
 cell:=by rw[ho _ h.ltp (by rw[h.du9]; decide)]; exact h.cell
 ltp:=by have:=h.ltp; omega
 grow:=dk9 h.grow h.cg8 hn fun i hi e=>ho i hi (by rw[e]; decide)
 cg8:=dl1 h.grow h.cg8 hnid
 m1:=hm
 m2:=h.m2.keep (Nat.le_succ _) hn (fun i hi e=>ho i hi (by rw[e]; decide)) (an7 hnid)
 m3:=h.m3.keep (Nat.le_succ _) hn (fun i hi e=>ho i hi (by rw[e]; decide)) (an7 hnid)
 du9:=by rw[an7 hnid _ h.ltp]; exact h.du9
theorem IS.of2 {s s':Store}{pp m1 m2 m3 nid:Nat}{all:List aa4}{rv:IV}{L1 L2 L3 L':NmL}{tag:Nat→Nat}{B:Nat}(h:IS s pp m1 m2 m3 all rv L1 L2 L3 tag B)(hn:s.next≤s'.next)(hnid:s.next≤nid)(hm:MS s' (ed3 tag 2 nid) 2 m2 L' (B+1))(ho:∀ i,i<s.next→tag i≠2→s'.obj i=s.obj i):IS s' pp m1 m2 m3 all rv L1 L' L3 (ed3 tag 2 nid) (B+1) where
 cell:=by rw[ho _ h.ltp (by rw[h.du9]; decide)]; exact h.cell
 ltp:=by have:=h.ltp; omega
 grow:=dk9 h.grow h.cg8 hn fun i hi e=>ho i hi (by rw[e]; decide)
 cg8:=dl1 h.grow h.cg8 hnid
 m1:=h.m1.keep (Nat.le_succ _) hn (fun i hi e=>ho i hi (by rw[e]; decide)) (an7 hnid)
 m2:=hm
 m3:=h.m3.keep (Nat.le_succ _) hn (fun i hi e=>ho i hi (by rw[e]; decide)) (an7 hnid)
 du9:=by rw[an7 hnid _ h.ltp]; exact h.du9
theorem IS.of3 {s s':Store}{pp m1 m2 m3 nid:Nat}{all:List aa4}{rv:IV}{L1 L2 L3 L':NmL}{tag:Nat→Nat}{B:Nat}(h:IS s pp m1 m2 m3 all rv L1 L2 L3 tag B)(hn:s.next≤s'.next)(hnid:s.next≤nid)(hm:MS s' (ed3 tag 3 nid) 3 m3 L' (B+1))(ho:∀ i,i<s.next→tag i≠3→s'.obj i=s.obj i):IS s' pp m1 m2 m3 all rv L1 L2 L' (ed3 tag 3 nid) (B+1) where
 cell:=by rw[ho _ h.ltp (by rw[h.du9]; decide)]; exact h.cell
 ltp:=by have:=h.ltp; omega
 grow:=dk9 h.grow h.cg8 hn fun i hi e=>ho i hi (by rw[e]; decide)
 cg8:=dl1 h.grow h.cg8 hnid
 m1:=h.m1.keep (Nat.le_succ _) hn (fun i hi e=>ho i hi (by rw[e]; decide)) (an7 hnid)
 m2:=h.m2.keep (Nat.le_succ _) hn (fun i hi e=>ho i hi (by rw[e]; decide)) (an7 hnid)
 m3:=hm
 du9:=by rw[an7 hnid _ h.ltp]; exact h.du9
theorem fu6 (l:List aa4):∀ e∈l.map aa4.cs,e.length=15∧e.all IV.leaf=true:=fun e he=>by
 obtain ⟨x,_,rfl⟩:=List.mem_map.1 he;exact ⟨ak6 x,ag1 x⟩
theorem IS.push {s:Store}{pp m1 m2 m3:Nat}{all:List aa4}{rv:IV}{L1 L2 L3:NmL}{tag:Nat→Nat}{B:Nat}(h:IS s pp m1 m2 m3 all rv L1 L2 L3 tag B)(x:aa4)(m nid:Nat)(hm:s.next≤m)(hnew:s.next≤nid)(hb:all.length<2^30) :
  ∃ s1,bp4 ⟨m,s.obj⟩ nid 15 rv (.aa3 [x.cs])=some (.slice nid 0 (all.length+1) 15,s1)∧s1.next=m∧s1.obj pp=s.obj pp∧(∀ i o,i<s.next→s.obj i=some o→(∀ cs,o≠.row cs)→s1.obj i=some o) ∧
   ∀ nx,nid<nx→IS ⟨nx,(s1.put pp (.cells [.slice nid 0 (all.length+1) 15,.map m1,.map m2,.map m3])).obj⟩ pp m1 m2 m3 (all++[x]) (.slice nid 0 (all.length+1) 15) L1 L2 L3 (ed3 tag 0 nid) B:=by
 have hg:Grow ⟨m,s.obj⟩ rv 15 (all.map aa4.cs):=Grow.mono (σ:=s) h.grow hm fun _ _ _=>rfl
 have hap:=an1 (nid:=nid) (e:=x.cs) hg (fu6 all) ⟨ak6 x,ag1 x⟩ (by rw[List.length_map]; omega);rw[List.length_map] at hap;have hlt:=h.ltp;have hpp:¬ pp=nid:=by omega
 have kp:=ag8 hg pp _ h.cell (fun _ e=>by cases e)
 have kk:∀ i,i<s.next→tag i≠0→tag i≠4→((ah9 rv ⟨m,s.obj⟩).put nid (.row (all.map aa4.cs++[x.cs]).flatten) |>.put pp (.cells [.slice nid 0 (all.length+1) 15,.map m1,.map m2,.map m3])).obj i=s.obj i:=by
  intro i hi h0 h4;show (if i=pp then _ else if i=nid then _ else (ah9 rv ⟨m,s.obj⟩).obj i)=_;rw[if_neg (fun e=>h4 (by rw[e]; exact h.du9)),if_neg (by omega)];rcases h.grow with ⟨hv,_⟩|⟨id,hv,ho,hl⟩
  ·rw[hv]; rfl
  ·have ht:=h.cg8 id _ hv;rw[hv];show (if i=id then none else s.obj i)=_;rw[if_neg (fun e=>h0 (by rw[e]; exact ht))]
 refine ⟨_,hap,by rw[aa8,ae9],by rw[aa2,if_neg hpp,kp,h.cell],?_,fun nx hnx=>?_⟩
 ·intro i o hi ho hr;rw[aa2,if_neg (by omega)]; exact ag8 hg i _ ho hr
 ·exact {
   cell:=by
    show (if pp=pp then _ else _)=_;rw[if_pos rfl]
   ltp:=by show pp<nx; omega
   grow:=by
    refine .inr ⟨nid,by rw[List.map_append,List.length_append,List.length_map]; rfl,?_,hnx⟩;show (if nid=pp then _ else if nid=nid then _ else _)=_;rw[if_neg (fun e=>hpp e.symm),if_pos rfl,List.map_append]; rfl
   cg8:=fun id n hv=>by cases hv; unfold ed3; rw[if_pos rfl]
   m1:=h.m1.keep (Nat.le_refl _) (by show s.next≤nx; omega) (fun i hi e=>kk i hi (by rw[e]; decide) (by rw[e]; decide)) (an7 hnew)
   m2:=h.m2.keep (Nat.le_refl _) (by show s.next≤nx; omega) (fun i hi e=>kk i hi (by rw[e]; decide) (by rw[e]; decide)) (an7 hnew)
   m3:=h.m3.keep (Nat.le_refl _) (by show s.next≤nx; omega) (fun i hi e=>kk i hi (by rw[e]; decide) (by rw[e]; decide)) (an7 hnew)
   du9:=by rw[an7 hnew _ h.ltp]; exact h.du9 }
theorem IS.frz {s:Store}{pp m1 m2 m3:Nat}{all:List aa4}{rv:IV}{L1 L2 L3:NmL}{tag:Nat→Nat}{B:Nat}(h:IS s pp m1 m2 m3 all rv L1 L2 L3 tag B){x:Index}(h0:x.all=all)(h1:(aw7 L1).Perm x.bf1)(h2:(aw7 L2).Perm x.names)(h3:(aw7 L3).Perm x.over):dc1 s 0 (.ptr pp 0) x.v:=by
 subst h0;refine .ptr pp 0 _ _ (Nat.not_lt_zero _) (.inl h.cell) (Nat.le_refl _) fun j hj=>?_
 have hj3:j=0∨j=1∨j=2∨j=3:=by simp only[List.length_cons,List.length_nil] at hj; omega
 rcases hj3 with rfl|rfl|rfl|rfl
 ·refine h.grow.frz (fun x hx=>(fu6 _ x hx).1) (fun _ _=>Nat.not_lt_zero _) fun e he c hc=>?_
  obtain ⟨r,_,rfl⟩:=List.mem_map.1 he;exact az5 r c hc
 ·exact h.m1.frz h1
 ·exact h.m2.frz h2
 ·exact h.m3.frz h3
theorem MS.fu7 {s s':Store}{tag:Nat→Nat}{c mid:Nat}{L:NmL}{B B':Nat}(h:MS s tag c mid L B)(hB:B≤B')(hn:s.next≤s'.next)(ho:∀ i o,i<s.next→s.obj i=some o→(∀ l c,o≠.an8 l c)→s'.obj i=some o):MS s' tag c mid L B' where
 map:=ho _ _ h.lt h.map (fun _ _ e=>by cases e)
 row:=fun t m=>⟨ho _ _ (h.row t m).2.1 (h.row t m).1 (fun _ _ e=>by cases e),by have:=(h.row t m).2.1; omega,by have:=(h.row t m).2.2; omega⟩
 cg8:=h.cg8
 ids:=h.ids
 keys:=h.keys
 lt:=by have:=h.lt; omega
 gn2:=h.gn2
theorem IS.fu7 {s s':Store}{pp m1 m2 m3:Nat}{all:List aa4}{rv:IV}{L1 L2 L3:NmL}{tag:Nat→Nat}{B B':Nat}(h:IS s pp m1 m2 m3 all rv L1 L2 L3 tag B)(hB:B≤B')(hn:s.next≤s'.next)(ho:∀ i o,i<s.next→s.obj i=some o→(∀ l c,o≠.an8 l c)→s'.obj i=some o):IS s' pp m1 m2 m3 all rv L1 L2 L3 tag B' where
 cell:=ho _ _ h.ltp h.cell (fun _ _ e=>by cases e)
 ltp:=by have:=h.ltp; omega
 grow:=by
  rcases h.grow with h0|⟨id,hv,hr,hid⟩
  ·exact .inl h0
  ·exact .inr ⟨id,hv,ho _ _ hid hr (fun _ _ e=>by cases e),by omega⟩
 cg8:=h.cg8
 m1:=h.m1.fu7 hB hn ho
 m2:=h.m2.fu7 hB hn ho
 m3:=h.m3.fu7 hB hn ho
 du9:=h.du9
theorem du8 {α β:Type}(f:α→β):∀ (l:List α) (k:Nat),(l.map f).eraseIdx k=(l.eraseIdx k).map f
 | [],_=>rfl
 | _::_,0=>rfl
 | a::l,k+1=>by simp[du8 f l k]
theorem dd9 {α:Type}:∀ (l:List α) (k:Nat) (h:k<l.length),l.Perm (l[k]::l.eraseIdx k)
 | [],k,h=>by simp at h
 | a::l,0,_=>.refl _
 | a::l,k+1,h=>((dd9 l k (by simpa using h)).cons a).trans (.swap _ _ _)
theorem it7 {s:Store}{id:Nat}{l:List (IV×IV)}{c:Option (IV×IV)}(h:s.obj id=some (.an8 l c)):bf5 s (.ptr id 0)=some (id,l):=by simp only[bf5,h]
theorem it8 {s:Store}{id:Nat}{l:List (IV×IV)}{c:IV×IV}(h:s.obj id=some (.an8 l (some c))):ch3 s (.ptr id 0)=some (.tuple [c.1,c.2]):=by simp only[ch3,h]
theorem bq4:∀ (ks l:List Str),(ks.foldl at1 l).length≤l.length+ks.length
 | [],l=>Nat.le_refl _
 | k::ks,l=>by
  refine Nat.le_trans (bq4 ks _) ?_
  have:(at1 l k).length≤l.length+1:=by
   unfold at1; split
   ·omega
   ·simp
  simp only[List.length_cons]; omega
theorem gn1 (p:aa4):(dm8 p).length≤p.provides.length+p.files.length+1:=by
 refine Nat.le_trans (bq4 _ _) ?_;have:=bq4 (p.provides.map (·.name)) [p.name];simp only[List.length_map,List.length_cons,List.length_nil] at this;omega
theorem cq4 (p:Pool)(hf:∀ r∈p.rows,r.pkg.Fit)(hlen:p.rows.length≤2^14)(hs:∀ r∈p.rows,r.pkg.provides.length+r.pkg.files.length+r.pkg.ab6.length+3≤2^15) :
  PC Tryz.prog EE 100 [p.v] (.tuple [(dm9 (p.rows.map (·.pkg))).v,.int .i64 0]):=by
 obtain ⟨pk,hpk0⟩:∃ pk,p.rows.map (·.pkg)=pk:=⟨_,rfl⟩;have hpl:pk.length=p.rows.length:=by rw[← hpk0,List.length_map]
 rw[hpk0];obtain ⟨W,hW⟩:∃ W:Nat,W=2^15:=⟨_,rfl⟩;have hC:=cg7 p;have hP:=fun (n:Nat) (h:n<p.rows.length)=>bo6 p n h (hf _ (List.getElem_mem h))
 have hb:=au7 p;obtain ⟨cs,hcs⟩:∃ cs,p.v=.ac5 cs:=⟨_,rfl⟩;rw[hcs] at hC hP hb ⊢;refine ar1 hE fok100 (nZ rfl) (fun a ha=>by cases List.mem_singleton.1 ha; exact hb) ?_;simp only[ic100,go_sem];refine aa5 fok28 hC ?_;simp only[go_sem]
 refine ab7 noT (fun i fr s=>fr=[(0,.ac5 cs),(4,.ptr 3 0),(19,.int .i64 p.rows.length),(20,.int .i64 i)]∧∃ rv L1 L2 L3 tag,IS s 3 0 1 2 (pk.take i) rv L1 L2 L3 tag (i*W) ∧
  (aw7 L1).Perm (dm9 (pk.take i)).bf1∧(aw7 L2).Perm (dm9 (pk.take i)).names∧(aw7 L3).Perm (dm9 (pk.take i)).over) p.rows.length ⟨rfl,.aa1,[],[],[],(fun i=>if i=0 then 1 else if i=1 then 2 else if i=2 then 3 else 4),?_,.refl _,.refl _,.refl _⟩ ?_
 ·have e0:∀ (c mid:Nat) (L:NmL) (st:Store) (tag:Nat→Nat),L=[]→st.obj mid=some (.map [])→mid<st.next→tag mid=c→MS st tag c mid L (0*W):=fun c mid L st tag h1 h2 h3 h4=>by
   subst h1;exact { map:=h2,row:=fun t ht=>(by cases ht),cg8:=fun t ht=>(by cases ht),ids:=List.nodup_nil,keys:=List.nodup_nil,lt:=h3,gn2:=h4 }
  refine { cell:=rfl,ltp:=Nat.lt_succ_self 3,grow:=.inl ⟨rfl,rfl⟩,cg8:=fun id n h=>(by cases h),m1:=e0 1 0 [] _ _ rfl rfl ?_ rfl,m2:=e0 2 1 [] _ _ rfl rfl ?_ rfl,m3:=e0 3 2 [] _ _ rfl rfl ?_ rfl,du9:=rfl }
  ·show 0<4; decide
  ·show 1<4; decide
  ·show 2<4; decide
 rintro i fr s hle ⟨rfl,rv,L1,L2,L3,tag,hI,p1,p2,p3⟩;by_cases hlt:i<p.rows.length
 ·have c1:(i:Int)<p.rows.length:=by omega
  have c2:(0:Int)≤i:=by omega
  have w1:=ad5 (i:=i) (by omega);have hQ:=hP i hlt;have hx:p.rows[i]∈p.rows:=List.getElem_mem hlt;have hfx:=hf _ hx;have hsx:=hs _ hx
  have htk:pk.take (i+1)=pk.take i++[p.rows[i].pkg]:=by
   rw[← hpk0,List.take_add_one,List.getElem?_map,List.getElem?_eq_getElem hlt]; rfl
  generalize hpk:p.rows[i].pkg=x at *;simp only[go_sem,c1,c2];refine aa5 fok19 hQ ?_;have e3:¬ 3=s.next:=by have:=hI.ltp; omega
  have hiW:i*W+W≤2^29:=by
   have h1:i*W+W=(i+1)*W:=(Nat.succ_mul i W).symm;rw[h1,hW]; omega
  have hWx:x.provides.length+x.files.length+x.ab6.length+3≤W:=by rw[hW]; exact hsx
  have e3':¬ s.next=3:=fun e=>e3 e.symm
  simp only[go_sem,ak6,aj1,ag1,e3,hI.cell,Nat.add_assoc];generalize hS:Store.put (Store.put _ s.next _) s.next (aj5.cells x.cs)=S1;have hS1:S1.next=s.next+1:=by rw[← hS]; rfl
  have hbx:S1.obj s.next=some (.cells x.cs):=by rw[← hS]; simp only[aa2,if_true]
  have h1:IS S1 3 0 1 2 (pk.take i) rv L1 L2 L3 tag (i*W):=hI.mono (Nat.le_refl _) (by omega) fun j hj=>by
   have e:¬ j=s.next:=by omega
   rw[← hS]; simp only[aa2,e,if_false]
  clear hS;have hal:(pk.take i).length=i:=by rw[List.length_take]; omega
  obtain ⟨t1,ha1,ha2,ha3,ha4,hps⟩:=h1.push x (s.next+12) (s.next+8) (by omega) (by omega) (by rw[hal]; omega);rw[hal] at ha1 hps;rw[ha1];have hc1:t1.obj 3=some (.cells [rv,.map 0,.map 1,.map 2]):=by rw[ha3]; exact h1.cell
  have hb1:t1.obj s.next=some (.cells x.cs):=ha4 _ _ (by omega) hbx (fun _ e=>by cases e);have h2:=hps t1.next (by omega);generalize hX:(aj5.cells [.slice (s.next+8) 0 (i+1) 15,.map 0,.map 1,.map 2])=X at hps h2;have hlk2:∀ m,cf6 ⟨m,(t1.put 3 X).obj⟩ 2 .aa1 false (.map 1) (.str x.name)=some (cp4 L2 x.name):=fun m=>gn4 (σ:=⟨m,(t1.put 3 X).obj⟩) h2.m2.map x.name
  obtain ⟨t2,ib1,ib2,ib3,ib4,hpt⟩:=h2.m2.upd x.name (i:Int) (t1.next+17) (t1.next+15) (by show t1.next≤_; omega) (by show t1.next≤_; omega) (by omega);simp only at ib1 ib3;subst hX;simp only[go_sem,e3',hc1,hb1,ek1,hlk2,ib1,Nat.add_assoc];rw[ej9 ib3 x.name (i:Int) (t1.next+15)];have g3:3<s.next:=hI.ltp
  have hb2:(t2.put 1 (aj5.map (mEs (ax3 L2 x.name (i:Int) (t1.next+15))))).obj s.next=some (.cells x.cs):=by
   have e:¬ s.next=1:=by omega
   simp only[aa2,e,if_false];refine ib4 _ _ (by show s.next<t1.next; omega) ?_ (fun _ e=>by cases e);simp only[aa2,e3',if_false]; exact hb1
  have hn2:(t2.put 1 (aj5.map (mEs (ax3 L2 x.name (i:Int) (t1.next+15))))).next=t1.next+17:=ib2;have hpt':=hpt (t2.put 1 (aj5.map (mEs (ax3 L2 x.name (i:Int) (t1.next+15))))).next (by rw[hn2]; omega);have h3:=h2.of2 (s':=t2.put 1 (aj5.map (mEs (ax3 L2 x.name (i:Int) (t1.next+15))))) (nid:=t1.next+15) (by rw[hn2]; show t1.next≤_; omega) (by show t1.next≤_; omega) hpt'.1 hpt'.2;clear hpt'
  have q2:(aw7 (ax3 L2 x.name (i:Int) (t1.next+15))).Perm (an2 (dm9 (pk.take i)).names x.name i):=by
   rw[cj8]; exact bm4 (by show ((aw7 L2).map (·.1)).Nodup; unfold aw7; rw[List.map_map]; exact hI.m2.keys) p2
  generalize ax3 L2 x.name (i:Int) (t1.next+15)=L2' at *;generalize t2.put 1 (aj5.map (mEs L2'))=S2 at *;generalize ed3 (ed3 tag 0 (s.next+8)) 2 (t1.next+15)=tag2 at *;clear hpt hps ib1 ib2 ib3 ib4 hlk2;simp only[go_sem,hb2,ak6,aj1,ag1];refine aa5 fok172 (fc9 x hfx) ?_;simp only[go_sem,Nat.add_assoc];clear h1 h2 ha4 ha3 hc1 hb1 ha1 p2;have hkn1:KN (dm9 (pk.take i)).bf1:=KN.perm (nm:=aw7 L1) (by show ((aw7 L1).map (·.1)).Nodup; unfold aw7; rw[List.map_map]; exact hI.m1.keys) p1;have hol:(dm8 x).length≤x.provides.length+x.files.length+1:=gn1 x
  have hidx:dm9 (pk.take (i+1))=dt1 (dm9 (pk.take i)) i x:=by
   rw[htk]; unfold dm9; rw[dt2,hal,Nat.zero_add]
  generalize pk.take i++[x]=allI at *;generalize IV.slice (s.next+8) 0 (i+1) 15=rv2 at *;have hsm:¬ s.next=S2.next:=by omega
  refine ab7 noT (fun j fr t=>fr=[(0,.ac5 cs),(4,.ptr 3 0),(5,.int .i64 i),(6,.ptr s.next 0),(19,.int .i64 p.rows.length),(20,.int .i64 i),(60,.ptr S2.next 0)]∧S2.next+1≤t.next∧t.obj s.next=some (.cells x.cs) ∧
   ∃ done left cur L tg,(done++left).Perm (dm8 x)∧done.length=j∧t.obj S2.next=some (.an8 (left.map sE) cur)∧IS t 3 0 1 2 allI rv2 L L2' L3 tg (i*W+1+j)∧(aw7 L).Perm (ax1 (dm9 (pk.take i)).bf1 done i)) (dm8 x).length
   ⟨rfl,Nat.le_refl _,?_,[],dm8 x,none,L1,tag2,.refl _,rfl,?_,?_,p1⟩ ?_
  ·simp only[aa2,hsm,if_false]; exact hb2
  ·simp only[aa2,if_true]
  ·refine h3.mono (Nat.le_refl _) (by show S2.next≤S2.next+1; omega) fun j hj=>?_
   have e:¬ j=S2.next:=by omega
   simp only[aa2,e,if_false]
  rintro j fr t hjle ⟨rfl,hnt,hbt,done,left,cur,L,tg,hpm,hdl,hmi,hIt,hpL⟩;have hll:done.length+left.length=(dm8 x).length:=by rw[← hpm.length_eq,List.length_append]
  simp only[go_sem,it7 hmi];refine ⟨fun hnil=>?_,fun k hk=>?_⟩
  ·have hl0:left=[]:=by simpa using hnil
   subst hl0;rw[List.append_nil] at hpm;have q1:=hpL.trans (ds9 hpm hkn1);simp only[go_sem,hbt,aa4.cs,bd2];have hjl:j=(dm8 x).length:=by rw[← hdl]; simpa using hll
   subst hjl;clear hmi hbt hpL hpm hll hdl
   refine ab7 noT (fun j fr u=>fr=[(0,.ac5 cs),(4,.ptr 3 0),(5,.int .i64 i),(19,.int .i64 p.rows.length),(20,.int .i64 i),(80,deps x.ab6),(81,.int .i64 x.ab6.length),(82,.int .i64 j)] ∧
    ∃ L3' tg',IS u 3 0 1 2 allI rv2 L L2' L3' tg' (i*W+1+(dm8 x).length+j)∧(aw7 L3').Perm (ao8 (dm9 (pk.take i)).over ((x.ab6.take j).map (·.name)) i)) x.ab6.length ⟨rfl,L3,tg,hIt,p3⟩ ?_
   rintro j fr u hjo ⟨rfl,L3',tg',hIu,r3⟩;have hkn3:KN (aw7 L3'):=by show ((aw7 L3').map (·.1)).Nodup; unfold aw7; rw[List.map_map]; exact hIu.m3.keys
   by_cases hjlt:j<x.ab6.length
   ·obtain ⟨d,hd,_,hdr,hget,htk2⟩:=ah3 x.ab6 j hjlt;have d1:(j:Int)<x.ab6.length:=by omega
    have d2:(0:Int)≤j:=by omega
    have w2:=ad5 (i:=j) (by omega);have g3u:=hIu.ltp;have f3:¬ 3=u.next:=by omega
    simp only[go_sem,d1,d2,hget,Dep.cs,f3,hIu.cell,Nat.add_assoc];generalize hU:Store.put (Store.put _ u.next _) u.next _=U;have hUn:U.next=u.next+1:=by rw[← hU]; rfl
    have hUd:U.obj u.next=some (.cells [.str d.name,.int .u8 d.op,.int .i64 d.evr.aw6,.str d.evr.ver,.str d.evr.rel]):=by rw[← hU]; simp only[aa2,if_true]
    have hIU:IS U 3 0 1 2 allI rv2 L L2' L3' tg' (i*W+1+(dm8 x).length+j):=hIu.mono (Nat.le_refl _) (by omega) fun a ha=>by
     have e:¬ a=u.next:=by omega
     rw[← hU]; simp only[aa2,e,if_false]
    clear hU;have hlk:∀ m,cf6 ⟨m,U.obj⟩ 2 .aa1 false (.map 2) (.str d.name)=some (cp4 L3' d.name):=fun m=>gn4 (σ:=⟨m,U.obj⟩) hIU.m3.map d.name
    simp only[go_sem,hlk];obtain ⟨hcg,hcl⟩:=hIU.m3.cur d.name (u.next+11) (by omega)
    have hfz:dc1 (⟨u.next+11,U.obj⟩:Store) 0 (cp4 L3' d.name) (.aa3 ((bw1 L3' d.name).map Md.ag9)):=hcg.frz (fun y hy=>(cq6 _ y hy).1) (fun _ _=>Nat.not_lt_zero _) fun e he c hc=>by
     obtain ⟨n,_,rfl⟩:=List.mem_map.1 he
     cases hc with
     | head=>exact .int _ _
     | tail _ h=>cases h
    have hat:=(fz6.cons hfz (fz6.cons (ad4 .i64 (i:Int)) .nil)).at;refine ad1 fok111 (dh2 hE hat.1 hat.2 (by simp[IV.plain]) (fu4 (bw1 L3' d.name) i (by omega))) ?_;rintro v' s' ⟨rfl,rfl⟩;refine ⟨Nat.le_refl _,?_⟩
    have hin:(i:Int)∈ag2 (ao8 (dm9 (pk.take i)).over ((x.ab6.take j).map (·.name)) i) d.name↔(i:Int)∈bw1 L3' d.name:=by
     rw[← cp6 hkn3 r3,ez9]
    cases hc:decide ((i:Int)∈bw1 L3' d.name) with
    | true=>
     have hc':(i:Int)∈bw1 L3' d.name:=of_decide_eq_true hc;simp only[go_sem,w2];refine ⟨hjlt,L3',tg',?_,?_⟩
     ·have:=hIU.mono (s':=⟨u.next+11,U.obj⟩) (Nat.le_succ _) (by show U.next≤u.next+11; omega) fun _ _=>rfl
      simpa only[Nat.add_assoc,Nat.succ_eq_add_one] using this
     ·rw[htk2,List.map_append,List.map_cons,List.map_nil,cg6,if_pos (hin.2 hc')]; exact r3
    | false=>
     have hc':¬ (i:Int)∈bw1 L3' d.name:=of_decide_eq_false hc;obtain ⟨t5,jb1,jb2,jb3,jb4,jpt⟩:=hIU.m3.upd d.name (i:Int) (u.next+28) (u.next+26) (by omega) (by omega) (by omega);simp only[go_sem,hIU.cell,hUd,hlk,jb1,Nat.add_assoc];rw[ej9 jb3 d.name (i:Int) (u.next+26)];have hn5:(t5.put 2 (aj5.map (mEs (ax3 L3' d.name (i:Int) (u.next+26))))).next=u.next+28:=jb2;have jpt':=jpt (t5.put 2 (aj5.map (mEs (ax3 L3' d.name (i:Int) (u.next+26))))).next (by rw[hn5]; omega);have hI5:=hIU.of3 (s':=t5.put 2 (aj5.map (mEs (ax3 L3' d.name (i:Int) (u.next+26))))) (nid:=u.next+26) (by rw[hn5]; omega) (by omega) jpt'.1 jpt'.2
     have hq:(aw7 (ax3 L3' d.name (i:Int) (u.next+26))).Perm (an2 (ao8 (dm9 (pk.take i)).over ((x.ab6.take j).map (·.name)) i) d.name i):=by
      rw[cj8];exact bm4 hkn3 r3
     clear jpt jpt' jb1 jb3 jb4;generalize t5.put 2 (aj5.map (mEs (ax3 L3' d.name (i:Int) (u.next+26))))=T5 at *;simp only[go_sem,w2];refine ⟨hjlt,ax3 L3' d.name (i:Int) (u.next+26),_,by simpa only[Nat.add_assoc] using hI5,?_⟩;rw[htk2,List.map_append,List.map_cons,List.map_nil,cg6,if_neg (fun e=>hc' (hin.1 e))]; exact hq
   ·have hj':j=x.ab6.length:=by omega
    subst hj';have d1:¬ (x.ab6.length:Int)<x.ab6.length:=by omega
    rw[List.take_length] at r3;simp only[go_sem,d1,w1];refine ⟨hlt,rv2,L,L2',L3',tg',?_,?_,?_,?_⟩
    ·rw[htk];have hle2:i*W+1+(dm8 x).length+x.ab6.length≤(i+1)*W:=by rw[Nat.succ_mul]; omega
     exact hIu.mono hle2 (Nat.le_refl _) fun _ _=>rfl
    ·rw[hidx]; exact q1
    ·rw[hidx]; exact q2
    ·rw[hidx]; exact r3
  ·have hge:(left.map sE).getD k (.undef,.undef)=sE left[k]:=by simp[List.getD_eq_getElem?_getD,hk]
   rw[hge,du8];generalize hT:Store.put t S2.next (aj5.an8 ((left.eraseIdx k).map sE) (some (sE left[k])))=T;have hTn:T.next=t.next:=by rw[← hT]; rfl
   have hTm:T.obj S2.next=some (.an8 ((left.eraseIdx k).map sE) (some (sE left[k]))):=by rw[← hT]; simp only[aa2,if_true]
   have hTb:T.obj s.next=some (.cells x.cs):=by rw[← hT]; simp only[aa2,hsm,if_false]; exact hbt
   have hIT:IS T 3 0 1 2 allI rv2 L L2' L3 tg (i*W+1+j):=hIt.fu7 (Nat.le_refl _) (by omega) fun a o ha hao hne=>by
    rw[← hT];have e:¬ a=S2.next:=fun e=>by subst e; rw[hmi] at hao; cases hao; exact hne _ _ rfl
    simp only[aa2,e,if_false]; exact hao
   clear hT;generalize hkey:left[k]=key at *;obtain ⟨t3,ib1,ib2,ib3,ib4,hpt⟩:=hIT.m1.upd key (i:Int) (t.next+15) (t.next+13) (by omega) (by omega) (by omega);have hlk:∀ m,cf6 ⟨m,T.obj⟩ 2 .aa1 false (.map 0) (.str key)=some (cp4 L key):=fun m=>gn4 (σ:=⟨m,T.obj⟩) hIT.m1.map key
   have hme:∀ m,ch3 ⟨m,T.obj⟩ (.ptr S2.next 0)=some (.tuple [.str key,.agg []]):=fun m=>it8 (s:=⟨m,T.obj⟩) hTm
   simp only[go_sem,hme,hIT.cell,hlk,ib1,Nat.add_assoc];rw[ej9 ib3 key (i:Int) (t.next+13)];have hn4:(t3.put 0 (aj5.map (mEs (ax3 L key (i:Int) (t.next+13))))).next=t.next+15:=ib2;have hpt':=hpt (t3.put 0 (aj5.map (mEs (ax3 L key (i:Int) (t.next+13))))).next (by rw[hn4]; omega);have hI4:=hIT.of1 (s':=t3.put 0 (aj5.map (mEs (ax3 L key (i:Int) (t.next+13))))) (nid:=t.next+13) (by rw[hn4]; omega) (by omega) hpt'.1 hpt'.2
   have hmi4:(t3.put 0 (aj5.map (mEs (ax3 L key (i:Int) (t.next+13))))).obj S2.next=some (.an8 ((left.eraseIdx k).map sE) (some (sE key))):=by
    have e:¬ S2.next=0:=by omega
    simp only[aa2,e,if_false];exact ib4 _ _ (by omega) hTm (fun _ e=>by cases e)
   have hb4:(t3.put 0 (aj5.map (mEs (ax3 L key (i:Int) (t.next+13))))).obj s.next=some (.cells x.cs):=by
    have e:¬ s.next=0:=by omega
    simp only[aa2,e,if_false];exact ib4 _ _ (by omega) hTb (fun _ e=>by cases e)
   have hq:(aw7 (ax3 L key (i:Int) (t.next+13))).Perm (ax1 (dm9 (pk.take i)).bf1 (done++[key]) i):=by
    rw[cj8,eb6];exact bm4 (by show ((aw7 L).map (·.1)).Nodup; unfold aw7; rw[List.map_map]; exact hIT.m1.keys) hpL
   clear hpt hpt' ib1 ib3 ib4;generalize t3.put 0 (aj5.map (mEs (ax3 L key (i:Int) (t.next+13))))=T4 at *;simp only[go_sem];refine ⟨by omega,by omega,hb4,done++[key],left.eraseIdx k,some (sE key),ax3 L key (i:Int) (t.next+13),_,?_,by rw[List.length_append,hdl]; rfl,hmi4,by simpa only[Nat.add_assoc] using hI4,hq⟩;rw[List.append_assoc];refine List.Perm.trans (List.Perm.append_left done ?_) hpm;rw[← hkey];exact (dd9 left k hk).symm
 ·have hi':i=p.rows.length:=by omega
  subst hi';have c1:¬ (p.rows.length:Int)<p.rows.length:=by omega
  rw[← hpl,List.take_length] at hI p1 p2 p3;simp only[go_sem,c1];refine .cn4 (.cons ?_ (.cons (ad4 _ _) .nil))
  have hall:∀ (l:List aa4) (y:Index) (n:Nat),(idxFrom y n l).all=y.all++l:=by
   intro l
   induction l with
   | nil=>intro y n; simp[idxFrom]
   | cons a l ih=>intro y n; simp only[idxFrom,ih,dt1]; simp
  exact hI.frz (by unfold dm9; rw[hall]; rfl) p1 p2 p3
theorem al9 {f:Nat}{args:List IV}{v:IV}{σ:Store}{K:IV→Store→Prop}(hf:okF Tryz.prog f=true)(h:PC Tryz.prog EE f args v)(hk:K v σ):cn9 Tryz.prog EE none f args σ K :=
 ar6 hf (gh5 h) fun _ _ ⟨h1,h2⟩=>by subst h1; subst h2; exact ⟨Nat.le_refl _,hk⟩
end Go.Id.Tryz
