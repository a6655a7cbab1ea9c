/- Pools,in plain words: rows of packages,and names with their numbers. Conditions: none; no program in sight. -/
import Derived.Test.YteomphdgniepbaaGreatDoorMd
import Derived.Test.YteomphdgniepbaaGreatDoorFwQ
set_option linter.all false
namespace Go.Id.Md
open Go Go.Id
structure az3 where
 pkg:aa2
 ek3:Int
 prio:Int
def az3.cs (r:az3):List IV:=r.pkg.cs++[.int .i64 r.ek3,.int .i64 r.prio]
abbrev Nms:=List (Str×List Int)
def an1:Nms→Str→Int→Nms
 | [],k,n=>[(k,[n])]
 | t::ts,k,n=>if k=t.1 then (k,t.2++[n])::ts else t::an1 ts k n
def di1:Nms→Nat→List aa2→Nms
 | nm,_,[]=>nm
 | nm,n,p::ps=>di1 (an1 nm p.name n) (n+1) ps
def ag3 (n:Int):List IV:=[.int .i64 n]
def nmV (nm:Nms):List (IV×IV):=nm.map fun t=>(.str t.1,.aa3 (t.2.map ag3))
structure Pool where
 rows:List az3
 inst:Int
 nm:Nms
def Pool.v (p:Pool):IV:=.ac2 [.aa3 (p.rows.map az3.cs),.int .i64 p.inst,.ap7 (nmV p.nm)]
def rowsOf (l:List aa2)(ek3 prio:Int):List az3:=l.map fun p=>⟨p,ek3,prio⟩
theorem eb7 (l:List aa2)(x:aa2)(a b:Int):rowsOf (l++[x]) a b=rowsOf l a b++[⟨x,a,b⟩]:=by simp[rowsOf]
theorem bo2 (l:List aa2)(a b:Int):(rowsOf l a b).length=l.length:=by simp[rowsOf]
def ai9:Nat→List ak8→List az3×Nms→Option (List az3×Nms)
 | _,[],st=>some st
 | i,r::rs,st=>if r.priority<0∨1024<r.priority∨r.packages.all ag7=false then none else ai9 (i+1) rs (st.1++rowsOf r.packages i r.priority,di1 st.2 st.1.length r.packages)
def al4 (l:List ak8):Nat:=(l.map fun r=>r.packages.length).sum
def bu9 (ab5:List ak8)(inst:List aa2):Pool ⊕ Int :=
 if 16<ab5.length∨256<inst.length+al4 ab5 then .inr 40 else
 if inst.all ag7=false then .inr 4 else
 match ai9 0 ab5 (rowsOf inst (-1) 1025,di1 [] 0 inst) with
 | some (rows,nm)=>.inl ⟨rows,inst.length,nm⟩
 | none=>.inr 4
def ie8 (r:Pool ⊕ Int):IV:=match r with
 | .inl p=>.tuple [p.v,.int .i64 0]
 | .inr e=>.tuple [.ab6,.int .i64 e]
/-! ### Names,as they lie in memory -/
abbrev NmL:=List (Str×List Int×Nat)
def mEs (L:NmL):List (IV×IV):=L.map fun t=>(.str t.1,.slice t.2.2 0 t.2.1.length 1)
def ay4 (L:NmL):Nms:=L.map fun t=>(t.1,t.2.1)
def az4:NmL→Str→Int→Nat→NmL
 | [],k,n,nid=>[(k,[n],nid)]
 | t::ts,k,n,nid=>if k=t.1 then (k,t.2.1++[n],nid)::ts else t::az4 ts k n nid
def cp6 (L:NmL)(k:Str):IV:=match L.find? (fun t=>decide (k=t.1)) with
 | some t=>.slice t.2.2 0 t.2.1.length 1
 | none=>.aa1
def by2 (L:NmL)(k:Str):List Int:=match L.find? (fun t=>decide (k=t.1)) with
 | some t=>t.2.1
 | none=>[]
theorem cl3 (L:NmL)(k:Str)(n:Int)(nid:Nat):ay4 (az4 L k n nid)=an1 (ay4 L) k n:=by
 induction L with
 | nil=>rfl
 | cons t ts ih=>
  simp only[az4,ay4,List.map_cons,an1];split
  ·rfl
  ·rw[List.map_cons]; congr 1
theorem ie9 (L:NmL)(k:Str):(aw5 2 (.str k) (mEs L)).map (fun r=>r.getD .aa1)=some (cp6 L k):=by
 induction L with
 | nil=>rfl
 | cons t ts ih=>
  simp only[mEs,List.map_cons,aw5,ei2,cp6,List.find?_cons] at ih ⊢;by_cases h:k=t.1
  ·simp[h]
  ·simp only[h,decide_false] at ih ⊢;exact ih
theorem hb8 (L:NmL)(k:Str):∃ r,aw5 2 (.str k) (mEs L)=some r∧r.getD .aa1=cp6 L k:=by
 have:=ie9 L k
 cases h:aw5 2 (.str k) (mEs L) with
 | none=>rw[h] at this; cases this
 | some r=>rw[h] at this; exact ⟨r,rfl,by simpa using this⟩
theorem is8 (L:NmL)(k:Str)(n:Int)(nid:Nat):eq6 2 (.str k) (.slice nid 0 ((by2 L k).length+1) 1) (mEs L)=some (mEs (az4 L k n nid)):=by
 induction L with
 | nil=>rfl
 | cons t ts ih=>
  simp only[mEs,List.map_cons,eq6,ei2,by2,List.find?_cons,az4] at ih ⊢;by_cases h:k=t.1
  ·simp[h]
  ·simp only[h,decide_false,if_false,List.map_cons] at ih ⊢;rw[ih]; rfl
theorem di2 {k:Str}{n:Int}{nid:Nat}:∀ {L:NmL},(L.map (·.1)).Nodup→∀ t∈az4 L k n nid,(t∈L∧t.1≠k)∨t=(k,by2 L k++[n],nid):=by
 intro L
 induction L with
 | nil=>intro _ t ht; simp[az4] at ht; exact .inr (by rw[ht]; rfl)
 | cons u us ih=>
  intro hk t ht;rw[List.map_cons,List.nodup_cons] at hk;simp only[az4] at ht;by_cases h:k=u.1
  ·rw[if_pos h] at ht;rcases List.mem_cons.1 ht with rfl|ht
   ·right; simp[by2,h]
   ·left;exact ⟨List.mem_cons_of_mem _ ht,fun e=>hk.1 (by rw[← h,← e]; exact List.mem_map_of_mem (f:=fun x:Str×List Int×Nat=>x.1) ht)⟩
  ·rw[if_neg h] at ht;rcases List.mem_cons.1 ht with rfl|ht
   ·left; exact ⟨List.mem_cons_self ..,fun e=>h e.symm⟩
   ·have e:by2 (u::us) k=by2 us k:=by simp[by2,h]
    rw[e];rcases ih hk.2 t ht with ⟨h1,h2⟩|h1
    ·exact .inl ⟨List.mem_cons_of_mem _ h1,h2⟩
    ·exact .inr h1
theorem ej4 {k:Str}{n:Int}{nid:Nat}:∀ (L:NmL),(L.map (·.1)).Nodup→((az4 L k n nid).map (·.1)).Nodup∧∀ x∈(az4 L k n nid).map (·.1),x=k∨x∈L.map (·.1):=by
 intro L
 induction L with
 | nil=>intro _; simp[az4]
 | cons u us ih=>
  intro hk;rw[List.map_cons,List.nodup_cons] at hk;simp only[az4];by_cases h:k=u.1
  ·rw[if_pos h];refine ⟨?_,?_⟩
   ·rw[List.map_cons,List.nodup_cons]; exact ⟨by rw[h]; exact hk.1,hk.2⟩
   ·intro x hx;simp only[List.map_cons,List.mem_cons] at hx ⊢;rcases hx with h1|h1
    ·exact .inl h1
    ·exact .inr (.inr h1)
  ·rw[if_neg h];obtain ⟨h1,h2⟩:=ih hk.2;refine ⟨?_,?_⟩
   ·rw[List.map_cons,List.nodup_cons];refine ⟨fun hm=>?_,h1⟩;rcases h2 _ hm with e|e
    ·exact h e.symm
    ·exact hk.1 e
   ·intro x hx;simp only[List.map_cons,List.mem_cons] at hx ⊢;rcases hx with h3|h3
    ·exact .inr (.inl h3)
    ·rcases h2 _ h3 with e|e
     ·exact .inl e
     ·exact .inr (.inr e)
theorem fq1 {k:Str}{n:Int}{nid:Nat}:∀ (L:NmL),(L.map (·.2.2)).Nodup→nid ∉ L.map (·.2.2)→((az4 L k n nid).map (·.2.2)).Nodup∧∀ x∈(az4 L k n nid).map (·.2.2),x=nid∨x∈L.map (·.2.2):=by
 intro L
 induction L with
 | nil=>intro _ _; simp[az4]
 | cons u us ih=>
  intro hk hn;rw[List.map_cons,List.nodup_cons] at hk;simp only[List.map_cons,List.mem_cons,not_or] at hn;simp only[az4];by_cases h:k=u.1
  ·rw[if_pos h];refine ⟨?_,?_⟩
   ·rw[List.map_cons,List.nodup_cons]; exact ⟨hn.2,hk.2⟩
   ·intro x hx;simp only[List.map_cons,List.mem_cons] at hx ⊢;rcases hx with h1|h1
    ·exact .inl h1
    ·exact .inr (.inr h1)
  ·rw[if_neg h];obtain ⟨h1,h2⟩:=ih hk.2 hn.2;refine ⟨?_,?_⟩
   ·rw[List.map_cons,List.nodup_cons];refine ⟨fun hm=>?_,h1⟩;rcases h2 _ hm with e|e
    ·exact hn.1 e.symm
    ·exact hk.1 e
   ·intro x hx;simp only[List.map_cons,List.mem_cons] at hx ⊢;rcases hx with h3|h3
    ·exact .inr (.inl h3)
    ·rcases h2 _ h3 with e|e
     ·exact .inl e
     ·exact .inr (.inr e)
theorem bv1 (L:NmL)(k:Str):(cp6 L k=.aa1∧by2 L k=[])∨∃ t∈L,t.1=k∧cp6 L k=.slice t.2.2 0 t.2.1.length 1∧by2 L k=t.2.1:=by
 unfold cp6 by2
 cases h:L.find? (fun t=>decide (k=t.1)) with
 | none=>exact .inl ⟨rfl,rfl⟩
 | some t=>
  have h1:=List.find?_some h;exact .inr ⟨t,List.mem_of_find?_eq_some h,by simpa using (by simpa using h1:k=t.1).symm,rfl,rfl⟩
theorem fq2 {L:NmL}(hk:(L.map (·.1)).Nodup)(hd:(L.map (·.2.2)).Nodup):∀ t∈L,∀ u∈L,t.2.2=u.2.2→t=u:=by
 intro t ht u hu e;obtain ⟨i,hi,h1⟩:=List.mem_iff_getElem.1 ht;obtain ⟨j,hj,h2⟩:=List.mem_iff_getElem.1 hu
 have hij:i=j:=by
  have hi':i<(L.map (·.2.2)).length:=by simpa using hi
  have hj':j<(L.map (·.2.2)).length:=by simpa using hj
  have hp:=List.pairwise_iff_getElem.1 hd;have e2:(L.map (·.2.2))[i]=(L.map (·.2.2))[j]:=by simp only[List.getElem_map,h1,h2,e]
  rcases Nat.lt_trichotomy i j with h|h|h
  ·exact absurd e2 (hp i j hi' hj' h)
  ·exact h
  ·exact absurd e2.symm (hp j i hj' hi' h)
 subst hij;rw[← h1,← h2]
end Go.Id.Md
/- What the statements of pools go over: not too much. Conditions: none; no program in sight. -/
namespace Go.Id.Md
open Go Go.Id
mutual
def aa7.ok:aa7→Prop
 | .mk k d xs=>0≤k∧k<256∧d.fit∧xs.length<2^62∧aa7.oks xs
def aa7.oks:List aa7→Prop
 | []=>True
 | r::rs=>r.ok∧aa7.oks rs
end
theorem aa7.hb9 (l:List aa7):aa7.oks l↔∀ r∈l,r.ok:=by
 induction l with
 | nil=>simp[aa7.oks]
 | cons r rs ih=>simp[aa7.oks,ih]
theorem aa7.hc5 {k:Int}{d:Dep}{xs:List aa7}:(aa7.mk k d xs).ok↔0≤k∧k<256∧d.fit∧xs.length<2^62∧∀ r∈xs,r.ok:=by
 simp only[aa7.ok,aa7.hb9]
structure aa2.Ok (p:aa2):Prop where
 name:p.name.length<2^62
 vendor:p.vendor.length<2^62
 evr:p.evr.fit
 ax1:p.provides.length<2^62∧∀ d∈p.provides,d.fit
 obs:p.ab4.length<2^62∧∀ d∈p.ab4,d.fit
 files:p.files.length<2^62∧∀ s∈p.files,s.length<2^62
 rich:∀ x∈p.rows,x.2.length<2^62∧∀ r∈x.2,r.ok
def ak8.Ok (r:ak8):Prop:=r.packages.length<2^62∧∀ p∈r.packages,p.Ok
def ay5 (p:aa2):List (List aa7):=[p.requires,p.conflicts,p.ac1,p.ab8,p.suggests,p.ac7]
/-! ### What is the same -/
/-! ### The rows of a pool -/
def ay6:Nat→List ak8→List az3
 | _,[]=>[]
 | i,r::rs=>rowsOf r.packages i r.priority++ay6 (i+1) rs
theorem cu2:∀ (rs:List ak8) (i:Nat) (st:List az3×Nms) (out:List az3×Nms),ai9 i rs st=some out→out.1=st.1++ay6 i rs:=by
 intro rs
 induction rs with
 | nil=>intro i st out h; simp only[ai9,Option.some.injEq] at h; subst h; simp[ay6]
 | cons r rs ih=>
  intro i st out h;simp only[ai9] at h;split at h
  ·cases h
  ·rw[ih _ _ _ h]; simp[ay6]
theorem gh9 {ab5:List ak8}{inst:List aa2}{p:Pool}(h:bu9 ab5 inst=.inl p):p.rows=rowsOf inst (-1) 1025++ay6 0 ab5∧p.inst=inst.length:=by
 unfold bu9 at h;split at h
 ·cases h
 split at h
 ·cases h
 split at h
 ·rename_i rows nm hr;cases h;exact ⟨cu2 _ _ _ _ hr,rfl⟩
 ·cases h
theorem gi1 {ab5:List ak8}{inst:List aa2}{e:Int}(h:bu9 ab5 inst=.inr e):e=40∨e=4:=by
 unfold bu9 at h;split at h
 ·cases h; exact .inl rfl
 split at h
 ·cases h; exact .inr rfl
 split at h
 ·cases h
 ·cases h; exact .inr rfl
end Go.Id.Md
/- Indexes,in plain words: names with their numbers,in whatever row. Conditions: none; no program in sight. -/
namespace Go.Id.Md
open Go Go.Id
def ae5:Nms→Str→List Int
 | [],_=>[]
 | t::ts,k=>if k=t.1 then t.2 else ae5 ts k
def KN (nm:Nms):Prop:=(nm.map (·.1)).Nodup
theorem bc8 {nm:Nms}{k:Str}{n:Int}(h:KN nm)(t:Str×List Int):t∈an1 nm k n↔(t∈nm∧t.1≠k)∨t=(k,ae5 nm k++[n]):=by
 induction nm with
 | nil=>simp[an1,ae5]
 | cons u us ih=>
  have h':u.1 ∉ us.map (·.1)∧KN us:=by simpa [KN] using h
  simp only[an1,ae5];by_cases e:k=u.1
  ·rw[if_pos e,if_pos e];subst e;simp only[List.mem_cons];constructor
   ·rintro (rfl|ht)
    ·exact .inr rfl
    ·exact .inl ⟨.inr ht,fun e=>h'.1 (List.mem_map.2 ⟨t,ht,e⟩)⟩
   ·rintro (⟨rfl|ht,hne⟩|rfl)
    ·exact absurd rfl hne
    ·exact .inr ht
    ·exact .inl rfl
  ·rw[if_neg e,if_neg e];simp only[List.mem_cons,ih h'.2];constructor
   ·rintro (rfl|⟨h1,h2⟩|rfl)
    ·exact .inl ⟨.inl rfl,fun e'=>e e'.symm⟩
    ·exact .inl ⟨.inr h1,h2⟩
    ·exact .inr rfl
   ·rintro (⟨rfl|h1,h2⟩|rfl)
    ·exact .inl rfl
    ·exact .inr (.inl ⟨h1,h2⟩)
    ·exact .inr (.inr rfl)
theorem fb3 {k:Str}{n:Int}:∀ {nm:Nms},∀ x∈(an1 nm k n).map (·.1),x=k∨x∈nm.map (·.1):=by
 intro nm
 induction nm with
 | nil=>intro x hx; simpa [an1] using hx
 | cons u us ih=>
  intro x hx;simp only[an1] at hx;split at hx
  ·rename_i e; simp only[List.map_cons,List.mem_cons] at hx ⊢;rcases hx with h|h
   ·exact .inl h
   ·exact .inr (.inr h)
  ·simp only[List.map_cons,List.mem_cons] at hx ⊢;rcases hx with h|h
   ·exact .inr (.inl h)
   ·rcases ih x h with h|h
    ·exact .inl h
    ·exact .inr (.inr h)
theorem aj5 {nm:Nms}{k:Str}{n:Int}(h:KN nm):KN (an1 nm k n):=by
 induction nm with
 | nil=>simp[KN,an1]
 | cons u us ih=>
  have h':u.1 ∉ us.map (·.1)∧KN us:=by simpa [KN] using h
  simp only[an1];split
  ·rename_i e; subst e; exact h
  ·rename_i e;show ((u::an1 us k n).map (·.1)).Nodup;rw[List.map_cons,List.nodup_cons];refine ⟨fun hm=>?_,ih h'.2⟩;rcases fb3 _ hm with h1|h1
   ·exact e h1.symm
   ·exact h'.1 h1
theorem KN.nd {nm:Nms}(h:KN nm):nm.Nodup:=by
 induction nm with
 | nil=>exact List.nodup_nil
 | cons u us ih=>
  have h':u.1 ∉ us.map (·.1)∧KN us:=by simpa [KN] using h
  exact List.nodup_cons.2 ⟨fun hm=>h'.1 (List.mem_map.2 ⟨u,hm,rfl⟩),ih h'.2⟩
theorem KN.perm {nm nm':Nms}(h:KN nm)(p:nm.Perm nm'):KN nm':=(p.map (fun x:Str×List Int=>x.1)).nodup_iff.1 h
theorem dc8 {nm:Nms}(h:KN nm){t:Str×List Int}(ht:t∈nm):ae5 nm t.1=t.2:=by
 induction nm with
 | nil=>cases ht
 | cons u us ih=>
  have h':u.1 ∉ us.map (·.1)∧KN us:=by simpa [KN] using h
  simp only[ae5];rcases List.mem_cons.1 ht with rfl|ht
  ·rw[if_pos rfl]
  ·rw[if_neg (fun e=>h'.1 (List.mem_map.2 ⟨t,ht,e⟩))];exact ih h'.2 ht
theorem cp7 {nm:Nms}{k:Str}(h:k ∉ nm.map (·.1)):ae5 nm k=[]:=by
 induction nm with
 | nil=>rfl
 | cons u us ih=>
  simp only[List.map_cons,List.mem_cons,not_or] at h;simp only[ae5];rw[if_neg h.1]; exact ih h.2
theorem cp8 {nm nm':Nms}(h:KN nm)(p:nm.Perm nm')(k:Str):ae5 nm k=ae5 nm' k:=by
 by_cases hk:k∈nm.map (·.1)
 ·obtain ⟨t,ht,rfl⟩:=List.mem_map.1 hk;rw[dc8 h ht,dc8 (h.perm p) (p.mem_iff.1 ht)]
 ·rw[cp7 hk,cp7 (fun e=>hk ((p.map (·.1)).mem_iff.2 e))]
theorem bc9 {nm:Nms}(h:KN nm)(k:Str)(n:Int)(j:Str):ae5 (an1 nm k n) j=if j=k then ae5 nm k++[n] else ae5 nm j:=by
 induction nm with
 | nil=>
  simp only[an1,ae5]
  split<;>rfl
 | cons u us ih=>
  have h':u.1 ∉ us.map (·.1)∧KN us:=by simpa [KN] using h
  simp only[an1,ae5];by_cases e:k=u.1
  ·rw[if_pos e,if_pos e];simp only[ae5];by_cases ej:j=k
   ·rw[if_pos ej,if_pos ej]
   ·rw[if_neg ej,if_neg ej,if_neg (fun x=>ej (x.trans e.symm))]
  ·rw[if_neg e,if_neg e];simp only[ae5,ih h'.2];by_cases ej:j=k
   ·rw[if_pos ej,if_pos ej,if_neg (fun x=>e (ej.symm.trans x))]
   ·rw[if_neg ej,if_neg ej]
theorem bo3 {nm nm':Nms}{k:Str}{n:Int}(h:KN nm)(p:nm.Perm nm'):(an1 nm k n).Perm (an1 nm' k n):=by
 refine (List.perm_ext_iff_of_nodup (aj5 h).nd (aj5 (h.perm p)).nd).2 fun t=>?_
 rw[bc8 h,bc8 (h.perm p),cp8 h p,p.mem_iff]
theorem fb4 {nm:Nms}{k j:Str}{n:Int}(h:KN nm):(an1 (an1 nm k n) j n).Perm (an1 (an1 nm j n) k n):=by
 by_cases e:k=j
 ·subst e; exact .refl _
 refine (List.perm_ext_iff_of_nodup (aj5 (aj5 h)).nd (aj5 (aj5 h)).nd).2 fun t=>?_
 rw[bc8 (aj5 h),bc8 (aj5 h),bc8 h,bc8 h,bc9 h,bc9 h,if_neg (fun x=>e x.symm),if_neg e];constructor
 ·rintro (⟨⟨h1,h2⟩|rfl,h3⟩|rfl)
  ·exact .inl ⟨.inl ⟨h1,h3⟩,h2⟩
  ·exact .inr rfl
  ·exact .inl ⟨.inr rfl,fun x=>e x.symm⟩
 ·rintro (⟨⟨h1,h2⟩|rfl,h3⟩|rfl)
  ·exact .inl ⟨.inl ⟨h1,h3⟩,h2⟩
  ·exact .inr rfl
  ·exact .inl ⟨.inr rfl,e⟩
def ay7 (nm:Nms)(ks:List Str)(n:Int):Nms:=ks.foldl (fun m k=>an1 m k n) nm
theorem dq8 {n:Int}:∀ {ks:List Str} {nm:Nms},KN nm→KN (ay7 nm ks n)
 | [],_,h=>h
 | _::ks,_,h=>dq8 (ks:=ks) (aj5 h)
theorem cp9 {n:Int}:∀ (ks:List Str) {nm nm':Nms},KN nm→nm.Perm nm'→(ay7 nm ks n).Perm (ay7 nm' ks n)
 | [],_,_,_,p=>p
 | _::ks,_,_,h,p=>cp9 ks (aj5 h) (bo3 h p)
theorem dq9 {n:Int}{ks js:List Str}(p:ks.Perm js):∀ {nm:Nms},KN nm→(ay7 nm ks n).Perm (ay7 nm js n):=by
 induction p with
 | nil=>intro nm _; exact .refl _
 | cons x _ ih=>intro nm h; exact ih (aj5 h)
 | swap x y l=>intro nm h; exact cp9 l (aj5 (aj5 h)) (fb4 h)
 | trans p1 _ ih1 ih2=>intro nm h; exact (ih1 h).trans (ih2 h)
theorem eb8 (nm:Nms)(ks:List Str)(k:Str)(n:Int):ay7 nm (ks++[k]) n=an1 (ay7 nm ks n) k n:=by simp[ay7]
def aq9 (l:List Str)(k:Str):List Str:=if k∈l then l else l++[k]
def cq1 (p:aa2):List Str:=p.files.foldl aq9 ((p.provides.map (·.name)).foldl aq9 [p.name])
def aq3 (nm:Nms)(ds:List Str)(n:Int):Nms:=ds.foldl (fun m k=>if n∈ae5 m k then m else an1 m k n) nm
theorem ch5 (nm:Nms)(ks:List Str)(k:Str)(n:Int):aq3 nm (ks++[k]) n=if n∈ae5 (aq3 nm ks n) k then aq3 nm ks n else an1 (aq3 nm ks n) k n:=by
 unfold aq3; rw[List.foldl_append]; rfl
structure Index where
 all:List aa2
 ax1:Nms
 names:Nms
 over:Nms
def Index.v (x:Index):IV:=.ac2 [.aa3 (x.all.map aa2.cs),.ap7 (nmV x.ax1),.ap7 (nmV x.names),.ap7 (nmV x.over)]
def dr1 (x:Index)(n:Nat)(p:aa2):Index:=⟨x.all++[p],ay7 x.ax1 (cq1 p) n,an1 x.names p.name n,aq3 x.over (p.ab4.map (·.name)) n⟩
def idxFrom (x:Index):Nat→List aa2→Index
 | _,[]=>x
 | n,p::ps=>idxFrom (dr1 x n p) (n+1) ps
def av5 (l:List aa2):Index:=idxFrom ⟨[],[],[],[]⟩ 0 l
theorem dr2 (ps:List aa2)(p:aa2):∀ (x:Index) (n:Nat),idxFrom x n (ps++[p])=dr1 (idxFrom x n ps) (n+ps.length) p:=by
 induction ps with
 | nil=>intro x n; rfl
 | cons q qs ih=>intro x n; show idxFrom _ (n+1) (qs++[p])=_; rw[ih,List.length_cons]; congr 1; omega
theorem fb5 (L:NmL)(k:Str):ae5 (ay4 L) k=by2 L k:=by
 induction L with
 | nil=>rfl
 | cons t ts ih=>
  simp only[ay4,List.map_cons,ae5,by2,List.find?_cons] at ih ⊢;by_cases h:k=t.1
  ·simp[h]
  ·simp only[h,decide_false,if_false] at ih ⊢;exact ih
end Go.Id.Md
/- Indexes,in plain words: who stands in them,by number. Conditions: none; no program in sight. -/
namespace Go.Id.Md
open Go Go.Id
def numsOf (q:aa2→Bool)(l:List aa2):List Int:=((List.range l.length).filter fun n=>q (l.getD n default)).map fun (n:Nat)=>(n:Int)
theorem br3 (q:aa2→Bool)(l:List aa2)(p:aa2):numsOf q (l++[p])=numsOf q l++if q p then [(l.length:Int)] else []:=by
 unfold numsOf;rw[List.length_append,List.length_singleton,List.range_succ,List.filter_append,List.map_append];congr 1
 ·congr 1;refine List.filter_congr fun n hn=>?_
  have h:=List.mem_range.1 hn;simp[List.getD_eq_getElem?_getD,List.getElem?_append,h]
 ·have e:(l++[p]).getD l.length default=p:=by simp[List.getD_eq_getElem?_getD]
  simp only[List.filter_cons,List.filter_nil,e];split<;>rfl
theorem dc9 {q:aa2→Bool}{l:List aa2}{n:Int}:n∈numsOf q l↔∃ m:Nat,n=m∧m<l.length∧q (l.getD m default)=true:=by
 unfold numsOf;rw[List.mem_map];constructor
 ·rintro ⟨m,hm,rfl⟩;obtain ⟨h1,h2⟩:=List.mem_filter.1 hm;exact ⟨m,rfl,List.mem_range.1 h1,h2⟩
 ·rintro ⟨m,rfl,h1,h2⟩;exact ⟨m,List.mem_filter.2 ⟨List.mem_range.2 h1,by simpa using h2⟩,rfl⟩
theorem dd2 (q:aa2→Bool)(l:List aa2):(numsOf q l).length≤l.length:=by
 unfold numsOf;rw[List.length_map];exact Nat.le_trans (List.length_filter_le _ _) (by simp)
theorem di3 (q r:aa2→Bool)(l:List aa2):(numsOf q l).filter (fun n=>r (l.getD n.toNat default))=numsOf (fun p=>q p&&r p) l:=by
 unfold numsOf;rw[List.filter_map,List.filter_filter];congr 1;refine List.filter_congr fun n _=>?_
 show (r (l.getD ((n:Int)).toNat default)&&q (l.getD n default))=_;rw[Int.toNat_natCast,Bool.and_comm]
theorem dr3 {q r:aa2→Bool}{l:List aa2}(h:∀ p∈l,q p=r p):numsOf q l=numsOf r l:=by
 unfold numsOf;congr 1;refine List.filter_congr fun n hn=>?_
 have hlt:=List.mem_range.1 hn;refine h _ ?_;rw[List.getD_eq_getElem?_getD,List.getElem?_eq_getElem hlt];exact List.getElem_mem hlt
theorem eb9 {n:Int}:∀ (ks:List Str) {nm:Nms},KN nm→ks.Nodup→∀ j,ae5 (ay7 nm ks n) j=ae5 nm j++if j∈ks then [n] else []:=by
 intro ks
 induction ks with
 | nil=>intro nm _ _ j; simp[ay7]
 | cons k ks ih=>
  intro nm h hnd j;obtain ⟨h1,h2⟩:=List.nodup_cons.1 hnd;show ae5 (ay7 (an1 nm k n) ks n) j=_;rw[ih (aj5 h) h2,bc9 h];by_cases e:j=k
  ·subst e; simp[h1]
  ·simp[e]
theorem fb6 {n:Int}:∀ (ks:List Str) {nm:Nms},KN nm→KN (aq3 nm ks n):=by
 intro ks
 induction ks with
 | nil=>intro nm h; exact h
 | cons k ks ih=>
  intro nm h;show KN (aq3 (if n∈ae5 nm k then nm else an1 nm k n) ks n);split
  ·exact ih h
  ·exact ih (aj5 h)
theorem dr4 {n:Int}:∀ (ks:List Str) {nm:Nms},KN nm→∀ j,ae5 (aq3 nm ks n) j=ae5 nm j++if j∈ks∧n ∉ ae5 nm j then [n] else []:=by
 intro ks
 induction ks with
 | nil=>intro nm _ j; simp[aq3]
 | cons k ks ih=>
  intro nm h j;show ae5 (aq3 (if n∈ae5 nm k then nm else an1 nm k n) ks n) j=_;by_cases hk:n∈ae5 nm k
  ·rw[if_pos hk,ih h];by_cases e:j=k
   ·subst e; simp[hk]
   ·simp[e]
  ·rw[if_neg hk,ih (aj5 h),bc9 h];by_cases e:j=k
   ·subst e; simp[hk]
   ·simp[e]
theorem fb7 {l:List Str}{k j:Str}:j∈aq9 l k↔j∈l∨j=k:=by
 unfold aq9;split
 ·rename_i h; exact ⟨.inl,fun h'=>h'.elim id fun e=>e▸h⟩
 ·simp
theorem cq2 {j:Str}:∀ (ks l:List Str),j∈ks.foldl aq9 l↔j∈l∨j∈ks:=by
 intro ks
 induction ks with
 | nil=>intro l; simp
 | cons k ks ih=>intro l; rw[List.foldl_cons,ih,fb7,List.mem_cons,or_assoc]
theorem fb8 {l:List Str}(h:l.Nodup)(k:Str):(aq9 l k).Nodup:=by
 unfold aq9;split
 ·exact h
 ·rename_i hk;rw[List.nodup_append];exact ⟨h,by simp,fun a ha b hb e=>by simp at hb; subst hb; subst e; exact hk ha⟩
theorem br4:∀ (ks:List Str) {l:List Str},l.Nodup→(ks.foldl aq9 l).Nodup
 | [],_,h=>h
 | k::ks,_,h=>br4 ks (fb8 h k)
theorem gi2 (p:aa2):(cq1 p).Nodup:=br4 _ (br4 _ (by simp))
theorem gi3 (p:aa2)(j:Str):j∈cq1 p↔j=p.name∨(∃ d∈p.provides,d.name=j)∨j∈p.files:=by
 unfold cq1;rw[cq2,cq2];simp[or_assoc]
structure ec1 (x:Index) (l:List aa2):Prop where
 all:x.all=l
 kp:KN x.ax1
 kn:KN x.names
 ko:KN x.over
 ax1:∀ j,ae5 x.ax1 j=numsOf (fun p=>decide (j∈cq1 p)) l
 names:∀ j,ae5 x.names j=numsOf (fun p=>decide (p.name=j)) l
 over:∀ j,ae5 x.over j=numsOf (fun p=>decide (∃ d∈p.ab4,d.name=j)) l
theorem ec1.add {x:Index}{l:List aa2}(h:ec1 x l)(p:aa2):ec1 (dr1 x l.length p) (l++[p]) where
 all:=by show x.all++[p]=_; rw[h.all]
 kp:=dq8 h.kp
 kn:=aj5 h.kn
 ko:=fb6 _ h.ko
 ax1:=fun j=>by
  show ae5 (ay7 x.ax1 (cq1 p) _) j=_;rw[eb9 _ h.kp (gi2 p),h.ax1,br3];simp
 names:=fun j=>by
  show ae5 (an1 x.names p.name _) j=_;rw[bc9 h.kn,h.names,h.names,br3];by_cases e:j=p.name
  ·subst e; simp
  ·have e':¬ p.name=j:=fun h=>e h.symm
   simp[e,e']
 over:=fun j=>by
  show ae5 (aq3 x.over _ _) j=_;rw[dr4 _ h.ko,h.over,br3]
  have hn:(l.length:Int) ∉ numsOf (fun p=>decide (∃ d∈p.ab4,d.name=j)) l:=fun hm=>by
   obtain ⟨m,e,h1,_⟩:=dc9.1 hm;omega
  simp[hn]
theorem fb9:∀ (ps:List aa2) {x:Index} {l:List aa2},ec1 x l→ec1 (idxFrom x l.length ps) (l++ps):=by
 intro ps
 induction ps with
 | nil=>intro x l h; rw[List.append_nil]; exact h
 | cons p ps ih=>
  intro x l h;have:=ih (h.add p);rw[List.append_assoc] at this
  simpa [idxFrom] using this
theorem fq3 (l:List aa2):ec1 (av5 l) l:=by
 have h0:ec1 ⟨[],[],[],[]⟩ []:=⟨rfl,List.nodup_nil,List.nodup_nil,List.nodup_nil,fun _=>by simp[ae5,numsOf],fun _=>by simp[ae5,numsOf],fun _=>by simp[ae5,numsOf]⟩;exact fb9 l h0
/-! ### Who provides -/
theorem fq4 {p:aa2}{d:Dep}(h:named p d=true):p.name=d.name:=by
 unfold named meets own at h;simp only[Bool.and_eq_true,decide_eq_true_eq] at h;exact h.1
theorem dr5 {p:aa2}{d:Dep}(h:provides p d=true):d.name∈cq1 p:=by
 unfold provides at h;rw[gi3];simp only[Bool.or_eq_true,Bool.and_eq_true,decide_eq_true_eq,List.any_eq_true] at h;rcases h with (h|⟨a,ha,h⟩)|⟨_,h⟩
 ·exact .inl (fq4 h).symm
 ·unfold meets at h;simp only[Bool.and_eq_true,decide_eq_true_eq] at h;exact .inr (.inl ⟨a,ha,h.1⟩)
 ·exact .inr (.inr (by simpa using h))
def an2 (l:List aa2)(d:Dep):List Int:=numsOf (fun p=>provides p d) l
theorem dr6 (l:List aa2)(d:Dep):(ae5 (av5 l).ax1 d.name).filter (fun n=>provides (l.getD n.toNat default) d)=an2 l d:=by
 rw[(fq3 l).ax1];refine (di3 (fun p=>decide (d.name∈cq1 p)) (fun p=>provides p d) l).trans ?_
 exact dr3 fun p _=>by
  cases h:provides p d with
  | false=>simp
  | true=>simp[dr5 h]
end Go.Id.Md
/- Pools of packages that may be: sizes. Conditions: none; no program in sight. -/
namespace Go.Id.Md
open Go Go.Id
theorem di4:∀ (rs:List ak8) (i:Nat) (st:List az3×Nms) (out:List az3×Nms),ai9 i rs st=some out→∀ r∈rs,r.packages.all ag7=true:=by
 intro rs
 induction rs with
 | nil=>intro i st out _ r hr; cases hr
 | cons x xs ih=>
  intro i st out h r hr;simp only[ai9] at h;split at h
  ·cases h
  ·rename_i hc;rcases List.mem_cons.1 hr with rfl|hr
   ·cases hb:r.packages.all ag7 with
    | true=>rfl
    | false=>exact absurd (.inr (.inr hb)) hc
   ·exact ih _ _ _ h r hr
theorem dd3 {ab5:List ak8}{inst:List aa2}{p:Pool}(h:bu9 ab5 inst=.inl p):ab5.length≤16∧inst.length+al4 ab5≤256∧inst.all ag7=true∧∀ r∈ab5,r.packages.all ag7=true:=by
 unfold bu9 at h;split at h
 ·cases h
 rename_i hc;split at h
 ·cases h
 rename_i hm;split at h
 ·rename_i rows nm hr;exact ⟨by omega,by omega,by simpa using hm,di4 _ _ _ _ hr⟩
 ·cases h
theorem dd4 (l:List aa2)(a b:Int):(rowsOf l a b).map (·.pkg)=l:=by
 induction l with
 | nil=>rfl
 | cons x xs ih=>show x::(rowsOf xs a b).map (·.pkg)=_; rw[ih]
def ad1 (p:Pool):List aa2:=p.rows.map (·.pkg)
theorem di5:∀ (rs:List ak8) (i:Nat),(ay6 i rs).map (·.pkg)=rs.flatMap (·.packages):=by
 intro rs
 induction rs with
 | nil=>intro i; rfl
 | cons r rs ih=>intro i; simp only[ay6,List.map_append,ih,dd4,List.flatMap_cons]
theorem fq5:∀ (rs:List ak8),(rs.flatMap (·.packages)).length=al4 rs:=by
 intro rs
 induction rs with
 | nil=>rfl
 | cons r rs ih=>simp only[List.flatMap_cons,List.length_append,ih]; rfl
theorem cq3 {ab5:List ak8}{inst:List aa2}{p:Pool}(h:bu9 ab5 inst=.inl p):ad1 p=inst++ab5.flatMap (·.packages):=by
 unfold ad1;rw[(gh9 h).1,List.map_append,di5];congr 1;exact dd4 _ _ _
theorem di6 {ab5:List ak8}{inst:List aa2}{p:Pool}(h:bu9 ab5 inst=.inl p):p.rows.length≤256:=by
 have e:p.rows.length=(ad1 p).length:=by simp[ad1]
 rw[e,cq3 h,List.length_append,fq5];exact (dd3 h).2.1
theorem ej5 {ab5:List ak8}{inst:List aa2}{p:Pool}(h:bu9 ab5 inst=.inl p):∀ x∈ad1 p,ag7 x=true∧(x∈inst∨∃ r∈ab5,x∈r.packages):=by
 intro x hx;rw[cq3 h] at hx;obtain ⟨_,_,h1,h2⟩:=dd3 h;rcases List.mem_append.1 hx with hx|hx
 ·exact ⟨List.all_eq_true.1 h1 x hx,.inl hx⟩
 ·obtain ⟨r,hr,hxr⟩:=List.mem_flatMap.1 hx;exact ⟨List.all_eq_true.1 (h2 r hr) x hxr,.inr ⟨r,hr,hxr⟩⟩
def EVR.tiny (e:EVR):Prop:=e.ver.length≤64∧e.rel.length≤64
theorem ej6 {s:Str}(h:bf3 s=true):s.length≤64:=by
 unfold bf3 at h;simp only[Bool.and_eq_true,decide_eq_true_eq] at h;exact h.1.2
theorem ej7 {e:EVR}{b:Bool}(h:bf4 e b=true):e.tiny:=by
 unfold bf4 at h;simp only[Bool.and_eq_true,Bool.or_eq_true,decide_eq_true_eq] at h;refine ⟨ej6 h.1.2,?_⟩;rcases h.2 with h|h
 ·exact ej6 h
 ·have:=List.isEmpty_iff.1 h.2; rw[this]; exact Nat.zero_le _
theorem di7 {d:Dep}(h:aj7 d=true):0≤d.op∧d.op<256∧d.evr.tiny∧d.name.length≤64:=by
 unfold aj7 at h;simp only[Bool.and_eq_true] at h;obtain ⟨⟨h1,h2⟩,h3⟩:=h
 have hn:d.name.length≤64:=by
  unfold aw4 at h1;simp only[Bool.and_eq_true,decide_eq_true_eq] at h1;exact h1.1.1.2
 have ho:0≤d.op∧d.op<256:=by
  unfold fb2 at h2;simp only[List.contains_iff_mem,List.mem_cons,List.not_mem_nil,or_false] at h2;omega
 refine ⟨ho.1,ho.2,?_,hn⟩;split at h3
 ·have:d.evr=ht7:=by simpa using h3
  rw[this]; exact ⟨by decide,by decide⟩
 ·simp only[Bool.and_eq_true] at h3;exact ej7 h3.2
structure aa2.Tiny (p:aa2):Prop where
 name:p.name.length≤64
 evr:p.evr.tiny
 ax1:p.provides.length≤32∧∀ d∈p.provides,0≤d.op∧d.op<256∧d.evr.tiny∧d.name.length≤64
 obs:p.ab4.length≤32∧∀ d∈p.ab4,0≤d.op∧d.op<256∧d.evr.tiny∧d.name.length≤64
 files:p.files.length≤32
theorem ej8 {p:aa2}(h:ag7 p=true):p.Tiny:=by
 unfold ag7 at h;simp only[Bool.and_eq_true,decide_eq_true_eq] at h;obtain ⟨⟨⟨⟨⟨⟨⟨⟨⟨⟨⟨⟨⟨⟨h1,_⟩,h3⟩,_⟩,_⟩,h6,h6'⟩,h7,h7'⟩,h8,_⟩,_⟩,_⟩,_⟩,_⟩,_⟩,_⟩,_⟩:=h;refine ⟨?_,ej7 h3,⟨h6,fun d hd=>di7 (List.all_eq_true.1 h6' d hd)⟩,⟨h7,fun d hd=>di7 (List.all_eq_true.1 h7' d hd)⟩,h8⟩;unfold aw4 at h1;simp only[Bool.and_eq_true,decide_eq_true_eq] at h1;exact h1.1.1.2
end Go.Id.Md
/- What is asked for,in plain words: successors,newcomers,whom a job means,what fulfils it. Conditions: none; no program in sight. -/
namespace Go.Id.Md
open Go Go.Id
structure Job where
 kind:Int
 dep:Dep
 deriving DecidableEq,Inhabited
structure bf9 where
 kind:Int
 n:Int
 deriving DecidableEq,Inhabited
structure Req where
 ao2:Int
 vendor:Bool
 au3:List Job
 am2:List bf9
 budget:Int
def Job.cs (j:Job):List IV:=[.int .u8 j.kind,.str j.dep.name,.int .u8 j.dep.op,.int .i64 j.dep.evr.am6,.str j.dep.evr.ver,.str j.dep.evr.rel]
def bf9.cs (e:bf9):List IV:=[.int .u8 e.kind,.int .i64 e.n]
abbrev cj5 (l:List Job):IV:=.aa3 (l.map Job.cs)
abbrev bi5 (l:List bf9):IV:=.aa3 (l.map bf9.cs)
def Req.cs (r:Req):List IV:=[.int .u8 r.ao2,.bool r.vendor,cj5 r.au3,bi5 r.am2,.int .i64 r.budget]
/-! ### Numbers for which something holds -/
def ao6 (q:Nat→Bool)(k:Nat):List Int:=((List.range k).filter q).map fun (n:Nat)=>(n:Int)
theorem fc1 (q:Nat→Bool)(k:Nat):ao6 q (k+1)=ao6 q k++if q k then [(k:Int)] else []:=by
 unfold ao6;rw[List.range_succ,List.filter_append,List.map_append];congr 1;simp only[List.filter_cons,List.filter_nil];split<;>rfl
theorem dr7 {q:Nat→Bool}{k:Nat}{n:Int}:n∈ao6 q k↔∃ m:Nat,n=m∧m<k∧q m=true:=by
 unfold ao6;rw[List.mem_map];constructor
 ·rintro ⟨m,hm,rfl⟩;obtain ⟨h1,h2⟩:=List.mem_filter.1 hm;exact ⟨m,rfl,List.mem_range.1 h1,h2⟩
 ·rintro ⟨m,rfl,h1,h2⟩;exact ⟨m,List.mem_filter.2 ⟨List.mem_range.2 h1,h2⟩,rfl⟩
theorem bv2 (q:Nat→Bool)(k:Nat):(ao6 q k).length≤k:=by
 unfold ao6;rw[List.length_map];exact Nat.le_trans (List.length_filter_le _ _) (by simp)
theorem gi4 (q:Nat→Bool)(k:Nat):(ao6 q k).Pairwise (· < ·):=by
 unfold ao6;refine List.Pairwise.map (R:=fun (a b:Nat)=>a<b) _ (fun a b h=>by show (a:Int)<b; omega) ?_;exact List.Pairwise.filter _ List.pairwise_lt_range
theorem ec2 {q r:Nat→Bool}{k:Nat}(h:∀ n,n<k→q n=r n):ao6 q k=ao6 r k:=by
 unfold ao6;congr 1;exact List.filter_congr fun n hn=>h n (List.mem_range.1 hn)
/-! ### Architectures -/
def fc2 (a:Int):Bool:=ao5 a&&!decide (a=1)
def ay8 (m a:Int):Int :=
 if m=2 then (if a=1 then 2 else if a=2 then 1 else if a=3 then 3 else 0) else
 if m=3 then (if a=1 then 2 else if a=3 then 1 else 0) else
 if m=4 then (if a=1 then 2 else if a=4 then 1 else 0) else 0
def if1 (m a:Int):Bool:=decide (0<ay8 m a)
/-! ### What is asked for -/
structure av6 where
 p:Pool
 r:Req
namespace av6
variable (a:av6)
def l:List aa2:=ad1 a.p
def pk (n:Int):aa2:=a.l.getD n.toNat default
def is (n:Int):Bool:=decide (0≤n)&&decide (n<a.l.length)
def inst (n:Int):Bool:=a.is n&&decide (n<a.p.inst)
def fits (n:Int):Bool:=a.is n&&if1 a.r.ao2 (a.pk n).ao2
def some (state l:List Int):Bool:=l.any fun n=>decide (n∈state)
def cs:List IV:=[a.p.v,(av5 a.l).v,.int .u8 a.r.ao2,.bool a.r.vendor,cj5 a.r.au3,bi5 a.r.am2,.int .i64 a.r.budget,.aa3 (a.l.map aa2.cs)]
def v:IV:=.ac2 a.cs
end av6
def br5 (e:bf9)(au3 inst:Int):Bool:=decide (1≤e.kind)&&decide (e.kind≤4)&&decide (0≤e.n)&&decide (e.n<if e.kind=1 then au3 else inst)
def ch6 (j:Job):Bool:=decide (1≤j.kind)&&decide (j.kind≤4)&&aj7 j.dep
def as4 (r:Req)(inst:Int):Int :=
 if fc2 r.ao2=false∨r.budget<0∨1099511627776<r.budget then 1 else
 if 64<r.au3.length∨64<r.am2.length then 40 else
 if r.au3.all ch6=false then 4 else
 if r.am2.all (fun e=>br5 e r.au3.length inst)=false then 5 else 0
def if2 (p:Pool)(r:Req):IV:=if as4 r p.inst=0 then .tuple [(av6.mk p r).v,.int .i64 0] else .tuple [.ab6,.int .i64 (as4 r p.inst)]
/-! ### Versions,turned about -/
theorem cl4 (a b:Int):am9 b a=- am9 a b:=by
 unfold am9; split<;>split<;>(try split)<;>(try split)<;>omega
theorem cq4 {a b:Int}:am9 a b=0↔a=b:=by
 unfold am9;split
 ·constructor
  ·intro h; omega
  ·intro h; omega
 ·split
  ·simp_all
  ·constructor
   ·intro h; omega
   ·intro h; contradiction
theorem cl5:∀ (x y:List UInt8),Op.bytesLess x y=decide (x<y)
 | [],[]=>by simp[Op.bytesLess]
 | _::_,[]=>by simp[Op.bytesLess]
 | [],_::_=>by simp[Op.bytesLess]
 | a::x,b::y=>by
  simp only[Op.bytesLess,cl5 x y,List.cons_lt_cons_iff];by_cases h:a<b
  ·simp[h]
  ·by_cases h2:a=b
   ·subst h2; simp
   ·simp[h,h2]
theorem if3 (a b:Str):Op.bytesLess a b=true∧Op.bytesLess b a=false∧a≠b∨a=b∧Op.bytesLess a b=false∨Op.bytesLess b a=true∧Op.bytesLess a b=false∧a≠b:=by
 simp only[cl5,decide_eq_true_eq,decide_eq_false_iff_not];rcases Decidable.em (a<b) with h|h
 ·exact .inl ⟨h,fun h2=>List.lt_asymm h h2,fun e=>List.lt_irrefl a (by rw[← e] at h; exact h)⟩
 ·rcases Decidable.em (b<a) with h2|h2
  ·exact .inr (.inr ⟨h2,h,fun e=>List.lt_irrefl a (by rw[← e] at h2; exact h2)⟩)
  ·exact .inr (.inl ⟨List.le_antisymm (List.not_lt.1 h2) (List.not_lt.1 h),h⟩)
theorem ej9 (a b:Str):cp5 b a=- cp5 a b:=by
 unfold cp5;rcases if3 a b with ⟨h1,h2,h3⟩|⟨rfl,h⟩|⟨h1,h2,h3⟩
 ·rw[h1,h2,if_neg (by simp),if_neg (fun e=>h3 e.symm),if_pos rfl]; rfl
 ·rw[h]; simp
 ·rw[h1,h2,if_pos rfl,if_neg (by simp),if_neg h3]
theorem ec3 (a b:Part):af3 b a=- af3 a b:=by
 unfold af3;simp only[cl4 (a.kind:Int) b.kind,cl4 (a.s.length:Int) b.s.length,ej9 a.s b.s];have e:(b.kind=5∧a.kind=5)↔(a.kind=5∧b.kind=5):=And.comm;by_cases h1:am9 (a.kind:Int) b.kind=0
 ·simp only[h1,Int.neg_zero,ne_eq,not_true_eq_false,if_false,e];by_cases h2:a.kind=5∧b.kind=5
  ·simp only[h2,and_self,if_true];by_cases h3:am9 (a.s.length:Int) b.s.length=0
   ·simp[h3]
   ·have h4:¬ - am9 (a.s.length:Int) b.s.length=0:=by omega
    simp[h3,h4]
  ·simp[h2]
 ·have h2:¬ - am9 (a.kind:Int) b.kind=0:=by omega
  simp[h1,h2]
theorem dr8:∀ (a b:List Part),af6 b a=- af6 a b:=by
 intro a
 induction a with
 | nil=>intro b; cases b<;>rfl
 | cons x a ih=>
  intro b
  cases b with
  | nil=>rfl
  | cons y b=>
   simp only[af6,ec3 x y];by_cases h:af3 x y=0
   ·simp[h,ih b]
   ·have h2:¬ - af3 x y=0:=by omega
    simp[h,h2]
theorem cf6 (a b:Str):an4 b a=- an4 a b:=dr8 _ _
theorem fc3 (a b:EVR):ar5 b a=- ar5 a b:=by
 unfold ar5;rw[cl4 a.am6 b.am6,cf6 a.ver b.ver,cf6 a.rel b.rel];by_cases h1:am9 a.am6 b.am6=0
 ·by_cases h2:an4 a.ver b.ver=0
  ·simp only[h1,h2,Int.neg_zero,ne_eq,not_true_eq_false,if_false];by_cases h3:a.rel=[]∨b.rel=[]
   ·rw[if_pos h3,if_pos h3.symm]; rfl
   ·rw[if_neg h3,if_neg (fun h=>h3 h.symm)]
  ·have h3:¬ - an4 a.ver b.ver=0:=by omega
   simp[h1,h2,h3]
 ·have h3:¬ - am9 a.am6 b.am6=0:=by omega
  simp[h1,h3]
/-! ### What holds of it -/
namespace av6
variable (a:av6)
theorem fq6 (n:Nat):a.is n=decide (n<a.l.length):=by
 unfold is;have:(0:Int)≤n:=by omega
 simp only[this,decide_true,Bool.true_and];exact decide_eq_decide.2 (by omega)
end av6
end Go.Id.Md
/- What holds of what is asked for: am2,states. Conditions: none; no program in sight. -/
namespace Go.Id.Md
open Go Go.Id
namespace av6
variable (a:av6)
/-! ### One edit more -/
variable (x:bf9)
variable {x} (hx:x.kind≠1)
include hx
end av6
end Go.Id.Md
/- Who is better: an order; rich dependencies,whole and true: in plain words. Conditions: none; no program in sight. -/
namespace Go.Id.Md
open Go Go.Id
/-! ### Orders -/
structure WO {α:Type} (S:α→Prop) (f:α→α→Int):Prop where
 neg:∀ a b,f b a=- f a b
 tr:∀ a b c,S a→S b→S c→f a b≤0→f b c≤0→f a c≤0
def lex (x y:Int):Int:=if x=0 then y else x
theorem hc7 (x y:Int):lex (-x) (-y)=- lex x y:=by unfold lex; split<;>split<;>omega
theorem WO.lex {α:Type}{S:α→Prop}{f g:α→α→Int}(hf:WO S f)(hg:WO S g):WO S fun a b=>Md.lex (f a b) (g a b) where
 neg:=fun a b=>by show Md.lex (f b a) (g b a)=_; rw[hf.neg,hg.neg,hc7]
 tr:=fun a b c sa sb sc h1 h2=>by
  have k1:=hf.tr a b c sa sb sc;have k2:=hf.tr c a b sc sa sb;have k3:=hf.tr b c a sb sc sa;have k4:=hg.tr a b c sa sb sc;have n1:=hf.neg a b;have n2:=hf.neg b c;have n3:=hf.neg a c;unfold Md.lex at *;split at h1<;>split at h2<;>split<;>omega
theorem WO.of {α β:Type}{S:β→Prop}{f:β→β→Int}(hf:WO S f)(g:α→β):WO (fun a=>S (g a)) fun a b=>f (g a) (g b) where
 neg:=fun a b=>hf.neg _ _
 tr:=fun a b c sa sb sc=>hf.tr _ _ _ sa sb sc
theorem WO.flip {α:Type}{S:α→Prop}{f:α→α→Int}(hf:WO S f):WO S fun a b=>f b a where
 neg:=fun a b=>hf.neg b a
 tr:=fun a b c sa sb sc h1 h2=>hf.tr c b a sc sb sa h2 h1
theorem WO.sub {α:Type}{S T:α→Prop}{f:α→α→Int}(hf:WO S f)(h:∀ a,T a→S a):WO T f:=⟨hf.neg,fun a b c sa sb sc=>hf.tr a b c (h a sa) (h b sb) (h c sc)⟩
theorem ek1:WO (fun _=>True) am9 where
 neg:=fun a b=>cl4 a b
 tr:=fun a b c _ _ _ h1 h2=>by
  unfold am9 at *;split at h1<;>split at h2<;>split<;>(try split at h1)<;>(try split at h2)<;>(try split)<;>omega
theorem ec4 {a b:Str}:cp5 a b≤0↔a≤b:=by
 unfold cp5;rcases if3 a b with ⟨h1,h2,h3⟩|⟨rfl,h⟩|⟨h1,h2,h3⟩
 ·rw[h1,if_pos rfl];rw[cl5,decide_eq_true_eq] at h1;exact ⟨fun _=>List.le_of_lt h1,fun _=>by decide⟩
 ·rw[h]; simp[List.le_refl]
 ·rw[h2,if_neg (by simp),if_neg h3];rw[cl5,decide_eq_true_eq] at h1;exact ⟨fun h=>absurd h (by decide),fun h=>absurd h1 (List.not_lt.2 h)⟩
theorem if4:WO (fun _=>True) cp5 where
 neg:=fun a b=>ej9 a b
 tr:=fun a b c _ _ _ h1 h2=>ec4.2 (List.le_trans (ec4.1 h1) (ec4.1 h2))
def cl6 (a b:Part):Int:=lex (am9 a.kind b.kind) (lex (am9 (if a.kind=5 then (a.s.length:Int) else 0) (if b.kind=5 then (b.s.length:Int) else 0)) (cp5 a.s b.s))
theorem dd5 (a b:Part):af3 a b=cl6 a b:=by
 unfold af3 cl6 lex;by_cases h:am9 (a.kind:Int) b.kind=0
 ·have e:=cq4.1 h;have e':a.kind=b.kind:=by omega
  simp only[h,ne_eq,not_true_eq_false,if_false,if_true,e'];by_cases k5:b.kind=5
  ·simp only[k5,and_self,if_true]; split<;>simp_all
  ·have z:am9 0 0=0:=by decide
   simp[k5,z]
 ·simp[h]
theorem cf7:WO (fun _=>True) af3:=by
 have h:af3=cl6:=by funext a b; exact dd5 a b
 rw[h];exact (ek1.of (fun a:Part=>(a.kind:Int))).lex ((ek1.of (fun a:Part=>if a.kind=5 then (a.s.length:Int) else 0)).lex (if4.of Part.s))
theorem cq5 {a b:Part}(h:af3 a b=0):a.kind=b.kind:=by
 rw[dd5] at h;unfold cl6 lex at h;split at h
 ·rename_i e; have:=cq4.1 e; omega
 ·contradiction
abbrev fq7:Part:=⟨2,[]⟩
theorem at6 (x y:Part)(a b:List Part):af6 (x::a) (y::b)=lex (af3 x y) (af6 a b):=by
 show (if af3 x y≠0 then af3 x y else af6 a b)=_;unfold lex; split<;>simp_all
theorem bd1 (a:List Part):af6 [] a=0:=by cases a<;>rfl
theorem bo4 (a:List Part):af6 a []=0:=by cases a<;>rfl
theorem gi5:∀ (a b c:List Part),(∀ x∈a,x.kind≠2)→(∀ x∈b,x.kind≠2)→(∀ x∈c,x.kind≠2) →
  af6 (a++[fq7]) (b++[fq7])≤0→af6 (b++[fq7]) (c++[fq7])≤0→af6 (a++[fq7]) (c++[fq7])≤0:=by
 have hd:∀ (x y z:Part) (r s t:Int),lex (af3 x y) r≤0→lex (af3 y z) s≤0→(af3 x y=0→af3 y z=0→r≤0→s≤0→t≤0)→lex (af3 x z) t≤0:=fun x y z r s t h1 h2 h3=>by
  have k1:=cf7.tr x y z trivial trivial trivial;have k2:=cf7.tr z x y trivial trivial trivial;have k3:=cf7.tr y z x trivial trivial trivial;have n1:=cf7.neg x y;have n2:=cf7.neg y z;have n3:=cf7.neg x z;unfold lex at *;split at h1<;>split at h2<;>split<;>first|omega|exact h3 (by assumption) (by assumption) h1 h2
 intro a
 induction a with
 | nil=>
  intro b c _ hb hc h1 h2
  cases b with
  | nil=>exact h2
  | cons y b=>
   cases c with
   | nil=>simp only[List.nil_append,at6,bd1]; decide
   | cons z c=>
    simp only[List.nil_append,List.cons_append,at6,bd1] at *;refine hd _ y z _ _ _ h1 h2 fun e _ _ _=>?_
    exact absurd (cq5 e).symm (hb y List.mem_cons_self)
 | cons x a ih=>
  intro b c ha hb hc h1 h2
  cases b with
  | nil=>
   simp only[List.nil_append,List.cons_append,at6,bd1,bo4] at h1
   cases c with
   | nil=>simp only[List.nil_append,List.cons_append,at6,bd1,bo4]; exact h1
   | cons z c=>
    simp only[List.nil_append,List.cons_append,at6,bd1,bo4] at *;refine hd x fq7 z _ _ _ h1 h2 fun e _ _ _=>?_
    exact absurd (cq5 e) (ha x List.mem_cons_self)
  | cons y b=>
   cases c with
   | nil=>
    simp only[List.nil_append,List.cons_append,at6,bd1,bo4] at *;refine hd x y fq7 _ _ _ h1 h2 fun _ e _ _=>?_
    exact absurd (cq5 e) (hb y List.mem_cons_self)
   | cons z c=>
    simp only[List.cons_append,at6] at *;refine hd x y z _ _ _ h1 h2 fun _ _ r s=>?_
    exact ih b c (fun p hp=>ha p (List.mem_cons_of_mem _ hp)) (fun p hp=>hb p (List.mem_cons_of_mem _ hp)) (fun p hp=>hc p (List.mem_cons_of_mem _ hp)) r s
theorem ek2 (b:UInt8):ae4 b≠2:=by
 unfold ae4
 repeat (first|split|omega)
theorem cq6 (s:Str):∀ x∈ae8 s,x.kind≠2:=by
 unfold ae8
 have : ∀ n s,∀ x∈aq8 n s,x.kind≠2:=by
  intro n
  induction n with
  | zero=>intro s x hx; cases hx
  | succ n ih=>
   intro s x hx
   cases s with
   | nil=>cases hx
   | cons b l=>
    simp only[aq8] at hx;split at hx
    ·exact ih _ x hx
    ·split at hx
     ·rcases List.mem_cons.1 hx with rfl|hx
      ·exact ek2 b
      ·exact ih _ x hx
     ·rcases List.mem_cons.1 hx with rfl|hx
      ·exact ek2 b
      ·exact ih _ x hx
 exact this _ s
theorem gs8:WO (fun _=>True) an4 where
 neg:=fun a b=>cf6 a b
 tr:=fun a b c _ _ _ h1 h2=>gi5 _ _ _ (cq6 a) (cq6 b) (cq6 c) h1 h2
theorem if5:WO (fun e:EVR=>e.rel≠[]) ar5 where
 neg:=fun a b=>fc3 a b
 tr:=by
  have h:=(ek1.of EVR.am6).lex ((gs8.of EVR.ver).lex (gs8.of EVR.rel))
  have e:∀ a b:EVR,a.rel≠[]→b.rel≠[]→ar5 a b=lex (am9 a.am6 b.am6) (lex (an4 a.ver b.ver) (an4 a.rel b.rel)):=fun a b ha hb=>by
   unfold ar5 lex;have hn:¬ (a.rel=[]∨b.rel=[]):=by simp[ha,hb]
   rw[if_neg hn];by_cases h1:am9 a.am6 b.am6=0<;>by_cases h2:an4 a.ver b.ver=0<;>simp[h1,h2]
  intro a b c ha hb hc;rw[e a b ha hb,e b c hb hc,e a c ha hc];exact h.tr a b c trivial trivial trivial
end Go.Id.Md
/- aa7 dependencies,whole and true; who is better: in plain words. Conditions: none; no program in sight. -/
namespace Go.Id.Md
open Go Go.Id
/-! ### Whole -/
def ec5 (k:Int):Nat:=if k=4 then 3 else if k=5 then 3 else if k=7 then 2 else 24
def ao7 (k:Int)(d:Dep)(n:Nat):Bool:=decide (1<k)&&decide (k≤7)&&decide (d=dw7)&&decide (2≤n)&&decide (n≤ec5 k)
mutual
def aa7.ms:aa7→Nat×Nat×Bool
 | .mk k d as=>if k=1 then (1,0,decide (as.length=0)&&aj7 d) else ((aa7.msL as 1 0 (ao7 k d as.length)).1,(aa7.msL as 1 0 (ao7 k d as.length)).2.1+1,(aa7.msL as 1 0 (ao7 k d as.length)).2.2)
def aa7.msL:List aa7→Nat→Nat→Bool→Nat×Nat×Bool
 | [],p,d,ok=>(p,d,ok)
 | r::rs,p,d,ok=>if ok=true then aa7.msL rs (p+r.ms.1) (max d r.ms.2.1) r.ms.2.2 else (p,d,false)
end
def dr9 (r:aa7):Bool:=r.ms.2.2&&decide (r.ms.1≤24)&&decide (r.ms.2.1≤8)
inductive aa7.Good:aa7→Prop
 | atom (d:Dep) (h:aj7 d=true):aa7.Good (.mk 1 d [])
 | node (k:Int) (d:Dep) (as:List aa7) (h1:1<k) (h2:k≤7) (h3:2≤as.length) (h4:as.length≤ec5 k) (h5:∀ a∈as,aa7.Good a):aa7.Good (.mk k d as)
theorem aa7.if6:∀ (as:List aa7) (p d:Nat) (ok:Bool),(aa7.msL as p d ok).2.2=true→ok=true∧∀ a∈as,a.ms.2.2=true:=by
 intro as
 induction as with
 | nil=>intro p d ok h; exact ⟨h,fun _ h=>by cases h⟩
 | cons r rs ih=>
  intro p d ok h;simp only[aa7.msL] at h;split at h
  ·rename_i hk;obtain ⟨h1,h2⟩:=ih _ _ _ h;refine ⟨hk,fun a ha=>?_⟩;rcases List.mem_cons.1 ha with rfl|ha
   ·exact h1
   ·exact h2 a ha
  ·cases h
theorem aa7.hc9 (r:aa7):r.ms.2.2=true→r.Good:=by
 induction r using aa7.ind with
 | h k d as ih=>
  intro h;unfold aa7.ms at h;split at h
  ·rename_i hk;subst hk;simp only[Bool.and_eq_true,decide_eq_true_eq] at h;obtain ⟨h1,h2⟩:=h;have e:as=[]:=List.length_eq_zero_iff.1 h1;subst e;exact .atom d h2
  ·obtain ⟨h1,h2⟩:=aa7.if6 _ _ _ _ h;unfold ao7 at h1;simp only[Bool.and_eq_true,decide_eq_true_eq] at h1;exact .node k d as h1.1.1.1.1 h1.1.1.1.2 h1.1.2 h1.2 fun a ha=>ih a ha (h2 a ha)
theorem aa7.if7 (as:List aa7)(h:∀ a∈as,a.ms.1≤a.count∧a.ms.2.1≤a.count):∀ (p d:Nat) (ok:Bool),(aa7.msL as p d ok).1≤p+aa7.counts as∧(aa7.msL as p d ok).2.1≤d+aa7.counts as:=by
 induction as with
 | nil=>intro p d ok; simp[aa7.msL,aa7.counts]
 | cons r rs ih=>
  intro p d ok;obtain ⟨h1,h2⟩:=h r List.mem_cons_self;have ih':=ih (fun a ha=>h a (List.mem_cons_of_mem _ ha));simp only[aa7.msL,aa7.counts];split
  ·obtain ⟨i1,i2⟩:=ih' (p+r.ms.1) (max d r.ms.2.1) r.ms.2.2;omega
  ·simp only; omega
theorem aa7.if8 (r:aa7):r.ms.1≤r.count∧r.ms.2.1≤r.count:=by
 induction r using aa7.ind with
 | h k d as ih=>
  unfold aa7.ms;simp only[aa7.count];split
  ·simp only; omega
  ·obtain ⟨h1,h2⟩:=aa7.if7 as ih 1 0 (ao7 k d as.length);simp only; omega
/-! ### True -/
abbrev ff:List Bool→Bool:=fun _=>false
def ds2 (c n:Nat):List Bool:=(List.range c).map fun m=>decide (m=n)
def stB (c:Nat)(zs:List Int):List Bool:=(List.range c).map fun (m:Nat)=>decide ((m:Int)∈zs)
def gi6 (st:List Bool)(f:Nat→Bool):Bool:=(List.range st.length).any fun n=>st.getD n false&&f n
def trK (l:List aa2)(k:Int)(d:Dep)(fs:List (List Bool→Bool))(st:List Bool):Bool :=
 if k=1 then (an2 l d).any fun n=>st.getD n.toNat false
 else if k=2 then fs.all fun f=>f st
 else if k=3 then fs.any fun f=>f st
 else if k=4 then (if (fs.getD 1 ff) st then (fs.getD 0 ff) st else decide (fs.length<3)||(fs.getD 2 ff) st)
 else if k=5 then (if (fs.getD 1 ff) st then decide (fs.length=3)&&(fs.getD 2 ff) st else (fs.getD 0 ff) st)
 else if k=6 then gi6 st fun n=>fs.all fun f=>f (ds2 st.length n)
 else gi6 st fun n=>(fs.getD 0 ff) (ds2 st.length n)&&!(fs.getD 1 ff) (ds2 st.length n)
mutual
def aa7.tr (l:List aa2):aa7→List Bool→Bool
 | .mk k d as,st=>trK l k d (aa7.trs l as) st
def aa7.trs (l:List aa2):List aa7→List (List Bool→Bool)
 | []=>[]
 | r::rs=>(fun st=>r.tr l st)::aa7.trs l rs
end
theorem aa7.di8 (l:List aa2)(as:List aa7):aa7.trs l as=as.map fun r st=>r.tr l st:=by
 induction as with
 | nil=>rfl
 | cons r rs ih=>simp only[aa7.trs,List.map_cons,ih]
def hd8 (l:List aa2)(zs:List Int)(r:aa7):Bool:=dr9 r&&r.tr l (stB l.length zs)
def aa7.atoms (r:aa7):List Dep:=(r.parts false).filterMap fun p=>if p.1.kind=1 then some p.1.dep else none
/-! ### Who is better -/
structure an5 where
 a:av6
 ds5:List Bool
def bp4 (b:Bool):List IV:=[.bool b]
namespace an5
variable (o:an5)
def cs:List IV:=[o.a.v,o.a.p.v,.int .u8 o.a.r.ao2,.aa3 (o.a.l.map aa2.cs),.aa3 (o.ds5.map bp4)]
def v:IV:=.ac2 o.cs
def lk (n:Int):Bool:=o.ds5.getD n.toNat false
def cu3 (b:Bool):Int:=if b then 0 else 1
def prio (n:Int):Int:=(o.a.p.rows.getD n.toNat ⟨default,0,0⟩).prio
def cmp (n m:Int):Int :=
 lex (am9 (cu3 (o.a.fits n)) (cu3 (o.a.fits m))) (lex (am9 (ay8 o.a.r.ao2 (o.a.pk n).ao2) (ay8 o.a.r.ao2 (o.a.pk m).ao2)) (lex (am9 (o.prio m) (o.prio n))
  (lex (am9 (cu3 (o.lk n)) (cu3 (o.lk m))) (lex (ar5 (o.a.pk m).evr (o.a.pk n).evr) (am9 n m)))))
def better (n m:Int):Bool:=o.a.is n&&o.a.is m&&decide (o.cmp n m<0)
theorem wo:WO (fun n=>(o.a.pk n).evr.rel≠[]) o.cmp:=by
 have hi {g:Int→Int}:WO (fun n=>(o.a.pk n).evr.rel≠[]) fun a b=>am9 (g a) (g b):=(ek1.of g).sub fun _ _=>trivial
 exact hi.lex (hi.lex ((hi (g:=o.prio)).flip.lex (hi.lex ((if5.of fun n=>(o.a.pk n).evr).flip.lex (hi (g:=fun n=>n))))))
theorem di9 {n m:Int}(h:o.cmp n m=0):n=m:=by
 unfold cmp lex at h
 repeat (first|exact cq4.1 h|(split at h; rotate_left; contradiction))
theorem bv3 (n:Int):o.cmp n n=0:=by have:=o.wo.neg n n; omega
def ak9 (zs:List Int):List Int:=(ao6 (fun n=>decide ((n:Int)∈zs)) o.a.l.length).mergeSort fun x y=>!decide (o.cmp y x<0)
theorem av7 {zs:List Int}{n:Int}:n∈o.ak9 zs↔n∈zs∧o.a.is n=true:=by
 unfold ak9;rw[(List.mergeSort_perm _ _).mem_iff,dr7];constructor
 ·rintro ⟨m,rfl,h1,h2⟩;exact ⟨by simpa using h2,by rw[av6.fq6]; exact decide_eq_true h1⟩
 ·rintro ⟨h1,h2⟩;unfold av6.is at h2;simp only[Bool.and_eq_true,decide_eq_true_eq] at h2;have e:((n.toNat:Nat):Int)=n:=by omega
  exact ⟨n.toNat,e.symm,by omega,by rw[e]; exact decide_eq_true h1⟩
variable (hr:∀ n,o.a.is n=true→(o.a.pk n).evr.rel≠[])
include hr
theorem lt_trans {a b c:Int}(ha:o.a.is a=true)(hb:o.a.is b=true)(hc:o.a.is c=true)(h1:o.cmp a b<0)(h2:o.cmp b c<0):o.cmp a c<0:=by
 have k1:=o.wo.tr a b c (hr a ha) (hr b hb) (hr c hc);have k2:=o.wo.tr c a b (hr c hc) (hr a ha) (hr b hb);have n1:=o.wo.neg a b;have n2:=o.wo.neg b c;have n3:=o.wo.neg a c;omega
theorem dj1 (zs:List Int):(o.ak9 zs).Pairwise fun x y=>o.cmp x y<0:=by
 have hm:∀ x∈ao6 (fun n=>decide ((n:Int)∈zs)) o.a.l.length,o.a.is x=true:=fun x hx=>by
  obtain ⟨m,rfl,h1,_⟩:=dr7.1 hx;rw[av6.fq6]; exact decide_eq_true h1
 have hnd:(o.ak9 zs).Nodup:=by
  unfold ak9;rw[(List.mergeSort_perm _ _).nodup_iff];exact (gi4 _ _).imp fun h e=>by omega
 have hmem:∀ x∈o.ak9 zs,o.a.is x=true:=fun x hx=>((o.av7).1 hx).2
 have hp:(o.ak9 zs).Pairwise fun x y=>(!decide (o.cmp y x<0))=true:=by
  unfold ak9
  -- the order holds among the numbers that there are
  let S:={ n:Int // o.a.is n=true };let L:List S:=(ao6 (fun n=>decide ((n:Int)∈zs)) o.a.l.length).attach.map fun x=>⟨x.1,hm x.1 x.2⟩
  have hL:L.map (·.1)=ao6 (fun n=>decide ((n:Int)∈zs)) o.a.l.length:=by
   show (List.map _ (List.map _ _))=_;rw[List.map_map];exact List.attach_map_subtype_val _
  rw[← hL,← List.map_mergeSort (r:=fun x y:S=>!decide (o.cmp y.1 x.1<0)) (fun _ _ _ _=>rfl)];refine List.Pairwise.map _ (fun _ _ h=>h) ?_;refine List.pairwise_mergeSort ?_ ?_ L
  ·intro a b c h1 h2;have k1:=o.wo.tr a.1 b.1 c.1 (hr _ a.2) (hr _ b.2) (hr _ c.2);have n1:=o.wo.neg a.1 b.1;have n2:=o.wo.neg b.1 c.1;have n3:=o.wo.neg a.1 c.1;simp only[Bool.not_eq_true',decide_eq_false_iff_not] at h1 h2 ⊢;omega
  ·intro a b;have n1:=o.wo.neg a.1 b.1;by_cases h:o.cmp a.1 b.1<0
   ·have:¬ o.cmp b.1 a.1<0:=by omega
    simp[h,this]
   ·simp[h]
 refine hp.imp₂ (fun {x y} h1 h2=>?_) hnd;have n1:=o.wo.neg x y;have n2:=fun h=>o.di9 (n:=x) (m:=y) h
 have h2':x≠y:=h2;have h1':¬ o.cmp y x<0:=by simpa using h1
 have:o.cmp x y≠0:=fun h=>h2' (n2 h)
 omega
theorem if9:∀ {D F:List Int},(∀ x∈D,o.a.is x=true)→(∀ x∈F,o.a.is x=true)→D.Pairwise (fun x y=>o.cmp x y<0)→F.Pairwise (fun x y=>o.cmp x y<0)→(∀ x,x∈D↔x∈F)→D=F:=by
 intro D
 induction D with
 | nil=>intro F _ _ _ _ h; cases F with
  | nil=>rfl
  | cons y F=>exact absurd ((h y).2 List.mem_cons_self) (by simp)
 | cons x D ih=>
  intro F hD hF pD pF h
  cases F with
  | nil=>exact absurd ((h x).1 List.mem_cons_self) (by simp)
  | cons y F=>
   obtain ⟨pD1,pD2⟩:=List.pairwise_cons.1 pD;obtain ⟨pF1,pF2⟩:=List.pairwise_cons.1 pF
   have hxy:x=y:=by
    rcases List.mem_cons.1 ((h x).1 List.mem_cons_self) with h1|h1
    ·exact h1
    rcases List.mem_cons.1 ((h y).2 List.mem_cons_self) with h2|h2
    ·exact h2.symm
    have:=pF1 x h1;have:=pD1 y h2;have:=o.wo.neg x y;omega
   subst hxy;congr 1
   have nD:∀ z∈D,z≠x:=fun z hz e=>by
    subst e; have:=pD1 z hz; rw[o.bv3] at this; omega
   have nF:∀ z∈F,z≠x:=fun z hz e=>by
    subst e; have:=pF1 z hz; rw[o.bv3] at this; omega
   refine ih (fun z hz=>hD z (List.mem_cons_of_mem _ hz)) (fun z hz=>hF z (List.mem_cons_of_mem _ hz)) pD2 pF2 fun z=>⟨fun hz=>?_,fun hz=>?_⟩
   ·rcases List.mem_cons.1 ((h z).1 (List.mem_cons_of_mem _ hz)) with e|hz'
    ·exact absurd e (nD z hz)
    ·exact hz'
   ·rcases List.mem_cons.1 ((h z).2 (List.mem_cons_of_mem _ hz)) with e|hz'
    ·exact absurd e (nF z hz)
    ·exact hz'
theorem ds4 {zs D:List Int}(h1:D.Pairwise fun x y=>o.cmp x y<0)(h2:∀ x,x∈D↔x∈zs∧o.a.is x=true):D=o.ak9 zs :=
 o.if9 hr (fun x hx=>((h2 x).1 hx).2) (fun x hx=>((o.av7).1 hx).2) h1 (o.dj1 hr zs) fun x=>(h2 x).trans o.av7.symm
theorem fc4 {zs ys:List Int}(h:∀ x,x∈zs↔x∈ys):o.ak9 zs=o.ak9 ys:=by
 unfold ak9;congr 1;exact ec2 fun n _=>decide_eq_decide.2 (h n)
end an5
end Go.Id.Md
