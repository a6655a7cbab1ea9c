/- Pools,in plain words: rows of packages,and names with their numbers. Conditions: none; no program in sight. -/
import Derived.Test.YtiallonafbejaaaGreatDoorMd
import Derived.Test.YtiallonafbejaaaGreatDoorFwQ
set_option linter.all false
namespace Go.Id.Md
open Go Go.Id
structure PRow where
 pkg:Package
 repo:Int
 prio:Int
def PRow.cs (r:PRow):List IV:=r.pkg.cs++[.int .i64 r.repo,.int .i64 r.prio]
abbrev Nms:=List (Str×List Int)
def aj3:Nms→Str→Int→Nms
 | [],k,n=>[(k,[n])]
 | t::ts,k,n=>if k=t.1 then (k,t.2++[n])::ts else t::aj3 ts k n
def cl7:Nms→Nat→List Package→Nms
 | nm,_,[]=>nm
 | nm,n,p::ps=>cl7 (aj3 nm p.name n) (n+1) ps
def intC (n:Int):List IV:=[.int .i64 n]
def nmV (nm:Nms):List (IV×IV):=nm.map fun t=>(.str t.1,.tslice (t.2.map intC))
structure Pool where
 rows:List PRow
 inst:Int
 nm:Nms
def Pool.v (p:Pool):IV:=.tptr [.tslice (p.rows.map PRow.cs),.int .i64 p.inst,.tmap (nmV p.nm)]
def rowsOf (l:List Package)(repo prio:Int):List PRow:=l.map fun p=>⟨p,repo,prio⟩
theorem ds7 (l:List Package)(x:Package)(a b:Int):rowsOf (l++[x]) a b=rowsOf l a b++[⟨x,a,b⟩]:=by simp[rowsOf]
theorem bh3 (l:List Package)(a b:Int):(rowsOf l a b).length=l.length:=by simp[rowsOf]
def ad9:Nat→List Repo→List PRow×Nms→Option (List PRow×Nms)
 | _,[],st=>some st
 | i,r::rs,st=>if r.priority<0∨1024<r.priority∨r.packages.all ac3=false then none else ad9 (i+1) rs (st.1++rowsOf r.packages i r.priority,cl7 st.2 st.1.length r.packages)
def af1 (l:List Repo):Nat:=(l.map fun r=>r.packages.length).sum
def az9 (repos:List Repo)(inst:List Package):Pool ⊕ Int :=
 if 16<repos.length∨256<inst.length+af1 repos then .inr 40 else
 if inst.all ac3=false then .inr 4 else
 match ad9 0 repos (rowsOf inst (-1) 1025,cl7 [] 0 inst) with
 | some (rows,nm)=>.inl ⟨rows,inst.length,nm⟩
 | none=>.inr 4
def hj5 (r:Pool ⊕ Int):IV:=match r with
 | .inl p=>.tuple [p.v,.int .i64 0]
 | .inr e=>.tuple [.nilptr,.int .i64 e]
/-! ### Names,as they lie in memory -/
abbrev NmL:=List (Str×List Int×Nat)
def mEs (L:NmL):List (IV×IV):=L.map fun t=>(.str t.1,.slice t.2.2 0 t.2.1.length 1)
def as1 (L:NmL):Nms:=L.map fun t=>(t.1,t.2.1)
def as8:NmL→Str→Int→Nat→NmL
 | [],k,n,nid=>[(k,[n],nid)]
 | t::ts,k,n,nid=>if k=t.1 then (k,t.2.1++[n],nid)::ts else t::as8 ts k n nid
def ch6 (L:NmL)(k:Str):IV:=match L.find? (fun t=>decide (k=t.1)) with
 | some t=>.slice t.2.2 0 t.2.1.length 1
 | none=>.nilslice
def br1 (L:NmL)(k:Str):List Int:=match L.find? (fun t=>decide (k=t.1)) with
 | some t=>t.2.1
 | none=>[]
theorem cd2 (L:NmL)(k:Str)(n:Int)(nid:Nat):as1 (as8 L k n nid)=aj3 (as1 L) k n:=by
 induction L with
 | nil=>rfl
 | cons t ts ih=>
  simp only[as8,as1,List.map_cons,aj3]
  split
  ·rfl
  ·rw[List.map_cons]; congr 1
theorem hj6 (L:NmL)(k:Str):(aq8 2 (.str k) (mEs L)).map (fun r=>r.getD .nilslice)=some (ch6 L k):=by
 induction L with
 | nil=>rfl
 | cons t ts ih=>
  simp only[mEs,List.map_cons,aq8,dz2,ch6,List.find?_cons] at ih ⊢
  by_cases h:k=t.1
  ·simp[h]
  ·simp only[h,decide_false] at ih ⊢
   exact ih
theorem gp3 (L:NmL)(k:Str):∃ r,aq8 2 (.str k) (mEs L)=some r∧r.getD .nilslice=ch6 L k:=by
 have:=hj6 L k
 cases h:aq8 2 (.str k) (mEs L) with
 | none=>rw[h] at this; cases this
 | some r=>rw[h] at this; exact ⟨r,rfl,by simpa using this⟩
theorem ie8 (L:NmL)(k:Str)(n:Int)(nid:Nat):eh2 2 (.str k) (.slice nid 0 ((br1 L k).length+1) 1) (mEs L)=some (mEs (as8 L k n nid)):=by
 induction L with
 | nil=>rfl
 | cons t ts ih=>
  simp only[mEs,List.map_cons,eh2,dz2,br1,List.find?_cons,as8] at ih ⊢
  by_cases h:k=t.1
  ·simp[h]
  ·simp only[h,decide_false,if_false,List.map_cons] at ih ⊢
   rw[ih]; rfl
theorem da2 {k:Str}{n:Int}{nid:Nat}:∀ {L:NmL},(L.map (·.1)).Nodup→∀ t∈as8 L k n nid,(t∈L∧t.1≠k)∨t=(k,br1 L k++[n],nid):=by
 intro L
 induction L with
 | nil=>intro _ t ht; simp[as8] at ht; exact .inr (by rw[ht]; rfl)
 | cons u us ih=>
  intro hk t ht
  rw[List.map_cons,List.nodup_cons] at hk
  simp only[as8] at ht
  by_cases h:k=u.1
  ·rw[if_pos h] at ht
   rcases List.mem_cons.1 ht with rfl|ht
   ·right; simp[br1,h]
   ·left
    exact ⟨List.mem_cons_of_mem _ ht,fun e=>hk.1 (by rw[← h,← e]; exact List.mem_map_of_mem (f:=fun x:Str×List Int×Nat=>x.1) ht)⟩
  ·rw[if_neg h] at ht
   rcases List.mem_cons.1 ht with rfl|ht
   ·left; exact ⟨List.mem_cons_self ..,fun e=>h e.symm⟩
   ·have e:br1 (u::us) k=br1 us k:=by simp[br1,h]
    rw[e]
    rcases ih hk.2 t ht with ⟨h1,h2⟩|h1
    ·exact .inl ⟨List.mem_cons_of_mem _ h1,h2⟩
    ·exact .inr h1
theorem dz8 {k:Str}{n:Int}{nid:Nat}:∀ (L:NmL),(L.map (·.1)).Nodup→((as8 L k n nid).map (·.1)).Nodup∧∀ x∈(as8 L k n nid).map (·.1),x=k∨x∈L.map (·.1):=by
 intro L
 induction L with
 | nil=>intro _; simp[as8]
 | cons u us ih=>
  intro hk
  rw[List.map_cons,List.nodup_cons] at hk
  simp only[as8]
  by_cases h:k=u.1
  ·rw[if_pos h]
   refine ⟨?_,?_⟩
   ·rw[List.map_cons,List.nodup_cons]; exact ⟨by rw[h]; exact hk.1,hk.2⟩
   ·intro x hx
    simp only[List.map_cons,List.mem_cons] at hx ⊢
    rcases hx with h1|h1
    ·exact .inl h1
    ·exact .inr (.inr h1)
  ·rw[if_neg h]
   obtain ⟨h1,h2⟩:=ih hk.2
   refine ⟨?_,?_⟩
   ·rw[List.map_cons,List.nodup_cons]
    refine ⟨fun hm=>?_,h1⟩
    rcases h2 _ hm with e|e
    ·exact h e.symm
    ·exact hk.1 e
   ·intro x hx
    simp only[List.map_cons,List.mem_cons] at hx ⊢
    rcases hx with h3|h3
    ·exact .inr (.inl h3)
    ·rcases h2 _ h3 with e|e
     ·exact .inl e
     ·exact .inr (.inr e)
theorem fg6 {k:Str}{n:Int}{nid:Nat}:∀ (L:NmL),(L.map (·.2.2)).Nodup→nid ∉ L.map (·.2.2)→((as8 L k n nid).map (·.2.2)).Nodup∧∀ x∈(as8 L k n nid).map (·.2.2),x=nid∨x∈L.map (·.2.2):=by
 intro L
 induction L with
 | nil=>intro _ _; simp[as8]
 | cons u us ih=>
  intro hk hn
  rw[List.map_cons,List.nodup_cons] at hk
  simp only[List.map_cons,List.mem_cons,not_or] at hn
  simp only[as8]
  by_cases h:k=u.1
  ·rw[if_pos h]
   refine ⟨?_,?_⟩
   ·rw[List.map_cons,List.nodup_cons]; exact ⟨hn.2,hk.2⟩
   ·intro x hx
    simp only[List.map_cons,List.mem_cons] at hx ⊢
    rcases hx with h1|h1
    ·exact .inl h1
    ·exact .inr (.inr h1)
  ·rw[if_neg h]
   obtain ⟨h1,h2⟩:=ih hk.2 hn.2
   refine ⟨?_,?_⟩
   ·rw[List.map_cons,List.nodup_cons]
    refine ⟨fun hm=>?_,h1⟩
    rcases h2 _ hm with e|e
    ·exact hn.1 e.symm
    ·exact hk.1 e
   ·intro x hx
    simp only[List.map_cons,List.mem_cons] at hx ⊢
    rcases hx with h3|h3
    ·exact .inr (.inl h3)
    ·rcases h2 _ h3 with e|e
     ·exact .inl e
     ·exact .inr (.inr e)
theorem bo2 (L:NmL)(k:Str):(ch6 L k=.nilslice∧br1 L k=[])∨∃ t∈L,t.1=k∧ch6 L k=.slice t.2.2 0 t.2.1.length 1∧br1 L k=t.2.1:=by
 unfold ch6 br1
 cases h:L.find? (fun t=>decide (k=t.1)) with
 | none=>exact .inl ⟨rfl,rfl⟩
 | some t=>
  have h1:=List.find?_some h
  exact .inr ⟨t,List.mem_of_find?_eq_some h,by simpa using (by simpa using h1:k=t.1).symm,rfl,rfl⟩
theorem fg7 {L:NmL}(hk:(L.map (·.1)).Nodup)(hd:(L.map (·.2.2)).Nodup):∀ t∈L,∀ u∈L,t.2.2=u.2.2→t=u:=by
 intro t ht u hu e
 obtain ⟨i,hi,h1⟩:=List.mem_iff_getElem.1 ht
 obtain ⟨j,hj,h2⟩:=List.mem_iff_getElem.1 hu
 have hij:i=j:=by
  have hi':i<(L.map (·.2.2)).length:=by simpa using hi
  have hj':j<(L.map (·.2.2)).length:=by simpa using hj
  have hp:=List.pairwise_iff_getElem.1 hd
  have e2:(L.map (·.2.2))[i]=(L.map (·.2.2))[j]:=by simp only[List.getElem_map,h1,h2,e]
  rcases Nat.lt_trichotomy i j with h|h|h
  ·exact absurd e2 (hp i j hi' hj' h)
  ·exact h
  ·exact absurd e2.symm (hp j i hj' hi' h)
 subst hij
 rw[← h1,← h2]
end Go.Id.Md
/- What the statements of pools go over: not too much. Conditions: none; no program in sight. -/
namespace Go.Id.Md
open Go Go.Id
mutual
def Rich.ok:Rich→Prop
 | .mk k d xs=>0≤k∧k<256∧d.fit∧xs.length<2^62∧Rich.oks xs
def Rich.oks:List Rich→Prop
 | []=>True
 | r::rs=>r.ok∧Rich.oks rs
end
theorem Rich.oks_iff (l:List Rich):Rich.oks l↔∀ r∈l,r.ok:=by
 induction l with
 | nil=>simp[Rich.oks]
 | cons r rs ih=>simp[Rich.oks,ih]
theorem Rich.ok_mk {k:Int}{d:Dep}{xs:List Rich}:(Rich.mk k d xs).ok↔0≤k∧k<256∧d.fit∧xs.length<2^62∧∀ r∈xs,r.ok:=by
 simp only[Rich.ok,Rich.oks_iff]
structure Package.Ok (p:Package):Prop where
 name:p.name.length<2^62
 vendor:p.vendor.length<2^62
 evr:p.evr.fit
 prov:p.provides.length<2^62∧∀ d∈p.provides,d.fit
 obs:p.obsoletes.length<2^62∧∀ d∈p.obsoletes,d.fit
 files:p.files.length<2^62∧∀ s∈p.files,s.length<2^62
 rich:∀ x∈p.rows,x.2.length<2^62∧∀ r∈x.2,r.ok
def Repo.Ok (r:Repo):Prop:=r.packages.length<2^62∧∀ p∈r.packages,p.Ok
def as2 (p:Package):List (List Rich):=[p.requires,p.conflicts,p.recommends,p.supplements,p.suggests,p.enhances]
/-! ### What is the same -/
/-! ### The rows of a pool -/
def ae1:Nat→List Repo→List PRow
 | _,[]=>[]
 | i,r::rs=>rowsOf r.packages i r.priority++ae1 (i+1) rs
theorem cl8:∀ (rs:List Repo) (i:Nat) (st:List PRow×Nms) (out:List PRow×Nms),ad9 i rs st=some out→out.1=st.1++ae1 i rs:=by
 intro rs
 induction rs with
 | nil=>intro i st out h; simp only[ad9,Option.some.injEq] at h; subst h; simp[ae1]
 | cons r rs ih=>
  intro i st out h
  simp only[ad9] at h
  split at h
  ·cases h
  ·rw[ih _ _ _ h]; simp[ae1]
theorem cd3 {repos:List Repo}{inst:List Package}{p:Pool}(h:az9 repos inst=.inl p):p.rows=rowsOf inst (-1) 1025++ae1 0 repos∧p.inst=inst.length:=by
 unfold az9 at h
 split at h
 ·cases h
 split at h
 ·cases h
 split at h
 ·rename_i rows nm hr
  cases h
  exact ⟨cl8 _ _ _ _ hr,rfl⟩
 ·cases h
theorem fy2 {repos:List Repo}{inst:List Package}{e:Int}(h:az9 repos inst=.inr e):e=40∨e=4:=by
 unfold az9 at h
 split at h
 ·cases h; exact .inl rfl
 split at h
 ·cases h; exact .inr rfl
 split at h
 ·cases h
 ·cases h; exact .inr rfl
end Go.Id.Md
/- Indexes,in plain words: names with their numbers,in whatever row. Conditions: none; no program in sight. -/
namespace Go.Id.Md
open Go Go.Id
def ac4:Nms→Str→List Int
 | [],_=>[]
 | t::ts,k=>if k=t.1 then t.2 else ac4 ts k
def KN (nm:Nms):Prop:=(nm.map (·.1)).Nodup
theorem aw4 {nm:Nms}{k:Str}{n:Int}(h:KN nm)(t:Str×List Int):t∈aj3 nm k n↔(t∈nm∧t.1≠k)∨t=(k,ac4 nm k++[n]):=by
 induction nm with
 | nil=>simp[aj3,ac4]
 | cons u us ih=>
  have h':u.1 ∉ us.map (·.1)∧KN us:=by simpa [KN] using h
  simp only[aj3,ac4]
  by_cases e:k=u.1
  ·rw[if_pos e,if_pos e]
   subst e
   simp only[List.mem_cons]
   constructor
   ·rintro (rfl|ht)
    ·exact .inr rfl
    ·exact .inl ⟨.inr ht,fun e=>h'.1 (List.mem_map.2 ⟨t,ht,e⟩)⟩
   ·rintro (⟨rfl|ht,hne⟩|rfl)
    ·exact absurd rfl hne
    ·exact .inr ht
    ·exact .inl rfl
  ·rw[if_neg e,if_neg e]
   simp only[List.mem_cons,ih h'.2]
   constructor
   ·rintro (rfl|⟨h1,h2⟩|rfl)
    ·exact .inl ⟨.inl rfl,fun e'=>e e'.symm⟩
    ·exact .inl ⟨.inr h1,h2⟩
    ·exact .inr rfl
   ·rintro (⟨rfl|h1,h2⟩|rfl)
    ·exact .inl rfl
    ·exact .inr (.inl ⟨h1,h2⟩)
    ·exact .inr (.inr rfl)
theorem er9 {k:Str}{n:Int}:∀ {nm:Nms},∀ x∈(aj3 nm k n).map (·.1),x=k∨x∈nm.map (·.1):=by
 intro nm
 induction nm with
 | nil=>intro x hx; simpa [aj3] using hx
 | cons u us ih=>
  intro x hx
  simp only[aj3] at hx
  split at hx
  ·rename_i e; simp only[List.map_cons,List.mem_cons] at hx ⊢
   rcases hx with h|h
   ·exact .inl h
   ·exact .inr (.inr h)
  ·simp only[List.map_cons,List.mem_cons] at hx ⊢
   rcases hx with h|h
   ·exact .inr (.inl h)
   ·rcases ih x h with h|h
    ·exact .inl h
    ·exact .inr (.inr h)
theorem ag7 {nm:Nms}{k:Str}{n:Int}(h:KN nm):KN (aj3 nm k n):=by
 induction nm with
 | nil=>simp[KN,aj3]
 | cons u us ih=>
  have h':u.1 ∉ us.map (·.1)∧KN us:=by simpa [KN] using h
  simp only[aj3]
  split
  ·rename_i e; subst e; exact h
  ·rename_i e
   show ((u::aj3 us k n).map (·.1)).Nodup
   rw[List.map_cons,List.nodup_cons]
   refine ⟨fun hm=>?_,ih h'.2⟩
   rcases er9 _ hm with h1|h1
   ·exact e h1.symm
   ·exact h'.1 h1
theorem KN.nd {nm:Nms}(h:KN nm):nm.Nodup:=by
 induction nm with
 | nil=>exact List.nodup_nil
 | cons u us ih=>
  have h':u.1 ∉ us.map (·.1)∧KN us:=by simpa [KN] using h
  exact List.nodup_cons.2 ⟨fun hm=>h'.1 (List.mem_map.2 ⟨u,hm,rfl⟩),ih h'.2⟩
theorem KN.perm {nm nm':Nms}(h:KN nm)(p:nm.Perm nm'):KN nm':=(p.map (fun x:Str×List Int=>x.1)).nodup_iff.1 h
theorem cu8 {nm:Nms}(h:KN nm){t:Str×List Int}(ht:t∈nm):ac4 nm t.1=t.2:=by
 induction nm with
 | nil=>cases ht
 | cons u us ih=>
  have h':u.1 ∉ us.map (·.1)∧KN us:=by simpa [KN] using h
  simp only[ac4]
  rcases List.mem_cons.1 ht with rfl|ht
  ·rw[if_pos rfl]
  ·rw[if_neg (fun e=>h'.1 (List.mem_map.2 ⟨t,ht,e⟩))]
   exact ih h'.2 ht
theorem ch7 {nm:Nms}{k:Str}(h:k ∉ nm.map (·.1)):ac4 nm k=[]:=by
 induction nm with
 | nil=>rfl
 | cons u us ih=>
  simp only[List.map_cons,List.mem_cons,not_or] at h
  simp only[ac4]
  rw[if_neg h.1]; exact ih h.2
theorem ch8 {nm nm':Nms}(h:KN nm)(p:nm.Perm nm')(k:Str):ac4 nm k=ac4 nm' k:=by
 by_cases hk:k∈nm.map (·.1)
 ·obtain ⟨t,ht,rfl⟩:=List.mem_map.1 hk
  rw[cu8 h ht,cu8 (h.perm p) (p.mem_iff.1 ht)]
 ·rw[ch7 hk,ch7 (fun e=>hk ((p.map (·.1)).mem_iff.2 e))]
theorem aw5 {nm:Nms}(h:KN nm)(k:Str)(n:Int)(j:Str):ac4 (aj3 nm k n) j=if j=k then ac4 nm k++[n] else ac4 nm j:=by
 induction nm with
 | nil=>
  simp only[aj3,ac4]
  split<;>rfl
 | cons u us ih=>
  have h':u.1 ∉ us.map (·.1)∧KN us:=by simpa [KN] using h
  simp only[aj3,ac4]
  by_cases e:k=u.1
  ·rw[if_pos e,if_pos e]
   simp only[ac4]
   by_cases ej:j=k
   ·rw[if_pos ej,if_pos ej]
   ·rw[if_neg ej,if_neg ej,if_neg (fun x=>ej (x.trans e.symm))]
  ·rw[if_neg e,if_neg e]
   simp only[ac4,ih h'.2]
   by_cases ej:j=k
   ·rw[if_pos ej,if_pos ej,if_neg (fun x=>e (ej.symm.trans x))]
   ·rw[if_neg ej,if_neg ej]
theorem bh4 {nm nm':Nms}{k:Str}{n:Int}(h:KN nm)(p:nm.Perm nm'):(aj3 nm k n).Perm (aj3 nm' k n):=by
 refine (List.perm_ext_iff_of_nodup (ag7 h).nd (ag7 (h.perm p)).nd).2 fun t=>?_
 rw[aw4 h,aw4 (h.perm p),ch8 h p,p.mem_iff]
theorem es3 {nm:Nms}{k j:Str}{n:Int}(h:KN nm):(aj3 (aj3 nm k n) j n).Perm (aj3 (aj3 nm j n) k n):=by
 by_cases e:k=j
 ·subst e; exact .refl _
 refine (List.perm_ext_iff_of_nodup (ag7 (ag7 h)).nd (ag7 (ag7 h)).nd).2 fun t=>?_
 rw[aw4 (ag7 h),aw4 (ag7 h),aw4 h,aw4 h,aw5 h,aw5 h,if_neg (fun x=>e x.symm),if_neg e]
 constructor
 ·rintro (⟨⟨h1,h2⟩|rfl,h3⟩|rfl)
  ·exact .inl ⟨.inl ⟨h1,h3⟩,h2⟩
  ·exact .inr rfl
  ·exact .inl ⟨.inr rfl,fun x=>e x.symm⟩
 ·rintro (⟨⟨h1,h2⟩|rfl,h3⟩|rfl)
  ·exact .inl ⟨.inl ⟨h1,h3⟩,h2⟩
  ·exact .inr rfl
  ·exact .inl ⟨.inr rfl,e⟩
def as3 (nm:Nms)(ks:List Str)(n:Int):Nms:=ks.foldl (fun m k=>aj3 m k n) nm
theorem di2 {n:Int}:∀ {ks:List Str} {nm:Nms},KN nm→KN (as3 nm ks n)
 | [],_,h=>h
 | _::ks,_,h=>di2 (ks:=ks) (ag7 h)
theorem ch9 {n:Int}:∀ (ks:List Str) {nm nm':Nms},KN nm→nm.Perm nm'→(as3 nm ks n).Perm (as3 nm' ks n)
 | [],_,_,_,p=>p
 | _::ks,_,_,h,p=>ch9 ks (ag7 h) (bh4 h p)
theorem di3 {n:Int}{ks js:List Str}(p:ks.Perm js):∀ {nm:Nms},KN nm→(as3 nm ks n).Perm (as3 nm js n):=by
 induction p with
 | nil=>intro nm _; exact .refl _
 | cons x _ ih=>intro nm h; exact ih (ag7 h)
 | swap x y l=>intro nm h; exact ch9 l (ag7 (ag7 h)) (es3 h)
 | trans p1 _ ih1 ih2=>intro nm h; exact (ih1 h).trans (ih2 h)
theorem ds8 (nm:Nms)(ks:List Str)(k:Str)(n:Int):as3 nm (ks++[k]) n=aj3 (as3 nm ks n) k n:=by simp[as3]
def am3 (l:List Str)(k:Str):List Str:=if k∈l then l else l++[k]
def ci1 (p:Package):List Str:=p.files.foldl am3 ((p.provides.map (·.name)).foldl am3 [p.name])
def al5 (nm:Nms)(ds:List Str)(n:Int):Nms:=ds.foldl (fun m k=>if n∈ac4 m k then m else aj3 m k n) nm
theorem ca6 (nm:Nms)(ks:List Str)(k:Str)(n:Int):al5 nm (ks++[k]) n=if n∈ac4 (al5 nm ks n) k then al5 nm ks n else aj3 (al5 nm ks n) k n:=by
 unfold al5; rw[List.foldl_append]; rfl
structure Index where
 all:List Package
 prov:Nms
 names:Nms
 over:Nms
def Index.v (x:Index):IV:=.tptr [.tslice (x.all.map Package.cs),.tmap (nmV x.prov),.tmap (nmV x.names),.tmap (nmV x.over)]
def di4 (x:Index)(n:Nat)(p:Package):Index:=⟨x.all++[p],as3 x.prov (ci1 p) n,aj3 x.names p.name n,al5 x.over (p.obsoletes.map (·.name)) n⟩
def idxFrom (x:Index):Nat→List Package→Index
 | _,[]=>x
 | n,p::ps=>idxFrom (di4 x n p) (n+1) ps
def ap9 (l:List Package):Index:=idxFrom ⟨[],[],[],[]⟩ 0 l
theorem di5 (ps:List Package)(p:Package):∀ (x:Index) (n:Nat),idxFrom x n (ps++[p])=di4 (idxFrom x n ps) (n+ps.length) p:=by
 induction ps with
 | nil=>intro x n; rfl
 | cons q qs ih=>intro x n; show idxFrom _ (n+1) (qs++[p])=_; rw[ih,List.length_cons]; congr 1; omega
theorem es4 (L:NmL)(k:Str):ac4 (as1 L) k=br1 L k:=by
 induction L with
 | nil=>rfl
 | cons t ts ih=>
  simp only[as1,List.map_cons,ac4,br1,List.find?_cons] at ih ⊢
  by_cases h:k=t.1
  ·simp[h]
  ·simp only[h,decide_false,if_false] at ih ⊢
   exact ih
end Go.Id.Md
/- Indexes,in plain words: who stands in them,by number. Conditions: none; no program in sight. -/
namespace Go.Id.Md
open Go Go.Id
def numsOf (q:Package→Bool)(l:List Package):List Int:=((List.range l.length).filter fun n=>q (l.getD n default)).map fun (n:Nat)=>(n:Int)
theorem bk4 (q:Package→Bool)(l:List Package)(p:Package):numsOf q (l++[p])=numsOf q l++if q p then [(l.length:Int)] else []:=by
 unfold numsOf
 rw[List.length_append,List.length_singleton,List.range_succ,List.filter_append,List.map_append]
 congr 1
 ·congr 1
  refine List.filter_congr fun n hn=>?_
  have h:=List.mem_range.1 hn
  simp[List.getD_eq_getElem?_getD,List.getElem?_append,h]
 ·have e:(l++[p]).getD l.length default=p:=by simp[List.getD_eq_getElem?_getD]
  simp only[List.filter_cons,List.filter_nil,e]
  split<;>rfl
theorem cu9 {q:Package→Bool}{l:List Package}{n:Int}:n∈numsOf q l↔∃ m:Nat,n=m∧m<l.length∧q (l.getD m default)=true:=by
 unfold numsOf
 rw[List.mem_map]
 constructor
 ·rintro ⟨m,hm,rfl⟩
  obtain ⟨h1,h2⟩:=List.mem_filter.1 hm
  exact ⟨m,rfl,List.mem_range.1 h1,h2⟩
 ·rintro ⟨m,rfl,h1,h2⟩
  exact ⟨m,List.mem_filter.2 ⟨List.mem_range.2 h1,by simpa using h2⟩,rfl⟩
theorem cv2 (q:Package→Bool)(l:List Package):(numsOf q l).length≤l.length:=by
 unfold numsOf
 rw[List.length_map]
 exact Nat.le_trans (List.length_filter_le _ _) (by simp)
theorem da3 (q r:Package→Bool)(l:List Package):(numsOf q l).filter (fun n=>r (l.getD n.toNat default))=numsOf (fun p=>q p&&r p) l:=by
 unfold numsOf
 rw[List.filter_map,List.filter_filter]
 congr 1
 refine List.filter_congr fun n _=>?_
 show (r (l.getD ((n:Int)).toNat default)&&q (l.getD n default))=_
 rw[Int.toNat_natCast,Bool.and_comm]
theorem di6 {q r:Package→Bool}{l:List Package}(h:∀ p∈l,q p=r p):numsOf q l=numsOf r l:=by
 unfold numsOf
 congr 1
 refine List.filter_congr fun n hn=>?_
 have hlt:=List.mem_range.1 hn
 refine h _ ?_
 rw[List.getD_eq_getElem?_getD,List.getElem?_eq_getElem hlt]
 exact List.getElem_mem hlt
theorem ds9 {n:Int}:∀ (ks:List Str) {nm:Nms},KN nm→ks.Nodup→∀ j,ac4 (as3 nm ks n) j=ac4 nm j++if j∈ks then [n] else []:=by
 intro ks
 induction ks with
 | nil=>intro nm _ _ j; simp[as3]
 | cons k ks ih=>
  intro nm h hnd j
  obtain ⟨h1,h2⟩:=List.nodup_cons.1 hnd
  show ac4 (as3 (aj3 nm k n) ks n) j=_
  rw[ih (ag7 h) h2,aw5 h]
  by_cases e:j=k
  ·subst e; simp[h1]
  ·simp[e]
theorem es5 {n:Int}:∀ (ks:List Str) {nm:Nms},KN nm→KN (al5 nm ks n):=by
 intro ks
 induction ks with
 | nil=>intro nm h; exact h
 | cons k ks ih=>
  intro nm h
  show KN (al5 (if n∈ac4 nm k then nm else aj3 nm k n) ks n)
  split
  ·exact ih h
  ·exact ih (ag7 h)
theorem di7 {n:Int}:∀ (ks:List Str) {nm:Nms},KN nm→∀ j,ac4 (al5 nm ks n) j=ac4 nm j++if j∈ks∧n ∉ ac4 nm j then [n] else []:=by
 intro ks
 induction ks with
 | nil=>intro nm _ j; simp[al5]
 | cons k ks ih=>
  intro nm h j
  show ac4 (al5 (if n∈ac4 nm k then nm else aj3 nm k n) ks n) j=_
  by_cases hk:n∈ac4 nm k
  ·rw[if_pos hk,ih h]
   by_cases e:j=k
   ·subst e; simp[hk]
   ·simp[e]
  ·rw[if_neg hk,ih (ag7 h),aw5 h]
   by_cases e:j=k
   ·subst e; simp[hk]
   ·simp[e]
theorem es6 {l:List Str}{k j:Str}:j∈am3 l k↔j∈l∨j=k:=by
 unfold am3
 split
 ·rename_i h; exact ⟨.inl,fun h'=>h'.elim id fun e=>e▸h⟩
 ·simp
theorem ci2 {j:Str}:∀ (ks l:List Str),j∈ks.foldl am3 l↔j∈l∨j∈ks:=by
 intro ks
 induction ks with
 | nil=>intro l; simp
 | cons k ks ih=>intro l; rw[List.foldl_cons,ih,es6,List.mem_cons,or_assoc]
theorem es7 {l:List Str}(h:l.Nodup)(k:Str):(am3 l k).Nodup:=by
 unfold am3
 split
 ·exact h
 ·rename_i hk
  rw[List.nodup_append]
  exact ⟨h,by simp,fun a ha b hb e=>by simp at hb; subst hb; subst e; exact hk ha⟩
theorem bk5:∀ (ks:List Str) {l:List Str},l.Nodup→(ks.foldl am3 l).Nodup
 | [],_,h=>h
 | k::ks,_,h=>bk5 ks (es7 h k)
theorem fy3 (p:Package):(ci1 p).Nodup:=bk5 _ (bk5 _ (by simp))
theorem fy4 (p:Package)(j:Str):j∈ci1 p↔j=p.name∨(∃ d∈p.provides,d.name=j)∨j∈p.files:=by
 unfold ci1
 rw[ci2,ci2]
 simp[or_assoc]
structure IdxIs (x:Index) (l:List Package):Prop where
 all:x.all=l
 kp:KN x.prov
 kn:KN x.names
 ko:KN x.over
 prov:∀ j,ac4 x.prov j=numsOf (fun p=>decide (j∈ci1 p)) l
 names:∀ j,ac4 x.names j=numsOf (fun p=>decide (p.name=j)) l
 over:∀ j,ac4 x.over j=numsOf (fun p=>decide (∃ d∈p.obsoletes,d.name=j)) l
theorem IdxIs.add {x:Index}{l:List Package}(h:IdxIs x l)(p:Package):IdxIs (di4 x l.length p) (l++[p]) where
 all:=by show x.all++[p]=_; rw[h.all]
 kp:=di2 h.kp
 kn:=ag7 h.kn
 ko:=es5 _ h.ko
 prov:=fun j=>by
  show ac4 (as3 x.prov (ci1 p) _) j=_
  rw[ds9 _ h.kp (fy3 p),h.prov,bk4]
  simp
 names:=fun j=>by
  show ac4 (aj3 x.names p.name _) j=_
  rw[aw5 h.kn,h.names,h.names,bk4]
  by_cases e:j=p.name
  ·subst e; simp
  ·have e':¬ p.name=j:=fun h=>e h.symm
   simp[e,e']
 over:=fun j=>by
  show ac4 (al5 x.over _ _) j=_
  rw[di7 _ h.ko,h.over,bk4]
  have hn:(l.length:Int) ∉ numsOf (fun p=>decide (∃ d∈p.obsoletes,d.name=j)) l:=fun hm=>by
   obtain ⟨m,e,h1,_⟩:=cu9.1 hm
   omega
  simp[hn]
theorem es8:∀ (ps:List Package) {x:Index} {l:List Package},IdxIs x l→IdxIs (idxFrom x l.length ps) (l++ps):=by
 intro ps
 induction ps with
 | nil=>intro x l h; rw[List.append_nil]; exact h
 | cons p ps ih=>
  intro x l h
  have:=ih (h.add p)
  rw[List.append_assoc] at this
  simpa [idxFrom] using this
theorem fg8 (l:List Package):IdxIs (ap9 l) l:=by
 have h0:IdxIs ⟨[],[],[],[]⟩ []:=⟨rfl,List.nodup_nil,List.nodup_nil,List.nodup_nil,fun _=>by simp[ac4,numsOf],fun _=>by simp[ac4,numsOf],fun _=>by simp[ac4,numsOf]⟩
 exact es8 l h0
/-! ### Who provides -/
theorem fg9 {p:Package}{d:Dep}(h:named p d=true):p.name=d.name:=by
 unfold named meets own at h
 simp only[Bool.and_eq_true,decide_eq_true_eq] at h
 exact h.1
theorem di8 {p:Package}{d:Dep}(h:provides p d=true):d.name∈ci1 p:=by
 unfold provides at h
 rw[fy4]
 simp only[Bool.or_eq_true,Bool.and_eq_true,decide_eq_true_eq,List.any_eq_true] at h
 rcases h with (h|⟨a,ha,h⟩)|⟨_,h⟩
 ·exact .inl (fg9 h).symm
 ·unfold meets at h
  simp only[Bool.and_eq_true,decide_eq_true_eq] at h
  exact .inr (.inl ⟨a,ha,h.1⟩)
 ·exact .inr (.inr (by simpa using h))
def ag4 (l:List Package)(d:Dep):List Int:=numsOf (fun p=>provides p d) l
theorem di9 (l:List Package)(d:Dep):(ac4 (ap9 l).prov d.name).filter (fun n=>provides (l.getD n.toNat default) d)=ag4 l d:=by
 rw[(fg8 l).prov]
 refine (da3 (fun p=>decide (d.name∈ci1 p)) (fun p=>provides p d) l).trans ?_
 exact di6 fun p _=>by
  cases h:provides p d with
  | false=>simp
  | true=>simp[di8 h]
end Go.Id.Md
/- Pools of packages that may be: sizes. Conditions: none; no program in sight. -/
namespace Go.Id.Md
open Go Go.Id
theorem da4:∀ (rs:List Repo) (i:Nat) (st:List PRow×Nms) (out:List PRow×Nms),ad9 i rs st=some out→∀ r∈rs,r.packages.all ac3=true:=by
 intro rs
 induction rs with
 | nil=>intro i st out _ r hr; cases hr
 | cons x xs ih=>
  intro i st out h r hr
  simp only[ad9] at h
  split at h
  ·cases h
  ·rename_i hc
   rcases List.mem_cons.1 hr with rfl|hr
   ·cases hb:r.packages.all ac3 with
    | true=>rfl
    | false=>exact absurd (.inr (.inr hb)) hc
   ·exact ih _ _ _ h r hr
theorem bh5 {repos:List Repo}{inst:List Package}{p:Pool}(h:az9 repos inst=.inl p):repos.length≤16∧inst.length+af1 repos≤256∧inst.all ac3=true∧∀ r∈repos,r.packages.all ac3=true:=by
 unfold az9 at h
 split at h
 ·cases h
 rename_i hc
 split at h
 ·cases h
 rename_i hm
 split at h
 ·rename_i rows nm hr
  exact ⟨by omega,by omega,by simpa using hm,da4 _ _ _ _ hr⟩
 ·cases h
theorem cv3 (l:List Package)(a b:Int):(rowsOf l a b).map (·.pkg)=l:=by
 induction l with
 | nil=>rfl
 | cons x xs ih=>show x::(rowsOf xs a b).map (·.pkg)=_; rw[ih]
def ab2 (p:Pool):List Package:=p.rows.map (·.pkg)
theorem da5:∀ (rs:List Repo) (i:Nat),(ae1 i rs).map (·.pkg)=rs.flatMap (·.packages):=by
 intro rs
 induction rs with
 | nil=>intro i; rfl
 | cons r rs ih=>intro i; simp only[ae1,List.map_append,ih,cv3,List.flatMap_cons]
theorem fh1:∀ (rs:List Repo),(rs.flatMap (·.packages)).length=af1 rs:=by
 intro rs
 induction rs with
 | nil=>rfl
 | cons r rs ih=>simp only[List.flatMap_cons,List.length_append,ih]; rfl
theorem ci3 {repos:List Repo}{inst:List Package}{p:Pool}(h:az9 repos inst=.inl p):ab2 p=inst++repos.flatMap (·.packages):=by
 unfold ab2
 rw[(cd3 h).1,List.map_append,da5]
 congr 1
 exact cv3 _ _ _
theorem dz9 {repos:List Repo}{inst:List Package}{p:Pool}(h:az9 repos inst=.inl p):p.rows.length≤256:=by
 have e:p.rows.length=(ab2 p).length:=by simp[ab2]
 rw[e,ci3 h,List.length_append,fh1]
 exact (bh5 h).2.1
theorem ea1 {repos:List Repo}{inst:List Package}{p:Pool}(h:az9 repos inst=.inl p):∀ x∈ab2 p,ac3 x=true∧(x∈inst∨∃ r∈repos,x∈r.packages):=by
 intro x hx
 rw[ci3 h] at hx
 obtain ⟨_,_,h1,h2⟩:=bh5 h
 rcases List.mem_append.1 hx with hx|hx
 ·exact ⟨List.all_eq_true.1 h1 x hx,.inl hx⟩
 ·obtain ⟨r,hr,hxr⟩:=List.mem_flatMap.1 hx
  exact ⟨List.all_eq_true.1 (h2 r hr) x hxr,.inr ⟨r,hr,hxr⟩⟩
def EVR.tiny (e:EVR):Prop:=e.ver.length≤64∧e.rel.length≤64
theorem ea2 {s:Str}(h:az1 s=true):s.length≤64:=by
 unfold az1 at h
 simp only[Bool.and_eq_true,decide_eq_true_eq] at h
 exact h.1.2
theorem ea3 {e:EVR}{b:Bool}(h:az2 e b=true):e.tiny:=by
 unfold az2 at h
 simp only[Bool.and_eq_true,Bool.or_eq_true,decide_eq_true_eq] at h
 refine ⟨ea2 h.1.2,?_⟩
 rcases h.2 with h|h
 ·exact ea2 h
 ·have:=List.isEmpty_iff.1 h.2; rw[this]; exact Nat.zero_le _
theorem da6 {d:Dep}(h:ah2 d=true):0≤d.op∧d.op<256∧d.evr.tiny∧d.name.length≤64:=by
 unfold ah2 at h
 simp only[Bool.and_eq_true] at h
 obtain ⟨⟨h1,h2⟩,h3⟩:=h
 have hn:d.name.length≤64:=by
  unfold aq6 at h1
  simp only[Bool.and_eq_true,decide_eq_true_eq] at h1
  exact h1.1.1.2
 have ho:0≤d.op∧d.op<256:=by
  unfold er8 at h2
  simp only[List.contains_iff_mem,List.mem_cons,List.not_mem_nil,or_false] at h2
  omega
 refine ⟨ho.1,ho.2,?_,hn⟩
 split at h3
 ·have:d.evr=gx4:=by simpa using h3
  rw[this]; exact ⟨by decide,by decide⟩
 ·simp only[Bool.and_eq_true] at h3
  exact ea3 h3.2
structure Package.Tiny (p:Package):Prop where
 name:p.name.length≤64
 evr:p.evr.tiny
 prov:p.provides.length≤32∧∀ d∈p.provides,0≤d.op∧d.op<256∧d.evr.tiny∧d.name.length≤64
 obs:p.obsoletes.length≤32∧∀ d∈p.obsoletes,0≤d.op∧d.op<256∧d.evr.tiny∧d.name.length≤64
 files:p.files.length≤32
theorem ea4 {p:Package}(h:ac3 p=true):p.Tiny:=by
 unfold ac3 at h
 simp only[Bool.and_eq_true,decide_eq_true_eq] at h
 obtain ⟨⟨⟨⟨⟨⟨⟨⟨⟨⟨⟨⟨⟨⟨h1,_⟩,h3⟩,_⟩,_⟩,h6,h6'⟩,h7,h7'⟩,h8,_⟩,_⟩,_⟩,_⟩,_⟩,_⟩,_⟩,_⟩:=h
 refine ⟨?_,ea3 h3,⟨h6,fun d hd=>da6 (List.all_eq_true.1 h6' d hd)⟩,⟨h7,fun d hd=>da6 (List.all_eq_true.1 h7' d hd)⟩,h8⟩
 unfold aq6 at h1
 simp only[Bool.and_eq_true,decide_eq_true_eq] at h1
 exact h1.1.1.2
end Go.Id.Md
/- What is asked for,in plain words: successors,newcomers,whom a job means,what fulfils it. Conditions: none; no program in sight. -/
namespace Go.Id.Md
open Go Go.Id
structure Job where
 kind:Int
 dep:Dep
 deriving DecidableEq,Inhabited
structure Edit where
 kind:Int
 n:Int
 deriving DecidableEq,Inhabited
structure Req where
 arch:Int
 vendor:Bool
 jobs:List Job
 edits:List Edit
 budget:Int
def Job.cs (j:Job):List IV:=[.int .u8 j.kind,.str j.dep.name,.int .u8 j.dep.op,.int .i64 j.dep.evr.epoch,.str j.dep.evr.ver,.str j.dep.evr.rel]
def Edit.cs (e:Edit):List IV:=[.int .u8 e.kind,.int .i64 e.n]
abbrev cc2 (l:List Job):IV:=.tslice (l.map Job.cs)
abbrev bc1 (l:List Edit):IV:=.tslice (l.map Edit.cs)
def Req.cs (r:Req):List IV:=[.int .u8 r.arch,.bool r.vendor,cc2 r.jobs,bc1 r.edits,.int .i64 r.budget]
/-! ### Numbers for which something holds -/
def al6 (q:Nat→Bool)(k:Nat):List Int:=((List.range k).filter q).map fun (n:Nat)=>(n:Int)
theorem es9 (q:Nat→Bool)(k:Nat):al6 q (k+1)=al6 q k++if q k then [(k:Int)] else []:=by
 unfold al6
 rw[List.range_succ,List.filter_append,List.map_append]
 congr 1
 simp only[List.filter_cons,List.filter_nil]
 split<;>rfl
theorem dj1 {q:Nat→Bool}{k:Nat}{n:Int}:n∈al6 q k↔∃ m:Nat,n=m∧m<k∧q m=true:=by
 unfold al6
 rw[List.mem_map]
 constructor
 ·rintro ⟨m,hm,rfl⟩
  obtain ⟨h1,h2⟩:=List.mem_filter.1 hm
  exact ⟨m,rfl,List.mem_range.1 h1,h2⟩
 ·rintro ⟨m,rfl,h1,h2⟩
  exact ⟨m,List.mem_filter.2 ⟨List.mem_range.2 h1,h2⟩,rfl⟩
theorem ci4 (q:Nat→Bool)(k:Nat):(al6 q k).length≤k:=by
 unfold al6
 rw[List.length_map]
 exact Nat.le_trans (List.length_filter_le _ _) (by simp)
theorem fy5 (q:Nat→Bool)(k:Nat):(al6 q k).Pairwise (· < ·):=by
 unfold al6
 refine List.Pairwise.map (R:=fun (a b:Nat)=>a<b) _ (fun a b h=>by show (a:Int)<b; omega) ?_
 exact List.Pairwise.filter _ List.pairwise_lt_range
/-! ### Architectures -/
def dt1 (a:Int):Bool:=ak5 a&&!decide (a=1)
def as4 (m a:Int):Int :=
 if m=2 then (if a=1 then 2 else if a=2 then 1 else if a=3 then 3 else 0) else
 if m=3 then (if a=1 then 2 else if a=3 then 1 else 0) else
 if m=4 then (if a=1 then 2 else if a=4 then 1 else 0) else 0
def hj7 (m a:Int):Bool:=decide (0<as4 m a)
/-! ### What is asked for -/
structure AskM where
 p:Pool
 r:Req
namespace AskM
variable (a:AskM)
def l:List Package:=ab2 a.p
def pk (n:Int):Package:=a.l.getD n.toNat default
def is (n:Int):Bool:=decide (0≤n)&&decide (n<a.l.length)
def inst (n:Int):Bool:=a.is n&&decide (n<a.p.inst)
def fits (n:Int):Bool:=a.is n&&hj7 a.r.arch (a.pk n).arch
def some (state l:List Int):Bool:=l.any fun n=>decide (n∈state)
def cs:List IV:=[a.p.v,(ap9 a.l).v,.int .u8 a.r.arch,.bool a.r.vendor,cc2 a.r.jobs,bc1 a.r.edits,.int .i64 a.r.budget,.tslice (a.l.map Package.cs)]
def v:IV:=.tptr a.cs
end AskM
def bk6 (e:Edit)(jobs inst:Int):Bool:=decide (1≤e.kind)&&decide (e.kind≤4)&&decide (0≤e.n)&&decide (e.n<if e.kind=1 then jobs else inst)
def ca7 (j:Job):Bool:=decide (1≤j.kind)&&decide (j.kind≤4)&&ah2 j.dep
def aj6 (r:Req)(inst:Int):Int :=
 if dt1 r.arch=false∨r.budget<0∨1099511627776<r.budget then 1 else
 if 64<r.jobs.length∨64<r.edits.length then 40 else
 if r.jobs.all ca7=false then 4 else
 if r.edits.all (fun e=>bk6 e r.jobs.length inst)=false then 5 else 0
def hj8 (p:Pool)(r:Req):IV:=if aj6 r p.inst=0 then .tuple [(AskM.mk p r).v,.int .i64 0] else .tuple [.nilptr,.int .i64 (aj6 r p.inst)]
/-! ### Versions,turned about -/
theorem cd4 (a b:Int):ai7 b a=- ai7 a b:=by
 unfold ai7; split<;>split<;>(try split)<;>(try split)<;>omega
theorem bo3 {a b:Int}:ai7 a b=0↔a=b:=by
 unfold ai7
 split
 ·constructor
  ·intro h; omega
  ·intro h; omega
 ·split
  ·simp_all
  ·constructor
   ·intro h; omega
   ·intro h; contradiction
theorem cd5:∀ (x y:List UInt8),Op.bytesLess x y=decide (x<y)
 | [],[]=>by simp[Op.bytesLess]
 | _::_,[]=>by simp[Op.bytesLess]
 | [],_::_=>by simp[Op.bytesLess]
 | a::x,b::y=>by
  simp only[Op.bytesLess,cd5 x y,List.cons_lt_cons_iff]
  by_cases h:a<b
  ·simp[h]
  ·by_cases h2:a=b
   ·subst h2; simp
   ·simp[h,h2]
theorem hj9 (a b:Str):Op.bytesLess a b=true∧Op.bytesLess b a=false∧a≠b∨a=b∧Op.bytesLess a b=false∨Op.bytesLess b a=true∧Op.bytesLess a b=false∧a≠b:=by
 simp only[cd5,decide_eq_true_eq,decide_eq_false_iff_not]
 rcases Decidable.em (a<b) with h|h
 ·exact .inl ⟨h,fun h2=>List.lt_asymm h h2,fun e=>List.lt_irrefl a (by rw[← e] at h; exact h)⟩
 ·rcases Decidable.em (b<a) with h2|h2
  ·exact .inr (.inr ⟨h2,h,fun e=>List.lt_irrefl a (by rw[← e] at h2; exact h2)⟩)
  ·exact .inr (.inl ⟨List.le_antisymm (List.not_lt.1 h2) (List.not_lt.1 h),h⟩)
theorem ea5 (a b:Str):ch5 b a=- ch5 a b:=by
 unfold ch5
 rcases hj9 a b with ⟨h1,h2,h3⟩|⟨rfl,h⟩|⟨h1,h2,h3⟩
 ·rw[h1,h2,if_neg (by simp),if_neg (fun e=>h3 e.symm),if_pos rfl]; rfl
 ·rw[h]; simp
 ·rw[h1,h2,if_pos rfl,if_neg (by simp),if_neg h3]
theorem dt2 (a b:Part):ad2 b a=- ad2 a b:=by
 unfold ad2
 simp only[cd4 (a.kind:Int) b.kind,cd4 (a.s.length:Int) b.s.length,ea5 a.s b.s]
 have e:(b.kind=5∧a.kind=5)↔(a.kind=5∧b.kind=5):=And.comm
 by_cases h1:ai7 (a.kind:Int) b.kind=0
 ·simp only[h1,Int.neg_zero,ne_eq,not_true_eq_false,if_false,e]
  by_cases h2:a.kind=5∧b.kind=5
  ·simp only[h2,and_self,if_true]
   by_cases h3:ai7 (a.s.length:Int) b.s.length=0
   ·simp[h3]
   ·have h4:¬ - ai7 (a.s.length:Int) b.s.length=0:=by omega
    simp[h3,h4]
  ·simp[h2]
 ·have h2:¬ - ai7 (a.kind:Int) b.kind=0:=by omega
  simp[h1,h2]
theorem dj2:∀ (a b:List Part),ad4 b a=- ad4 a b:=by
 intro a
 induction a with
 | nil=>intro b; cases b<;>rfl
 | cons x a ih=>
  intro b
  cases b with
  | nil=>rfl
  | cons y b=>
   simp only[ad4,dt2 x y]
   by_cases h:ad2 x y=0
   ·simp[h,ih b]
   ·have h2:¬ - ad2 x y=0:=by omega
    simp[h,h2]
theorem by5 (a b:Str):aj5 b a=- aj5 a b:=dj2 _ _
theorem et1 (a b:EVR):am8 b a=- am8 a b:=by
 unfold am8
 rw[cd4 a.epoch b.epoch,by5 a.ver b.ver,by5 a.rel b.rel]
 by_cases h1:ai7 a.epoch b.epoch=0
 ·by_cases h2:aj5 a.ver b.ver=0
  ·simp only[h1,h2,Int.neg_zero,ne_eq,not_true_eq_false,if_false]
   by_cases h3:a.rel=[]∨b.rel=[]
   ·rw[if_pos h3,if_pos h3.symm]; rfl
   ·rw[if_neg h3,if_neg (fun h=>h3 h.symm)]
  ·have h3:¬ - aj5 a.ver b.ver=0:=by omega
   simp[h1,h2,h3]
 ·have h3:¬ - ai7 a.epoch b.epoch=0:=by omega
  simp[h1,h3]
/-! ### What holds of it -/
namespace AskM
variable (a:AskM)
theorem is_nat (n:Nat):a.is n=decide (n<a.l.length):=by
 unfold is
 have:(0:Int)≤n:=by omega
 simp only[this,decide_true,Bool.true_and]
 exact decide_eq_decide.2 (by omega)
end AskM
end Go.Id.Md
/- What holds of what is asked for: edits,states. Conditions: none; no program in sight. -/
namespace Go.Id.Md
open Go Go.Id
namespace AskM
variable (a:AskM)
/-! ### One edit more -/
variable (x:Edit)
variable {x} (hx:x.kind≠1)
include hx
end AskM
end Go.Id.Md
/- Who is better: an order; rich dependencies,whole and true: in plain words. Conditions: none; no program in sight. -/
namespace Go.Id.Md
open Go Go.Id
/-! ### Orders -/
structure WO {α:Type} (S:α→Prop) (f:α→α→Int):Prop where
 neg:∀ a b,f b a=- f a b
 tr:∀ a b c,S a→S b→S c→f a b≤0→f b c≤0→f a c≤0
def lex (x y:Int):Int:=if x=0 then y else x
theorem gp4 (x y:Int):lex (-x) (-y)=- lex x y:=by unfold lex; split<;>split<;>omega
theorem WO.lex {α:Type}{S:α→Prop}{f g:α→α→Int}(hf:WO S f)(hg:WO S g):WO S fun a b=>Md.lex (f a b) (g a b) where
 neg:=fun a b=>by show Md.lex (f b a) (g b a)=_; rw[hf.neg,hg.neg,gp4]
 tr:=fun a b c sa sb sc h1 h2=>by
  have k1:=hf.tr a b c sa sb sc
  have k2:=hf.tr c a b sc sa sb
  have k3:=hf.tr b c a sb sc sa
  have k4:=hg.tr a b c sa sb sc
  have n1:=hf.neg a b
  have n2:=hf.neg b c
  have n3:=hf.neg a c
  unfold Md.lex at *
  split at h1<;>split at h2<;>split<;>omega
theorem WO.of {α β:Type}{S:β→Prop}{f:β→β→Int}(hf:WO S f)(g:α→β):WO (fun a=>S (g a)) fun a b=>f (g a) (g b) where
 neg:=fun a b=>hf.neg _ _
 tr:=fun a b c sa sb sc=>hf.tr _ _ _ sa sb sc
theorem WO.flip {α:Type}{S:α→Prop}{f:α→α→Int}(hf:WO S f):WO S fun a b=>f b a where
 neg:=fun a b=>hf.neg b a
 tr:=fun a b c sa sb sc h1 h2=>hf.tr c b a sc sb sa h2 h1
theorem WO.sub {α:Type}{S T:α→Prop}{f:α→α→Int}(hf:WO S f)(h:∀ a,T a→S a):WO T f:=⟨hf.neg,fun a b c sa sb sc=>hf.tr a b c (h a sa) (h b sb) (h c sc)⟩
theorem ea6:WO (fun _=>True) ai7 where
 neg:=fun a b=>cd4 a b
 tr:=fun a b c _ _ _ h1 h2=>by
  unfold ai7 at *
  split at h1<;>split at h2<;>split<;>(try split at h1)<;>(try split at h2)<;>(try split)<;>omega
theorem dt3 {a b:Str}:ch5 a b≤0↔a≤b:=by
 unfold ch5
 rcases hj9 a b with ⟨h1,h2,h3⟩|⟨rfl,h⟩|⟨h1,h2,h3⟩
 ·rw[h1,if_pos rfl]
  rw[cd5,decide_eq_true_eq] at h1
  exact ⟨fun _=>List.le_of_lt h1,fun _=>by decide⟩
 ·rw[h]; simp[List.le_refl]
 ·rw[h2,if_neg (by simp),if_neg h3]
  rw[cd5,decide_eq_true_eq] at h1
  exact ⟨fun h=>absurd h (by decide),fun h=>absurd h1 (List.not_lt.2 h)⟩
theorem hk6:WO (fun _=>True) ch5 where
 neg:=fun a b=>ea5 a b
 tr:=fun a b c _ _ _ h1 h2=>dt3.2 (List.le_trans (dt3.1 h1) (dt3.1 h2))
def cd6 (a b:Part):Int:=lex (ai7 a.kind b.kind) (lex (ai7 (if a.kind=5 then (a.s.length:Int) else 0) (if b.kind=5 then (b.s.length:Int) else 0)) (ch5 a.s b.s))
theorem cv4 (a b:Part):ad2 a b=cd6 a b:=by
 unfold ad2 cd6 lex
 by_cases h:ai7 (a.kind:Int) b.kind=0
 ·have e:=bo3.1 h
  have e':a.kind=b.kind:=by omega
  simp only[h,ne_eq,not_true_eq_false,if_false,if_true,e']
  by_cases k5:b.kind=5
  ·simp only[k5,and_self,if_true]; split<;>simp_all
  ·have z:ai7 0 0=0:=by decide
   simp[k5,z]
 ·simp[h]
theorem by6:WO (fun _=>True) ad2:=by
 have h:ad2=cd6:=by funext a b; exact cv4 a b
 rw[h]
 exact (ea6.of (fun a:Part=>(a.kind:Int))).lex ((ea6.of (fun a:Part=>if a.kind=5 then (a.s.length:Int) else 0)).lex (hk6.of Part.s))
theorem ci5 {a b:Part}(h:ad2 a b=0):a.kind=b.kind:=by
 rw[cv4] at h
 unfold cd6 lex at h
 split at h
 ·rename_i e; have:=bo3.1 e; omega
 ·contradiction
abbrev fh2:Part:=⟨2,[]⟩
theorem ao4 (x y:Part)(a b:List Part):ad4 (x::a) (y::b)=lex (ad2 x y) (ad4 a b):=by
 show (if ad2 x y≠0 then ad2 x y else ad4 a b)=_
 unfold lex; split<;>simp_all
theorem aw6 (a:List Part):ad4 [] a=0:=by cases a<;>rfl
theorem bh6 (a:List Part):ad4 a []=0:=by cases a<;>rfl
theorem fy6:∀ (a b c:List Part),(∀ x∈a,x.kind≠2)→(∀ x∈b,x.kind≠2)→(∀ x∈c,x.kind≠2) →
  ad4 (a++[fh2]) (b++[fh2])≤0→ad4 (b++[fh2]) (c++[fh2])≤0→ad4 (a++[fh2]) (c++[fh2])≤0:=by
 have hd:∀ (x y z:Part) (r s t:Int),lex (ad2 x y) r≤0→lex (ad2 y z) s≤0→(ad2 x y=0→ad2 y z=0→r≤0→s≤0→t≤0)→lex (ad2 x z) t≤0:=fun x y z r s t h1 h2 h3=>by
  have k1:=by6.tr x y z trivial trivial trivial
  have k2:=by6.tr z x y trivial trivial trivial
  have k3:=by6.tr y z x trivial trivial trivial
  have n1:=by6.neg x y
  have n2:=by6.neg y z
  have n3:=by6.neg x z
  unfold lex at *
  split at h1<;>split at h2<;>split<;>first|omega|exact h3 (by assumption) (by assumption) h1 h2
 intro a
 induction a with
 | nil=>
  intro b c _ hb hc h1 h2
  cases b with
  | nil=>exact h2
  | cons y b=>
   cases c with
   | nil=>simp only[List.nil_append,ao4,aw6]; decide
   | cons z c=>
    simp only[List.nil_append,List.cons_append,ao4,aw6] at *
    refine hd _ y z _ _ _ h1 h2 fun e _ _ _=>?_
    exact absurd (ci5 e).symm (hb y List.mem_cons_self)
 | cons x a ih=>
  intro b c ha hb hc h1 h2
  cases b with
  | nil=>
   simp only[List.nil_append,List.cons_append,ao4,aw6,bh6] at h1
   cases c with
   | nil=>simp only[List.nil_append,List.cons_append,ao4,aw6,bh6]; exact h1
   | cons z c=>
    simp only[List.nil_append,List.cons_append,ao4,aw6,bh6] at *
    refine hd x fh2 z _ _ _ h1 h2 fun e _ _ _=>?_
    exact absurd (ci5 e) (ha x List.mem_cons_self)
  | cons y b=>
   cases c with
   | nil=>
    simp only[List.nil_append,List.cons_append,ao4,aw6,bh6] at *
    refine hd x y fh2 _ _ _ h1 h2 fun _ e _ _=>?_
    exact absurd (ci5 e) (hb y List.mem_cons_self)
   | cons z c=>
    simp only[List.cons_append,ao4] at *
    refine hd x y z _ _ _ h1 h2 fun _ _ r s=>?_
    exact ih b c (fun p hp=>ha p (List.mem_cons_of_mem _ hp)) (fun p hp=>hb p (List.mem_cons_of_mem _ hp)) (fun p hp=>hc p (List.mem_cons_of_mem _ hp)) r s
theorem ea7 (b:UInt8):ac2 b≠2:=by
 unfold ac2
 repeat (first|split|omega)
theorem ci6 (s:Str):∀ x∈ac6 s,x.kind≠2:=by
 unfold ac6
 have : ∀ n s,∀ x∈am2 n s,x.kind≠2:=by
  intro n
  induction n with
  | zero=>intro s x hx; cases hx
  | succ n ih=>
   intro s x hx
   cases s with
   | nil=>cases hx
   | cons b l=>
    simp only[am2] at hx
    split at hx
    ·exact ih _ x hx
    ·split at hx
     ·rcases List.mem_cons.1 hx with rfl|hx
      ·exact ea7 b
      ·exact ih _ x hx
     ·rcases List.mem_cons.1 hx with rfl|hx
      ·exact ea7 b
      ·exact ih _ x hx
 exact this _ s
theorem gi2:WO (fun _=>True) aj5 where
 neg:=fun a b=>by5 a b
 tr:=fun a b c _ _ _ h1 h2=>fy6 _ _ _ (ci6 a) (ci6 b) (ci6 c) h1 h2
theorem hk7:WO (fun e:EVR=>e.rel≠[]) am8 where
 neg:=fun a b=>et1 a b
 tr:=by
  have h:=(ea6.of EVR.epoch).lex ((gi2.of EVR.ver).lex (gi2.of EVR.rel))
  have e:∀ a b:EVR,a.rel≠[]→b.rel≠[]→am8 a b=lex (ai7 a.epoch b.epoch) (lex (aj5 a.ver b.ver) (aj5 a.rel b.rel)):=fun a b ha hb=>by
   unfold am8 lex
   have hn:¬ (a.rel=[]∨b.rel=[]):=by simp[ha,hb]
   rw[if_neg hn]
   by_cases h1:ai7 a.epoch b.epoch=0<;>by_cases h2:aj5 a.ver b.ver=0<;>simp[h1,h2]
  intro a b c ha hb hc
  rw[e a b ha hb,e b c hb hc,e a c ha hc]
  exact h.tr a b c trivial trivial trivial
end Go.Id.Md
/- Rich dependencies,whole and true; who is better: in plain words. Conditions: none; no program in sight. -/
namespace Go.Id.Md
open Go Go.Id
/-! ### Whole -/
def dt4 (k:Int):Nat:=if k=4 then 3 else if k=5 then 3 else if k=7 then 2 else 24
def ak6 (k:Int)(d:Dep)(n:Nat):Bool:=decide (1<k)&&decide (k≤7)&&decide (d=dn6)&&decide (2≤n)&&decide (n≤dt4 k)
mutual
def Rich.ms:Rich→Nat×Nat×Bool
 | .mk k d as=>if k=1 then (1,0,decide (as.length=0)&&ah2 d) else ((Rich.msL as 1 0 (ak6 k d as.length)).1,(Rich.msL as 1 0 (ak6 k d as.length)).2.1+1,(Rich.msL as 1 0 (ak6 k d as.length)).2.2)
def Rich.msL:List Rich→Nat→Nat→Bool→Nat×Nat×Bool
 | [],p,d,ok=>(p,d,ok)
 | r::rs,p,d,ok=>if ok=true then Rich.msL rs (p+r.ms.1) (max d r.ms.2.1) r.ms.2.2 else (p,d,false)
end
def dj3 (r:Rich):Bool:=r.ms.2.2&&decide (r.ms.1≤24)&&decide (r.ms.2.1≤8)
inductive Rich.Good:Rich→Prop
 | atom (d:Dep) (h:ah2 d=true):Rich.Good (.mk 1 d [])
 | node (k:Int) (d:Dep) (as:List Rich) (h1:1<k) (h2:k≤7) (h3:2≤as.length) (h4:as.length≤dt4 k) (h5:∀ a∈as,Rich.Good a):Rich.Good (.mk k d as)
theorem Rich.msL_ok:∀ (as:List Rich) (p d:Nat) (ok:Bool),(Rich.msL as p d ok).2.2=true→ok=true∧∀ a∈as,a.ms.2.2=true:=by
 intro as
 induction as with
 | nil=>intro p d ok h; exact ⟨h,fun _ h=>by cases h⟩
 | cons r rs ih=>
  intro p d ok h
  simp only[Rich.msL] at h
  split at h
  ·rename_i hk
   obtain ⟨h1,h2⟩:=ih _ _ _ h
   refine ⟨hk,fun a ha=>?_⟩
   rcases List.mem_cons.1 ha with rfl|ha
   ·exact h1
   ·exact h2 a ha
  ·cases h
theorem Rich.ms_good (r:Rich):r.ms.2.2=true→r.Good:=by
 induction r using Rich.ind with
 | h k d as ih=>
  intro h
  unfold Rich.ms at h
  split at h
  ·rename_i hk
   subst hk
   simp only[Bool.and_eq_true,decide_eq_true_eq] at h
   obtain ⟨h1,h2⟩:=h
   have e:as=[]:=List.length_eq_zero_iff.1 h1
   subst e
   exact .atom d h2
  ·obtain ⟨h1,h2⟩:=Rich.msL_ok _ _ _ _ h
   unfold ak6 at h1
   simp only[Bool.and_eq_true,decide_eq_true_eq] at h1
   exact .node k d as h1.1.1.1.1 h1.1.1.1.2 h1.1.2 h1.2 fun a ha=>ih a ha (h2 a ha)
theorem Rich.msL_le (as:List Rich)(h:∀ a∈as,a.ms.1≤a.count∧a.ms.2.1≤a.count):∀ (p d:Nat) (ok:Bool),(Rich.msL as p d ok).1≤p+Rich.counts as∧(Rich.msL as p d ok).2.1≤d+Rich.counts as:=by
 induction as with
 | nil=>intro p d ok; simp[Rich.msL,Rich.counts]
 | cons r rs ih=>
  intro p d ok
  obtain ⟨h1,h2⟩:=h r List.mem_cons_self
  have ih':=ih (fun a ha=>h a (List.mem_cons_of_mem _ ha))
  simp only[Rich.msL,Rich.counts]
  split
  ·obtain ⟨i1,i2⟩:=ih' (p+r.ms.1) (max d r.ms.2.1) r.ms.2.2
   omega
  ·simp only; omega
theorem Rich.ms_le (r:Rich):r.ms.1≤r.count∧r.ms.2.1≤r.count:=by
 induction r using Rich.ind with
 | h k d as ih=>
  unfold Rich.ms
  simp only[Rich.count]
  split
  ·simp only; omega
  ·obtain ⟨h1,h2⟩:=Rich.msL_le as ih 1 0 (ak6 k d as.length)
   simp only; omega
/-! ### True -/
abbrev ff:List Bool→Bool:=fun _=>false
def dj4 (c n:Nat):List Bool:=(List.range c).map fun m=>decide (m=n)
def stB (c:Nat)(zs:List Int):List Bool:=(List.range c).map fun (m:Nat)=>decide ((m:Int)∈zs)
def fy7 (st:List Bool)(f:Nat→Bool):Bool:=(List.range st.length).any fun n=>st.getD n false&&f n
def trK (l:List Package)(k:Int)(d:Dep)(fs:List (List Bool→Bool))(st:List Bool):Bool :=
 if k=1 then (ag4 l d).any fun n=>st.getD n.toNat false
 else if k=2 then fs.all fun f=>f st
 else if k=3 then fs.any fun f=>f st
 else if k=4 then (if (fs.getD 1 ff) st then (fs.getD 0 ff) st else decide (fs.length<3)||(fs.getD 2 ff) st)
 else if k=5 then (if (fs.getD 1 ff) st then decide (fs.length=3)&&(fs.getD 2 ff) st else (fs.getD 0 ff) st)
 else if k=6 then fy7 st fun n=>fs.all fun f=>f (dj4 st.length n)
 else fy7 st fun n=>(fs.getD 0 ff) (dj4 st.length n)&&!(fs.getD 1 ff) (dj4 st.length n)
mutual
def Rich.tr (l:List Package):Rich→List Bool→Bool
 | .mk k d as,st=>trK l k d (Rich.trs l as) st
def Rich.trs (l:List Package):List Rich→List (List Bool→Bool)
 | []=>[]
 | r::rs=>(fun st=>r.tr l st)::Rich.trs l rs
end
theorem Rich.trs_map (l:List Package)(as:List Rich):Rich.trs l as=as.map fun r st=>r.tr l st:=by
 induction as with
 | nil=>rfl
 | cons r rs ih=>simp only[Rich.trs,List.map_cons,ih]
def ew2 (l:List Package)(zs:List Int)(r:Rich):Bool:=dj3 r&&r.tr l (stB l.length zs)
def Rich.atoms (r:Rich):List Dep:=(r.parts false).filterMap fun p=>if p.1.kind=1 then some p.1.dep else none
/-! ### Who is better -/
structure OrdM where
 a:AskM
 liked:List Bool
def bi3 (b:Bool):List IV:=[.bool b]
namespace OrdM
variable (o:OrdM)
def cs:List IV:=[o.a.v,o.a.p.v,.int .u8 o.a.r.arch,.tslice (o.a.l.map Package.cs),.tslice (o.liked.map bi3)]
def v:IV:=.tptr o.cs
def lk (n:Int):Bool:=o.liked.getD n.toNat false
def likes (n:Int):Bool:=o.a.is n&&o.lk n
def yesI (b:Bool):Int:=if b then 0 else 1
def prio (n:Int):Int:=(o.a.p.rows.getD n.toNat ⟨default,0,0⟩).prio
def cmp (n m:Int):Int :=
 lex (ai7 (yesI (o.a.fits n)) (yesI (o.a.fits m))) (lex (ai7 (as4 o.a.r.arch (o.a.pk n).arch) (as4 o.a.r.arch (o.a.pk m).arch)) (lex (ai7 (o.prio m) (o.prio n))
  (lex (ai7 (yesI (o.lk n)) (yesI (o.lk m))) (lex (am8 (o.a.pk m).evr (o.a.pk n).evr) (ai7 n m)))))
def better (n m:Int):Bool:=o.a.is n&&o.a.is m&&decide (o.cmp n m<0)
theorem wo:WO (fun n=>(o.a.pk n).evr.rel≠[]) o.cmp:=by
 have hi {g:Int→Int}:WO (fun n=>(o.a.pk n).evr.rel≠[]) fun a b=>ai7 (g a) (g b):=(ea6.of g).sub fun _ _=>trivial
 exact hi.lex (hi.lex ((hi (g:=o.prio)).flip.lex (hi.lex ((hk7.of fun n=>(o.a.pk n).evr).flip.lex (hi (g:=fun n=>n))))))
theorem cmp_zero {n m:Int}(h:o.cmp n m=0):n=m:=by
 unfold cmp lex at h
 repeat (first|exact bo3.1 h|(split at h; rotate_left; contradiction))
theorem cmp_self (n:Int):o.cmp n n=0:=by have:=o.wo.neg n n; omega
def sortM (zs:List Int):List Int:=(al6 (fun n=>decide ((n:Int)∈zs)) o.a.l.length).mergeSort fun x y=>!decide (o.cmp y x<0)
theorem sortM_mem {zs:List Int}{n:Int}:n∈o.sortM zs↔n∈zs∧o.a.is n=true:=by
 unfold sortM
 rw[(List.mergeSort_perm _ _).mem_iff,dj1]
 constructor
 ·rintro ⟨m,rfl,h1,h2⟩
  exact ⟨by simpa using h2,by rw[AskM.is_nat]; exact decide_eq_true h1⟩
 ·rintro ⟨h1,h2⟩
  unfold AskM.is at h2
  simp only[Bool.and_eq_true,decide_eq_true_eq] at h2
  have e:((n.toNat:Nat):Int)=n:=by omega
  exact ⟨n.toNat,e.symm,by omega,by rw[e]; exact decide_eq_true h1⟩
variable (hr:∀ n,o.a.is n=true→(o.a.pk n).evr.rel≠[])
include hr
theorem lt_trans {a b c:Int}(ha:o.a.is a=true)(hb:o.a.is b=true)(hc:o.a.is c=true)(h1:o.cmp a b<0)(h2:o.cmp b c<0):o.cmp a c<0:=by
 have k1:=o.wo.tr a b c (hr a ha) (hr b hb) (hr c hc)
 have k2:=o.wo.tr c a b (hr c hc) (hr a ha) (hr b hb)
 have n1:=o.wo.neg a b
 have n2:=o.wo.neg b c
 have n3:=o.wo.neg a c
 omega
theorem sortM_up (zs:List Int):(o.sortM zs).Pairwise fun x y=>o.cmp x y<0:=by
 have hm:∀ x∈al6 (fun n=>decide ((n:Int)∈zs)) o.a.l.length,o.a.is x=true:=fun x hx=>by
  obtain ⟨m,rfl,h1,_⟩:=dj1.1 hx
  rw[AskM.is_nat]; exact decide_eq_true h1
 have hnd:(o.sortM zs).Nodup:=by
  unfold sortM
  rw[(List.mergeSort_perm _ _).nodup_iff]
  exact (fy5 _ _).imp fun h e=>by omega
 have hmem:∀ x∈o.sortM zs,o.a.is x=true:=fun x hx=>((o.sortM_mem).1 hx).2
 have hp:(o.sortM zs).Pairwise fun x y=>(!decide (o.cmp y x<0))=true:=by
  unfold sortM
  -- the order holds among the numbers that there are
  let S:={ n:Int // o.a.is n=true }
  let L:List S:=(al6 (fun n=>decide ((n:Int)∈zs)) o.a.l.length).attach.map fun x=>⟨x.1,hm x.1 x.2⟩
  have hL:L.map (·.1)=al6 (fun n=>decide ((n:Int)∈zs)) o.a.l.length:=by
   show (List.map _ (List.map _ _))=_
   rw[List.map_map]
   exact List.attach_map_subtype_val _
  rw[← hL,← List.map_mergeSort (r:=fun x y:S=>!decide (o.cmp y.1 x.1<0)) (fun _ _ _ _=>rfl)]
  refine List.Pairwise.map _ (fun _ _ h=>h) ?_
  refine List.pairwise_mergeSort ?_ ?_ L
  ·intro a b c h1 h2
   have k1:=o.wo.tr a.1 b.1 c.1 (hr _ a.2) (hr _ b.2) (hr _ c.2)
   have n1:=o.wo.neg a.1 b.1
   have n2:=o.wo.neg b.1 c.1
   have n3:=o.wo.neg a.1 c.1
   simp only[Bool.not_eq_true',decide_eq_false_iff_not] at h1 h2 ⊢
   omega
  ·intro a b
   have n1:=o.wo.neg a.1 b.1
   by_cases h:o.cmp a.1 b.1<0
   ·have:¬ o.cmp b.1 a.1<0:=by omega
    simp[h,this]
   ·simp[h]
 refine hp.imp₂ (fun {x y} h1 h2=>?_) hnd
 have n1:=o.wo.neg x y
 have n2:=fun h=>o.cmp_zero (n:=x) (m:=y) h
 have h2':x≠y:=h2
 have h1':¬ o.cmp y x<0:=by simpa using h1
 have:o.cmp x y≠0:=fun h=>h2' (n2 h)
 omega
theorem up_one:∀ {D F:List Int},(∀ x∈D,o.a.is x=true)→(∀ x∈F,o.a.is x=true)→D.Pairwise (fun x y=>o.cmp x y<0)→F.Pairwise (fun x y=>o.cmp x y<0)→(∀ x,x∈D↔x∈F)→D=F:=by
 intro D
 induction D with
 | nil=>intro F _ _ _ _ h; cases F with
  | nil=>rfl
  | cons y F=>exact absurd ((h y).2 List.mem_cons_self) (by simp)
 | cons x D ih=>
  intro F hD hF pD pF h
  cases F with
  | nil=>exact absurd ((h x).1 List.mem_cons_self) (by simp)
  | cons y F=>
   obtain ⟨pD1,pD2⟩:=List.pairwise_cons.1 pD
   obtain ⟨pF1,pF2⟩:=List.pairwise_cons.1 pF
   have hxy:x=y:=by
    rcases List.mem_cons.1 ((h x).1 List.mem_cons_self) with h1|h1
    ·exact h1
    rcases List.mem_cons.1 ((h y).2 List.mem_cons_self) with h2|h2
    ·exact h2.symm
    have:=pF1 x h1
    have:=pD1 y h2
    have:=o.wo.neg x y
    omega
   subst hxy
   congr 1
   have nD:∀ z∈D,z≠x:=fun z hz e=>by
    subst e; have:=pD1 z hz; rw[o.cmp_self] at this; omega
   have nF:∀ z∈F,z≠x:=fun z hz e=>by
    subst e; have:=pF1 z hz; rw[o.cmp_self] at this; omega
   refine ih (fun z hz=>hD z (List.mem_cons_of_mem _ hz)) (fun z hz=>hF z (List.mem_cons_of_mem _ hz)) pD2 pF2 fun z=>⟨fun hz=>?_,fun hz=>?_⟩
   ·rcases List.mem_cons.1 ((h z).1 (List.mem_cons_of_mem _ hz)) with e|hz'
    ·exact absurd e (nD z hz)
    ·exact hz'
   ·rcases List.mem_cons.1 ((h z).2 (List.mem_cons_of_mem _ hz)) with e|hz'
    ·exact absurd e (nF z hz)
    ·exact hz'
theorem sortM_one {zs D:List Int}(h1:D.Pairwise fun x y=>o.cmp x y<0)(h2:∀ x,x∈D↔x∈zs∧o.a.is x=true):D=o.sortM zs :=
 o.up_one hr (fun x hx=>((h2 x).1 hx).2) (fun x hx=>((o.sortM_mem).1 hx).2) h1 (o.sortM_up hr zs) fun x=>(h2 x).trans o.sortM_mem.symm
end OrdM
end Go.Id.Md
