/- Indexes,in plain words: who stands in them,by number. Conditions: none; no program in sight. -/
import Derived.Test.YtiallonafbejaaaGreatDoorMm
import Derived.Test.YtiallonafbejaaaGreatDoorFwYa
set_option linter.all false
namespace Go.Id.Md
open Go Go.Id
def numsOf (q:Package→Bool)(l:List Package):List Int:=((List.range l.length).filter fun n=>q (l.getD n default)).map fun (n:Nat)=>(n:Int)
theorem bk7 (q:Package→Bool)(l:List Package)(p:Package):numsOf q (l++[p])=numsOf q l++if q p then [(l.length:Int)] else []:=by
 unfold numsOf
 rw[List.length_append,List.length_singleton,List.range_succ,List.filter_append,List.map_append]
 congr 1
 ·congr 1
  refine List.filter_congr fun n hn=>?_
  have h:=List.mem_range.1 hn
  simp[List.getD_eq_getElem?_getD,List.getElem?_append,h]
 ·have e:(l++[p]).getD l.length default=p:=by simp[List.getD_eq_getElem?_getD]
  simp only[List.filter_cons,List.filter_nil,e]
  split<;>rfl
theorem cv9 {q:Package→Bool}{l:List Package}{n:Int}:n∈numsOf q l↔∃ m:Nat,n=m∧m<l.length∧q (l.getD m default)=true:=by
 unfold numsOf
 rw[List.mem_map]
 constructor
 ·rintro ⟨m,hm,rfl⟩
  obtain ⟨h1,h2⟩:=List.mem_filter.1 hm
  exact ⟨m,rfl,List.mem_range.1 h1,h2⟩
 ·rintro ⟨m,rfl,h1,h2⟩
  exact ⟨m,List.mem_filter.2 ⟨List.mem_range.2 h1,by simpa using h2⟩,rfl⟩
theorem cw1 (q:Package→Bool)(l:List Package):(numsOf q l).length≤l.length:=by
 unfold numsOf
 rw[List.length_map]
 exact Nat.le_trans (List.length_filter_le _ _) (by simp)
theorem db9 (q r:Package→Bool)(l:List Package):(numsOf q l).filter (fun n=>r (l.getD n.toNat default))=numsOf (fun p=>q p&&r p) l:=by
 unfold numsOf
 rw[List.filter_map,List.filter_filter]
 congr 1
 refine List.filter_congr fun n _=>?_
 show (r (l.getD ((n:Int)).toNat default)&&q (l.getD n default))=_
 rw[Int.toNat_natCast,Bool.and_comm]
theorem dk8 {q r:Package→Bool}{l:List Package}(h:∀ p∈l,q p=r p):numsOf q l=numsOf r l:=by
 unfold numsOf
 congr 1
 refine List.filter_congr fun n hn=>?_
 have hlt:=List.mem_range.1 hn
 refine h _ ?_
 rw[List.getD_eq_getElem?_getD,List.getElem?_eq_getElem hlt]
 exact List.getElem_mem hlt
theorem dv4 {n:Int}:∀ (ks:List Str) {nm:Nms},KN nm→ks.Nodup→∀ j,ac4 (as3 nm ks n) j=ac4 nm j++if j∈ks then [n] else []:=by
 intro ks
 induction ks with
 | nil=>intro nm _ _ j; simp[as3]
 | cons k ks ih=>
  intro nm h hnd j
  obtain ⟨h1,h2⟩:=List.nodup_cons.1 hnd
  show ac4 (as3 (aj3 nm k n) ks n) j=_
  rw[ih (ag7 h) h2,aw5 h]
  by_cases e:j=k
  ·subst e; simp[h1]
  ·simp[e]
theorem eu2 {n:Int}:∀ (ks:List Str) {nm:Nms},KN nm→KN (al5 nm ks n):=by
 intro ks
 induction ks with
 | nil=>intro nm h; exact h
 | cons k ks ih=>
  intro nm h
  show KN (al5 (if n∈ac4 nm k then nm else aj3 nm k n) ks n)
  split
  ·exact ih h
  ·exact ih (ag7 h)
theorem dk9 {n:Int}:∀ (ks:List Str) {nm:Nms},KN nm→∀ j,ac4 (al5 nm ks n) j=ac4 nm j++if j∈ks∧n ∉ ac4 nm j then [n] else []:=by
 intro ks
 induction ks with
 | nil=>intro nm _ j; simp[al5]
 | cons k ks ih=>
  intro nm h j
  show ac4 (al5 (if n∈ac4 nm k then nm else aj3 nm k n) ks n) j=_
  by_cases hk:n∈ac4 nm k
  ·rw[if_pos hk,ih h]
   by_cases e:j=k
   ·subst e; simp[hk]
   ·simp[e]
  ·rw[if_neg hk,ih (ag7 h),aw5 h]
   by_cases e:j=k
   ·subst e; simp[hk]
   ·simp[e]
theorem eu3 {l:List Str}{k j:Str}:j∈am3 l k↔j∈l∨j=k:=by
 unfold am3
 split
 ·rename_i h; exact ⟨.inl,fun h'=>h'.elim id fun e=>e▸h⟩
 ·simp
theorem cj5 {j:Str}:∀ (ks l:List Str),j∈ks.foldl am3 l↔j∈l∨j∈ks:=by
 intro ks
 induction ks with
 | nil=>intro l; simp
 | cons k ks ih=>intro l; rw[List.foldl_cons,ih,eu3,List.mem_cons,or_assoc]
theorem eu4 {l:List Str}(h:l.Nodup)(k:Str):(am3 l k).Nodup:=by
 unfold am3
 split
 ·exact h
 ·rename_i hk
  rw[List.nodup_append]
  exact ⟨h,by simp,fun a ha b hb e=>by simp at hb; subst hb; subst e; exact hk ha⟩
theorem bk8:∀ (ks:List Str) {l:List Str},l.Nodup→(ks.foldl am3 l).Nodup
 | [],_,h=>h
 | k::ks,_,h=>bk8 ks (eu4 h k)
theorem gc2 (p:Package):(ci2 p).Nodup:=bk8 _ (bk8 _ (by simp))
theorem gc3 (p:Package)(j:Str):j∈ci2 p↔j=p.name∨(∃ d∈p.provides,d.name=j)∨j∈p.files:=by
 unfold ci2
 rw[cj5,cj5]
 simp[or_assoc]
structure IdxIs (x:Index) (l:List Package):Prop where
 all:x.all=l
 kp:KN x.prov
 kn:KN x.names
 ko:KN x.over
 prov:∀ j,ac4 x.prov j=numsOf (fun p=>decide (j∈ci2 p)) l
 names:∀ j,ac4 x.names j=numsOf (fun p=>decide (p.name=j)) l
 over:∀ j,ac4 x.over j=numsOf (fun p=>decide (∃ d∈p.obsoletes,d.name=j)) l
theorem IdxIs.add {x:Index}{l:List Package}(h:IdxIs x l)(p:Package):IdxIs (di2 x l.length p) (l++[p]) where
 all:=by show x.all++[p]=_; rw[h.all]
 kp:=dh9 h.kp
 kn:=ag7 h.kn
 ko:=eu2 _ h.ko
 prov:=fun j=>by
  show ac4 (as3 x.prov (ci2 p) _) j=_
  rw[dv4 _ h.kp (gc2 p),h.prov,bk7]
  simp
 names:=fun j=>by
  show ac4 (aj3 x.names p.name _) j=_
  rw[aw5 h.kn,h.names,h.names,bk7]
  by_cases e:j=p.name
  ·subst e; simp
  ·have e':¬ p.name=j:=fun h=>e h.symm
   simp[e,e']
 over:=fun j=>by
  show ac4 (al5 x.over _ _) j=_
  rw[dk9 _ h.ko,h.over,bk7]
  have hn:(l.length:Int) ∉ numsOf (fun p=>decide (∃ d∈p.obsoletes,d.name=j)) l:=fun hm=>by
   obtain ⟨m,e,h1,_⟩:=cv9.1 hm
   omega
  simp[hn]
theorem eu5:∀ (ps:List Package) {x:Index} {l:List Package},IdxIs x l→IdxIs (idxFrom x l.length ps) (l++ps):=by
 intro ps
 induction ps with
 | nil=>intro x l h; rw[List.append_nil]; exact h
 | cons p ps ih=>
  intro x l h
  have:=ih (h.add p)
  rw[List.append_assoc] at this
  simpa [idxFrom] using this
theorem fm1 (l:List Package):IdxIs (ap9 l) l:=by
 have h0:IdxIs ⟨[],[],[],[]⟩ []:=⟨rfl,List.nodup_nil,List.nodup_nil,List.nodup_nil,fun _=>by simp[ac4,numsOf],fun _=>by simp[ac4,numsOf],fun _=>by simp[ac4,numsOf]⟩
 exact eu5 l h0
/-! ### Who provides -/
theorem fm2 {p:Package}{d:Dep}(h:named p d=true):p.name=d.name:=by
 unfold named meets own at h
 simp only[Bool.and_eq_true,decide_eq_true_eq] at h
 exact h.1
theorem dl1 {p:Package}{d:Dep}(h:provides p d=true):d.name∈ci2 p:=by
 unfold provides at h
 rw[gc3]
 simp only[Bool.or_eq_true,Bool.and_eq_true,decide_eq_true_eq,List.any_eq_true] at h
 rcases h with (h|⟨a,ha,h⟩)|⟨_,h⟩
 ·exact .inl (fm2 h).symm
 ·unfold meets at h
  simp only[Bool.and_eq_true,decide_eq_true_eq] at h
  exact .inr (.inl ⟨a,ha,h.1⟩)
 ·exact .inr (.inr (by simpa using h))
def ag4 (l:List Package)(d:Dep):List Int:=numsOf (fun p=>provides p d) l
theorem dl2 (l:List Package)(d:Dep):(ac4 (ap9 l).prov d.name).filter (fun n=>provides (l.getD n.toNat default) d)=ag4 l d:=by
 rw[(fm1 l).prov]
 refine (db9 (fun p=>decide (d.name∈ci2 p)) (fun p=>provides p d) l).trans ?_
 exact dk8 fun p _=>by
  cases h:provides p d with
  | false=>simp
  | true=>simp[dl1 h]
end Go.Id.Md
/- Pools of packages that may be: sizes. Conditions: none; no program in sight. -/
namespace Go.Id.Md
open Go Go.Id
theorem dc1:∀ (rs:List Repo) (i:Nat) (st:List PRow×Nms) (out:List PRow×Nms),ad9 i rs st=some out→∀ r∈rs,r.packages.all ac3=true:=by
 intro rs
 induction rs with
 | nil=>intro i st out _ r hr; cases hr
 | cons x xs ih=>
  intro i st out h r hr
  simp only[ad9] at h
  split at h
  ·cases h
  ·rename_i hc
   rcases List.mem_cons.1 hr with rfl|hr
   ·cases hb:r.packages.all ac3 with
    | true=>rfl
    | false=>exact absurd (.inr (.inr hb)) hc
   ·exact ih _ _ _ h r hr
theorem bh8 {repos:List Repo}{inst:List Package}{p:Pool}(h:az9 repos inst=.inl p):repos.length≤16∧inst.length+af1 repos≤256∧inst.all ac3=true∧∀ r∈repos,r.packages.all ac3=true:=by
 unfold az9 at h
 split at h
 ·cases h
 rename_i hc
 split at h
 ·cases h
 rename_i hm
 split at h
 ·rename_i rows nm hr
  exact ⟨by omega,by omega,by simpa using hm,dc1 _ _ _ _ hr⟩
 ·cases h
theorem cw2 (l:List Package)(a b:Int):(rowsOf l a b).map (·.pkg)=l:=by
 induction l with
 | nil=>rfl
 | cons x xs ih=>show x::(rowsOf xs a b).map (·.pkg)=_; rw[ih]
def ab2 (p:Pool):List Package:=p.rows.map (·.pkg)
theorem dc2:∀ (rs:List Repo) (i:Nat),(ae1 i rs).map (·.pkg)=rs.flatMap (·.packages):=by
 intro rs
 induction rs with
 | nil=>intro i; rfl
 | cons r rs ih=>intro i; simp only[ae1,List.map_append,ih,cw2,List.flatMap_cons]
theorem fm3:∀ (rs:List Repo),(rs.flatMap (·.packages)).length=af1 rs:=by
 intro rs
 induction rs with
 | nil=>rfl
 | cons r rs ih=>simp only[List.flatMap_cons,List.length_append,ih]; rfl
theorem cj6 {repos:List Repo}{inst:List Package}{p:Pool}(h:az9 repos inst=.inl p):ab2 p=inst++repos.flatMap (·.packages):=by
 unfold ab2
 rw[(cd4 h).1,List.map_append,dc2]
 congr 1
 exact cw2 _ _ _
theorem ec6 {repos:List Repo}{inst:List Package}{p:Pool}(h:az9 repos inst=.inl p):p.rows.length≤256:=by
 have e:p.rows.length=(ab2 p).length:=by simp[ab2]
 rw[e,cj6 h,List.length_append,fm3]
 exact (bh8 h).2.1
theorem ec7 {repos:List Repo}{inst:List Package}{p:Pool}(h:az9 repos inst=.inl p):∀ x∈ab2 p,ac3 x=true∧(x∈inst∨∃ r∈repos,x∈r.packages):=by
 intro x hx
 rw[cj6 h] at hx
 obtain ⟨_,_,h1,h2⟩:=bh8 h
 rcases List.mem_append.1 hx with hx|hx
 ·exact ⟨List.all_eq_true.1 h1 x hx,.inl hx⟩
 ·obtain ⟨r,hr,hxr⟩:=List.mem_flatMap.1 hx
  exact ⟨List.all_eq_true.1 (h2 r hr) x hxr,.inr ⟨r,hr,hxr⟩⟩
def EVR.tiny (e:EVR):Prop:=e.ver.length≤64∧e.rel.length≤64
theorem ec8 {s:Str}(h:az1 s=true):s.length≤64:=by
 unfold az1 at h
 simp only[Bool.and_eq_true,decide_eq_true_eq] at h
 exact h.1.2
theorem ec9 {e:EVR}{b:Bool}(h:az2 e b=true):e.tiny:=by
 unfold az2 at h
 simp only[Bool.and_eq_true,Bool.or_eq_true,decide_eq_true_eq] at h
 refine ⟨ec8 h.1.2,?_⟩
 rcases h.2 with h|h
 ·exact ec8 h
 ·have:=List.isEmpty_iff.1 h.2; rw[this]; exact Nat.zero_le _
theorem dc3 {d:Dep}(h:ah2 d=true):0≤d.op∧d.op<256∧d.evr.tiny∧d.name.length≤64:=by
 unfold ah2 at h
 simp only[Bool.and_eq_true] at h
 obtain ⟨⟨h1,h2⟩,h3⟩:=h
 have hn:d.name.length≤64:=by
  unfold aq6 at h1
  simp only[Bool.and_eq_true,decide_eq_true_eq] at h1
  exact h1.1.1.2
 have ho:0≤d.op∧d.op<256:=by
  unfold er4 at h2
  simp only[List.contains_iff_mem,List.mem_cons,List.not_mem_nil,or_false] at h2
  omega
 refine ⟨ho.1,ho.2,?_,hn⟩
 split at h3
 ·have:d.evr=gx4:=by simpa using h3
  rw[this]; exact ⟨by decide,by decide⟩
 ·simp only[Bool.and_eq_true] at h3
  exact ec9 h3.2
structure Package.Tiny (p:Package):Prop where
 name:p.name.length≤64
 evr:p.evr.tiny
 prov:p.provides.length≤32∧∀ d∈p.provides,0≤d.op∧d.op<256∧d.evr.tiny∧d.name.length≤64
 obs:p.obsoletes.length≤32∧∀ d∈p.obsoletes,0≤d.op∧d.op<256∧d.evr.tiny∧d.name.length≤64
 files:p.files.length≤32
theorem ed1 {p:Package}(h:ac3 p=true):p.Tiny:=by
 unfold ac3 at h
 simp only[Bool.and_eq_true,decide_eq_true_eq] at h
 obtain ⟨⟨⟨⟨⟨⟨⟨⟨⟨⟨⟨⟨⟨⟨h1,_⟩,h3⟩,_⟩,_⟩,h6,h6'⟩,h7,h7'⟩,h8,_⟩,_⟩,_⟩,_⟩,_⟩,_⟩,_⟩,_⟩:=h
 refine ⟨?_,ec9 h3,⟨h6,fun d hd=>dc3 (List.all_eq_true.1 h6' d hd)⟩,⟨h7,fun d hd=>dc3 (List.all_eq_true.1 h7' d hd)⟩,h8⟩
 unfold aq6 at h1
 simp only[Bool.and_eq_true,decide_eq_true_eq] at h1
 exact h1.1.1.2
end Go.Id.Md
/- What is asked for,in plain words: successors,newcomers,whom a job means,what fulfils it. Conditions: none; no program in sight. -/
namespace Go.Id.Md
open Go Go.Id
structure Job where
 kind:Int
 dep:Dep
 deriving DecidableEq,Inhabited
structure Edit where
 kind:Int
 n:Int
 deriving DecidableEq,Inhabited
structure Req where
 arch:Int
 vendor:Bool
 jobs:List Job
 edits:List Edit
 budget:Int
def Job.cs (j:Job):List IV:=[.int .u8 j.kind,.str j.dep.name,.int .u8 j.dep.op,.int .i64 j.dep.evr.epoch,.str j.dep.evr.ver,.str j.dep.evr.rel]
def Edit.cs (e:Edit):List IV:=[.int .u8 e.kind,.int .i64 e.n]
abbrev cc3 (l:List Job):IV:=.tslice (l.map Job.cs)
abbrev bc5 (l:List Edit):IV:=.tslice (l.map Edit.cs)
def Req.cs (r:Req):List IV:=[.int .u8 r.arch,.bool r.vendor,cc3 r.jobs,bc5 r.edits,.int .i64 r.budget]
/-! ### Numbers for which something holds -/
def al6 (q:Nat→Bool)(k:Nat):List Int:=((List.range k).filter q).map fun (n:Nat)=>(n:Int)
theorem eu6 (q:Nat→Bool)(k:Nat):al6 q (k+1)=al6 q k++if q k then [(k:Int)] else []:=by
 unfold al6
 rw[List.range_succ,List.filter_append,List.map_append]
 congr 1
 simp only[List.filter_cons,List.filter_nil]
 split<;>rfl
theorem dl3 {q:Nat→Bool}{k:Nat}{n:Int}:n∈al6 q k↔∃ m:Nat,n=m∧m<k∧q m=true:=by
 unfold al6
 rw[List.mem_map]
 constructor
 ·rintro ⟨m,hm,rfl⟩
  obtain ⟨h1,h2⟩:=List.mem_filter.1 hm
  exact ⟨m,rfl,List.mem_range.1 h1,h2⟩
 ·rintro ⟨m,rfl,h1,h2⟩
  exact ⟨m,List.mem_filter.2 ⟨List.mem_range.2 h1,h2⟩,rfl⟩
theorem cj7 (q:Nat→Bool)(k:Nat):(al6 q k).length≤k:=by
 unfold al6
 rw[List.length_map]
 exact Nat.le_trans (List.length_filter_le _ _) (by simp)
theorem gc4 (q:Nat→Bool)(k:Nat):(al6 q k).Pairwise (· < ·):=by
 unfold al6
 refine List.Pairwise.map (R:=fun (a b:Nat)=>a<b) _ (fun a b h=>by show (a:Int)<b; omega) ?_
 exact List.Pairwise.filter _ List.pairwise_lt_range
/-! ### Architectures -/
def dv5 (a:Int):Bool:=ak5 a&&!decide (a=1)
def as4 (m a:Int):Int :=
 if m=2 then (if a=1 then 2 else if a=2 then 1 else if a=3 then 3 else 0) else
 if m=3 then (if a=1 then 2 else if a=3 then 1 else 0) else
 if m=4 then (if a=1 then 2 else if a=4 then 1 else 0) else 0
def hn9 (m a:Int):Bool:=decide (0<as4 m a)
/-! ### What is asked for -/
structure AskM where
 p:Pool
 r:Req
namespace AskM
variable (a:AskM)
def l:List Package:=ab2 a.p
def pk (n:Int):Package:=a.l.getD n.toNat default
def is (n:Int):Bool:=decide (0≤n)&&decide (n<a.l.length)
def inst (n:Int):Bool:=a.is n&&decide (n<a.p.inst)
def fits (n:Int):Bool:=a.is n&&hn9 a.r.arch (a.pk n).arch
def some (state l:List Int):Bool:=l.any fun n=>decide (n∈state)
def cs:List IV:=[a.p.v,(ap9 a.l).v,.int .u8 a.r.arch,.bool a.r.vendor,cc3 a.r.jobs,bc5 a.r.edits,.int .i64 a.r.budget,.tslice (a.l.map Package.cs)]
def v:IV:=.tptr a.cs
end AskM
def bk9 (e:Edit)(jobs inst:Int):Bool:=decide (1≤e.kind)&&decide (e.kind≤4)&&decide (0≤e.n)&&decide (e.n<if e.kind=1 then jobs else inst)
def cb1 (j:Job):Bool:=decide (1≤j.kind)&&decide (j.kind≤4)&&ah2 j.dep
def aj6 (r:Req)(inst:Int):Int :=
 if dv5 r.arch=false∨r.budget<0∨1099511627776<r.budget then 1 else
 if 64<r.jobs.length∨64<r.edits.length then 40 else
 if r.jobs.all cb1=false then 4 else
 if r.edits.all (fun e=>bk9 e r.jobs.length inst)=false then 5 else 0
def ho5 (p:Pool)(r:Req):IV:=if aj6 r p.inst=0 then .tuple [(AskM.mk p r).v,.int .i64 0] else .tuple [.nilptr,.int .i64 (aj6 r p.inst)]
/-! ### Versions,turned about -/
theorem cd7 (a b:Int):ai7 b a=- ai7 a b:=by
 unfold ai7; split<;>split<;>(try split)<;>(try split)<;>omega
theorem bq1 {a b:Int}:ai7 a b=0↔a=b:=by
 unfold ai7
 split
 ·constructor
  ·intro h; omega
  ·intro h; omega
 ·split
  ·simp_all
  ·constructor
   ·intro h; omega
   ·intro h; contradiction
theorem cd8:∀ (x y:List UInt8),Op.bytesLess x y=decide (x<y)
 | [],[]=>by simp[Op.bytesLess]
 | _::_,[]=>by simp[Op.bytesLess]
 | [],_::_=>by simp[Op.bytesLess]
 | a::x,b::y=>by
  simp only[Op.bytesLess,cd8 x y,List.cons_lt_cons_iff]
  by_cases h:a<b
  ·simp[h]
  ·by_cases h2:a=b
   ·subst h2; simp
   ·simp[h,h2]
theorem ho6 (a b:Str):Op.bytesLess a b=true∧Op.bytesLess b a=false∧a≠b∨a=b∧Op.bytesLess a b=false∨Op.bytesLess b a=true∧Op.bytesLess a b=false∧a≠b:=by
 simp only[cd8,decide_eq_true_eq,decide_eq_false_iff_not]
 rcases Decidable.em (a<b) with h|h
 ·exact .inl ⟨h,fun h2=>List.lt_asymm h h2,fun e=>List.lt_irrefl a (by rw[← e] at h; exact h)⟩
 ·rcases Decidable.em (b<a) with h2|h2
  ·exact .inr (.inr ⟨h2,h,fun e=>List.lt_irrefl a (by rw[← e] at h2; exact h2)⟩)
  ·exact .inr (.inl ⟨List.le_antisymm (List.not_lt.1 h2) (List.not_lt.1 h),h⟩)
theorem ed2 (a b:Str):ch5 b a=- ch5 a b:=by
 unfold ch5
 rcases ho6 a b with ⟨h1,h2,h3⟩|⟨rfl,h⟩|⟨h1,h2,h3⟩
 ·rw[h1,h2,if_neg (by simp),if_neg (fun e=>h3 e.symm),if_pos rfl]; rfl
 ·rw[h]; simp
 ·rw[h1,h2,if_pos rfl,if_neg (by simp),if_neg h3]
theorem dv6 (a b:Part):ad2 b a=- ad2 a b:=by
 unfold ad2
 simp only[cd7 (a.kind:Int) b.kind,cd7 (a.s.length:Int) b.s.length,ed2 a.s b.s]
 have e:(b.kind=5∧a.kind=5)↔(a.kind=5∧b.kind=5):=And.comm
 by_cases h1:ai7 (a.kind:Int) b.kind=0
 ·simp only[h1,Int.neg_zero,ne_eq,not_true_eq_false,if_false,e]
  by_cases h2:a.kind=5∧b.kind=5
  ·simp only[h2,and_self,if_true]
   by_cases h3:ai7 (a.s.length:Int) b.s.length=0
   ·simp[h3]
   ·have h4:¬ - ai7 (a.s.length:Int) b.s.length=0:=by omega
    simp[h3,h4]
  ·simp[h2]
 ·have h2:¬ - ai7 (a.kind:Int) b.kind=0:=by omega
  simp[h1,h2]
theorem dl4:∀ (a b:List Part),ad4 b a=- ad4 a b:=by
 intro a
 induction a with
 | nil=>intro b; cases b<;>rfl
 | cons x a ih=>
  intro b
  cases b with
  | nil=>rfl
  | cons y b=>
   simp only[ad4,dv6 x y]
   by_cases h:ad2 x y=0
   ·simp[h,ih b]
   ·have h2:¬ - ad2 x y=0:=by omega
    simp[h,h2]
theorem bz8 (a b:Str):aj5 b a=- aj5 a b:=dl4 _ _
theorem eu7 (a b:EVR):am7 b a=- am7 a b:=by
 unfold am7
 rw[cd7 a.epoch b.epoch,bz8 a.ver b.ver,bz8 a.rel b.rel]
 by_cases h1:ai7 a.epoch b.epoch=0
 ·by_cases h2:aj5 a.ver b.ver=0
  ·simp only[h1,h2,Int.neg_zero,ne_eq,not_true_eq_false,if_false]
   by_cases h3:a.rel=[]∨b.rel=[]
   ·rw[if_pos h3,if_pos h3.symm]; rfl
   ·rw[if_neg h3,if_neg (fun h=>h3 h.symm)]
  ·have h3:¬ - aj5 a.ver b.ver=0:=by omega
   simp[h1,h2,h3]
 ·have h3:¬ - ai7 a.epoch b.epoch=0:=by omega
  simp[h1,h3]
/-! ### What holds of it -/
namespace AskM
variable (a:AskM)
theorem is_nat (n:Nat):a.is n=decide (n<a.l.length):=by
 unfold is
 have:(0:Int)≤n:=by omega
 simp only[this,decide_true,Bool.true_and]
 exact decide_eq_decide.2 (by omega)
end AskM
end Go.Id.Md
/- What holds of what is asked for: edits,states. Conditions: none; no program in sight. -/
namespace Go.Id.Md
open Go Go.Id
namespace AskM
variable (a:AskM)
/-! ### One edit more -/
variable (x:Edit)
variable {x} (hx:x.kind≠1)
include hx
end AskM
end Go.Id.Md
/- Who is better: an order; rich dependencies,whole and true: in plain words. Conditions: none; no program in sight. -/
namespace Go.Id.Md
open Go Go.Id
/-! ### Orders -/
structure WO {α:Type} (S:α→Prop) (f:α→α→Int):Prop where
 neg:∀ a b,f b a=- f a b
 tr:∀ a b c,S a→S b→S c→f a b≤0→f b c≤0→f a c≤0
def lex (x y:Int):Int:=if x=0 then y else x
theorem gt6 (x y:Int):lex (-x) (-y)=- lex x y:=by unfold lex; split<;>split<;>omega
theorem WO.lex {α:Type}{S:α→Prop}{f g:α→α→Int}(hf:WO S f)(hg:WO S g):WO S fun a b=>Md.lex (f a b) (g a b) where
 neg:=fun a b=>by show Md.lex (f b a) (g b a)=_; rw[hf.neg,hg.neg,gt6]
 tr:=fun a b c sa sb sc h1 h2=>by
  have k1:=hf.tr a b c sa sb sc
  have k2:=hf.tr c a b sc sa sb
  have k3:=hf.tr b c a sb sc sa
  have k4:=hg.tr a b c sa sb sc
  have n1:=hf.neg a b
  have n2:=hf.neg b c
  have n3:=hf.neg a c
  unfold Md.lex at *
  split at h1<;>split at h2<;>split<;>omega
theorem WO.of {α β:Type}{S:β→Prop}{f:β→β→Int}(hf:WO S f)(g:α→β):WO (fun a=>S (g a)) fun a b=>f (g a) (g b) where
 neg:=fun a b=>hf.neg _ _
 tr:=fun a b c sa sb sc=>hf.tr _ _ _ sa sb sc
theorem WO.flip {α:Type}{S:α→Prop}{f:α→α→Int}(hf:WO S f):WO S fun a b=>f b a where
 neg:=fun a b=>hf.neg b a
 tr:=fun a b c sa sb sc h1 h2=>hf.tr c b a sc sb sa h2 h1
theorem WO.sub {α:Type}{S T:α→Prop}{f:α→α→Int}(hf:WO S f)(h:∀ a,T a→S a):WO T f:=⟨hf.neg,fun a b c sa sb sc=>hf.tr a b c (h a sa) (h b sb) (h c sc)⟩
theorem ed3:WO (fun _=>True) ai7 where
 neg:=fun a b=>cd7 a b
 tr:=fun a b c _ _ _ h1 h2=>by
  unfold ai7 at *
  split at h1<;>split at h2<;>split<;>(try split at h1)<;>(try split at h2)<;>(try split)<;>omega
theorem dv7 {a b:Str}:ch5 a b≤0↔a≤b:=by
 unfold ch5
 rcases ho6 a b with ⟨h1,h2,h3⟩|⟨rfl,h⟩|⟨h1,h2,h3⟩
 ·rw[h1,if_pos rfl]
  rw[cd8,decide_eq_true_eq] at h1
  exact ⟨fun _=>List.le_of_lt h1,fun _=>by decide⟩
 ·rw[h]; simp[List.le_refl]
 ·rw[h2,if_neg (by simp),if_neg h3]
  rw[cd8,decide_eq_true_eq] at h1
  exact ⟨fun h=>absurd h (by decide),fun h=>absurd h1 (List.not_lt.2 h)⟩
theorem ho7:WO (fun _=>True) ch5 where
 neg:=fun a b=>ed2 a b
 tr:=fun a b c _ _ _ h1 h2=>dv7.2 (List.le_trans (dv7.1 h1) (dv7.1 h2))
def cd9 (a b:Part):Int:=lex (ai7 a.kind b.kind) (lex (ai7 (if a.kind=5 then (a.s.length:Int) else 0) (if b.kind=5 then (b.s.length:Int) else 0)) (ch5 a.s b.s))
theorem cw3 (a b:Part):ad2 a b=cd9 a b:=by
 unfold ad2 cd9 lex
 by_cases h:ai7 (a.kind:Int) b.kind=0
 ·have e:=bq1.1 h
  have e':a.kind=b.kind:=by omega
  simp only[h,ne_eq,not_true_eq_false,if_false,if_true,e']
  by_cases k5:b.kind=5
  ·simp only[k5,and_self,if_true]; split<;>simp_all
  ·have z:ai7 0 0=0:=by decide
   simp[k5,z]
 ·simp[h]
theorem bz9:WO (fun _=>True) ad2:=by
 have h:ad2=cd9:=by funext a b; exact cw3 a b
 rw[h]
 exact (ed3.of (fun a:Part=>(a.kind:Int))).lex ((ed3.of (fun a:Part=>if a.kind=5 then (a.s.length:Int) else 0)).lex (ho7.of Part.s))
theorem cj8 {a b:Part}(h:ad2 a b=0):a.kind=b.kind:=by
 rw[cw3] at h
 unfold cd9 lex at h
 split at h
 ·rename_i e; have:=bq1.1 e; omega
 ·contradiction
abbrev fk1:Part:=⟨2,[]⟩
theorem ao6 (x y:Part)(a b:List Part):ad4 (x::a) (y::b)=lex (ad2 x y) (ad4 a b):=by
 show (if ad2 x y≠0 then ad2 x y else ad4 a b)=_
 unfold lex; split<;>simp_all
theorem ax1 (a:List Part):ad4 [] a=0:=by cases a<;>rfl
theorem bh9 (a:List Part):ad4 a []=0:=by cases a<;>rfl
theorem gc5:∀ (a b c:List Part),(∀ x∈a,x.kind≠2)→(∀ x∈b,x.kind≠2)→(∀ x∈c,x.kind≠2) →
  ad4 (a++[fk1]) (b++[fk1])≤0→ad4 (b++[fk1]) (c++[fk1])≤0→ad4 (a++[fk1]) (c++[fk1])≤0:=by
 have hd:∀ (x y z:Part) (r s t:Int),lex (ad2 x y) r≤0→lex (ad2 y z) s≤0→(ad2 x y=0→ad2 y z=0→r≤0→s≤0→t≤0)→lex (ad2 x z) t≤0:=fun x y z r s t h1 h2 h3=>by
  have k1:=bz9.tr x y z trivial trivial trivial
  have k2:=bz9.tr z x y trivial trivial trivial
  have k3:=bz9.tr y z x trivial trivial trivial
  have n1:=bz9.neg x y
  have n2:=bz9.neg y z
  have n3:=bz9.neg x z
  unfold lex at *
  split at h1<;>split at h2<;>split<;>first|omega|exact h3 (by assumption) (by assumption) h1 h2
 intro a
 induction a with
 | nil=>
  intro b c _ hb hc h1 h2
  cases b with
  | nil=>exact h2
  | cons y b=>
   cases c with
   | nil=>simp only[List.nil_append,ao6,ax1]; decide
   | cons z c=>
    simp only[List.nil_append,List.cons_append,ao6,ax1] at *
    refine hd _ y z _ _ _ h1 h2 fun e _ _ _=>?_
    exact absurd (cj8 e).symm (hb y List.mem_cons_self)
 | cons x a ih=>
  intro b c ha hb hc h1 h2
  cases b with
  | nil=>
   simp only[List.nil_append,List.cons_append,ao6,ax1,bh9] at h1
   cases c with
   | nil=>simp only[List.nil_append,List.cons_append,ao6,ax1,bh9]; exact h1
   | cons z c=>
    simp only[List.nil_append,List.cons_append,ao6,ax1,bh9] at *
    refine hd x fk1 z _ _ _ h1 h2 fun e _ _ _=>?_
    exact absurd (cj8 e) (ha x List.mem_cons_self)
  | cons y b=>
   cases c with
   | nil=>
    simp only[List.nil_append,List.cons_append,ao6,ax1,bh9] at *
    refine hd x y fk1 _ _ _ h1 h2 fun _ e _ _=>?_
    exact absurd (cj8 e) (hb y List.mem_cons_self)
   | cons z c=>
    simp only[List.cons_append,ao6] at *
    refine hd x y z _ _ _ h1 h2 fun _ _ r s=>?_
    exact ih b c (fun p hp=>ha p (List.mem_cons_of_mem _ hp)) (fun p hp=>hb p (List.mem_cons_of_mem _ hp)) (fun p hp=>hc p (List.mem_cons_of_mem _ hp)) r s
theorem ed4 (b:UInt8):ac2 b≠2:=by
 unfold ac2
 repeat (first|split|omega)
theorem cj9 (s:Str):∀ x∈ac6 s,x.kind≠2:=by
 unfold ac6
 have:∀ n s,∀ x∈am2 n s,x.kind≠2:=by
  intro n
  induction n with
  | zero=>intro s x hx; cases hx
  | succ n ih=>
   intro s x hx
   cases s with
   | nil=>cases hx
   | cons b l=>
    simp only[am2] at hx
    split at hx
    ·exact ih _ x hx
    ·split at hx
     ·rcases List.mem_cons.1 hx with rfl|hx
      ·exact ed4 b
      ·exact ih _ x hx
     ·rcases List.mem_cons.1 hx with rfl|hx
      ·exact ed4 b
      ·exact ih _ x hx
 exact this _ s
theorem gj4:WO (fun _=>True) aj5 where
 neg:=fun a b=>bz8 a b
 tr:=fun a b c _ _ _ h1 h2=>gc5 _ _ _ (cj9 a) (cj9 b) (cj9 c) h1 h2
theorem ho8:WO (fun e:EVR=>e.rel≠[]) am7 where
 neg:=fun a b=>eu7 a b
 tr:=by
  have h:=(ed3.of EVR.epoch).lex ((gj4.of EVR.ver).lex (gj4.of EVR.rel))
  have e:∀ a b:EVR,a.rel≠[]→b.rel≠[]→am7 a b=lex (ai7 a.epoch b.epoch) (lex (aj5 a.ver b.ver) (aj5 a.rel b.rel)):=fun a b ha hb=>by
   unfold am7 lex
   have hn:¬ (a.rel=[]∨b.rel=[]):=by simp[ha,hb]
   rw[if_neg hn]
   by_cases h1:ai7 a.epoch b.epoch=0<;>by_cases h2:aj5 a.ver b.ver=0<;>simp[h1,h2]
  intro a b c ha hb hc
  rw[e a b ha hb,e b c hb hc,e a c ha hc]
  exact h.tr a b c trivial trivial trivial
end Go.Id.Md
/- Rich dependencies,whole and true; who is better: in plain words. Conditions: none; no program in sight. -/
namespace Go.Id.Md
open Go Go.Id
/-! ### Whole -/
def dv8 (k:Int):Nat:=if k=4 then 3 else if k=5 then 3 else if k=7 then 2 else 24
def ak7 (k:Int)(d:Dep)(n:Nat):Bool:=decide (1<k)&&decide (k≤7)&&decide (d=dn6)&&decide (2≤n)&&decide (n≤dv8 k)
mutual
def Rich.ms:Rich→Nat×Nat×Bool
 | .mk k d as=>if k=1 then (1,0,decide (as.length=0)&&ah2 d) else ((Rich.msL as 1 0 (ak7 k d as.length)).1,(Rich.msL as 1 0 (ak7 k d as.length)).2.1+1,(Rich.msL as 1 0 (ak7 k d as.length)).2.2)
def Rich.msL:List Rich→Nat→Nat→Bool→Nat×Nat×Bool
 | [],p,d,ok=>(p,d,ok)
 | r::rs,p,d,ok=>if ok=true then Rich.msL rs (p+r.ms.1) (max d r.ms.2.1) r.ms.2.2 else (p,d,false)
end
def dl5 (r:Rich):Bool:=r.ms.2.2&&decide (r.ms.1≤24)&&decide (r.ms.2.1≤8)
inductive Rich.Good:Rich→Prop
 | atom (d:Dep) (h:ah2 d=true):Rich.Good (.mk 1 d [])
 | node (k:Int) (d:Dep) (as:List Rich) (h1:1<k) (h2:k≤7) (h3:2≤as.length) (h4:as.length≤dv8 k) (h5:∀ a∈as,Rich.Good a):Rich.Good (.mk k d as)
theorem Rich.msL_ok:∀ (as:List Rich) (p d:Nat) (ok:Bool),(Rich.msL as p d ok).2.2=true→ok=true∧∀ a∈as,a.ms.2.2=true:=by
 intro as
 induction as with
 | nil=>intro p d ok h; exact ⟨h,fun _ h=>by cases h⟩
 | cons r rs ih=>
  intro p d ok h
  simp only[Rich.msL] at h
  split at h
  ·rename_i hk
   obtain ⟨h1,h2⟩:=ih _ _ _ h
   refine ⟨hk,fun a ha=>?_⟩
   rcases List.mem_cons.1 ha with rfl|ha
   ·exact h1
   ·exact h2 a ha
  ·cases h
theorem Rich.ms_good (r:Rich):r.ms.2.2=true→r.Good:=by
 induction r using Rich.ind with
 | h k d as ih=>
  intro h
  unfold Rich.ms at h
  split at h
  ·rename_i hk
   subst hk
   simp only[Bool.and_eq_true,decide_eq_true_eq] at h
   obtain ⟨h1,h2⟩:=h
   have e:as=[]:=List.length_eq_zero_iff.1 h1
   subst e
   exact .atom d h2
  ·obtain ⟨h1,h2⟩:=Rich.msL_ok _ _ _ _ h
   unfold ak7 at h1
   simp only[Bool.and_eq_true,decide_eq_true_eq] at h1
   exact .node k d as h1.1.1.1.1 h1.1.1.1.2 h1.1.2 h1.2 fun a ha=>ih a ha (h2 a ha)
theorem Rich.msL_le (as:List Rich)(h:∀ a∈as,a.ms.1≤a.count∧a.ms.2.1≤a.count):∀ (p d:Nat) (ok:Bool),(Rich.msL as p d ok).1≤p+Rich.counts as∧(Rich.msL as p d ok).2.1≤d+Rich.counts as:=by
 induction as with
 | nil=>intro p d ok; simp[Rich.msL,Rich.counts]
 | cons r rs ih=>
  intro p d ok
  obtain ⟨h1,h2⟩:=h r List.mem_cons_self
  have ih':=ih (fun a ha=>h a (List.mem_cons_of_mem _ ha))
  simp only[Rich.msL,Rich.counts]
  split
  ·obtain ⟨i1,i2⟩:=ih' (p+r.ms.1) (max d r.ms.2.1) r.ms.2.2
   omega
  ·simp only; omega
theorem Rich.ms_le (r:Rich):r.ms.1≤r.count∧r.ms.2.1≤r.count:=by
 induction r using Rich.ind with
 | h k d as ih=>
  unfold Rich.ms
  simp only[Rich.count]
  split
  ·simp only; omega
  ·obtain ⟨h1,h2⟩:=Rich.msL_le as ih 1 0 (ak7 k d as.length)
   simp only; omega
/-! ### True -/
abbrev ff:List Bool→Bool:=fun _=>false
def dl6 (c n:Nat):List Bool:=(List.range c).map fun m=>decide (m=n)
def stB (c:Nat)(zs:List Int):List Bool:=(List.range c).map fun (m:Nat)=>decide ((m:Int)∈zs)
def gc6 (st:List Bool)(f:Nat→Bool):Bool:=(List.range st.length).any fun n=>st.getD n false&&f n
def trK (l:List Package)(k:Int)(d:Dep)(fs:List (List Bool→Bool))(st:List Bool):Bool :=
 if k=1 then (ag4 l d).any fun n=>st.getD n.toNat false
 else if k=2 then fs.all fun f=>f st
 else if k=3 then fs.any fun f=>f st
 else if k=4 then (if (fs.getD 1 ff) st then (fs.getD 0 ff) st else decide (fs.length<3)||(fs.getD 2 ff) st)
 else if k=5 then (if (fs.getD 1 ff) st then decide (fs.length=3)&&(fs.getD 2 ff) st else (fs.getD 0 ff) st)
 else if k=6 then gc6 st fun n=>fs.all fun f=>f (dl6 st.length n)
 else gc6 st fun n=>(fs.getD 0 ff) (dl6 st.length n)&&!(fs.getD 1 ff) (dl6 st.length n)
mutual
def Rich.tr (l:List Package):Rich→List Bool→Bool
 | .mk k d as,st=>trK l k d (Rich.trs l as) st
def Rich.trs (l:List Package):List Rich→List (List Bool→Bool)
 | []=>[]
 | r::rs=>(fun st=>r.tr l st)::Rich.trs l rs
end
theorem Rich.trs_map (l:List Package)(as:List Rich):Rich.trs l as=as.map fun r st=>r.tr l st:=by
 induction as with
 | nil=>rfl
 | cons r rs ih=>simp only[Rich.trs,List.map_cons,ih]
def ew2 (l:List Package)(zs:List Int)(r:Rich):Bool:=dl5 r&&r.tr l (stB l.length zs)
def Rich.atoms (r:Rich):List Dep:=(r.parts false).filterMap fun p=>if p.1.kind=1 then some p.1.dep else none
/-! ### Who is better -/
structure OrdM where
 a:AskM
 liked:List Bool
def bi4 (b:Bool):List IV:=[.bool b]
namespace OrdM
variable (o:OrdM)
def cs:List IV:=[o.a.v,o.a.p.v,.int .u8 o.a.r.arch,.tslice (o.a.l.map Package.cs),.tslice (o.liked.map bi4)]
def v:IV:=.tptr o.cs
def lk (n:Int):Bool:=o.liked.getD n.toNat false
def likes (n:Int):Bool:=o.a.is n&&o.lk n
def yesI (b:Bool):Int:=if b then 0 else 1
def prio (n:Int):Int:=(o.a.p.rows.getD n.toNat ⟨default,0,0⟩).prio
def cmp (n m:Int):Int :=
 lex (ai7 (yesI (o.a.fits n)) (yesI (o.a.fits m))) (lex (ai7 (as4 o.a.r.arch (o.a.pk n).arch) (as4 o.a.r.arch (o.a.pk m).arch)) (lex (ai7 (o.prio m) (o.prio n))
  (lex (ai7 (yesI (o.lk n)) (yesI (o.lk m))) (lex (am7 (o.a.pk m).evr (o.a.pk n).evr) (ai7 n m)))))
def better (n m:Int):Bool:=o.a.is n&&o.a.is m&&decide (o.cmp n m<0)
theorem wo:WO (fun n=>(o.a.pk n).evr.rel≠[]) o.cmp:=by
 have hi {g:Int→Int}:WO (fun n=>(o.a.pk n).evr.rel≠[]) fun a b=>ai7 (g a) (g b):=(ed3.of g).sub fun _ _=>trivial
 exact hi.lex (hi.lex ((hi (g:=o.prio)).flip.lex (hi.lex ((ho8.of fun n=>(o.a.pk n).evr).flip.lex (hi (g:=fun n=>n))))))
theorem cmp_zero {n m:Int}(h:o.cmp n m=0):n=m:=by
 unfold cmp lex at h
 repeat (first|exact bq1.1 h|(split at h; rotate_left; contradiction))
theorem cmp_self (n:Int):o.cmp n n=0:=by have:=o.wo.neg n n; omega
def sortM (zs:List Int):List Int:=(al6 (fun n=>decide ((n:Int)∈zs)) o.a.l.length).mergeSort fun x y=>!decide (o.cmp y x<0)
theorem sortM_mem {zs:List Int}{n:Int}:n∈o.sortM zs↔n∈zs∧o.a.is n=true:=by
 unfold sortM
 rw[(List.mergeSort_perm _ _).mem_iff,dl3]
 constructor
 ·rintro ⟨m,rfl,h1,h2⟩
  exact ⟨by simpa using h2,by rw[AskM.is_nat]; exact decide_eq_true h1⟩
 ·rintro ⟨h1,h2⟩
  unfold AskM.is at h2
  simp only[Bool.and_eq_true,decide_eq_true_eq] at h2
  have e:((n.toNat:Nat):Int)=n:=by omega
  exact ⟨n.toNat,e.symm,by omega,by rw[e]; exact decide_eq_true h1⟩
variable (hr:∀ n,o.a.is n=true→(o.a.pk n).evr.rel≠[])
include hr
theorem lt_trans {a b c:Int}(ha:o.a.is a=true)(hb:o.a.is b=true)(hc:o.a.is c=true)(h1:o.cmp a b<0)(h2:o.cmp b c<0):o.cmp a c<0:=by
 have k1:=o.wo.tr a b c (hr a ha) (hr b hb) (hr c hc)
 have k2:=o.wo.tr c a b (hr c hc) (hr a ha) (hr b hb)
 have n1:=o.wo.neg a b
 have n2:=o.wo.neg b c
 have n3:=o.wo.neg a c
 omega
theorem sortM_up (zs:List Int):(o.sortM zs).Pairwise fun x y=>o.cmp x y<0:=by
 have hm:∀ x∈al6 (fun n=>decide ((n:Int)∈zs)) o.a.l.length,o.a.is x=true:=fun x hx=>by
  obtain ⟨m,rfl,h1,_⟩:=dl3.1 hx
  rw[AskM.is_nat]; exact decide_eq_true h1
 have hnd:(o.sortM zs).Nodup:=by
  unfold sortM
  rw[(List.mergeSort_perm _ _).nodup_iff]
  exact (gc4 _ _).imp fun h e=>by omega
 have hmem:∀ x∈o.sortM zs,o.a.is x=true:=fun x hx=>((o.sortM_mem).1 hx).2
 have hp:(o.sortM zs).Pairwise fun x y=>(!decide (o.cmp y x<0))=true:=by
  unfold sortM
  -- the order holds among the numbers that there are
  let S:={ n:Int // o.a.is n=true }
  let L:List S:=(al6 (fun n=>decide ((n:Int)∈zs)) o.a.l.length).attach.map fun x=>⟨x.1,hm x.1 x.2⟩
  have hL:L.map (·.1)=al6 (fun n=>decide ((n:Int)∈zs)) o.a.l.length:=by
   show (List.map _ (List.map _ _))=_
   rw[List.map_map]
   exact List.attach_map_subtype_val _
  rw[← hL,← List.map_mergeSort (r:=fun x y:S=>!decide (o.cmp y.1 x.1<0)) (fun _ _ _ _=>rfl)]
  refine List.Pairwise.map _ (fun _ _ h=>h) ?_
  refine List.pairwise_mergeSort ?_ ?_ L
  ·intro a b c h1 h2
   have k1:=o.wo.tr a.1 b.1 c.1 (hr _ a.2) (hr _ b.2) (hr _ c.2)
   have n1:=o.wo.neg a.1 b.1
   have n2:=o.wo.neg b.1 c.1
   have n3:=o.wo.neg a.1 c.1
   simp only[Bool.not_eq_true',decide_eq_false_iff_not] at h1 h2 ⊢
   omega
  ·intro a b
   have n1:=o.wo.neg a.1 b.1
   by_cases h:o.cmp a.1 b.1<0
   ·have:¬ o.cmp b.1 a.1<0:=by omega
    simp[h,this]
   ·simp[h]
 refine hp.imp₂ (fun {x y} h1 h2=>?_) hnd
 have n1:=o.wo.neg x y
 have n2:=fun h=>o.cmp_zero (n:=x) (m:=y) h
 have h2':x≠y:=h2
 have h1':¬ o.cmp y x<0:=by simpa using h1
 have:o.cmp x y≠0:=fun h=>h2' (n2 h)
 omega
theorem up_one:∀ {D F:List Int},(∀ x∈D,o.a.is x=true)→(∀ x∈F,o.a.is x=true)→D.Pairwise (fun x y=>o.cmp x y<0)→F.Pairwise (fun x y=>o.cmp x y<0)→(∀ x,x∈D↔x∈F)→D=F:=by
 intro D
 induction D with
 | nil=>intro F _ _ _ _ h; cases F with
  | nil=>rfl
  | cons y F=>exact absurd ((h y).2 List.mem_cons_self) (by simp)
 | cons x D ih=>
  intro F hD hF pD pF h
  cases F with
  | nil=>exact absurd ((h x).1 List.mem_cons_self) (by simp)
  | cons y F=>
   obtain ⟨pD1,pD2⟩:=List.pairwise_cons.1 pD
   obtain ⟨pF1,pF2⟩:=List.pairwise_cons.1 pF
   have hxy:x=y:=by
    rcases List.mem_cons.1 ((h x).1 List.mem_cons_self) with h1|h1
    ·exact h1
    rcases List.mem_cons.1 ((h y).2 List.mem_cons_self) with h2|h2
    ·exact h2.symm
    have:=pF1 x h1
    have:=pD1 y h2
    have:=o.wo.neg x y
    omega
   subst hxy
   congr 1
   have nD:∀ z∈D,z≠x:=fun z hz e=>by
    subst e; have:=pD1 z hz; rw[o.cmp_self] at this; omega
   have nF:∀ z∈F,z≠x:=fun z hz e=>by
    subst e; have:=pF1 z hz; rw[o.cmp_self] at this; omega
   refine ih (fun z hz=>hD z (List.mem_cons_of_mem _ hz)) (fun z hz=>hF z (List.mem_cons_of_mem _ hz)) pD2 pF2 fun z=>⟨fun hz=>?_,fun hz=>?_⟩
   ·rcases List.mem_cons.1 ((h z).1 (List.mem_cons_of_mem _ hz)) with e|hz'
    ·exact absurd e (nD z hz)
    ·exact hz'
   ·rcases List.mem_cons.1 ((h z).2 (List.mem_cons_of_mem _ hz)) with e|hz'
    ·exact absurd e (nF z hz)
    ·exact hz'
theorem sortM_one {zs D:List Int}(h1:D.Pairwise fun x y=>o.cmp x y<0)(h2:∀ x,x∈D↔x∈zs∧o.a.is x=true):D=o.sortM zs :=
 o.up_one hr (fun x hx=>((h2 x).1 hx).2) (fun x hx=>((o.sortM_mem).1 hx).2) h1 (o.sortM_up hr zs) fun x=>(h2 x).trans o.sortM_mem.symm
end OrdM
end Go.Id.Md
/- Walks that split where a guard is not known. Conditions: none; over any program. -/
namespace Go.Id
open Go
variable {P:Program} {E:Nat→IV} {σ:Store} {N n0 id:Nat} {fr:Frm} {pt:PT} {ct:CT} {Q:Exit→Frm→Store→Prop} {K:IV→Store→Prop}
theorem bc6 {P:IV→Prop}{a:IV}(h:P a):∀ v∈[a],P v:=by simpa using h
theorem ai3 {P:IV→Prop}{a b:IV}(h:P a)(h2:P b):∀ v∈[a,b],P v:=by simpa using ⟨h,h2⟩
theorem ax2 {P:IV→Prop}{a b c:IV}(h:P a)(h2:P b)(h3:P c):∀ v∈[a,b,c],P v:=by simpa using ⟨h,h2,h3⟩
theorem gt7 {P:IV→Prop}{a b c d:IV}(h:P a)(h2:P b)(h3:P c)(h4:P d):∀ v∈[a,b,c,d],P v:=by simpa using ⟨h,h2,h3,h4⟩
theorem ho9 {P:IV→Prop}{a b c d e:IV}(h:P a)(h2:P b)(h3:P c)(h4:P d)(h5:P e):∀ v∈[a,b,c,d,e],P v:=by simpa using ⟨h,h2,h3,h4,h5⟩
theorem if2 {P:IV→Prop}{a b c d e f:IV}(h:P a)(h2:P b)(h3:P c)(h4:P d)(h5:P e)(h6:P f):∀ v∈[a,b,c,d,e,f],P v:=by simpa using ⟨h,h2,h3,h4,h5,h6⟩
theorem if3 {ag:Option Nat}{x:IX}:evq E fr σ (.ldt ag x)=gw3 ag (x.ev E fr):=nr rfl
theorem hp4 {cs:List IV}:gw3 none (.tptr cs)=cs.head?:=nr rfl
theorem hp5 {n:Nat}{cs:List IV}:gw3 (some n) (.tptr cs)=if n≤cs.length then some (.agg (cs.take n)) else none:=nr rfl
attribute [go_sem] if3 hp4 hp5
end Go.Id
/- Whether a rich dependency is whole. Conditions: sizes that fit. -/
namespace Go.Id.Tryz
open Go Go.Id Go.Proofs Go.Id.Md
set_option maxRecDepth 100000
def msV (m:Nat×Nat×Bool):IV:=.tuple [.int .i64 m.1,.int .i64 m.2.1,.bool m.2.2]
theorem ed5 {s:Store}(m:Nat×Nat×Bool):cg9 s 0 (.tuple [.int .i64 m.1,.int .i64 m.2.1,.bool m.2.2]) (msV m):=.keep _ (.tuple _ (ax2 (.int _ _) (.int _ _) (.bool _)))
theorem eu8 (r:Rich):r.fit→r.count<2^31→PC Tryz.prog EE 287 [.agg r.cs] (msV r.ms):=by
 induction r using Rich.ind with
 | h k d xs ih=>
  intro hf hc
  obtain ⟨f1,f2,f3,f4,f5⟩:=Rich.fit_mk.1 hf
  have hms:∀ a∈xs,a.ms.1≤a.count∧a.ms.2.1≤a.count:=fun a _=>Rich.ms_le a
  refine ae9 hE fok287 (Nat.le_of_ble_eq_true rfl) (ad3 (ae4 _)) ?_
  by_cases k1:k=1
  ·subst k1
   have hm:=bc2 d f3.1 f3.2.1 f3.2.2
   by_cases h0:xs.length=0
   ·have h0':(xs.length:Int)=0:=by omega
    simp only[ic287,go_sem,Rich.cs_eq,Rich.kind,Rich.dep,Rich.args,h0']
    first|refine aa1 fok157 (hm) ?_|refine aa3 (hm) ?_
    simp only[go_sem]
    have e:Rich.ms (.mk 1 d xs)=(1,0,ah2 d):=by simp[Rich.ms,h0]
    rw[e]; exact ed5 (1,0,ah2 d)
   ·have h0':¬ (xs.length:Int)=0:=by omega
    simp only[ic287,go_sem,Rich.cs_eq,Rich.kind,Rich.dep,Rich.args,h0']
    have e:Rich.ms (.mk 1 d xs)=(1,0,false):=by simp[Rich.ms,h0]
    rw[e]; exact ed5 (1,0,false)
  have e:Rich.ms (.mk k d xs)=((Rich.msL xs 1 0 (ak7 k d xs.length)).1,(Rich.msL xs 1 0 (ak7 k d xs.length)).2.1+1,(Rich.msL xs 1 0 (ak7 k d xs.length)).2.2):=by rw[Rich.ms,if_neg k1]
  have hdd:decide (d=dn6)=(decide (d.name=[])&&(decide (d.op=0)&&(decide (d.evr.epoch=0)&&(decide (d.evr.ver=[])&&decide (d.evr.rel=[]))))):=by
   obtain ⟨n,o,e,v,r⟩:=d
   simp only[dn6,gx4,Dep.mk.injEq,EVR.mk.injEq,Bool.decide_and]
  have hg:∀ a∈xs,a.fit∧a.count<2^31∧a.count≤Rich.counts xs:=fun a ha=>by
   have h1:a.count≤Rich.counts xs:=by
    clear hc f4 f5 hms ih hdd e hf
    induction xs with
    | nil=>cases ha
    | cons y ys ihy=>
     simp only[Rich.counts]
     rcases List.mem_cons.1 ha with rfl|ha
     ·omega
     ·have:=ihy ha; omega
   have h2:Rich.counts xs<2^31:=by simp only[Rich.count] at hc; omega
   exact ⟨f5 a ha,by omega,h1⟩
  have hcs:Rich.counts xs<2^31:=by simp only[Rich.count] at hc; omega
  -- what holds of Kinds and counts
  by_cases q1:1<k
  case' neg=>
   have hH:ak7 k d xs.length=false:=by simp[ak7,q1]
   simp only[ic287,go_sem,Rich.cs_eq,Rich.kind,Rich.dep,Rich.args,k1,q1]
  case' pos=>
   by_cases q2:k≤7
   case' neg=>
    have hH:ak7 k d xs.length=false:=by simp[ak7,q2]
    simp only[ic287,go_sem,Rich.cs_eq,Rich.kind,Rich.dep,Rich.args,k1,q1,q2]
   case' pos=>
    by_cases q3:d=dn6
    case' neg=>
     have hd1:decide (d=dn6)=false:=decide_eq_false q3
     rw[hdd] at hd1
     have hH:ak7 k d xs.length=false:=by simp[ak7,q3]
     simp only[ic287,go_sem,Rich.cs_eq,Rich.kind,Rich.dep,Rich.args,k1,q1,q2,hd1]
    case' pos=>
     have hd1:decide (d=dn6)=true:=decide_eq_true q3
     rw[hdd] at hd1
     by_cases q4:2≤xs.length
     case' neg=>
      have q4':¬ (2:Int)≤xs.length:=by omega
      have hH:ak7 k d xs.length=false:=by simp[ak7,q4]
      simp only[ic287,go_sem,Rich.cs_eq,Rich.kind,Rich.dep,Rich.args,k1,q1,q2,hd1,q4']
     case' pos=>
      have q4':(2:Int)≤xs.length:=by omega
      obtain ⟨ks,hk1,hk2,hk3⟩:∃ ks,(if 0≤k∧k<8 then cb3 (k.toNat*2) (EE 2) else none)=some (.tptr ks)∧(ks.drop 1).head? = some (.int .i64 (dv8 k))∧1<ks.length:=by
       have hk:k=2∨k=3∨k=4∨k=5∨k=6∨k=7:=by omega
       rcases hk with rfl|rfl|rfl|rfl|rfl|rfl<;>exact ⟨_,rfl,rfl,by decide⟩
      simp only[ic287,go_sem,Rich.cs_eq,Rich.kind,Rich.dep,Rich.args,k1,q1,q2,hd1,q4',hk1,hk2,hk3]
      by_cases q5:xs.length≤dv8 k
      case' neg=>
       have q5':¬ (xs.length:Int)≤dv8 k:=by omega
       have hH:ak7 k d xs.length=false:=by simp[ak7,q5]
       simp only[go_sem,q5']
      case' pos=>
       have q5':(xs.length:Int)≤dv8 k:=by omega
       have hH:ak7 k d xs.length=true:=by simp[ak7, *]
       simp only[go_sem,q5']
  all_goals
   rw[e]
   refine aa9 noT (fun i fr t=>∃ (p dd:Nat) (ok:Bool),fr=[(2,.int .i64 p),(3,.int .i64 dd),(4,.bool ok),(54,.tslice (xs.map Rich.cs)),(55,.int .i64 xs.length),(56,.int .i64 (i:Int))]∧p+Rich.counts (xs.drop i)≤1+Rich.counts xs∧dd≤Rich.counts xs ∧
    Rich.msL xs 1 0 (ak7 k d xs.length)=Rich.msL (xs.drop i) p dd ok) xs.length ⟨1,0,_,rfl,Nat.le_refl _,Nat.zero_le _,by rw[hH]; rfl⟩ ?_
   rintro i fr t hle ⟨p,dd,ok,rfl,hp,hdl,hI⟩
   rw[hI]
   by_cases hlt:i<xs.length
   ·obtain ⟨x,hx,_,hdr,hget,htk⟩:=ad1 xs i hlt
    have c1:(i:Int)<xs.length:=by omega
    have c2:(0:Int)≤i:=by omega
    have w1:=ad5 (i:=i) (by omega)
    rw[hdr] at hp hI ⊢
    obtain ⟨x1,x2,x3⟩:=hg x hx
    cases ok with
    | false=>
     have w3:=ad5 (i:=dd) (by omega)
     simp only[go_sem,c1,c2,hget,aa8,ab4,aa6,w3,Rich.msL]
     exact ed5 (p,dd+1,false)
    | true=>
     have hA:=ih x hx x1 x2
     have hml:=Rich.ms_le x
     simp only[Rich.counts] at hp
     have w2:IntKind.i64.wrap ((p:Int)+x.ms.1)=((p+x.ms.1:Nat):Int):=by rw[wrap64 (by omega) (by omega)]; omega
     simp only[go_sem,c1,c2,hget,aa8,ab4,aa6]
     first|refine aa1 fok287 (hA) ?_|refine aa3 (hA) ?_
     simp only[go_sem,msV,w1,w2]
     have wm:(if (x.ms.2.1:Int)>dd then (x.ms.2.1:Int) else dd)=((max dd x.ms.2.1:Nat):Int):=by split<;>omega
     exact ⟨hlt,p+x.ms.1,max dd x.ms.2.1,x.ms.2.2,by rw[wm],by omega,by omega,by simp[Rich.msL]⟩
   ·have hi':i=xs.length:=by omega
    subst hi'
    have c1:¬ (xs.length:Int)<xs.length:=by omega
    have w3:=ad5 (i:=dd) (by omega)
    rw[List.drop_length]
    simp only[go_sem,c1,w3,Rich.msL]
    exact ed5 (p,dd+1,ok)
theorem gc7 (r:Rich)(h1:r.fit)(h2:r.count<2^31):PC Tryz.prog EE 241 [.agg r.cs] (.bool (dl5 r)):=by
 refine ae9 hE fok241 (Nat.le_of_ble_eq_true rfl) (ad3 (ae4 _)) ?_
 have h:=eu8 r h1 h2
 unfold dl5
 generalize r.ms=m at *
 obtain ⟨p,d,ok⟩:=m
 simp only[ic241,go_sem,aa8,ab4,aa6]
 first|refine aa1 fok287 (h) ?_|refine aa3 (h) ?_
 have e1:((p:Int)≤24)=(p≤24):=by simp only[eq_iff_iff]; omega
 have e2:((d:Int)≤8)=(d≤8):=by simp only[eq_iff_iff]; omega
 cases ok with
 | false=>simp only[go_sem,msV]; exact ab1 _
 | true=>
  by_cases q1:p≤24
  ·have q1':(p:Int)≤24:=by omega
   by_cases q2:d≤8
   ·have q2':(d:Int)≤8:=by omega
    simp only[go_sem,msV,q1,q1',q2,q2']; exact ab1 _
   ·have q2':¬ (d:Int)≤8:=by omega
    simp only[go_sem,msV,q1,q1',q2,q2']; exact ab1 _
  ·have q1':¬ (p:Int)≤24:=by omega
   simp only[go_sem,msV,q1,q1']; exact ab1 _
end Go.Id.Tryz
