/- Whom a package obsoletes: the function walked. Conditions: sizes that fit. -/
import Derived.Test.YtiallonafbejaaaGreatDoorTVQM
import Derived.Test.YtiallonafbejaaaGreatDoorFwTe
import Derived.Test.YtiallonafbejaaaGreatDoorTVQD
import Derived.Test.YtiallonafbejaaaGreatDoorTVTB
set_option linter.all false
namespace Go.Id
open Go Go.Id
theorem eb9 {P:Program}{E:Nat→IV}{N n0:Nat}{fr:Frm}{σ:Store}{x:IC}{Q:Exit→Frm→Store→Prop}(I:Nat→Frm→Store→Prop)(n:Nat)(h:I 0 fr σ)
  (hI:∀ i fr σ,i≤n→I i fr σ→RI P E N n0 x fr σ (upQ I i n Q)):RI P E N n0 (.loop x) fr σ Q:=by
 refine fw1 (fun m fr σ=>∃ i,i≤n∧m=n-i∧I i fr σ) n ⟨0,Nat.zero_le _,rfl,h⟩ ?_
 rintro m fr σ ⟨i,hi,rfl,hi0⟩
 refine dq4 (hI i fr σ hi hi0) ?_
 intro e f s q
 cases e with
 | normal=>exact ⟨n-(i+1),by have:=q.1; omega,i+1,q.1,rfl,q.2⟩
 | _=>exact q
end Go.Id
namespace Go.Id.Tryz
open Go Go.Id Go.Proofs Go.Shelf Go.Id.Md
set_option maxRecDepth 100000
end Go.Id.Tryz
/- Trees with maps,compared; trees with nil rows. Conditions: none; over any program. -/
namespace Go.Id
open Go
variable {P:Program} {E:Nat→IV} {σ σ':Store}
def ga8 (f:IV→IV→Bool):List (IV×IV)→List (IV×IV)→Bool
 | [],y=>match y with
  | []=>true
  | _=>false
 | a::as,y=>match y with
  | b::bs=>f a.1 b.1&&f a.2 b.2&&ga8 f as bs
  | _=>false
theorem ga9 {f:IV→IV→Bool}(hf:∀ a b,f a b=true→a=b):∀ x y,ga8 f x y=true→x=y:=by
 intro x
 induction x with
 | nil=>intro y h; cases y with
  | nil=>rfl
  | cons b y=>cases h
 | cons a x ih=>intro y h; cases y with
  | nil=>cases h
  | cons b y=>
   obtain ⟨a1,a2⟩:=a
   obtain ⟨b1,b2⟩:=b
   simp only[ga8,Bool.and_eq_true] at h
   rw[hf _ _ h.1.1,hf _ _ h.1.2,ih y h.2]
def dj8:Nat→IV→IV→Bool
 | 0,_,_=>false
 | n+1,a,b=>match a with
  | .tmap x=>match b with
   | .tmap y=>ga8 (dj8 n) x y
   | _=>false
  | .tptr x=>match b with
   | .tptr y=>ch4 (dj8 n) x y
   | _=>false
  | .tslice x=>match b with
   | .tslice y=>dh7 (dj8 n) x y
   | _=>false
  | .agg x=>match b with
   | .agg y=>ch4 (dj8 n) x y
   | _=>false
  | .tuple x=>match b with
   | .tuple y=>ch4 (dj8 n) x y
   | _=>false
  | a=>fx2 (n+1) a b
theorem gb1:∀ (n:Nat) (a b:IV),dj8 n a b=true→a=b:=by
 intro n
 induction n with
 | zero=>intro a b h; cases h
 | succ n ih=>
  intro a b h
  cases a with
  | tmap x=>cases b with
   | tmap y=>rw[ga9 ih _ _ h]
   | _=>cases h
  | tptr x=>cases b with
   | tptr y=>rw[ay2 ih _ _ h]
   | _=>cases h
  | tslice x=>cases b with
   | tslice y=>rw[dh8 ih _ _ h]
   | _=>cases h
  | agg x=>cases b with
   | agg y=>rw[ay2 ih _ _ h]
   | _=>cases h
  | tuple x=>cases b with
   | tuple y=>rw[ay2 ih _ _ h]
   | _=>cases h
  | _=>exact go2 (n+1) _ _ h
/-! ### Trees with nil rows are trees with empty rows -/
def wkL (f:IV→IV→Bool):List IV→List IV→Bool
 | [],y=>match y with
  | []=>true
  | _=>false
 | a::as,y=>match y with
  | b::bs=>f a b&&wkL f as bs
  | _=>false
theorem au5 {f:IV→IV→Bool}:∀ x y,wkL f x y=true→y.length=x.length∧∀ i,i<x.length→f (x.getD i .undef) (y.getD i .undef)=true:=by
 intro x
 induction x with
 | nil=>intro y h; cases y with
  | nil=>exact ⟨rfl,fun i hi=>absurd hi (Nat.not_lt_zero _)⟩
  | cons b y=>cases h
 | cons a x ih=>intro y h; cases y with
  | nil=>cases h
  | cons b y=>
   simp only[wkL,Bool.and_eq_true] at h
   obtain ⟨h1,h2⟩:=ih y h.2
   refine ⟨by simp[h1],fun i hi=>?_⟩
   cases i with
   | zero=>exact h.1
   | succ i=>exact h2 i (by simpa using hi)
def wkR (f:IV→IV→Bool):List (List IV)→List (List IV)→Bool
 | [],y=>match y with
  | []=>true
  | _=>false
 | a::as,y=>match y with
  | b::bs=>wkL f a b&&wkR f as bs
  | _=>false
theorem gb2 {f:IV→IV→Bool}:∀ x y,wkR f x y=true→y.length=x.length∧∀ i,i<x.length→wkL f (x.getD i []) (y.getD i [])=true:=by
 intro x
 induction x with
 | nil=>intro y h; cases y with
  | nil=>exact ⟨rfl,fun i hi=>absurd hi (Nat.not_lt_zero _)⟩
  | cons b y=>cases h
 | cons a x ih=>intro y h; cases y with
  | nil=>cases h
  | cons b y=>
   simp only[wkR,Bool.and_eq_true] at h
   obtain ⟨h1,h2⟩:=ih y h.2
   refine ⟨by simp[h1],fun i hi=>?_⟩
   cases i with
   | zero=>exact h.1
   | succ i=>exact h2 i (by simpa using hi)
def wkB:Nat→IV→IV→Bool
 | 0,_,_=>false
 | n+1,a,b=>match a with
  | .nilslice=>match b with
   | .tslice y=>match y with
    | []=>true
    | _=>false
   | .nilslice=>true
   | _=>false
  | .tslice x=>match b with
   | .tslice y=>wkR (wkB n) x y
   | _=>false
  | .agg x=>match b with
   | .agg y=>wkL (wkB n) x y
   | _=>false
  | .tptr x=>match b with
   | .tptr y=>wkL (wkB n) x y
   | _=>false
  | a=>al4 (n+1) a&&dj8 (n+1) a b
theorem gr4:∀ (n:Nat) (a b:IV),wkB n a b=true→∀ (σ:Store) (S:Nat→Prop),Frz σ S a b:=by
 intro n
 induction n with
 | zero=>intro a b h; cases h
 | succ n ih=>
  intro a b h σ S
  have eqc:∀ a b:IV,(al4 (n+1) a&&dj8 (n+1) a b)=true→Frz σ S a b:=fun a b h=>by
   simp only[Bool.and_eq_true] at h
   rw[← gb1 _ _ _ h.2]
   exact .keep _ ((ao3 _ _ h.1).weak fun i hi=>absurd hi (Nat.not_lt_zero _))
  cases a with
  | nilslice=>cases b with
   | tslice y=>cases y with
    | nil=>exact .nils
    | cons _ _=>cases h
   | nilslice=>exact .keep _ .nilslice
   | _=>cases h
  | tslice x=>cases b with
   | tslice y=>
    obtain ⟨h1,h2⟩:=gb2 _ _ h
    exact .tslice _ _ h1 (fun i hi=>(au5 _ _ (h2 i hi)).1) fun i hi j hj=>ih _ _ ((au5 _ _ (h2 i hi)).2 j hj) σ S
   | _=>cases h
  | agg x=>cases b with
   | agg y=>exact .agg _ _ (au5 _ _ h).1 fun i hi=>ih _ _ ((au5 _ _ h).2 i hi) σ S
   | _=>cases h
  | tptr x=>cases b with
   | tptr y=>exact .tptr _ _ (au5 _ _ h).1 fun i hi=>ih _ _ ((au5 _ _ h).2 i hi) σ S
   | _=>cases h
  | _=>exact eqc _ _ h
theorem hm6 {f:Nat}{args args':List IV}{v:IV}(hw:wkL (wkB 1000) args args'=true)(h:PC P E f args' v):PC P E f args v :=
 dr4 (au5 _ _ hw).1 (fun σ i hi=>gr4 1000 _ _ ((au5 _ _ hw).2 i hi) σ _) h
end Go.Id
/- MatchNames: by its run; the pools and the indexes from their contracts. Conditions: none. -/
namespace Go.Id.Tryz
open Go Go.Id Go.Proofs Go.Id.Md
set_option maxRecDepth 100000
def mP (name:Str)(prov obs:List Dep)(files:List Str):Package:={ name:=name,evr:=⟨0,[49],[49]⟩,arch:=1,vendor:=[],provides:=prov,requires:=[],conflicts:=[],obsoletes:=obs,recommends:=[],supplements:=[],suggests:=[],enhances:=[],files:=files }
def dP (name:Str)(op:Int)(ver:Str):Dep:=⟨name,op,⟨0,ver,[]⟩⟩
def cP (name:Str)(prov obs files:IV):List IV:=[.str name,.int .i64 0,.str [49],.str [49],.int .u8 1,.str [],prov,.nilslice,.nilslice,obs,.nilslice,.nilslice,.nilslice,.nilslice,files]
def mA:Package:=mP [97] [] [] []
def mB:Package:=mP [98] [dP [97] 2 [50]] [dP [97] 1 [50]] []
def mC:Package:=mP [99] [] [] [[47,102]]
def mT:Package:=mP [97] [dP [97] 2 [51],dP [97] 2 [52],dP [97] 0 []] [dP [97] 0 [],dP [98] 0 [],dP [98] 1 [57]] []
def mD:Package:=mP [98] [] [] []
def cA:List IV:=cP [97] .nilslice .nilslice .nilslice
def cB:List IV:=cP [98] (deps [dP [97] 2 [50]]) (deps [dP [97] 1 [50]]) .nilslice
def cC:List IV:=cP [99] .nilslice .nilslice (strs [[47,102]])
def cT:List IV:=cP [97] (deps [dP [97] 2 [51],dP [97] 2 [52],dP [97] 0 []]) (deps [dP [97] 0 [],dP [98] 0 [],dP [98] 1 [57]]) .nilslice
def cD:List IV:=cP [98] .nilslice .nilslice .nilslice
theorem hm7 {name:Str}{prov obs:List Dep}{files:List Str}(h1:name.length<100)(h2:prov.length<100)(h3:obs.length<100)(h4:files.length<100)(h5:(prov++obs).all (fun d=>decide (d.name.length<100)&&decide (d.evr.ver.length<100)&&decide (d.evr.rel.length<100))=true)(h6:files.all (fun s=>decide (s.length<100))=true):(mP name prov obs files).Fit:=by
 have hd:∀ d∈prov++obs,d.fit:=fun d hd=>by
  have:=List.all_eq_true.1 h5 d hd
  simp only[Bool.and_eq_true,decide_eq_true_eq] at this
  exact ⟨by omega,by show d.evr.ver.length<_; omega,by show d.evr.rel.length<_; omega⟩
 refine ⟨by show name.length<_; omega,⟨by show ([49]:Str).length<2^62; decide,by show ([49]:Str).length<2^62; decide⟩,⟨by show prov.length<_; omega,fun d h=>hd d (List.mem_append_left _ h)⟩,⟨by show obs.length<_; omega,fun d h=>hd d (List.mem_append_right _ h)⟩,⟨by show files.length<_; omega,fun s h=>by have:=List.all_eq_true.1 h6 s h; simp only[decide_eq_true_eq] at this; omega⟩,fun x hx=>?_⟩
 simp only[Package.rows,mP,List.mem_cons,List.not_mem_nil,or_false] at hx
 rcases hx with rfl|rfl|rfl|rfl|rfl|rfl<;>exact ⟨by decide,fun r h=>by cases h⟩
theorem cj3:∀ p∈[mA,mB,mC,mT,mD],p.Fit:=by
 intro p hp
 simp only[List.mem_cons,List.not_mem_nil,or_false] at hp
 rcases hp with rfl|rfl|rfl|rfl|rfl<;>exact hm7 (by decide) (by decide) (by decide) (by decide) (by decide) (by decide)
def p1M:Pool:=⟨rowsOf [mA,mB,mC] (-1) 1025,3,[([97],[0]),([98],[1]),([99],[2])]⟩
def p2M:Pool:=⟨rowsOf [mB,mC] (-1) 1025++rowsOf [mA] 0 0++rowsOf [mT,mD] 1 0,2,[([98],[0,4]),([99],[1]),([97],[2,3])]⟩
theorem im4:hh7 (az9 [] [mA,mB,mC])=.tuple [p1M.v,.int .i64 0]:=by kernel_rfl
theorem im5:hh7 (az9 [⟨0,[mA]⟩,⟨0,[mT,mD]⟩] [mB,mC])=.tuple [p2M.v,.int .i64 0]:=by kernel_rfl
def a1:List IV:=[.nilslice,.tslice [cA,cB,cC]]
def a2:List IV:=[.tslice [[.int .i64 0,.tslice [cA]],[.int .i64 0,.tslice [cT,cD]]],.tslice [cB,cC]]
theorem e1:PC Tryz.prog EE 15 a1 (.tuple [p1M.v,.int .i64 0]):=by
 rw[← im4]
 refine hm6 (args':=[am5 [],ak6 [mA,mB,mC]]) (by kernel_rfl) (bz5 [] [mA,mB,mC] (by decide) (by decide) (by decide) (fun r h=>by cases h) fun p hp=>cj3 p ?_)
 simp only[List.mem_cons,List.not_mem_nil,or_false] at hp ⊢
 rcases hp with h|h|h<;>simp[h]
theorem e2:PC Tryz.prog EE 15 a2 (.tuple [p2M.v,.int .i64 0]):=by
 rw[← im5]
 refine hm6 (args':=[am5 [⟨0,[mA]⟩,⟨0,[mT,mD]⟩],ak6 [mB,mC]]) (by kernel_rfl) (bz5 _ _ (by decide) (by decide) (by decide) (fun r hr=>?_) fun p hp=>cj3 p ?_)
 ·simp only[List.mem_cons,List.not_mem_nil,or_false] at hr
  rcases hr with rfl|rfl
  ·exact ⟨by decide,fun p hp=>cj3 p (by simp only[List.mem_cons,List.not_mem_nil,or_false] at hp ⊢; simp[hp])⟩
  ·exact ⟨by decide,fun p hp=>cj3 p (by simp only[List.mem_cons,List.not_mem_nil,or_false] at hp ⊢; rcases hp with h|h<;>simp[h])⟩
 ·simp only[List.mem_cons,List.not_mem_nil,or_false] at hp ⊢
  rcases hp with h|h<;>simp[h]
theorem ec1 {p:Pool}{l:List Package}(h:p.rows.map (·.pkg)=l)(hl:∀ x∈l,x∈[mA,mB,mC,mT,mD]):(∀ r∈p.rows,r.pkg.Fit)∧∀ r∈p.rows,r.pkg.provides.length+r.pkg.files.length+r.pkg.obsoletes.length+3≤2^15:=by
 have hm:∀ r∈p.rows,r.pkg∈[mA,mB,mC,mT,mD]:=fun r hr=>hl _ (by rw[← h]; exact List.mem_map_of_mem hr)
 refine ⟨fun r hr=>cj3 _ (hm r hr),fun r hr=>?_⟩
 have:=hm r hr
 generalize r.pkg=x at this
 simp only[List.mem_cons,List.not_mem_nil,or_false] at this
 rcases this with rfl|rfl|rfl|rfl|rfl<;>decide
theorem e3:PC Tryz.prog EE 80 [p1M.v] (.tuple [(ap9 [mA,mB,mC]).v,.int .i64 0]):=by
 obtain ⟨h1,h2⟩:=ec1 (p:=p1M) (l:=[mA,mB,mC]) rfl (fun x hx=>by simp only[List.mem_cons,List.not_mem_nil,or_false] at hx ⊢; rcases hx with h|h|h<;>simp[h])
 exact ay5 p1M h1 (by decide) h2
theorem e4:PC Tryz.prog EE 80 [p2M.v] (.tuple [(ap9 [mB,mC,mA,mT,mD]).v,.int .i64 0]):=by
 obtain ⟨h1,h2⟩:=ec1 (p:=p2M) (l:=[mB,mC,mA,mT,mD]) rfl (fun x hx=>by simp only[List.mem_cons,List.not_mem_nil,or_false] at hx ⊢; rcases hx with h|h|h|h|h<;>simp[h])
 exact ay5 p2M h1 (by decide) h2
end Go.Id.Tryz
/- MatchTurned. Conditions: sizes that fit. -/
namespace Go.Id.Tryz
open Go Go.Id Go.Proofs Go.Id.Md
set_option maxRecDepth 100000
end Go.Id.Tryz
/- Rows of numbers that a call lays: one's own,and of what length. Conditions: none; over any program. -/
namespace Go.Id
open Go Go.Id.Md
variable {P:Program} {E:Nat→IV} {σ s t:Store} {v:IV} {zs:List Int} {lo:Nat}
abbrev ck6 (n:Int):IV:=.int .i64 n
def et8 (s:Store)(lo:Nat)(v:IV)(zs:List Int):Prop :=
 (v=.nilslice∧zs=[])∨∃ id cs,lo≤id∧id<s.next∧v=.slice id 0 zs.length 1∧s.obj id=some (.row cs)∧cs.take zs.length=zs.map ck6∧zs.length≤cs.length
def ar2 (s:Store)(lo:Nat)(v:IV)(zs:List Int):Prop :=
 (v=.nilslice∧zs=[])∨∃ id,lo≤id∧id<s.next∧v=.slice id 0 zs.length 1∧s.obj id=some (.row (zs.map ck6))
theorem ar2.w (h:ar2 s lo v zs):et8 s lo v zs:=by
 rcases h with h|⟨id,h1,h2,h3,h4⟩
 ·exact .inl h
 ·exact .inr ⟨id,_,h1,h2,h3,h4,by rw[List.take_of_length_le (by simp)],by simp⟩
structure Kept (σ s:Store):Prop where
 next:σ.next≤s.next
 obj:∀ i,i<σ.next→s.obj i=σ.obj i
theorem Kept.refl (σ:Store):Kept σ σ:=⟨Nat.le_refl _,fun _ _=>rfl⟩
theorem Kept.trans (h:Kept σ s)(h2:Kept s t):Kept σ t:=⟨Nat.le_trans h.next h2.next,fun i hi=>by rw[h2.obj i (Nat.lt_of_lt_of_le hi h.next),h.obj i hi]⟩
def im6 (σ:Store)(zs:List Int)(v:IV)(s:Store):Prop:=Kept σ s∧et8 s σ.next v zs
def gr5 (σ:Store)(zs:List Int)(v:IV)(s:Store):Prop:=Kept σ s∧ar2 s σ.next v zs
theorem gr5.w (h:gr5 σ zs v s):im6 σ zs v s:=⟨h.1,h.2.w⟩
theorem du7 {cs:List IV}(h:cs.take zs.length=zs.map ck6){i:Nat}(hi:i<zs.length):cs.getD i .undef=ck6 zs[i]:=by
 have h1:(cs.take zs.length)[i]? = (zs.map ck6)[i]?:=by rw[h]
 rw[List.getElem?_take,if_pos hi,List.getElem?_map,List.getElem?_eq_getElem hi] at h1
 rw[List.getD_eq_getElem?_getD,h1]; rfl
theorem et8.frz {S:Nat→Prop}(h:et8 s lo v zs)(hS:∀ i,lo≤i→¬ S i):Frz s S v (.tslice (zs.map Md.intC)):=by
 rcases h with ⟨rfl,rfl⟩|⟨id,cs,h1,h2,rfl,h4,h5,h6⟩
 ·exact .nils
 ·refine .slice id 0 zs.length 1 cs (zs.map Md.intC) (hS id h1) (.inr h4) (by rw[List.length_map]) (by omega) (fun i hi=>?_) fun i hi j hj=>?_
  ·simp[List.getD_eq_getElem?_getD,hi,Md.intC]
  ·have hj0:j=0:=by omega
   subst hj0
   have e2:((zs.map Md.intC).getD i []).getD 0 .undef=ck6 zs[i]:=by simp[List.getD_eq_getElem?_getD,hi,Md.intC]
   rw[e2,Nat.zero_add,Nat.mul_one,Nat.add_zero,du7 h5 hi]
   exact .keep _ (.int _ _)
theorem ar2.grow (h:Grow s v 1 (zs.map Md.intC))(hlo:∀ id,v=.slice id 0 zs.length 1→lo≤id):ar2 s lo v zs:=by
 have hfl:∀ zs:List Int,(zs.map Md.intC).flatten=zs.map ck6:=fun zs=>by
  induction zs with
  | nil=>rfl
  | cons z zs ih=>simp only[List.map_cons,List.flatten_cons,ih]; rfl
 rcases h with ⟨rfl,h⟩|⟨id,rfl,ho,hid⟩
 ·exact .inl ⟨rfl,List.map_eq_nil_iff.1 h⟩
 ·rw[List.length_map] at hlo
  exact .inr ⟨id,hlo id rfl,hid,by rw[List.length_map],by rw[ho,hfl]⟩
theorem ar2.gr (h:ar2 s lo v zs):Grow s v 1 (zs.map Md.intC):=by
 have hfl:∀ zs:List Int,(zs.map Md.intC).flatten=zs.map ck6:=fun zs=>by
  induction zs with
  | nil=>rfl
  | cons z zs ih=>simp only[List.map_cons,List.flatten_cons,ih]; rfl
 rcases h with ⟨rfl,rfl⟩|⟨id,h1,h2,rfl,ho⟩
 ·exact .inl ⟨rfl,rfl⟩
 ·exact .inr ⟨id,by rw[List.length_map],by rw[ho,hfl],h2⟩
theorem gr6 {nid:Nat}(h:ar2 s lo v zs)(n:Int)(hn:zs.length<2147483648) :
  ax4 s nid 1 v (.tslice [[.int .i64 n]])=some (.slice nid 0 (zs.length+1) 1,(ah4 v s).put nid (.row ((zs++[n]).map ck6))):=by
 have hg:=ai2 (nid:=nid) (e:=[.int .i64 n]) h.gr (fun x hx=>by obtain ⟨y,_,rfl⟩:=List.mem_map.1 hx; exact ⟨rfl,rfl⟩) ⟨rfl,rfl⟩ (by rw[List.length_map]; exact hn)
 rw[hg,List.length_map]
 congr 4
 rw[List.flatten_append,List.map_append]
 congr 1
 generalize zs=l
 induction l with
 | nil=>rfl
 | cons z zs ih=>simp only[List.map_cons,List.flatten_cons,ih]; rfl
theorem fl3 (h:ar2 s lo v zs){i:Nat}(hi:i<lo):(ah4 v s).obj i=s.obj i:=by
 rcases h with ⟨rfl,_⟩|⟨id,h1,h2,rfl,ho⟩
 ·rfl
 ·show (if i=id then none else s.obj i)=s.obj i
  rw[if_neg (by omega)]
theorem Kept.up (h:Kept σ s)(n:Nat):Kept σ ⟨s.next+n,s.obj⟩:=⟨Nat.le_trans h.next (Nat.le_add_right _ _),h.obj⟩
theorem ar2.up (h:ar2 s lo v zs)(n:Nat):ar2 ⟨s.next+n,s.obj⟩ lo v zs:=by
 rcases h with h|⟨id,h1,h2,h3,h4⟩
 ·exact .inl h
 ·exact .inr ⟨id,h1,Nat.lt_of_lt_of_le h2 (Nat.le_add_right _ _),h3,h4⟩
theorem et8.up (h:et8 s lo v zs)(n:Nat):et8 ⟨s.next+n,s.obj⟩ lo v zs:=by
 rcases h with h|⟨id,cs,h1,h2,h3,h4⟩
 ·exact .inl h
 ·exact .inr ⟨id,cs,h1,Nat.lt_of_lt_of_le h2 (Nat.le_add_right _ _),h3,h4⟩
theorem ar2.kept (h:ar2 s lo v zs)(hk:Kept s t):ar2 t lo v zs:=by
 rcases h with h|⟨id,h1,h2,h3,h4⟩
 ·exact .inl h
 ·exact .inr ⟨id,h1,Nat.lt_of_lt_of_le h2 hk.next,h3,by rw[hk.obj id h2]; exact h4⟩
theorem et8.kept (h:et8 s lo v zs)(hk:Kept s t):et8 t lo v zs:=by
 rcases h with h|⟨id,cs,h1,h2,h3,h4,h5⟩
 ·exact .inl h
 ·exact .inr ⟨id,cs,h1,Nat.lt_of_lt_of_le h2 hk.next,h3,by rw[hk.obj id h2]; exact h4,h5⟩
theorem Kept.low {k:Nat}(h:Kept ⟨σ.next+k,σ.obj⟩ s):Kept σ s:=⟨Nat.le_trans (Nat.le_add_right _ k) h.next,fun i hi=>h.obj i (Nat.lt_of_lt_of_le hi (Nat.le_add_right _ k))⟩
theorem ar2.low {lo':Nat}(h:ar2 s lo v zs)(hl:lo'≤lo):ar2 s lo' v zs:=by
 rcases h with h|⟨id,h1,h2⟩
 ·exact .inl h
 ·exact .inr ⟨id,Nat.le_trans hl h1,h2⟩
theorem et8.low {lo':Nat}(h:et8 s lo v zs)(hl:lo'≤lo):et8 s lo' v zs:=by
 rcases h with h|⟨id,cs,h1,h2⟩
 ·exact .inl h
 ·exact .inr ⟨id,cs,Nat.le_trans hl h1,h2⟩
theorem Kept.box (t:Store)(A B:IObj):Kept t ⟨t.next+1,(((⟨t.next+1,t.obj⟩:Store).put t.next A).put t.next B).obj⟩:=⟨Nat.le_succ _,fun i hi=>by
 have h:¬ i=t.next:=by omega
 show (if i=t.next then _ else if i=t.next then _ else t.obj i)=_
 rw[if_neg h,if_neg h]⟩
theorem fl4:∀ zs:List Int,(zs.map Md.intC).flatten=zs.map ck6:=fun zs=>by
 induction zs with
 | nil=>rfl
 | cons z zs ih=>simp only[List.map_cons,List.flatten_cons,ih]; rfl
theorem dj9 (zs:List Int):(zs.map ck6).all IV.leaf=true:=by
 rw[List.all_map]; exact List.all_eq_true.2 fun _ _=>rfl
theorem gb3 {nid:Nat}{xs:List Int}(h:ar2 s lo v zs)(hn:zs.length+xs.length≤2147483648) :
  ∃ v' σ',ax4 s nid 1 v (.tslice (xs.map Md.intC))=some (v',σ')∧σ'.next=s.next∧(∀ i,i<lo→i≠nid→σ'.obj i=s.obj i)∧∀ τ:Store,τ.obj=σ'.obj→nid<τ.next→s.next≤τ.next→lo≤nid→ar2 τ lo v' (zs++xs):=by
 have hsrc:ba4 s 1 (.tslice (xs.map Md.intC))=some (xs.length,xs.map ck6):=by
  have h1:(xs.map Md.intC).all (fun e=>e.length==1)=true:=List.all_eq_true.2 fun x hx=>by
   obtain ⟨y,_,rfl⟩:=List.mem_map.1 hx; rfl
  simp only[ba4,h1,if_true,List.length_map,fl4]
 have hx0:¬ ((xs.map ck6).all IV.leaf=false):=by rw[dj9]; decide
 unfold ax4
 rw[hsrc]
 simp only[hx0,if_false]
 by_cases h0:xs.length=0
 ·have hxs:xs=[]:=List.length_eq_zero_iff.1 h0
  subst hxs
  rw[List.append_nil]
  rcases h with ⟨rfl,he⟩|⟨id,i1,i2,rfl,ho⟩
  ·exact ⟨.nilslice,s,rfl,rfl,fun _ _ _=>rfl,fun τ _ _ _ _=>.inl ⟨rfl,he⟩⟩
  ·simp only[ho,List.length_nil,and_self,if_true]
   exact ⟨_,_,rfl,rfl,fun _ _ _=>rfl,fun τ h1 _ h3 _=>.inr ⟨id,i1,by omega,rfl,by rw[h1]; exact ho⟩⟩
 ·rcases h with ⟨rfl,he⟩|⟨id,i1,i2,rfl,ho⟩
  ·subst he
   have hle:xs.length≤2147483648:=by simpa using hn
   simp only[h0,if_false,hle,if_true]
   refine ⟨_,_,rfl,rfl,fun i _ hi=>if_neg hi,fun τ h1 h2 _ h4=>.inr ⟨nid,h4,h2,by rw[List.nil_append],?_⟩⟩
   rw[h1,aa2,if_pos rfl,List.nil_append]
  ·have h1:0+zs.length*1=(zs.map ck6).length:=by rw[List.length_map]; omega
   simp only[ho,h0,and_false,if_false,h1,hn,List.drop_zero,dj9,and_self,if_true]
   refine ⟨_,_,rfl,rfl,fun i hi hne=>?_,fun τ h3 h4 _ h6=>.inr ⟨nid,h6,h4,by rw[List.length_append],?_⟩⟩
   ·show (if i=nid then _ else if i=id then none else s.obj i)=_
    rw[if_neg hne,if_neg (by omega)]
   ·rw[h3,aa2,if_pos rfl,List.map_append]
    try rfl
theorem ec2 {gv:IV}{esz b nid k:Nat}{es:List (List IV)}{e cs:List IV}{A B:IObj}(hg:Grow s gv esz es)(h:∀ x∈es,x.length=esz∧x.all IV.leaf=true)(he:e.length=esz∧e.all IV.leaf=true)(hn:es.length<2147483648)
  (hb:s.obj b=some (.cells cs)) (hbl:b<s.next) (hnid:s.next<nid) :
  ∃ s1,ax4 ⟨s.next+1+k,(((⟨s.next+1,s.obj⟩:Store).put s.next A).put s.next B).obj⟩ nid esz gv (.tslice [e])=some (.slice nid 0 (es.length+1) esz,s1)∧s1.next=s.next+1+k∧s1.obj b=some (.cells cs) ∧
   ∀ cs' nx,nid<nx→Grow ⟨nx,(s1.put b (.cells cs')).obj⟩ (.slice nid 0 (es.length+1) esz) esz (es++[e]):=by
 have ho:∀ i,i<s.next→(((⟨s.next+1,s.obj⟩:Store).put s.next A).put s.next B).obj i=s.obj i:=fun i hi=>by
  show (if i=s.next then _ else if i=s.next then _ else s.obj i)=_
  rw[if_neg (by omega),if_neg (by omega)]
 have hg1:Grow ⟨s.next+1+k,(((⟨s.next+1,s.obj⟩:Store).put s.next A).put s.next B).obj⟩ gv esz es:=Grow.mono (σ:=s) hg (by show s.next≤s.next+1+k; omega) fun id _ hid=>ho id hid
 have hb1:(((⟨s.next+1,s.obj⟩:Store).put s.next A).put s.next B).obj b=some (.cells cs):=by rw[ho b hbl,hb]
 refine ⟨_,ai2 hg1 h he hn,by rw[aa5,ad7],?_,fun cs' nx hnx=>?_⟩
 ·rw[aa2,if_neg (by omega)]
  exact ae7 hg1 b _ hb1 (fun _ e=>by cases e)
 ·refine Grow.new (v:=.nilslice) hnx ?_
  show (if nid=b then _ else if nid=nid then _ else _)=_
  rw[if_neg (by omega),if_pos rfl]
end Go.Id
/- Indexes asked: rows of one's own. Conditions: sizes that fit. -/
namespace Go.Id.Tryz
open Go Go.Id Go.Proofs Go.Id.Md
set_option maxRecDepth 100000
end Go.Id.Tryz
