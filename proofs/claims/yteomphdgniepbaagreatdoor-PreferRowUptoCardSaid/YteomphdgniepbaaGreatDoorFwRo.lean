/- Rows of numbers that a call lays: one's own,and of what length. Conditions: none; over any program. -/
import Derived.Test.YteomphdgniepbaaGreatDoorFwWk
import Derived.Test.YteomphdgniepbaaGreatDoorMw
set_option linter.all false
namespace Go.Id
open Go Go.Id.Md
variable {P:Program} {E:Nat→IV} {σ s t:Store} {v:IV} {zs:List Int} {lo:Nat}
abbrev ct8 (n:Int):IV:=.int .i64 n
def gf4 (s:Store)(lo:Nat)(v:IV)(zs:List Int):Prop :=
 (v=.aa1∧zs=[])∨∃ id cs,lo≤id∧id<s.next∧v=.slice id 0 zs.length 1∧s.obj id=some (.row cs)∧cs.take zs.length=zs.map ct8∧zs.length≤cs.length
def aw8 (s:Store)(lo:Nat)(v:IV)(zs:List Int):Prop :=
 (v=.aa1∧zs=[])∨∃ id,lo≤id∧id<s.next∧v=.slice id 0 zs.length 1∧s.obj id=some (.row (zs.map ct8))
theorem aw8.w (h:aw8 s lo v zs):gf4 s lo v zs:=by
 rcases h with h|⟨id,h1,h2,h3,h4⟩
 ·exact .inl h
 ·exact .inr ⟨id,_,h1,h2,h3,h4,by rw[List.take_of_length_le (by simp)],by simp⟩
structure Kept (σ s:Store):Prop where
 next:σ.next≤s.next
 obj:∀ i,i<σ.next→s.obj i=σ.obj i
theorem Kept.refl (σ:Store):Kept σ σ:=⟨Nat.le_refl _,fun _ _=>rfl⟩
def iv2 (σ:Store)(zs:List Int)(v:IV)(s:Store):Prop:=Kept σ s∧gf4 s σ.next v zs
def gf5 (σ:Store)(zs:List Int)(v:IV)(s:Store):Prop:=Kept σ s∧aw8 s σ.next v zs
theorem gf5.w (h:gf5 σ zs v s):iv2 σ zs v s:=⟨h.1,h.2.w⟩
theorem dz9 {cs:List IV}(h:cs.take zs.length=zs.map ct8){i:Nat}(hi:i<zs.length):cs.getD i .undef=ct8 zs[i]:=by
 have h1:(cs.take zs.length)[i]? = (zs.map ct8)[i]?:=by rw[h]
 rw[List.getElem?_take,if_pos hi,List.getElem?_map,List.getElem?_eq_getElem hi] at h1;rw[List.getD_eq_getElem?_getD,h1]; rfl
theorem gf4.frz {S:Nat→Prop}(h:gf4 s lo v zs)(hS:∀ i,lo≤i→¬ S i):Frz s S v (.aa3 (zs.map Md.ag3)):=by
 rcases h with ⟨rfl,rfl⟩|⟨id,cs,h1,h2,rfl,h4,h5,h6⟩
 ·exact .ch1
 ·refine .slice id 0 zs.length 1 cs (zs.map Md.ag3) (hS id h1) (.inr h4) (by rw[List.length_map]) (by omega) (fun i hi=>?_) fun i hi j hj=>?_
  ·simp[List.getD_eq_getElem?_getD,hi,Md.ag3]
  ·have hj0:j=0:=by omega
   subst hj0;have e2:((zs.map Md.ag3).getD i []).getD 0 .undef=ct8 zs[i]:=by simp[List.getD_eq_getElem?_getD,hi,Md.ag3]
   rw[e2,Nat.zero_add,Nat.mul_one,Nat.add_zero,dz9 h5 hi];exact .keep _ (.int _ _)
theorem aw8.gr (h:aw8 s lo v zs):Grow s v 1 (zs.map Md.ag3):=by
 have hfl:∀ zs:List Int,(zs.map Md.ag3).flatten=zs.map ct8:=fun zs=>by
  induction zs with
  | nil=>rfl
  | cons z zs ih=>simp only[List.map_cons,List.flatten_cons,ih]; rfl
 rcases h with ⟨rfl,rfl⟩|⟨id,h1,h2,rfl,ho⟩
 ·exact .inl ⟨rfl,rfl⟩
 ·exact .inr ⟨id,by rw[List.length_map],by rw[ho,hfl],h2⟩
theorem gz2 {nid:Nat}(h:aw8 s lo v zs)(n:Int)(hn:zs.length<2147483648) :
  bd4 s nid 1 v (.aa3 [[.int .i64 n]])=some (.slice nid 0 (zs.length+1) 1,(ak3 v s).put nid (.row ((zs++[n]).map ct8))):=by
 have hg:=am7 (nid:=nid) (e:=[.int .i64 n]) h.gr (fun x hx=>by obtain ⟨y,_,rfl⟩:=List.mem_map.1 hx; exact ⟨rfl,rfl⟩) ⟨rfl,rfl⟩ (by rw[List.length_map]; exact hn);rw[hg,List.length_map];congr 4;rw[List.flatten_append,List.map_append];congr 1;generalize zs=l
 induction l with
 | nil=>rfl
 | cons z zs ih=>simp only[List.map_cons,List.flatten_cons,ih]; rfl
theorem fo8 (h:aw8 s lo v zs){i:Nat}(hi:i<lo):(ak3 v s).obj i=s.obj i:=by
 rcases h with ⟨rfl,_⟩|⟨id,h1,h2,rfl,ho⟩
 ·rfl
 ·show (if i=id then none else s.obj i)=s.obj i;rw[if_neg (by omega)]
theorem aw8.up (h:aw8 s lo v zs)(n:Nat):aw8 ⟨s.next+n,s.obj⟩ lo v zs:=by
 rcases h with h|⟨id,h1,h2,h3,h4⟩
 ·exact .inl h
 ·exact .inr ⟨id,h1,Nat.lt_of_lt_of_le h2 (Nat.le_add_right _ _),h3,h4⟩
theorem aw8.kept (h:aw8 s lo v zs)(hk:Kept s t):aw8 t lo v zs:=by
 rcases h with h|⟨id,h1,h2,h3,h4⟩
 ·exact .inl h
 ·exact .inr ⟨id,h1,Nat.lt_of_lt_of_le h2 hk.next,h3,by rw[hk.obj id h2]; exact h4⟩
theorem gf4.low {lo':Nat}(h:gf4 s lo v zs)(hl:lo'≤lo):gf4 s lo' v zs:=by
 rcases h with h|⟨id,cs,h1,h2⟩
 ·exact .inl h
 ·exact .inr ⟨id,cs,Nat.le_trans hl h1,h2⟩
theorem fo9:∀ zs:List Int,(zs.map Md.ag3).flatten=zs.map ct8:=fun zs=>by
 induction zs with
 | nil=>rfl
 | cons z zs ih=>simp only[List.map_cons,List.flatten_cons,ih]; rfl
theorem dq2 (zs:List Int):(zs.map ct8).all IV.leaf=true:=by
 rw[List.all_map]; exact List.all_eq_true.2 fun _ _=>rfl
theorem ei6 {nid:Nat}{xs:List Int}(h:aw8 s lo v zs)(hn:zs.length+xs.length≤2147483648) :
  ∃ v' σ',bd4 s nid 1 v (.aa3 (xs.map Md.ag3))=some (v',σ')∧σ'.next=s.next∧(∀ i,i<lo→i≠nid→σ'.obj i=s.obj i)∧∀ τ:Store,τ.obj=σ'.obj→nid<τ.next→s.next≤τ.next→lo≤nid→aw8 τ lo v' (zs++xs):=by
 have hsrc:bg6 s 1 (.aa3 (xs.map Md.ag3))=some (xs.length,xs.map ct8):=by
  have h1:(xs.map Md.ag3).all (fun e=>e.length==1)=true:=List.all_eq_true.2 fun x hx=>by
   obtain ⟨y,_,rfl⟩:=List.mem_map.1 hx; rfl
  simp only[bg6,h1,if_true,List.length_map,fo9]
 have hx0:¬ ((xs.map ct8).all IV.leaf=false):=by rw[dq2]; decide
 unfold bd4;rw[hsrc];simp only[hx0,if_false];by_cases h0:xs.length=0
 ·have hxs:xs=[]:=List.length_eq_zero_iff.1 h0;subst hxs;rw[List.append_nil];rcases h with ⟨rfl,he⟩|⟨id,i1,i2,rfl,ho⟩
  ·exact ⟨.aa1,s,rfl,rfl,fun _ _ _=>rfl,fun τ _ _ _ _=>.inl ⟨rfl,he⟩⟩
  ·simp only[ho,List.length_nil,and_self,if_true];exact ⟨_,_,rfl,rfl,fun _ _ _=>rfl,fun τ h1 _ h3 _=>.inr ⟨id,i1,by omega,rfl,by rw[h1]; exact ho⟩⟩
 ·rcases h with ⟨rfl,he⟩|⟨id,i1,i2,rfl,ho⟩
  ·subst he;have hle:xs.length≤2147483648:=by simpa using hn
   simp only[h0,if_false,hle,if_true];refine ⟨_,_,rfl,rfl,fun i _ hi=>if_neg hi,fun τ h1 h2 _ h4=>.inr ⟨nid,h4,h2,by rw[List.nil_append],?_⟩⟩;rw[h1,aa4,if_pos rfl,List.nil_append]
  ·have h1:0+zs.length*1=(zs.map ct8).length:=by rw[List.length_map]; omega
   simp only[ho,h0,and_false,if_false,h1,hn,List.drop_zero,dq2,and_self,if_true];refine ⟨_,_,rfl,rfl,fun i hi hne=>?_,fun τ h3 h4 _ h6=>.inr ⟨nid,h6,h4,by rw[List.length_append],?_⟩⟩
   ·show (if i=nid then _ else if i=id then none else s.obj i)=_;rw[if_neg hne,if_neg (by omega)]
   ·rw[h3,aa4,if_pos rfl,List.map_append]
    try rfl
theorem ei7 {gv:IV}{esz b nid k:Nat}{es:List (List IV)}{e cs:List IV}{A B:aj2}(hg:Grow s gv esz es)(h:∀ x∈es,x.length=esz∧x.all IV.leaf=true)(he:e.length=esz∧e.all IV.leaf=true)(hn:es.length<2147483648)
  (hb:s.obj b=some (.cells cs)) (hbl:b<s.next) (hnid:s.next<nid) :
  ∃ s1,bd4 ⟨s.next+1+k,(((⟨s.next+1,s.obj⟩:Store).put s.next A).put s.next B).obj⟩ nid esz gv (.aa3 [e])=some (.slice nid 0 (es.length+1) esz,s1)∧s1.next=s.next+1+k∧s1.obj b=some (.cells cs) ∧
   ∀ cs' nx,nid<nx→Grow ⟨nx,(s1.put b (.cells cs')).obj⟩ (.slice nid 0 (es.length+1) esz) esz (es++[e]):=by
 have ho:∀ i,i<s.next→(((⟨s.next+1,s.obj⟩:Store).put s.next A).put s.next B).obj i=s.obj i:=fun i hi=>by
  show (if i=s.next then _ else if i=s.next then _ else s.obj i)=_;rw[if_neg (by omega),if_neg (by omega)]
 have hg1:Grow ⟨s.next+1+k,(((⟨s.next+1,s.obj⟩:Store).put s.next A).put s.next B).obj⟩ gv esz es:=Grow.mono (σ:=s) hg (by show s.next≤s.next+1+k; omega) fun id _ hid=>ho id hid
 have hb1:(((⟨s.next+1,s.obj⟩:Store).put s.next A).put s.next B).obj b=some (.cells cs):=by rw[ho b hbl,hb]
 refine ⟨_,am7 hg1 h he hn,by rw[ab1,ah2],?_,fun cs' nx hnx=>?_⟩
 ·rw[aa4,if_neg (by omega)];exact ah3 hg1 b _ hb1 (fun _ e=>by cases e)
 ·refine Grow.new (v:=.aa1) hnx ?_;show (if nid=b then _ else if nid=nid then _ else _)=_;rw[if_neg (by omega),if_pos rfl]
end Go.Id
