/- Trees with maps,compared; trees with nil rows. Conditions: none; over any program. -/
import Derived.Test.YtiallonafbejaaaGreatDoorFwTe
set_option linter.all false
namespace Go.Id
open Go
variable {P:Program} {E:Nat→IV} {σ σ':Store}
def fw5 (f:IV→IV→Bool):List (IV×IV)→List (IV×IV)→Bool
 | [],y=>match y with
  | []=>true
  | _=>false
 | a::as,y=>match y with
  | b::bs=>f a.1 b.1&&f a.2 b.2&&fw5 f as bs
  | _=>false
theorem fw6 {f:IV→IV→Bool}(hf:∀ a b,f a b=true→a=b):∀ x y,fw5 f x y=true→x=y:=by
 intro x
 induction x with
 | nil=>intro y h; cases y with
  | nil=>rfl
  | cons b y=>cases h
 | cons a x ih=>intro y h; cases y with
  | nil=>cases h
  | cons b y=>
   obtain ⟨a1,a2⟩:=a
   obtain ⟨b1,b2⟩:=b
   simp only[fw5,Bool.and_eq_true] at h
   rw[hf _ _ h.1.1,hf _ _ h.1.2,ih y h.2]
def dh6:Nat→IV→IV→Bool
 | 0,_,_=>false
 | n+1,a,b=>match a with
  | .tmap x=>match b with
   | .tmap y=>fw5 (dh6 n) x y
   | _=>false
  | .tptr x=>match b with
   | .tptr y=>cg8 (dh6 n) x y
   | _=>false
  | .tslice x=>match b with
   | .tslice y=>dh2 (dh6 n) x y
   | _=>false
  | .agg x=>match b with
   | .agg y=>cg8 (dh6 n) x y
   | _=>false
  | .tuple x=>match b with
   | .tuple y=>cg8 (dh6 n) x y
   | _=>false
  | a=>fw2 (n+1) a b
theorem fw7:∀ (n:Nat) (a b:IV),dh6 n a b=true→a=b:=by
 intro n
 induction n with
 | zero=>intro a b h; cases h
 | succ n ih=>
  intro a b h
  cases a with
  | tmap x=>cases b with
   | tmap y=>rw[fw6 ih _ _ h]
   | _=>cases h
  | tptr x=>cases b with
   | tptr y=>rw[ay1 ih _ _ h]
   | _=>cases h
  | tslice x=>cases b with
   | tslice y=>rw[dh3 ih _ _ h]
   | _=>cases h
  | agg x=>cases b with
   | agg y=>rw[ay1 ih _ _ h]
   | _=>cases h
  | tuple x=>cases b with
   | tuple y=>rw[ay1 ih _ _ h]
   | _=>cases h
  | _=>exact gn9 (n+1) _ _ h
/-! ### Trees with nil rows are trees with empty rows -/
def wkL (f:IV→IV→Bool):List IV→List IV→Bool
 | [],y=>match y with
  | []=>true
  | _=>false
 | a::as,y=>match y with
  | b::bs=>f a b&&wkL f as bs
  | _=>false
theorem at6 {f:IV→IV→Bool}:∀ x y,wkL f x y=true→y.length=x.length∧∀ i,i<x.length→f (x.getD i .undef) (y.getD i .undef)=true:=by
 intro x
 induction x with
 | nil=>intro y h; cases y with
  | nil=>exact ⟨rfl,fun i hi=>absurd hi (Nat.not_lt_zero _)⟩
  | cons b y=>cases h
 | cons a x ih=>intro y h; cases y with
  | nil=>cases h
  | cons b y=>
   simp only[wkL,Bool.and_eq_true] at h
   obtain ⟨h1,h2⟩:=ih y h.2
   refine ⟨by simp[h1],fun i hi=>?_⟩
   cases i with
   | zero=>exact h.1
   | succ i=>exact h2 i (by simpa using hi)
def wkR (f:IV→IV→Bool):List (List IV)→List (List IV)→Bool
 | [],y=>match y with
  | []=>true
  | _=>false
 | a::as,y=>match y with
  | b::bs=>wkL f a b&&wkR f as bs
  | _=>false
theorem fw8 {f:IV→IV→Bool}:∀ x y,wkR f x y=true→y.length=x.length∧∀ i,i<x.length→wkL f (x.getD i []) (y.getD i [])=true:=by
 intro x
 induction x with
 | nil=>intro y h; cases y with
  | nil=>exact ⟨rfl,fun i hi=>absurd hi (Nat.not_lt_zero _)⟩
  | cons b y=>cases h
 | cons a x ih=>intro y h; cases y with
  | nil=>cases h
  | cons b y=>
   simp only[wkR,Bool.and_eq_true] at h
   obtain ⟨h1,h2⟩:=ih y h.2
   refine ⟨by simp[h1],fun i hi=>?_⟩
   cases i with
   | zero=>exact h.1
   | succ i=>exact h2 i (by simpa using hi)
def wkB:Nat→IV→IV→Bool
 | 0,_,_=>false
 | n+1,a,b=>match a with
  | .nilslice=>match b with
   | .tslice y=>match y with
    | []=>true
    | _=>false
   | .nilslice=>true
   | _=>false
  | .tslice x=>match b with
   | .tslice y=>wkR (wkB n) x y
   | _=>false
  | .agg x=>match b with
   | .agg y=>wkL (wkB n) x y
   | _=>false
  | .tptr x=>match b with
   | .tptr y=>wkL (wkB n) x y
   | _=>false
  | a=>al4 (n+1) a&&dh6 (n+1) a b
theorem go5:∀ (n:Nat) (a b:IV),wkB n a b=true→∀ (σ:Store) (S:Nat→Prop),Frz σ S a b:=by
 intro n
 induction n with
 | zero=>intro a b h; cases h
 | succ n ih=>
  intro a b h σ S
  have eqc:∀ a b:IV,(al4 (n+1) a&&dh6 (n+1) a b)=true→Frz σ S a b:=fun a b h=>by
   simp only[Bool.and_eq_true] at h
   rw[← fw7 _ _ _ h.2]
   exact .keep _ ((ao3 _ _ h.1).weak fun i hi=>absurd hi (Nat.not_lt_zero _))
  cases a with
  | nilslice=>cases b with
   | tslice y=>cases y with
    | nil=>exact .nils
    | cons _ _=>cases h
   | nilslice=>exact .keep _ .nilslice
   | _=>cases h
  | tslice x=>cases b with
   | tslice y=>
    obtain ⟨h1,h2⟩:=fw8 _ _ h
    exact .tslice _ _ h1 (fun i hi=>(at6 _ _ (h2 i hi)).1) fun i hi j hj=>ih _ _ ((at6 _ _ (h2 i hi)).2 j hj) σ S
   | _=>cases h
  | agg x=>cases b with
   | agg y=>exact .agg _ _ (at6 _ _ h).1 fun i hi=>ih _ _ ((at6 _ _ h).2 i hi) σ S
   | _=>cases h
  | tptr x=>cases b with
   | tptr y=>exact .tptr _ _ (at6 _ _ h).1 fun i hi=>ih _ _ ((at6 _ _ h).2 i hi) σ S
   | _=>cases h
  | _=>exact eqc _ _ h
theorem hf7 {f:Nat}{args args':List IV}{v:IV}(hw:wkL (wkB 1000) args args'=true)(h:PC P E f args' v):PC P E f args v :=
 dr3 (at6 _ _ hw).1 (fun σ i hi=>go5 1000 _ _ ((at6 _ _ hw).2 i hi) σ _) h
end Go.Id
