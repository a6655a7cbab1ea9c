/- Trees with maps,compared; trees with nil rows. Conditions: none; over any program. -/
import Derived.Test.YteomphdgniepbaaGreatDoorFwTe
set_option linter.all false
namespace Go.Id
open Go
variable {P:Program} {E:Nat→IV} {σ σ':Store}
def gf7 (f:IV→IV→Bool):List (IV×IV)→List (IV×IV)→Bool
 | [],y=>match y with
  | []=>true
  | _=>false
 | a::as,y=>match y with
  | b::bs=>f a.1 b.1&&f a.2 b.2&&gf7 f as bs
  | _=>false
theorem gf8 {f:IV→IV→Bool}(hf:∀ a b,f a b=true→a=b):∀ x y,gf7 f x y=true→x=y:=by
 intro x
 induction x with
 | nil=>intro y h; cases y with
  | nil=>rfl
  | cons b y=>cases h
 | cons a x ih=>intro y h; cases y with
  | nil=>cases h
  | cons b y=>
   obtain ⟨a1,a2⟩:=a;obtain ⟨b1,b2⟩:=b;simp only[gf7,Bool.and_eq_true] at h;rw[hf _ _ h.1.1,hf _ _ h.1.2,ih y h.2]
def dq3:Nat→IV→IV→Bool
 | 0,_,_=>false
 | n+1,a,b=>match a with
  | .ap7 x=>match b with
   | .ap7 y=>gf7 (dq3 n) x y
   | _=>false
  | .ac2 x=>match b with
   | .ac2 y=>co6 (dq3 n) x y
   | _=>false
  | .aa3 x=>match b with
   | .aa3 y=>dp5 (dq3 n) x y
   | _=>false
  | .agg x=>match b with
   | .agg y=>co6 (dq3 n) x y
   | _=>false
  | .tuple x=>match b with
   | .tuple y=>co6 (dq3 n) x y
   | _=>false
  | a=>ge8 (n+1) a b
theorem gf9:∀ (n:Nat) (a b:IV),dq3 n a b=true→a=b:=by
 intro n
 induction n with
 | zero=>intro a b h; cases h
 | succ n ih=>
  intro a b h
  cases a with
  | ap7 x=>cases b with
   | ap7 y=>rw[gf8 ih _ _ h]
   | _=>cases h
  | ac2 x=>cases b with
   | ac2 y=>rw[bd9 ih _ _ h]
   | _=>cases h
  | aa3 x=>cases b with
   | aa3 y=>rw[dp6 ih _ _ h]
   | _=>cases h
  | agg x=>cases b with
   | agg y=>rw[bd9 ih _ _ h]
   | _=>cases h
  | tuple x=>cases b with
   | tuple y=>rw[bd9 ih _ _ h]
   | _=>cases h
  | _=>exact gy7 (n+1) _ _ h
/-! ### Trees with nil rows are trees with empty rows -/
def wkL (f:IV→IV→Bool):List IV→List IV→Bool
 | [],y=>match y with
  | []=>true
  | _=>false
 | a::as,y=>match y with
  | b::bs=>f a b&&wkL f as bs
  | _=>false
theorem ba2 {f:IV→IV→Bool}:∀ x y,wkL f x y=true→y.length=x.length∧∀ i,i<x.length→f (x.getD i .undef) (y.getD i .undef)=true:=by
 intro x
 induction x with
 | nil=>intro y h; cases y with
  | nil=>exact ⟨rfl,fun i hi=>absurd hi (Nat.not_lt_zero _)⟩
  | cons b y=>cases h
 | cons a x ih=>intro y h; cases y with
  | nil=>cases h
  | cons b y=>
   simp only[wkL,Bool.and_eq_true] at h;obtain ⟨h1,h2⟩:=ih y h.2;refine ⟨by simp[h1],fun i hi=>?_⟩
   cases i with
   | zero=>exact h.1
   | succ i=>exact h2 i (by simpa using hi)
def wkR (f:IV→IV→Bool):List (List IV)→List (List IV)→Bool
 | [],y=>match y with
  | []=>true
  | _=>false
 | a::as,y=>match y with
  | b::bs=>wkL f a b&&wkR f as bs
  | _=>false
theorem gg7 {f:IV→IV→Bool}:∀ x y,wkR f x y=true→y.length=x.length∧∀ i,i<x.length→wkL f (x.getD i []) (y.getD i [])=true:=by
 intro x
 induction x with
 | nil=>intro y h; cases y with
  | nil=>exact ⟨rfl,fun i hi=>absurd hi (Nat.not_lt_zero _)⟩
  | cons b y=>cases h
 | cons a x ih=>intro y h; cases y with
  | nil=>cases h
  | cons b y=>
   simp only[wkR,Bool.and_eq_true] at h;obtain ⟨h1,h2⟩:=ih y h.2;refine ⟨by simp[h1],fun i hi=>?_⟩
   cases i with
   | zero=>exact h.1
   | succ i=>exact h2 i (by simpa using hi)
def wkB:Nat→IV→IV→Bool
 | 0,_,_=>false
 | n+1,a,b=>match a with
  | .aa1=>match b with
   | .aa3 y=>match y with
    | []=>true
    | _=>false
   | .aa1=>true
   | _=>false
  | .aa3 x=>match b with
   | .aa3 y=>wkR (wkB n) x y
   | _=>false
  | .agg x=>match b with
   | .agg y=>wkL (wkB n) x y
   | _=>false
  | .ac2 x=>match b with
   | .ac2 y=>wkL (wkB n) x y
   | _=>false
  | a=>aq2 (n+1) a&&dq3 (n+1) a b
theorem gz4:∀ (n:Nat) (a b:IV),wkB n a b=true→∀ (σ:Store) (S:Nat→Prop),Frz σ S a b:=by
 intro n
 induction n with
 | zero=>intro a b h; cases h
 | succ n ih=>
  intro a b h σ S
  have eqc:∀ a b:IV,(aq2 (n+1) a&&dq3 (n+1) a b)=true→Frz σ S a b:=fun a b h=>by
   simp only[Bool.and_eq_true] at h;rw[← gf9 _ _ _ h.2];exact .keep _ ((at5 _ _ h.1).weak fun i hi=>absurd hi (Nat.not_lt_zero _))
  cases a with
  | aa1=>cases b with
   | aa3 y=>cases y with
    | nil=>exact .ch1
    | cons _ _=>cases h
   | aa1=>exact .keep _ .aa1
   | _=>cases h
  | aa3 x=>cases b with
   | aa3 y=>
    obtain ⟨h1,h2⟩:=gg7 _ _ h
    exact .aa3 _ _ h1 (fun i hi=>(ba2 _ _ (h2 i hi)).1) fun i hi j hj=>ih _ _ ((ba2 _ _ (h2 i hi)).2 j hj) σ S
   | _=>cases h
  | agg x=>cases b with
   | agg y=>exact .agg _ _ (ba2 _ _ h).1 fun i hi=>ih _ _ ((ba2 _ _ h).2 i hi) σ S
   | _=>cases h
  | ac2 x=>cases b with
   | ac2 y=>exact .ac2 _ _ (ba2 _ _ h).1 fun i hi=>ih _ _ ((ba2 _ _ h).2 i hi) σ S
   | _=>cases h
  | _=>exact eqc _ _ h
theorem ic9 {f:Nat}{args args':List IV}{v:IV}(hw:wkL (wkB 1000) args args'=true)(h:PC P E f args' v):PC P E f args v :=
 ea1 (ba2 _ _ hw).1 (fun σ i hi=>gz4 1000 _ _ ((ba2 _ _ hw).2 i hi) σ _) h
end Go.Id
