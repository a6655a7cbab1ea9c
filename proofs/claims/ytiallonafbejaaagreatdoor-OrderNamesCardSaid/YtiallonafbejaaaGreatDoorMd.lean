/- The document's data, and what functions give, in plain words. Conditions: none; no program in sight. -/
import Derived.Test.YtiallonafbejaaaGreatDoorFwZ
set_option linter.all false
namespace Go.Id.Md
open Go Go.Id
abbrev Str := List UInt8
structure EVR where
  epoch : Int
  ver : Str
  rel : Str
  deriving DecidableEq, Inhabited
structure Dep where
  name : Str
  op : Int
  evr : EVR
  deriving DecidableEq, Inhabited
inductive Rich where
  | mk (kind : Int) (dep : Dep) (args : List Rich)
  deriving Inhabited
def Rich.kind : Rich → Int | .mk k _ _ => k
def Rich.dep : Rich → Dep | .mk _ d _ => d
def Rich.args : Rich → List Rich | .mk _ _ a => a
structure Package where
  name : Str
  evr : EVR
  arch : Int
  vendor : Str
  provides : List Dep
  requires : List Rich
  conflicts : List Rich
  obsoletes : List Dep
  recommends : List Rich
  supplements : List Rich
  suggests : List Rich
  enhances : List Rich
  files : List Str
  deriving Inhabited
structure Repo where
  priority : Int
  packages : List Package
  deriving Inhabited
/-! ### Sizes, kinds -/
def EVR.fit (e : EVR) : Prop := e.ver.length < 2 ^ 62 ∧ e.rel.length < 2 ^ 62
def Dep.fit (d : Dep) : Prop := d.name.length < 2 ^ 62 ∧ d.evr.fit
mutual
def Rich.fit : Rich → Prop
  | .mk k d as => 0 ≤ k ∧ k < 256 ∧ d.fit ∧ as.length < 2 ^ 31 ∧ Rich.fits as
def Rich.fits : List Rich → Prop
  | [] => True
  | r :: rs => r.fit ∧ Rich.fits rs
end
/-! ### As ideal values -/
def EVR.cs (e : EVR) : List IV := [.int .i64 e.epoch, .str e.ver, .str e.rel]
def Dep.cs (d : Dep) : List IV := [.str d.name, .int .u8 d.op, .int .i64 d.evr.epoch, .str d.evr.ver, .str d.evr.rel]
mutual
def Rich.cs : Rich → List IV
  | .mk k d as => [.int .u8 k, .str d.name, .int .u8 d.op, .int .i64 d.evr.epoch, .str d.evr.ver, .str d.evr.rel, .tslice (Rich.css as)]
def Rich.css : List Rich → List (List IV)
  | [] => []
  | r :: rs => r.cs :: Rich.css rs
end
def strC (s : Str) : List IV := [.str s]
abbrev deps (l : List Dep) : IV := .tslice (l.map Dep.cs)
abbrev riches (l : List Rich) : IV := .tslice (l.map Rich.cs)
abbrev strs (l : List Str) : IV := .tslice (l.map strC)
def Package.cs (p : Package) : List IV :=
  [.str p.name, .int .i64 p.evr.epoch, .str p.evr.ver, .str p.evr.rel, .int .u8 p.arch, .str p.vendor, deps p.provides, riches p.requires, riches p.conflicts, deps p.obsoletes, riches p.recommends, riches p.supplements, riches p.suggests, riches p.enhances, strs p.files]
def Repo.cs (r : Repo) : List IV := [.int .i64 r.priority, .tslice (r.packages.map Package.cs)]
def Package.rows (p : Package) : List (Int × List Rich) := [(1, p.requires), (2, p.conflicts), (1, p.recommends), (3, p.supplements), (1, p.suggests), (3, p.enhances)]
/-! ### Names, versions -/
def words : List Str := [[97, 110, 100], [111, 114], [105, 102], [101, 108, 115, 101], [117, 110, 108, 101, 115, 115], [119, 105, 116, 104], [119, 105, 116, 104, 111, 117, 116]]
/-! ### How versions compare -/
def vkind (b : UInt8) : Nat := if b = 126 then 1 else if b = 94 then 3 else if decide (97 ≤ b) && decide (b ≤ 122) || decide (65 ≤ b) && decide (b ≤ 90) then 4 else if decide (48 ≤ b) && decide (b ≤ 57) then 5 else 0
structure Part where
  kind : Nat
  s : Str
  deriving DecidableEq, Inhabited
def partsF : Nat → Str → List Part
  | 0, _ => []
  | _ + 1, [] => []
  | n + 1, b :: l =>
    if vkind b = 0 then partsF n l
    else if vkind b < 4 then ⟨vkind b, []⟩ :: partsF n l
    else ⟨vkind b, if vkind b = 5 then ((b :: l).takeWhile fun c => vkind c == vkind b).dropWhile (· == 48) else (b :: l).takeWhile fun c => vkind c == vkind b⟩ :: partsF n ((b :: l).dropWhile fun c => vkind c == vkind b)
def vparts (s : Str) : List Part := partsF s.length s
def cmpI (a b : Int) : Int := if a < b then -1 else if a = b then 0 else 1
def cmpS (a b : Str) : Int := if Op.bytesLess a b then -1 else if a = b then 0 else 1
def partCmp (a b : Part) : Int :=
  let k := cmpI a.kind b.kind
  if k ≠ 0 then k else
  let n := if a.kind = 5 ∧ b.kind = 5 then cmpI a.s.length b.s.length else 0
  if n ≠ 0 then n else cmpS a.s b.s
def partsCmp : List Part → List Part → Int
  | a :: as, b :: bs => if partCmp a b ≠ 0 then partCmp a b else partsCmp as bs
  | _, _ => 0
def verCmp (a b : Str) : Int := partsCmp (vparts a ++ [⟨2, []⟩]) (vparts b ++ [⟨2, []⟩])
def evrCmp (a b : EVR) : Int :=
  if cmpI a.epoch b.epoch ≠ 0 then cmpI a.epoch b.epoch else
  if verCmp a.ver b.ver ≠ 0 then verCmp a.ver b.ver else
  if a.rel = [] ∨ b.rel = [] then 0 else verCmp a.rel b.rel
def bit (op : Int) (i : Nat) : Bool := (op.toNat).testBit i
def side (n : Int) : Nat := if n < 0 then 0 else if n = 0 then 1 else 2
def meet (a b : Dep) : Bool :=
  if a.op.toNat % 8 = 0 ∨ b.op.toNat % 8 = 0 then true else
  let n := evrCmp a.evr b.evr
  if n = 0 then bit a.op 0 && bit b.op 0 || bit a.op 1 && bit b.op 1 || bit a.op 2 && bit b.op 2
  else bit a.op (side (-n)) || bit b.op (side n)
/-! ### Rich dependencies -/
mutual
def Rich.count : Rich → Nat
  | .mk _ _ as => Rich.counts as + 1
def Rich.counts : List Rich → Nat
  | [] => 0
  | r :: rs => r.count + Rich.counts rs
end
mutual
def Rich.depth : Rich → Nat
  | .mk k _ as => if k = 1 then 0 else Rich.depths as + 1
def Rich.depths : List Rich → Nat
  | [] => 0
  | r :: rs => max r.depth (Rich.depths rs)
end
-- All parts, and whether each stands within a With, or a Without.
mutual
def Rich.parts : Rich → Bool → List (Rich × Bool)
  | .mk k d as, alone => (.mk k d as, alone) :: Rich.partss as (alone || decide (k = 6) || decide (k = 7))
def Rich.partss : List Rich → Bool → List (Rich × Bool)
  | [], _ => []
  | r :: rs, alone => r.parts alone ++ Rich.partss rs alone
end
mutual
def Rich.same : Rich → Rich → Bool
  | .mk k d as, .mk k' d' as' => decide (k = k') && decide (d = d') && Rich.sames as as'
def Rich.sames : List Rich → List Rich → Bool
  | [], [] => true
  | r :: rs, s :: ss => r.same s && Rich.sames rs ss
  | _, _ => false
end
structure Package.Fit (p : Package) : Prop where
  name : p.name.length < 2 ^ 62
  evr : p.evr.fit
  prov : p.provides.length < 2 ^ 31 ∧ ∀ d ∈ p.provides, d.fit
  obs : p.obsoletes.length < 2 ^ 31 ∧ ∀ d ∈ p.obsoletes, d.fit
  files : p.files.length < 2 ^ 31 ∧ ∀ s ∈ p.files, s.length < 2 ^ 62
  rich : ∀ x ∈ p.rows, x.2.length < 2 ^ 31 ∧ ∀ r ∈ x.2, r.fit ∧ r.count < 2 ^ 31
/-! ### Packages -/
def own (p : Package) : Dep := ⟨p.name, 2, p.evr⟩
def meets (a d : Dep) : Bool := decide (a.name = d.name) && meet a d
def named (p : Package) (d : Dep) : Bool := meets (own p) d
def provides (p : Package) (d : Dep) : Bool := named p d || p.provides.any (fun a => meets a d) || decide (d.op = 0) && p.files.contains d.name
def obsoletes (p q : Package) : Bool := p.obsoletes.any fun d => named q d
def sameL (l m : List Rich) : Bool := Rich.sames l m
end Go.Id.Md
