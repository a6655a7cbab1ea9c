/- The interpreter,turned so that the kernel runs it in fewer steps; it is the same function. Conditions: none; over any program. -/
import Derived.Test.YtiallonafbejaaaDoorFwW
set_option linter.all false
namespace Go.Id
open Go
noncomputable section
variable {E : Nat→IV} {fr : Frm}
def frcN {α : Type} (n : Nat) (k : Nat→α) : α:=Nat.casesOn (motive:=fun _ => α) n (k 0) (fun m => k (Nat.succ m))
theorem frcN_eq {α : Type} (n : Nat) (k : Nat→α) : frcN n k=k n:=by cases n <;> rfl
def frcB {α : Type} (b : Bool) (k : Bool→α) : α:=Bool.casesOn (motive:=fun _ => α) b (k false) (k true)
theorem frcB_eq {α : Type} (b : Bool) (k : Bool→α) : frcB b k=k b:=by cases b <;> rfl
def frcI {α : Type} (n : Int) (k : Int→α) : α:=Int.casesOn (motive:=fun _ => α) n (fun m => frcN m fun m => k (.ofNat m)) (fun m => frcN m fun m => k (.negSucc m))
theorem frcI_eq {α : Type} (n : Int) (k : Int→α) : frcI n k=k n:=by cases n <;> simp only [frcI,frcN_eq]
def rBool {α : Type} (b : Bool) (k : IV→α) : α:=frcB b fun b => k (.bool b)
def rInt {α : Type} (kd : IntKind) (n : Int) (k : IV→α) : α:=frcI n fun n => k (.int kd n)
def rPtr {α : Type} (i o : Nat) (k : IV→α) : α:=frcN i fun i => frcN o fun o => k (.ptr i o)
def rSl {α : Type} (i o l e : Nat) (k : IV→α) : α:=frcN i fun i => frcN o fun o => frcN l fun l => frcN e fun e => k (.slice i o l e)
def rMap {α : Type} (i : Nat) (k : IV→α) : α:=frcN i fun i => k (.map i)
def rYield {α : Type} (i : Nat) (k : IV→α) : α:=frcN i fun i => k (.yield i)
def rUndef {α : Type} (k : IV→α) : α:=k .undef
def rNilp {α : Type} (k : IV→α) : α:=k .nilptr
def rNils {α : Type} (k : IV→α) : α:=k .nilslice
def rZsl {α : Type} (k : IV→α) : α:=k .zslice
def rEsl {α : Type} (k : IV→α) : α:=k .eslice
def rNilm {α : Type} (k : IV→α) : α:=k .nilmap
def rNilf {α : Type} (k : IV→α) : α:=k .nilfunc
def rNili {α : Type} (k : IV→α) : α:=k .niliface
def rStr {α : Type} (x : List UInt8) (k : IV→α) : α:=k (.str x)
def rTptr {α : Type} (x : List IV) (_ : Unit) (k : IV→α) : α:=k (.tptr x)
def rTsl {α : Type} (x : List (List IV)) (_ : Unit) (k : IV→α) : α:=k (.tslice x)
def rTmap {α : Type} (x : List (IV × IV)) (_ : Unit) (k : IV→α) : α:=k (.tmap x)
def rFunc {α : Type} (f : Fn) (x y : List IV) (_ _ : Unit) (k : IV→α) : α:=k (.func f x y)
def rIf {α : Type} (t : Nat) (x : IV) (_ : (IV→α)→α) (k : IV→α) : α:=k (.iface t x)
def rAgg {α : Type} (x : List IV) (_ : Unit) (k : IV→α) : α:=k (.agg x)
def rTup {α : Type} (x : List IV) (_ : Unit) (k : IV→α) : α:=k (.tuple x)
def rCsl {α : Type} (i o l e : Nat) (k : IV→α) : α:=frcN i fun i => frcN o fun o => frcN l fun l => frcN e fun e => k (.cslice i o l e)
def rRsl {α : Type} (i o l r e : Nat) (k : IV→α) : α:=frcN i fun i => frcN o fun o => frcN l fun l => frcN r fun r => frcN e fun e => k (.rslice i o l r e)
def frcV {α : Type} (v : IV) : (IV→α)→α :=
 IV.rec (motive_1:=fun _ => (IV→α)→α) (motive_2:=fun _ => Unit) (motive_3:=fun _ => Unit) (motive_4:=fun _ => Unit) (motive_5:=fun _ => Unit)
  rUndef rBool rInt rStr rNilp rPtr rTptr rNils rZsl rEsl rSl rTsl rNilm rMap rTmap rFunc rYield rNilf rIf rNili rAgg rTup rCsl rRsl
  () (fun _ _ _ _ => ()) () (fun _ _ _ _ => ()) () (fun _ _ _ _ => ()) (fun _ _ _ _ => ()) v
theorem frcV_eq {α : Type} (v : IV) (k : IV→α) : frcV v k=k v:=by
 cases v <;> simp only [frcV,rUndef,rBool,rInt,rPtr,rSl,rMap,rYield,rNilp,rNils,rZsl,rEsl,rNilm,rNilf,rNili,rStr,rTptr,rTsl,rTmap,rFunc,rIf,rAgg,rTup,rCsl,rRsl,frcN_eq,frcB_eq,frcI_eq]
def getK (fr : Frm) (t : Nat) : IV:=List.rec (motive:=fun _ => IV) .undef (fun e _ ih => Bool.rec (motive:=fun _ => IV) ih e.2 (Nat.beq t e.1)) fr
theorem getK_eq (fr : Frm) (t : Nat) : getK fr t=fr.get t:=by
 induction fr with
 | nil => rfl
 | cons e r ih =>
  obtain ⟨k,v⟩:=e
  show Bool.rec (motive:=fun _ => IV) (getK r t) v (Nat.beq t k)=_
  rw [ih,Frm.get_cons]
  by_cases h : t=k
  ·subst h; simp
  ·have : Nat.beq t k=false:=by rw [← Bool.not_eq_true,Nat.beq_eq]; exact h
   rw [this,if_neg h]
def eT (n : Nat) (_ : Nat→IV) (fr : Frm) : IV:=getK fr n
def eC (v : IV) (_ : Nat→IV) (_ : Frm) : IV:=v
def eG (g : Nat) (E : Nat→IV) (_ : Frm) : IV:=E g
def eF (f : Nat) (_ : Nat→IV) (_ : Frm) : IV:=.func (.func f) [] []
def evD (x : IX) : (Nat→IV)→Frm→IV:=IX.rec (motive:=fun _ => (Nat→IV)→Frm→IV) eT eC eG eF x
def evK (E : Nat→IV) (fr : Frm) (x : IX) : IV:=evD x E fr
theorem evK_eq (E : Nat→IV) (fr : Frm) (x : IX) : evK E fr x=x.ev E fr:=by
 cases x with
 | t n => exact getK_eq fr n
 | _ => rfl
theorem evK_fun (E : Nat→IV) (fr : Frm) : (fun x => evK E fr x)=(fun x : IX => x.ev E fr):=funext fun x => evK_eq E fr x
def q_mov (x : IX) (E : Nat→IV) (fr : Frm) (σ : Store) : Option IV:=some (evK E fr x)
def q_pick (c a b : IX) (E : Nat→IV) (fr : Frm) (σ : Store) : Option IV:=pickI (evK E fr c) (evK E fr a) (evK E fr b)
def q_not (x : IX) (E : Nat→IV) (fr : Frm) (σ : Store) : Option IV:=notI (evK E fr x)
def q_neg (x : IX) (E : Nat→IV) (fr : Frm) (σ : Store) : Option IV:=negI (evK E fr x)
def q_bin (op : BinOp) (x y : IX) (E : Nat→IV) (fr : Frm) (σ : Store) : Option IV:=binV op (evK E fr x) (evK E fr y)
def q_isnil (d : TypeDesc) (neg : Bool) (x : IX) (E : Nat→IV) (fr : Frm) (σ : Store) : Option IV:=(nilI d (evK E fr x)).map fun b => .bool (b ^^ neg)
def q_eqs (tags : List Nat) (agg neg : Bool) (x y : IX) (E : Nat→IV) (fr : Frm) (σ : Store) : Option IV:=eqvI tags agg neg (evK E fr x) (evK E fr y)
def q_conv (k : IntKind) (x : IX) (E : Nat→IV) (fr : Frm) (σ : Store) : Option IV:=convI k (evK E fr x)
def q_strId (x : IX) (E : Nat→IV) (fr : Frm) (σ : Store) : Option IV:=strIdI (evK E fr x)
def q_len (kind : Nat) (x : IX) (E : Nat→IV) (fr : Frm) (σ : Store) : Option IV:=lenK kind σ (evK E fr x)
def q_faddr (off : Nat) (x : IX) (E : Nat→IV) (fr : Frm) (σ : Store) : Option IV:=moveI off (evK E fr x)
def q_fld (agg : Option Nat) (off : Nat) (x : IX) (E : Nat→IV) (fr : Frm) (σ : Store) : Option IV:=fldI agg off (evK E fr x)
def q_iaddr (esz : Nat) (x i : IX) (E : Nat→IV) (fr : Frm) (σ : Store) : Option IV:=iaddrI esz (evK E fr x) (evK E fr i)
def q_aaddr (n esz : Nat) (x i : IX) (E : Nat→IV) (fr : Frm) (σ : Store) : Option IV:=aaddrI n esz (evK E fr x) (evK E fr i)
def q_idx (agg : Option Nat) (n esz : Nat) (x i : IX) (E : Nat→IV) (fr : Frm) (σ : Store) : Option IV:=idxI agg n esz (evK E fr x) (evK E fr i)
def q_istr (x i : IX) (E : Nat→IV) (fr : Frm) (σ : Store) : Option IV:=istrI (evK E fr x) (evK E fr i)
def q_slc (esz : Nat) (x : IX) (lo hi : Option IX) (E : Nat→IV) (fr : Frm) (σ : Store) : Option IV:=slcI esz (lo.map (evK E fr)) (hi.map (evK E fr)) (evK E fr x)
def q_sstr (x : IX) (lo hi : Option IX) (E : Nat→IV) (fr : Frm) (σ : Store) : Option IV:=sstrI (lo.map (evK E fr)) (hi.map (evK E fr)) (evK E fr x)
def q_slz (x : IX) (E : Nat→IV) (fr : Frm) (σ : Store) : Option IV:=slzI (evK E fr x)
def q_ext (i : Nat) (x : IX) (E : Nat→IV) (fr : Frm) (σ : Store) : Option IV:=extI i (evK E fr x)
def q_mkf (fn : Nat) (first cap : List IX) (E : Nat→IV) (fr : Frm) (σ : Store) : Option IV:=some (.func (.func fn) (first.map (evK E fr)) (cap.map (evK E fr)))
def q_bld (zero : List IV) (parts : List (Nat × Nat × IX)) (E : Nat→IV) (fr : Frm) (σ : Store) : Option IV:=(fillI zero (parts.map fun p => (p.1,p.2.1,evK E fr p.2.2))).map .agg
def q_load (agg : Option Nat) (x : IX) (E : Nat→IV) (fr : Frm) (σ : Store) : Option IV:=loadI σ agg (evK E fr x)
def q_nchk (x : IX) (E : Nat→IV) (fr : Frm) (σ : Store) : Option IV:=nchkI (evK E fr x)
def q_mm (mx : Bool) (x y : IX) (E : Nat→IV) (fr : Frm) (σ : Store) : Option IV:=mmI mx (evK E fr x) (evK E fr y)
def q_lkp (tag : Nat) (zero : IV) (ok : Bool) (x k : IX) (E : Nat→IV) (fr : Frm) (σ : Store) : Option IV:=lkpI σ tag zero ok (evK E fr x) (evK E fr k)
def q_ibs (x c : IX) (E : Nat→IV) (fr : Frm) (σ : Store) : Option IV:=ibsI (evK E fr x) (evK E fr c)
def q_ldt (agg : Option Nat) (x : IX) (E : Nat→IV) (fr : Frm) (σ : Store) : Option IV:=ldtI agg (evK E fr x)
def q_clp (esz : Nat) (x lo hi mx : IX) (E : Nat→IV) (fr : Frm) (σ : Store) : Option IV:=clpI esz (evK E fr x) (evK E fr lo) (evK E fr hi) (evK E fr mx)
def evqD (q0 : IQ) : (Nat→IV)→Frm→Store→Option IV :=
 IQ.rec (motive:=fun _ => (Nat→IV)→Frm→Store→Option IV) q_mov q_pick q_not q_neg q_bin q_isnil q_eqs q_conv q_strId q_len q_faddr q_fld q_iaddr q_aaddr q_idx q_istr q_slc q_sstr q_slz q_ext q_mkf q_bld q_load q_nchk q_mm q_lkp q_ibs q_ldt q_clp q0
def evqK (E : Nat→IV) (fr : Frm) (σ : Store) (q0 : IQ) : Option IV:=evqD q0 E fr σ
theorem evqK_eq (fr : Frm) (σ : Store) (q : IQ) : evqK E fr σ q=evq E fr σ q:=by
 cases q <;> simp only [evqK,evqD,q_mov,q_pick,q_not,q_neg,q_bin,q_isnil,q_eqs,q_conv,q_strId,q_len,q_faddr,q_fld,q_iaddr,q_aaddr,q_idx,q_istr,q_slc,q_sstr,q_slz,q_ext,q_mkf,q_bld,q_load,q_nchk,q_mm,q_lkp,q_ibs,q_ldt,q_clp,evq,evK_eq,show evK E fr=(fun x : IX => x.ev E fr) from evK_fun E fr]
def fQ (E : Nat→IV) (fr : Frm) (xs : XSt) (q : IQ) : Option (IV × XSt):=match evqK E fr xs.st q with
  | some v => some (v,xs)
  | none => none
def fBox (E : Nat→IV) (fr : Frm) (id : Nat) (xs : XSt) (x : IX) : Option (IV × XSt):=if (evK E fr x).cs.all IV.leaf=true then putX xs id (.cells (evK E fr x).cs) (.ptr id 0) else none
def fBsl (E : Nat→IV) (fr : Frm) (id : Nat) (xs : XSt) (esz n : Nat) (z : List IV) (parts : List (Nat × Nat × IX)) : Option (IV × XSt):=match fillI (rep z n) (parts.map fun p => (p.1,p.2.1,evK E fr p.2.2)) with
  | some out => putX xs id (.row out) (.slice id 0 n esz)
  | none => none
def fStore (E : Nat→IV) (fr : Frm) (xs : XSt) (sz : Nat) (x y : IX) : Option (IV × XSt):=match storeX xs sz (evK E fr x) (evK E fr y) with
  | some s => some (.undef,s)
  | none => none
def fSr (E : Nat→IV) (fr : Frm) (id : Nat) (xs : XSt) (x : IX) : Option (IV × XSt):=match evK E fr x with
  | .str s => putX xs id (.siter s 0) (.ptr id 0)
  | _ => none
def fMu (E : Nat→IV) (fr : Frm) (xs : XSt) (tag : Nat) (x k v : IX) : Option (IV × XSt):=match mupdX xs tag (evK E fr x) (evK E fr k) (evK E fr v) with
  | some s => some (.undef,s)
  | none => none
def fPc (rd : RD) (E : Nat→IV) (fr : Frm) (xs : XSt) (f : Nat) (args : List IX) : Option (IV × XSt):=match rd 0 f (args.map (evK E fr)) xs with
  | some r => some (r.1,xs)
  | none => none
def fCv (rd : RD) (E : Nat→IV) (fr : Frm) (xs : XSt) (x : IX) (args : List IX) : Option (IV × XSt):=match evK E fr x with
  | .func (.func f) first cap => rd 1 f (first ++ args.map (evK E fr) ++ cap) xs
  | .yield i => rd 2 i (args.map (evK E fr)) xs
  | _ => none
def fBst (E : Nat→IV) (fr : Frm) (xs : XSt) (esz n : Nat) (z : List IV) (parts : List (Nat × Nat × IX)) : Option (IV × XSt):=match fillI (rep z n) (parts.map fun p => (p.1,p.2.1,evK E fr p.2.2)) with
  | some out => some (.tslice (chunk esz n out),xs)
  | none => none
def fBxt (E : Nat→IV) (fr : Frm) (xs : XSt) (x : IX) : Option (IV × XSt):=if (evK E fr x).cs.all IV.leaf=true then some (.tptr (evK E fr x).cs,xs) else none
def fMr (E : Nat→IV) (fr : Frm) (id : Nat) (xs : XSt) (x : IX) : Option (IV × XSt):=match evK E fr x with
  | .tmap es => putX xs id (.miter es none) (.ptr id 0)
  | _ => none
def fMn (E : Nat→IV) (fr : Frm) (xs : XSt) (x : IX) : Option (IV × XSt):=match mnextI xs.st (evK E fr x) with
  | some (_,[]) => some (.tuple [.bool false],xs)
  | some (i,[e]) => putX xs i (.miter [] (some e)) (.tuple [.bool true,e.1,e.2])
  | _ => none
def fMe (E : Nat→IV) (fr : Frm) (xs : XSt) (x : IX) : Option (IV × XSt):=match mentI xs.st (evK E fr x) with
  | some v => some (v,xs)
  | none => none
def fMk (E : Nat→IV) (fr : Frm) (id : Nat) (xs : XSt) (esz : Nat) (z : List IV) (x : IX) : Option (IV × XSt):=match mkslI (evK E fr x) with
  | some n => putX xs id (.row (rep z n)) (.slice id 0 n esz)
  | none => none
def fCl (E : Nat→IV) (fr : Frm) (xs : XSt) (esz : Nat) (z : List IV) (x : IX) : Option (IV × XSt):=match clrX xs esz z (evK E fr x) with
  | some s => some (.undef,s)
  | none => none
def fSt (E : Nat→IV) (fr : Frm) (id : Nat) (xs : XSt) (k : SK) (ys : List IX) : Option (IV × XSt):=stX k id xs (ys.map (evK E fr))
def fCall (rd : RD) (E : Nat→IV) (fr : Frm) (xs : XSt) (f : Nat) (args : List IX) : Option (IV × XSt):=rd 1 f (args.map (evK E fr)) xs
def k_q (q : IQ) (rd : RD) (E : Nat→IV) (id : Nat) (fr : Frm) (xs : XSt) : Option (IV × XSt):=fQ E fr xs q
def k_alloc (z : List IV) (rd : RD) (E : Nat→IV) (id : Nat) (fr : Frm) (xs : XSt) : Option (IV × XSt):=putX xs id (.cells z) (.ptr id 0)
def k_box (x : IX) (rd : RD) (E : Nat→IV) (id : Nat) (fr : Frm) (xs : XSt) : Option (IV × XSt):=fBox E fr id xs x
def k_bsl (esz n : Nat) (z : List IV) (parts : List (Nat × Nat × IX)) (rd : RD) (E : Nat→IV) (id : Nat) (fr : Frm) (xs : XSt) : Option (IV × XSt):=fBsl E fr id xs esz n z parts
def k_store (sz : Nat) (x y : IX) (rd : RD) (E : Nat→IV) (id : Nat) (fr : Frm) (xs : XSt) : Option (IV × XSt):=fStore E fr xs sz x y
def k_app (esz : Nat) (s x : IX) (rd : RD) (E : Nat→IV) (id : Nat) (fr : Frm) (xs : XSt) : Option (IV × XSt):=appX xs id esz (evK E fr s) (evK E fr x)
def k_mkmap (rd : RD) (E : Nat→IV) (id : Nat) (fr : Frm) (xs : XSt) : Option (IV × XSt):=putX xs id (.map []) (.map id)
def k_srange (x : IX) (rd : RD) (E : Nat→IV) (id : Nat) (fr : Frm) (xs : XSt) : Option (IV × XSt):=fSr E fr id xs x
def k_snext (x : IX) (rd : RD) (E : Nat→IV) (id : Nat) (fr : Frm) (xs : XSt) : Option (IV × XSt):=snextX xs (evK E fr x)
def k_mupd (tag : Nat) (x k v : IX) (rd : RD) (E : Nat→IV) (id : Nat) (fr : Frm) (xs : XSt) : Option (IV × XSt):=fMu E fr xs tag x k v
def k_call (f : Nat) (args : List IX) (rd : RD) (E : Nat→IV) (id : Nat) (fr : Frm) (xs : XSt) : Option (IV × XSt):=fCall rd E fr xs f args
def k_pcall (f : Nat) (args : List IX) (rd : RD) (E : Nat→IV) (id : Nat) (fr : Frm) (xs : XSt) : Option (IV × XSt):=fPc rd E fr xs f args
def k_callv (x : IX) (args : List IX) (rd : RD) (E : Nat→IV) (id : Nat) (fr : Frm) (xs : XSt) : Option (IV × XSt):=fCv rd E fr xs x args
def k_bslt (esz n : Nat) (z : List IV) (parts : List (Nat × Nat × IX)) (rd : RD) (E : Nat→IV) (id : Nat) (fr : Frm) (xs : XSt) : Option (IV × XSt):=fBst E fr xs esz n z parts
def k_boxt (x : IX) (rd : RD) (E : Nat→IV) (id : Nat) (fr : Frm) (xs : XSt) : Option (IV × XSt):=fBxt E fr xs x
def k_mrange (x : IX) (rd : RD) (E : Nat→IV) (id : Nat) (fr : Frm) (xs : XSt) : Option (IV × XSt):=fMr E fr id xs x
def k_mnext (x : IX) (rd : RD) (E : Nat→IV) (id : Nat) (fr : Frm) (xs : XSt) : Option (IV × XSt):=fMn E fr xs x
def k_ment (x : IX) (rd : RD) (E : Nat→IV) (id : Nat) (fr : Frm) (xs : XSt) : Option (IV × XSt):=fMe E fr xs x
def k_mksl (esz : Nat) (z : List IV) (x : IX) (rd : RD) (E : Nat→IV) (id : Nat) (fr : Frm) (xs : XSt) : Option (IV × XSt):=fMk E fr id xs esz z x
def k_clr (esz : Nat) (z : List IV) (x : IX) (rd : RD) (E : Nat→IV) (id : Nat) (fr : Frm) (xs : XSt) : Option (IV × XSt):=fCl E fr xs esz z x
def k_st (k : SK) (ys : List IX) (rd : RD) (E : Nat→IV) (id : Nat) (fr : Frm) (xs : XSt) : Option (IV × XSt):=fSt E fr id xs k ys
def opD (op : IK) : RD→(Nat→IV)→Nat→Frm→XSt→Option (IV × XSt) :=
 IK.rec (motive:=fun _ => RD→(Nat→IV)→Nat→Frm→XSt→Option (IV × XSt)) k_q k_alloc k_box k_bsl k_store k_app k_mkmap k_srange k_snext k_mupd k_call k_pcall k_callv k_bslt k_boxt k_mrange k_mnext k_ment k_mksl k_clr k_st op
def opK (rd : RD) (E : Nat→IV) (op : IK) (id : Nat) (fr : Frm) (xs : XSt) : Option (IV × XSt):=opD op rd E id fr xs
theorem opK_eq (rd : RD) (op : IK) (id : Nat) (fr : Frm) (xs : XSt) : opK rd E op id fr xs=opX rd E op id fr xs:=by
 cases op <;> simp only [opK,opD,k_q,k_alloc,k_box,k_bsl,k_store,k_app,k_mkmap,k_srange,k_snext,k_mupd,k_call,k_pcall,k_callv,k_bslt,k_boxt,k_mrange,k_mnext,k_ment,k_mksl,k_clr,k_st,opX,fQ,fBox,fBsl,fStore,fSr,fMu,fPc,fCv,fBst,fBxt,fMr,fMn,fMe,fMk,fCl,fSt,fCall,evqK_eq,evK_eq,show evK E fr=(fun x : IX => x.ev E fr) from evK_fun E fr] <;> rfl
def laysD (op : IK) : Bool :=
 IK.rec (motive:=fun _ => Bool) (fun _ => false) (fun _ => true) (fun _ => true) (fun _ _ _ _ => true) (fun _ _ _ => false) (fun _ _ _ => true) true (fun _ => true) (fun _ => false) (fun _ _ _ _ => false) (fun _ _ => false) (fun _ _ => false) (fun _ _ => false) (fun _ _ _ _ => false) (fun _ => false) (fun _ => true) (fun _ => false) (fun _ => false) (fun _ _ _ => true) (fun _ _ _ => false) (fun _ _ => true) op
theorem laysD_eq (op : IK) : laysD op=op.lays:=by cases op <;> rfl
def nxtK (op : IK) (id : Nat) : Nat:=Bool.rec (motive:=fun _ => Nat) id (Nat.succ id) (laysD op)
theorem nxtK_eq (op : IK) (id : Nat) : nxtK op id=(bif op.lays then id+1 else id):=by
 unfold nxtK; rw [laysD_eq]; cases op.lays <;> rfl
def actK (o : IOper) (fr : Frm) : Option Bool :=
 match o.guard with
 | none => some true
 | some (s,want) => actI (getK fr s) want
theorem actK_eq (o : IOper) (fr : Frm) : actK o fr=actIs o fr:=by
 obtain ⟨d,g,op⟩:=o
 cases g with
 | none => rfl
 | some p => obtain ⟨a,b⟩:=p; show actI (getK fr a) b=actI (fr.get a) b; rw [getK_eq]
def regY (rd : RD) (E : Nat→IV) (o : IOper) (ih : Nat→Frm→XSt→Option (Frm × XSt)) (id : Nat) (fr : Frm) (xs : XSt) : Option (Frm × XSt) :=
 match opK rd E o.op id fr xs with
 | some (v,s) => frcV v fun v => frcN (nxtK o.op id) fun id => ih id (fr.setd o.dst v) s
 | none => none
def regS (o : IOper) (ih : Nat→Frm→XSt→Option (Frm × XSt)) (id : Nat) (fr : Frm) (xs : XSt) : Option (Frm × XSt):=frcN (nxtK o.op id) fun id => ih id (fr.setd o.dst skV) xs
def regC (rd : RD) (E : Nat→IV) (o : IOper) (_ : List IOper) (ih : Nat→Frm→XSt→Option (Frm × XSt)) (id : Nat) (fr : Frm) (xs : XSt) : Option (Frm × XSt) :=
 match actK o fr with
 | some true => regY rd E o ih id fr xs
 | some false => regS o ih id fr xs
 | none => none
def regE (_ : Nat) (fr : Frm) (xs : XSt) : Option (Frm × XSt):=some (fr,xs)
def regK (rd : RD) (E : Nat→IV) (ops : List IOper) : Nat→Frm→XSt→Option (Frm × XSt) :=
 List.rec (motive:=fun _ => Nat→Frm→XSt→Option (Frm × XSt)) regE (regC rd E) ops
theorem regK_eq (rd : RD) : ∀ (ops : List IOper) (id : Nat) (fr : Frm) (xs : XSt),regK rd E ops id fr xs=regX rd E ops id fr xs:=by
 intro ops
 induction ops with
 | nil => intro id fr xs; rfl
 | cons o rest ih =>
  intro id fr xs
  simp only [regX]
  show regC rd E o rest (regK rd E rest) id fr xs=_
  simp only [regC,regY,regS,actK_eq,opK_eq,ih,frcV_eq,frcN_eq,nxtK_eq]
  rfl
def boxK (E : Nat→IV) (fr : Frm) (xs : XSt) : IK→Bool
 | .q (.load _ x) => match evK E fr x with
  | .tptr _ => true
  | .ptr i _ => match xs.t.get i with
   | some (.o (.cells _)) => true
   | _ => false
  | _ => false
 | _ => true
theorem boxK_eq (fr : Frm) (xs : XSt) (k : IK) : boxK E fr xs k=boxX E fr xs k:=by
 cases k with
 | q q => cases q with
  | load a x => simp only [boxK,boxX,evK_eq]; rfl
  | _ => rfl
 | _ => rfl
def treeK (rd : RD) (E : Nat→IV) (B : Bool) (ops : List IOper) : Nat→Frm→XSt→Option (Frm × XSt) :=
 List.rec (motive:=fun _ => Nat→Frm→XSt→Option (Frm × XSt)) (fun _ fr xs => some (fr,xs))
  (fun o _ ih id fr xs => match actK o fr with
  | some true => if (!B || boxK E fr xs o.op)=true then match opK rd E o.op id fr xs with
   | some (v,s) => frcV v fun v => ih (id+1) (fr.setd o.dst v) s
   | none => none
   else none
  | some false => ih (id+1) (fr.setd o.dst skV) xs
  | none => none) ops
theorem treeK_eq (rd : RD) (B : Bool) : ∀ (ops : List IOper) (id : Nat) (fr : Frm) (xs : XSt),treeK rd E B ops id fr xs=treeXX rd E B ops id fr xs:=by
 intro ops
 induction ops with
 | nil => intro id fr xs; rfl
 | cons o rest ih =>
  intro id fr xs
  simp only [treeXX]
  show (match actK o fr with
  | some true => if (!B || boxK E fr xs o.op)=true then match opK rd E o.op id fr xs with
   | some (v,s) => frcV v fun v => treeK rd E B rest (id+1) (fr.setd o.dst v) s
   | none => none
   else none
  | some false => treeK rd E B rest (id+1) (fr.setd o.dst skV) xs
  | none => none)=_
  simp only [actK_eq,opK_eq,boxK_eq,ih,frcV_eq]
  rfl
def againK (E : Nat→IV) (xs : XSt) (m : Nat) (L : List LE) : Bool:=againX E xs m L
def tYo (rd : RD) (E : Nat→IV) (base i m : Nat) (o : IOper) (ih : List LE→Frm→XSt→Option (Frm × XSt)) (L : List LE) (fr : Frm) (xs : XSt) : Option (Frm × XSt) :=
 match opK rd E o.op (base+i) fr xs with
 | some (v,s) => match (Nat.beq m 0 || againK E s m L) with
  | true => frcV v fun v => ih (addL E fr i o.op v L) (fr.setd o.dst v) s
  | false => none
 | none => none
def treeYK (rd : RD) (E : Nat→IV) (base : Nat) (ops : List YO) : List LE→Frm→XSt→Option (Frm × XSt) :=
 List.rec (motive:=fun _ => List LE→Frm→XSt→Option (Frm × XSt)) (fun _ fr xs => some (fr,xs))
  (fun y _ ih L fr xs => match actK y.2.1 fr with
  | some true => tYo rd E base y.1 y.2.2 y.2.1 ih L fr xs
  | some false => ih L (fr.setd y.2.1.dst skV) xs
  | none => none) ops
theorem treeYK_eq (rd : RD) (base : Nat) : ∀ (ops : List YO) (L : List LE) (fr : Frm) (xs : XSt),treeYK rd E base ops L fr xs=treeYX rd E base ops L fr xs:=by
 intro ops
 induction ops with
 | nil => intro L fr xs; rfl
 | cons o rest ih =>
  obtain ⟨i,o,m⟩:=o
  intro L fr xs
  simp only [treeYX]
  show (match actK o fr with
  | some true => tYo rd E base i m o (treeYK rd E base rest) L fr xs
  | some false => treeYK rd E base rest L (fr.setd o.dst skV) xs
  | none => none)=_
  simp only [actK_eq,opK_eq,againK,tYo,ih,frcV_eq]
  rfl
def keepC {α : Type} (fr : Frm) (ks : List Nat) : (Frm→α)→α:=List.rec (motive:=fun _ => (Frm→α)→α) (fun k => k []) (fun t _ ih k => frcV (getK fr t) fun v => ih fun f => k ((t,v) :: f)) ks
theorem keepC_eq {α : Type} (fr : Frm) (ks : List Nat) : ∀ (k : Frm→α),keepC fr ks k=k (fr.keep ks):=by
 induction ks with
 | nil => intro k; rfl
 | cons t ks ih =>
  intro k
  show frcV (getK fr t) (fun v => keepC fr ks fun f => k ((t,v) :: f))=_
  rw [frcV_eq,ih,getK_eq]; rfl
def loopK (step : Frm→XSt→Option (XE × Frm × XSt)) (n : Nat) : Frm→XSt→Option (XE × Frm × XSt) :=
 Nat.rec (motive:=fun _ => Frm→XSt→Option (XE × Frm × XSt)) (fun _ _ => none) (fun _ ih fr xs => match step fr xs with
  | some (.normal,fr',xs') => ih fr' xs'
  | r => r) n
theorem loopK_eq (step : Frm→XSt→Option (XE × Frm × XSt)) : ∀ (n : Nat) (fr : Frm) (xs : XSt),loopK step n fr xs=loopN step n fr xs:=by
 intro n
 induction n with
 | zero => intro fr xs; rfl
 | succ n ih =>
  intro fr xs
  show (match step fr xs with
  | some (.normal,fr',xs') => loopK step n fr' xs'
  | r => r)=_
  simp only [loopN,ih]
  rfl
abbrev RI2:=Option (XE × Frm × XSt)
def kSkip (fr : Frm) (xs : XSt) : RI2:=some (.normal,fr,xs)
def kExit (i : Nat) (fr : Frm) (xs : XSt) : RI2:=some (.exit i,fr,xs)
def kRet (fr : Frm) (xs : XSt) : RI2:=some (.ret,fr,xs)
def kReg (rd : RD) (E : Nat→IV) (fz : Nat→List Nat) (i : Nat) (ops : List IOper) (ks : List Nat) (fr : Frm) (xs : XSt) : RI2:=match letGo (fz i) fr xs with
  | some (fr,xs) => match regK rd E ops xs.next fr ⟨xs.next+laysN ops,xs.t⟩ with
   | some (fr',xs') => keepC fr' ks fun f => some (.normal,f,xs')
   | none => none
  | none => none
def kDreg (rd : RD) (E : Nat→IV) (fz : Nat→List Nat) (i : Nat) (ops : List IOper) (B : Bool) (ks : List Nat) (fr : Frm) (xs : XSt) : RI2:=match letGo (fz i) fr xs with
  | some (fr,xs) => match treeK rd E B ops xs.next fr ⟨xs.next+ops.length,xs.t⟩ with
   | some (fr',xs') => keepC fr' ks fun f => some (.normal,f,xs')
   | none => none
  | none => none
def kOreg (rd : RD) (E : Nat→IV) (fz : Nat→List Nat) (i : Nat) (ops : List YO) (ks : List Nat) (fr : Frm) (xs : XSt) : RI2:=match letGo (fz i) fr xs with
  | some (fr,xs) => match treeYK rd E xs.next ops [] fr ⟨xs.next+ops.length,xs.t⟩ with
   | some (fr',xs') => keepC fr' ks fun f => some (.normal,f,xs')
   | none => none
  | none => none
def kSeq (_ _ : IC) (a b : Frm→XSt→RI2) (fr : Frm) (xs : XSt) : RI2:=match a fr xs with
  | some (.normal,fr',xs') => b fr' xs'
  | r => r
def kCond (E : Nat→IV) (x : IX) (_ _ : IC) (a b : Frm→XSt→RI2) (fr : Frm) (xs : XSt) : RI2:=match evK E fr x with
  | .bool true => a fr xs
  | .bool false => b fr xs
  | _ => none
def kBlock (i : Nat) (_ : IC) (a : Frm→XSt→RI2) (fr : Frm) (xs : XSt) : RI2:=match a fr xs with
  | some (.exit j,fr',xs') => bif Nat.beq j i then some (.normal,fr',xs') else some (.exit j,fr',xs')
  | r => r
def kLoop (lf : Nat) (_ : IC) (a : Frm→XSt→RI2) (fr : Frm) (xs : XSt) : RI2:=loopK a lf fr xs
def kRf (rd : RD) (E : Nat→IV) (N : Nat) (g : IX) (ps : List Nat) (y a : IC) (_ _ : Frm→XSt→RI2) (fr : Frm) (xs : XSt) : RI2:=match evK E fr g with
  | .func (.func f) first cap => match XSt.put ⟨xs.next+1,xs.t⟩ xs.next (some (.loop N fr ps y a .ready none)) with
   | some xs1 => match rd 1 f (first ++ [.yield xs.next] ++ cap) xs1 with
    | some (_,xs2) => match xs2.t.get xs.next with
     | some (.loop _ _ _ _ _ .ready none) => (xs2.put xs.next none).map fun s => (.normal,fr,s)
     | some (.loop _ _ _ _ _ .done (some .ret)) => (xs2.put xs.next none).map fun s => (.ret,fr,s)
     | some (.loop _ _ _ _ _ .done (some (.exit i))) => (xs2.put xs.next none).map fun s => (.exit i,fr,s)
     | _ => none
    | none => none
   | none => none
  | _ => none
def kScope (_ : IC) (a : Frm→XSt→RI2) (fr : Frm) (xs : XSt) : RI2:=a fr xs
def icK (rd : RD) (E : Nat→IV) (fz : Nat→List Nat) (N lf : Nat) (c : IC) : Frm→XSt→RI2 :=
 IC.rec (motive:=fun _ => Frm→XSt→RI2) (skip:=kSkip) (reg:=kReg rd E fz) (dreg:=kDreg rd E fz) (oreg:=kOreg rd E fz) (seq:=kSeq) (cond:=kCond E) (block:=kBlock) (loop:=kLoop lf) (exit:=kExit) (ret:=kRet) (rfunc:=kRf rd E N) (scope:=kScope) c
theorem icK_eq (rd : RD) (fz : Nat→List Nat) (N lf : Nat) : ∀ (c : IC) (fr : Frm) (xs : XSt),icK rd E fz N lf c fr xs=icX rd E fz N lf c fr xs:=by
 intro c
 induction c with
 | seq a b iha ihb =>
  intro fr xs
  show kSeq a b (icK rd E fz N lf a) (icK rd E fz N lf b) fr xs=_
  simp only [kSeq,icX,iha,ihb]; rfl
 | cond x a b iha ihb =>
  intro fr xs
  show kCond E x a b (icK rd E fz N lf a) (icK rd E fz N lf b) fr xs=_
  simp only [kCond,icX,iha,ihb,evK_eq]; rfl
 | block i a iha =>
  intro fr xs
  show kBlock i a (icK rd E fz N lf a) fr xs=_
  simp only [kBlock,icX,iha]; rfl
 | scope a iha => intro fr xs; show icK rd E fz N lf a fr xs=_; simp only [icX]; exact iha fr xs
 | loop a iha =>
  intro fr xs
  show kLoop lf a (icK rd E fz N lf a) fr xs=_
  simp only [kLoop,icX,loopK_eq]
  rw [show icK rd E fz N lf a=icX rd E fz N lf a from funext fun f => funext fun x => iha f x]
 | reg i ops ks => intro fr xs; show kReg rd E fz i ops ks fr xs=_; simp only [kReg,icX,regK_eq,keepC_eq]; rfl
 | dreg i ops B ks => intro fr xs; show kDreg rd E fz i ops B ks fr xs=_; simp only [kDreg,icX,treeK_eq,keepC_eq]; rfl
 | oreg i ops ks => intro fr xs; show kOreg rd E fz i ops ks fr xs=_; simp only [kOreg,icX,treeYK_eq,keepC_eq]; rfl
 | rfunc g ps y a ihy iha => intro fr xs; show kRf rd E N g ps y a (icK rd E fz N lf y) (icK rd E fz N lf a) fr xs=_; simp only [kRf,icX,evK_eq]; rfl
 | _ => intro fr xs; rfl
def bodyK (rd : RD) (E : Nat→IV) (fz : Nat→List Nat) (lf : Nat) (e : Nat × IC × List IR) (args : List IV) (xs : XSt) : Option (IV × XSt) :=
 if args.length≤e.1 then
  match icK rd E fz e.1 lf e.2.1 (argFr args 0) xs with
  | some (.normal,fr,s) => match irL s.st fr e.2.2 with
   | some vs => some (unrs (resV vs),s)
   | none => none
  | some (.ret,fr,s) => match irL s.st fr e.2.2 with
   | some vs => some (unrs (resV vs),s)
   | none => none
  | _ => none
 else none
theorem bodyK_eq (rd : RD) (fz : Nat→List Nat) (lf : Nat) (e : Nat × IC × List IR) (args : List IV) (xs : XSt) : bodyK rd E fz lf e args xs=bodyX rd E fz lf e args xs:=by
 simp only [bodyK,bodyX,icK_eq]
 rfl
def pureK (rd : RD) (T : Tab) (E : Nat→IV) (lf : Nat) (k : Nat) (args : List IV) : Option IV :=
 match T.prim k args with
 | some v => some v
 | none => match T.fn k with
  | some e => match bodyK rd E (T.fz k) lf e args ⟨0,.e⟩ with
   | some (v,s) => frzX s 1000 v
   | none => none
  | none => none
theorem pureK_eq (rd : RD) (T : Tab) (lf k : Nat) (args : List IV) : pureK rd T E lf k args=pureX rd T E lf k args:=by
 simp only [pureK,pureX,bodyK_eq]
 rfl
def runK (T : Tab) (E : Nat→IV) (lf : Nat) : Nat→RD
 | 0,_,_,_,_ => none
 | d+1,0,k,args,xs => bif args.all (closedN 1000) then (match pureK (runK T E lf d) T E lf k args with
  | some v => some (v,xs)
  | none => none) else none
 | d+1,1,k,args,xs => bif T.pure k && args.all (closedN 1000) then (match pureK (runK T E lf d) T E lf k args with
  | some v => some (v,xs)
  | none => none) else (bif T.lend (k+1000000) && lateX args xs then giveX (pureK (runK T E lf d) T E lf) k args xs else bif T.lend k then lendX (pureK (runK T E lf d) T E lf) k args xs else (match T.fn k with
   | some e => bodyK (runK T E lf d) E (T.fz k) lf e args xs
   | none => none))
 | d+1,_,k,args,xs => match xs.t.get k with
  | some (.loop N fr ps asg body .ready none) => if args.length=ps.length then
    match icK (runK T E lf d) E (fun _ => []) N lf asg (bindP fr ps args) xs with
    | some (.normal,f1,xs0) => match xs0.t.get k with
     | some (.loop N0 fr0 ps0 as0 b0 .ready none) => match xs0.put k (some (.loop N0 fr0 ps0 as0 b0 .busy none)) with
      | some xs1 => match icK (runK T E lf d) E (fun _ => []) N lf body f1 xs1 with
       | some (e,_,xs2) => match xs2.t.get k with
        | some (.loop N' fr' ps' as' b' .busy none) => match e with
         | .normal => (xs2.put k (some (.loop N' fr' ps' as' b' .ready none))).map fun s => (.bool true,s)
         | .ret => (xs2.put k (some (.loop N' fr' ps' as' b' .done (some .ret)))).map fun s => (.bool false,s)
         | .exit i => (xs2.put k (some (.loop N' fr' ps' as' b' .done (some (.exit i))))).map fun s => (.bool false,s)
        | _ => none
       | none => none
      | none => none
     | _ => none
    | _ => none
   else none
  | _ => none
theorem runK_eq (T : Tab) (lf : Nat) : ∀ d,runK T E lf d=runX T E lf d:=by
 intro d
 induction d with
 | zero => funext a k args xs; simp only [runK,runX]
 | succ d ih =>
  funext a k args xs
  match a with
  | 0 => simp only [runK,runX,ih,pureK_eq]; rfl
  | 1 => simp only [runK,runX,ih,show pureK (runX T E lf d) T E lf=pureX (runX T E lf d) T E lf from funext fun k => funext fun a => pureK_eq _ _ _ _ _,bodyK_eq]; rfl
  | a+2 => simp only [runK,runX,ih,icK_eq]; rfl
end
end Go.Id
