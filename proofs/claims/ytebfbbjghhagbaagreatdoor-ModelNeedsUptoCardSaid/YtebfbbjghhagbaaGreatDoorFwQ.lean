/- Running compiled codes on ideal values: codes,calls,and the proof. Conditions: none; over any program. -/
import Derived.Test.YtebfbbjghhagbaaGreatDoorFwW
import Derived.WideKeyElems2
import Derived.OpenShut
import Derived.FnData
import Derived.Below
import Derived.ChangeSame
import Derived.CallsIn
import Derived.ChangeArms
import Derived.MakeChecks
set_option linter.all false
namespace Go.Id
open Go
variable {P:Program} {E:Nat->IV} {σ σ':Store} {N n n0:Nat} {fr:Frm}
abbrev RD:=Nat->Nat->List IV->XSt->Option (IV×XSt)
where
 ia1 (r:IV->IV->Bool):List IV->List IV->Bool
  | [],[]=>true
  | a::x,b::y=>r a b&&ia1 r x y
  | _,_=>false
 sameLL (r:IV->IV->Bool):List (List IV)->List (List IV)->Bool
  | [],[]=>true
  | a::x,b::y=>ia1 r a b&&sameLL r x y
  | _,_=>false
variable {rd:RD} {Λ:Lam} {xs xs':XSt}
theorem fj9 {pf:List Nat}{an:Ann}{c:Code}{i:Nat}{x:IC}(h:be6 P pf N an c=some (.block i x)):∃ a,c=.block i a/\be6 P pf N an a=some x:=by
 cases c with
 | block id a=>obtain ⟨_,h1,h⟩:=map_some h; cases h; exact ⟨a,rfl,h1⟩
 | scope a=>obtain ⟨_,_,h⟩:=map_some h; cases h
 | region id ops draw=>simp only[be6] at h; split at h<;>first|(cases h; done)|(split at h<;>first|(cases h; done)|(split at h<;>cases h))
 | seq a b=>simp only[be6] at h; split at h<;>cases h
 | cond c a b=>simp only[be6] at h; split at h<;>cases h
 | loop a=>obtain ⟨_,_,h⟩:=map_some h; cases h
 | rangeFunc g ps assign body=>simp only[be6] at h; split at h<;>first|(cases h; done)|(split at h<;>cases h)
 | _=>cases h
theorem fz7 {pf:List Nat}{an:Ann}{c:Code}{x:IC}(h:be6 P pf N an c=some (.loop x)):∃ a,c=.loop a/\be6 P pf N an a=some x:=by
 cases c with
 | loop a=>obtain ⟨_,h1,h⟩:=map_some h; cases h; exact ⟨a,rfl,h1⟩
 | region id ops draw=>simp only[be6] at h; split at h<;>first|(cases h; done)|(split at h<;>first|(cases h; done)|(split at h<;>cases h))
 | seq a b=>simp only[be6] at h; split at h<;>cases h
 | cond c a b=>simp only[be6] at h; split at h<;>cases h
 | block id a=>obtain ⟨_,_,h⟩:=map_some h; cases h
 | scope a=>obtain ⟨_,_,h⟩:=map_some h; cases h
 | rangeFunc g ps assign body=>simp only[be6] at h; split at h<;>first|(cases h; done)|(split at h<;>cases h)
 | _=>cases h
theorem av3 {i:Nat}{x:IC}{Q:Exit->Frm->Store->Prop}(h:RI P E N n0 x fr σ (bt3 i Q)):RI P E N n0 (.block i x) fr σ Q:=by
 intro pf an c hc;obtain ⟨a,rfl,hx⟩:=fj9 hc;exact fu4 (h pf an a hx)
theorem gs3 {x:IC}{Q:Exit->Frm->Store->Prop}(I:Nat->Frm->Store->Prop)(m:Nat)(h:I m fr σ)(hI:∀ m fr σ,I m fr σ->RI P E N n0 x fr σ (ef6 I m Q)):RI P E N n0 (.loop x) fr σ Q:=by
 intro pf an c hc;obtain ⟨a,rfl,hx⟩:=fz7 hc;exact hf7 I m h fun m fr σ hi=>hI m fr σ hi pf an a hx
end Go.Id
/- Tables of compiled functions. Conditions: none; over any program. -/
namespace Go.Id
open Go
variable {P:Program} {E:Nat->IV} {σ σ':Store}
inductive BT (V:Type) where
 | e
 | n (k:Nat) (v:V) (l r:BT V)
def BT.get {V:Type}:BT V->Nat->Option V
 | .e,_=>none
 | .n k v l r,i=>bif Nat.beq i k then some v else bif Nat.ble i k then l.get i else r.get i
abbrev FE:=Nat×IC×List IR
def FOK (P:Program)(f:Nat)(e:FE):Prop:=okF P f=true/\∃ pf an,hh8 P f e.1 pf an e.2.1 e.2.2
theorem FOK.mk {f N:Nat}{pf:List Nat}{an:Ann}{ic:IC}{rs:List IR}(h:okF P f=true)(hf:hh8 P f N pf an ic rs):FOK P f (N,ic,rs):=⟨h,pf,an,hf⟩
instance instIX (n:Nat):OfNat IX n:=⟨.t n⟩
def oQ (d:Nat)(q:IQ):ae7:=⟨some d,none,.q q⟩
def oM (d:Nat)(x:IX):ae7:=⟨some d,none,.q (.mov x)⟩
def oK (d:Nat)(k:IK):ae7:=⟨some d,none,k⟩
def gQ (d s:Nat)(w:Bool)(q:IQ):ae7:=⟨some d,some (s,w),.q q⟩
def gK (d s:Nat)(w:Bool)(k:IK):ae7:=⟨some d,some (s,w),k⟩
def oN (k:IK):ae7:=⟨none,none,k⟩
def cI (n:Int):IX:=.c (.int .i64 n)
def cB (b:Bool):IX:=.c (.bool b)
def zI (n:Int):IV:=.int .i64 n
def zU (n:Int):IV:=.int .u8 n
def ct9:IC->Ann
 | .reg id _ keep=>[(id,keep)]
 | .ap8 id _ _ keep=>[(id,keep)]
 | .gn8 id _ keep=>[(id,keep)]
 | .seq a b=>ct9 a++ct9 b
 | .cond _ a b=>ct9 a++ct9 b
 | .block _ a=>ct9 a
 | .loop a=>ct9 a
 | .bs8 _ _ a b=>ct9 a++ct9 b
 | .scope a=>ct9 a
 | _=>[]
theorem ae6 (pf:List Nat){f N:Nat}{fn:Func}{ic:IC}{rs:List IR}(h:P.funcs[f]? = some fn)(ho:okF P f=true:=by kernel_rfl)(hN:fn.ntmps=N:=by kernel_rfl)(hc:fn.body.bind (be6 P pf N (ct9 ic))=some ic:=by kernel_rfl)(hr:fc3 P fn.results.toList=some rs:=by kernel_rfl):FOK P f (N,ic,rs):=
 .mk (pf:=pf) (an:=ct9 ic) ho (ac7 h hN hc hr)
end Go.Id
/- What the readings of a statement give: arguments and listed variables aZ ideal values; a contract aZ a kit's one. Conditions: none; over any program. -/
namespace Go.Id
open Go
variable {H:Type} {enc:TypeId×Value->H} {P:Program} {w w':World} {base:Nat} {sp:Nat->Bool} {held:Bool} {ρ:Rho} {E:Nat->IV}
structure VL (ρ:Rho) (w:World) (ivs:List IV) (cs:List Value):Prop where
 len:ivs.length=cs.length
 get:∀ i,i<ivs.length->VR ρ w (ivs.getD i .undef) (cs.getD i undef)
def dvF (r:TypeId->DataW H->Option (List IV))(P:Program):List (TypeId×Nat)->List (DataW H)->Nat->Option (List IV)
 | [],[],_=>some []
 | f::fs,d::ds,off=>if f.2=off then (match r f.1 d with
  | some a=>if a.length=P.cellsOf f.1 then (match dvF r P fs ds (off+P.cellsOf f.1) with
   | some b=>some (a++b)
   | none=>none) else none
  | none=>none) else none
 | _,_,_=>none
def dvS (r:DataW H->Option (List IV))(c:Nat):List (DataW H)->Option (List (List IV))
 | []=>some []
 | d::ds=>match r d with
  | some a=>if a.length=c then (match dvS r c ds with
   | some b=>some (a::b)
   | none=>none) else none
  | none=>none
def dvE (r:DataW H->Option (List IV))(x:Lit×DataW H):IV×IV:=match x.1,r x.2 with
 | .string bs,some [v]=>(.str bs,v)
 | _,_=>(.undef,.undef)
def cu1:List IV->Bool
 | []=>true
 | .str a::r=>(r.all fun|.str b=>!(a==b)|_=>false)&&cu1 r
 | _::_=>false
def flat (P:Program)(e:TypeId):Bool:=match P.underlying e with
 | some .bool|some (.int _)|some .string|some (.slice _)|some (.pointer _)=>true
 | _=>false
def dv (P:Program):Nat->TypeId->DataW H->Option (List IV)
 | 0,_,_=>none
 | m+1,t,d=>match P.underlying t,d with
  | some .bool,.lit (.bool b)=>some [.bool b]
  | some (.int _),.lit (.int k n)=>some [.int k n]
  | some .string,.lit (.string bs)=>some [.str bs]
  | some (.pointer _),.nil=>some [.ab6]
  | some (.pointer e),.ptr d=>match dv P m e d with
   | some (c::cs)=>some [.ac1 (c::cs)]
   | _=>none
  | some (.slice _),.nil=>some [.aa5 []]
  | some (.slice e),.slice els _=>if P.cellsOf e=0 then none else match dvS (dv P m e) (P.cellsOf e) els with
   | some es=>some [.aa5 es]
   | none=>none
  | some (.struct fs),.agg ds=>match dvF (dv P m) P (fs.toList.map fun f=>(f.type,f.offset)) ds 0 with
   | some ivs=>if ivs.length=P.cellsOf t then some ivs else none
   | none=>none
  | some (.array n e),.agg ds=>match dvF (dv P m) P ((List.range n).map fun i=>(e,i*P.cellsOf e)) ds 0 with
   | some ivs=>if ivs.length=P.cellsOf t then some ivs else none
   | none=>none
  | some (.map k e),.map es=>match P.underlying k with
   | some .string=>if flat P e&&cu1 (es.map fun x=>(dvE (dv P m e) x).1) then some [.al6 (es.map (dvE (dv P m e)))] else none
   | _=>none
  | _,_=>none
theorem cm2 {v:IV}{r:Value}(h:VR ρ w v r):VL ρ w [v] [r]:=⟨rfl,fun i hi=>by
 have h0:i=0:=by simpa using hi
 rw[h0]; exact h⟩
theorem hj7 {r:TypeId->DataW H->Option (List IV)} {rd:TypeId->List Value->DataW H->Prop} (hr:∀ t cs d ivs,rd t cs d->r t d=some ivs->VL ρ w ivs cs) (cs:List Value) :
  ∀ (fs:List (TypeId×Nat)) (ds:List (DataW H)) (off:Nat) (ivs:List IV),fs.length=ds.length ->
   (∀ (i:Nat) (f:TypeId×Nat) (d:DataW H),fs[i]? = some f->ds[i]? = some d->rd f.1 ((cs.drop f.2).take (P.cellsOf f.1)) d)->dvF r P fs ds off=some ivs ->
   ∀ i,i<ivs.length->off+i<cs.length/\VR ρ w (ivs.getD i .undef) (cs.getD (off+i) undef):=by
 intro fs
 induction fs with
 | nil=>
  intro ds off ivs hl _ h
  cases ds with
  | nil=>cases h; intro i hi; simp at hi
  | cons d ds=>simp at hl
 | cons f fs ih=>
  intro ds off ivs hl hrd h
  cases ds with
  | nil=>simp at hl
  | cons d ds=>
   simp only[dvF] at h;split at h
   ·rename_i hoff;split at h
    ·rename_i a ha;split at h
     ·rename_i hal;split at h
      ·rename_i b hb;cases h;have h0:=hr _ _ _ _ (hrd 0 f d rfl rfl) ha;have hl0:=h0.len;rw[hoff] at h0 hl0;simp only[List.length_take,List.length_drop] at hl0;intro i hi;by_cases hia:i<a.length
       ·have h1:=h0.get i hia;have hlt:off+i<cs.length:=by omega
        refine ⟨hlt,?_⟩;have e1:(a++b).getD i .undef=a.getD i .undef:=by simp[List.getD_eq_getElem?_getD,List.getElem?_append,hia]
        have e2:((cs.drop off).take (P.cellsOf f.1)).getD i undef=cs.getD (off+i) undef:=by
         have:i<P.cellsOf f.1:=by omega
         simp[List.getD_eq_getElem?_getD,List.getElem?_take,this,List.getElem?_drop]
        rw[e1,<- e2]; exact h1
       ·have h1:=ih ds _ b (by simpa using hl) (fun i f' d' hf hd=>hrd (i+1) f' d' (by simpa using hf) (by simpa using hd)) hb (i-a.length) (by simp at hi; omega);have e0:off+P.cellsOf f.1+(i-a.length)=off+i:=by omega
        rw[e0] at h1;refine ⟨h1.1,?_⟩;have e1:(a++b).getD i .undef=b.getD (i-a.length) .undef:=by simp[List.getD_eq_getElem?_getD,List.getElem?_append,hia]
        rw[e1]; exact h1.2
      ·cases h
     ·cases h
    ·cases h
   ·cases h
theorem hz5 {r:DataW H->Option (List IV)}{c:Nat}:∀ (ds:List (DataW H)) (es:List (List IV)),dvS r c ds=some es->es.length=ds.length/\∀ i,i<es.length->(es.getD i []).length=c/\∃ d,ds[i]? = some d/\r d=some (es.getD i []):=by
 intro ds
 induction ds with
 | nil=>intro es h; cases h; exact ⟨rfl,fun i hi=>by simp at hi⟩
 | cons d ds ih=>
  intro es h;simp only[dvS] at h;split at h
  ·rename_i a ha;split at h
   ·rename_i hal;split at h
    ·rename_i b hb;cases h;obtain ⟨h1,h2⟩:=ih b hb;refine ⟨by simp[h1],fun i hi=>?_⟩
     cases i with
     | zero=>exact ⟨hal,d,rfl,ha⟩
     | succ i=>
      obtain ⟨h3,d',h4,h5⟩:=h2 i (by simpa using hi);exact ⟨h3,d',h4,h5⟩
    ·cases h
   ·cases h
  ·cases h
theorem ei2 {es:List (IV×IV)}(h:cu1 (es.map (·.1))=true):da3 es:=by
 have:∀ (l:List IV),cu1 l=true->l.Nodup/\∀ v∈l,∃ s,v=.str s:=by
  intro l
  induction l with
  | nil=>intro _; exact ⟨.nil,fun _ h=>by cases h⟩
  | cons v l ih=>
   intro h
   cases v with
   | str a=>
    simp only[cu1,Bool.and_eq_true] at h;obtain ⟨h1,h2⟩:=ih h.2;refine ⟨List.nodup_cons.2 ⟨fun hm=>?_,h1⟩,fun v hv=>?_⟩
    ·have:=List.all_eq_true.1 h.1 _ hm;simp at this
    ·rcases List.mem_cons.1 hv with rfl|hv
     ·exact ⟨a,rfl⟩
     ·exact h2 v hv
   | _=>cases h
 obtain ⟨h1,h2⟩:=this _ h;refine ⟨h1,.str,fun e he=>?_⟩;obtain ⟨s,hs⟩:=h2 e.1 (List.mem_map.2 ⟨e,he,rfl⟩);rw[hs]; trivial
theorem bn2 {a:Addr}{v:Value}(h:w.cell? a=some v):a.spot=none/\a.block<w.heap.size:=by
 unfold World.cell? at h;split at h
 ·rename_i c _ _ hb;split at h
  ·cases h
  ·rename_i hs;refine ⟨by simpa using hs,?_⟩;exact Nat.lt_of_not_le fun hle=>by rw[Array.getElem?_eq_none hle] at hb; cases hb
 ·cases h
theorem fk1:∀ {l:List IV},cu1 l=true->∀ v∈l,∃ s,v=.str s:=by
 intro l
 induction l with
 | nil=>intro _ _ h; cases h
 | cons v l ih=>
  intro h
  cases v with
  | str a=>
   simp only[cu1,Bool.and_eq_true] at h;intro v hv;rcases List.mem_cons.1 hv with rfl|hv
   ·exact ⟨a,rfl⟩
   ·exact ih h.2 v hv
  | _=>cases h
theorem hz6 {k:TypeId}{v:Value}{bs:List UInt8}(hk:P.underlying k=some .string)(h:keyOf P k v=some (.string bs)):v=.string ⟨bs.toArray⟩:=by
 unfold keyOf mapKey at h;rw[hk] at h
 cases v with
 | string s=>
  simp only at h;split at h
  ·cases h;congr 1
  ·cases h
 | _=>cases h
theorem fk2 {e:TypeId}{v:Value}(h:flat P e=true)(hf:v.formed P e=true):v.cells.toList=[v]:=by
 unfold flat at h
 cases v with
 | agg cs=>
  unfold Value.formed at hf
  split at h<;>simp_all
 | _=>rfl
theorem cu2 (hF:∀ b,b<w.heap.size->FB ρ w b):∀ (m n:Nat) (t:TypeId) (d:DataW H) (cs:List Value) (ps:List MemPlace) (ivs:List IV),
  DataW.trod enc P w base sp held n t cs=some (d,ps)->dv P m t d=some ivs->VL ρ w ivs cs:=by
 intro m
 induction m with
 | zero=>intro n t d cs ps ivs _ h; cases h
 | succ m ih=>
  intro n t d cs ps ivs h hd;unfold dv at hd;split at hd
  ·rename_i b hu;obtain ⟨b',rfl,hx⟩:=DataW.trod_bool hu h;cases hx; cases hd;exact cm2 (.bool _)
  ·rename_i k0 k n0 hu;obtain ⟨n',rfl,hx,_⟩:=DataW.trod_int hu h;cases hx; cases hd;exact cm2 (.int _ _)
  ·rename_i bs hu;obtain ⟨s,rfl,hx,_⟩:=DataW.trod_string hu h;cases hx; cases hd;have:(⟨s.data.toList.toArray⟩:ByteArray)=s:=by cases s; simp
   exact cm2 (by have:=VR.str (ρ:=ρ) (w:=w) s.data.toList; simpa using this)
  ·rename_i hu;cases hd;rcases DataW.trod_pointer hu h with ⟨rfl,_⟩|⟨a,cs',y,n',_,_,hx,_⟩
   ·exact cm2 .ab6
   ·cases hx
  ·rename_i e d' hu;rcases DataW.trod_pointer hu h with ⟨_,hx⟩|⟨a,cs',y,n',rfl,rfl,hx,hc,hy⟩
   ·cases hx
   ·cases hx;split at hd
    ·rename_i c0 cs0 hd0;cases hd;have hv:=ih n' e y.1 cs' y.2 (c0::cs0) hy hd0;obtain ⟨_,hl,hcell⟩:=World.cells?_some hc;have hlen:=hv.len;simp only[List.length_cons] at hlen;have h0:=hcell 0 (by omega);rw[List.getElem?_eq_getElem (by omega)] at h0;obtain ⟨h1,h2⟩:=bn2 h0;have ea:a.add 0=a:=rfl;rw[ea] at h1 h2;obtain ⟨b,o,s⟩:=a;simp only at h1; subst h1;refine cm2 (.ac1 (c0::cs0) b o (fun j=>cs'.getD j undef) (hF b h2) (fun j hj=>?_) (fun j hj=>hv.get j hj));simp only[List.length_cons] at hj;have hj':=hcell j (by omega);have ej:(⟨b,o,none⟩:Addr).add j=⟨b,o+j,none⟩:=by unfold Addr.add; by_cases hj0:j=0<;>simp[hj0]
     rw[ej] at hj';rw[hj',List.getD_eq_getElem?_getD,List.getElem?_eq_getElem (by omega)];rfl
    ·cases hd
  ·rename_i e hu;cases hd;rcases DataW.trod_slice hu h with ⟨rfl,_⟩|⟨a,len,cap,elems,rest,n',_,_,hx,_⟩
   ·exact cm2 .ca8
   ·cases hx
  ·rename_i e els rst hu;split at hd
   ·cases hd
   ·rename_i hc0;split at hd
    ·rename_i es hes;cases hd;rcases DataW.trod_slice hu h with ⟨rfl,hx⟩|⟨a,len,cap,elems,rest,n',rfl,rfl,hx,_,hlc,_,hel,hcell,_,_⟩
     ·cases hx
     ·cases hx;obtain ⟨g1,g2⟩:=hz5 _ _ hes;have hlen:es.length=len:=by rw[g1,List.length_map,hel]
      have key:∀ i,i<es.length->∃ ci p,w.cells? base (a.add (i*P.cellsOf e)) (P.cellsOf e)=some ci/\(es.getD i []).length=P.cellsOf e/\VL ρ w (es.getD i []) ci/\p=():=by
       intro i hi;obtain ⟨g3,d',g4,g5⟩:=g2 i hi;have hc:=hcell i (by omega);rw[List.getElem?_map] at g4
       cases hei:elems[i]? with
       | none=>rw[hei] at g4; cases g4
       | some x=>
        rw[hei] at g4 hc;cases g4;obtain ⟨ci,hci,hx⟩:=Option.bind_eq_some_iff.1 hc;exact ⟨ci,(),hci,g3,ih n' e x.1 ci x.2 _ hx g5,rfl⟩
      have hF0:es≠[]->FB ρ w a.block/\a.spot=none:=by
       intro hne;have h0:0<es.length:=List.length_pos_iff.2 hne;obtain ⟨ci,_,hci,g3,_,_⟩:=key 0 h0;obtain ⟨_,hl,hcc⟩:=World.cells?_some hci;have hcc0:=hcc 0 (by omega);rw[List.getElem?_eq_getElem (by omega)] at hcc0;have ea:(a.add (0*P.cellsOf e)).add 0=a:=by simp[Addr.add]
       rw[ea] at hcc0;obtain ⟨h1,h2⟩:=bn2 hcc0;exact ⟨hF _ h2,h1⟩
      have hcells:∀ i,i<es.length->∀ j,j<P.cellsOf e->∃ v,w.cell? ⟨a.block,a.off+(i*P.cellsOf e+j),none⟩=some v/\VR ρ w ((es.getD i []).getD j .undef) v:=by
       intro i hi j hj;obtain ⟨ci,_,hci,g3,g4,_⟩:=key i hi;obtain ⟨_,hl,hcc⟩:=World.cells?_some hci;have hcj:=hcc j hj;have hsp:=(hF0 (by intro h0; rw[h0] at hi; simp at hi)).2
       have ea:(a.add (i*P.cellsOf e)).add j=⟨a.block,a.off+(i*P.cellsOf e+j),none⟩:=by
        obtain ⟨b,o,s⟩:=a;simp only at hsp; subst hsp;unfold Addr.add;by_cases h1:i*P.cellsOf e=0<;>by_cases h2:j=0<;>simp[h1,h2,Nat.add_assoc]
       rw[ea,List.getElem?_eq_getElem (by omega)] at hcj;refine ⟨_,hcj,?_⟩;have:=g4.get j (by omega);rw[List.getD_eq_getElem?_getD (l:=ci),List.getElem?_eq_getElem (by omega)] at this;exact this
      refine cm2 ?_;obtain ⟨b,o,s⟩:=a;rw[<- hlen];refine .aa5 es b o cap (P.cellsOf e) s (fun i j=>(w.cell? ⟨b,o+(i*P.cellsOf e+j),none⟩).getD undef) hF0 (fun i hi=>(g2 i hi).1) (fun i hi j hj=>?_) (fun i hi j hj=>?_) (by omega)
      ·obtain ⟨v,h1,_⟩:=hcells i hi j hj;simp only at h1;rw[h1]; rfl
      ·obtain ⟨v,h1,h2⟩:=hcells i hi j hj;simp only at h1;rw[h1]; exact h2
    ·cases hd
  ·rename_i fs ds hu;split at hd
   ·rename_i ivs' hd';split at hd
    ·rename_i hil;cases hd;obtain ⟨xs,n',rfl,hx,hlen,hxl,hfi⟩:=DataW.trod_struct hu h;cases hx
     have hg:=hj7 (P:=P) (rd:=fun t cs d=>∃ p,DataW.trod enc P w base sp held n' t cs=some (d,p)) (fun t cs d ivs ⟨p,hp⟩ h=>ih n' t d cs p ivs hp h) cs _ _ 0 _ (by simp[hxl]) (fun i f d hf hd=>by
      rw[List.getElem?_map] at hf hd
      cases hfi':fs.toList[i]? with
      | none=>rw[hfi'] at hf; cases hf
      | some f0=>
       rw[hfi'] at hf; cases hf;have:=hfi i f0 (by simpa using hfi')
       cases hxi:xs[i]? with
       | none=>rw[hxi] at hd; cases hd
       | some x=>rw[hxi] at hd this; cases hd; exact ⟨x.2,this⟩) hd'
     exact ⟨by rw[hil,hlen],fun i hi=>by have:=(hg i hi).2; rwa [Nat.zero_add] at this⟩
    ·cases hd
   ·cases hd
  ·rename_i k e ds hu;split at hd
   ·rename_i ivs' hd';split at hd
    ·rename_i hil;cases hd;obtain ⟨xs,n',rfl,hx,hlen,hxl,hfi⟩:=DataW.trod_array hu h;cases hx
     have hg:=hj7 (P:=P) (rd:=fun t cs d=>∃ p,DataW.trod enc P w base sp held n' t cs=some (d,p)) (fun t cs d ivs ⟨p,hp⟩ h=>ih n' t d cs p ivs hp h) cs _ _ 0 _ (by simp[hxl]) (fun i f d hf hd=>by
      rw[List.getElem?_map] at hf hd
      cases hfi':(List.range k)[i]? with
      | none=>rw[hfi'] at hf; cases hf
      | some f0=>
       rw[hfi'] at hf; cases hf;obtain ⟨hik,rfl⟩:=List.getElem?_eq_some_iff.1 hfi';simp only[List.length_range] at hik;have:=hfi i hik;simp only[List.getElem_range]
       cases hxi:xs[i]? with
       | none=>rw[hxi] at hd; cases hd
       | some x=>rw[hxi] at hd this; cases hd; exact ⟨x.2,this⟩) hd'
     exact ⟨by rw[hil,hlen],fun i hi=>by have:=(hg i hi).2; rwa [Nat.zero_add] at this⟩
    ·cases hd
   ·cases hd
  ·rename_i k e es hu;split at hd
   ·rename_i hk;split at hd
    ·rename_i hfn;cases hd;simp only[Bool.and_eq_true] at hfn;obtain ⟨hfl,hnd⟩:=hfn;rcases WideElems.open_map hu h with ⟨_,hx⟩|⟨b,mes,clock,n',rfl,rfl,hb,_,F,hx⟩
     ·cases hx
     ·simp only[Prod.mk.injEq,DataW.map.injEq] at hx;obtain ⟨hx,_⟩:=hx;have hlt:b<w.heap.size:=Nat.lt_of_not_le fun hle=>by rw[Array.getElem?_eq_none hle] at hb; cases hb
      let g:Lit×DataW H->IV×IV:=dvE (dv P m e);let L:=mes.toList.map (WideElems.rg P k (WideElems.elemAt enc P w base sp held n' e));have hp:L.Perm es:=by rw[hx]; exact (WideShapes.sorted_perm L).symm
      have hpg:(L.map g).Perm (es.map g):=hp.map g;have hko:da3 (es.map g):=ei2 (by rw[List.map_map]; exact hnd)
      have ent:∀ i,i<mes.size->VR ρ w ((L.map g).getD i (.undef,.undef)).1 (mes.getD i default).key/\VR ρ w ((L.map g).getD i (.undef,.undef)).2 (mes.getD i default).val:=by
       intro i hi
       have hmem:mes.getD i default∈mes.toList:=by
        have:=ad2 (default:MapEntry) (l:=mes.toList) (i:=i) (by simpa using hi)
        simpa [List.getD_eq_getElem?_getD,Array.getD_eq_getD_getElem?] using this
       obtain ⟨y,hy⟩:=F.reads _ hmem
       have e1:(L.map g).getD i (.undef,.undef)=g y:=by
        have:L[i]? = some y:=by
         simp only[L,List.getElem?_map];rw[show mes.toList[i]? = some (mes.getD i default) by simp[Array.getD_eq_getD_getElem?,hi]];exact congrArg some (WideElems.rg_of hy)
        simp[List.getD_eq_getElem?_getD,this]
       rw[e1];have hyL:y∈L:=List.mem_map.2 ⟨_,hmem,WideElems.rg_of hy⟩;have hys:∃ s,(g y).1=.str s:=fk1 hnd _ (List.mem_map.2 ⟨y,hp.mem_iff.1 hyL,rfl⟩);have hkey:=WideElems.rd_key hy;obtain ⟨z,hz,hyz⟩:=WideElems.rd_val hy;simp only[g,dvE] at hys ⊢;split at hys
       ·rename_i bs v hl hv;refine ⟨?_,?_⟩
        ·rw[hl] at hkey;rw[hz6 hk hkey]; exact .str _
        ·generalize mes.getD i default=me at hz ⊢;unfold WideElems.elemAt at hz;split at hz
         ·rename_i hform;have hvl:=ih n' e z.1 _ z.2 [v] hz (by rw[<- hyz]; exact hv);have hcl:=fk2 hfl hform;rw[hcl] at hvl;exact hvl.get 0 (by simp)
         ·cases hz
       ·obtain ⟨_,hys⟩:=hys; cases hys
      have hsz:(L.map g).length=mes.size:=by simp[L]
      obtain ⟨s1,s2,_⟩:=F.stamped;refine cm2 (.al6 (es.map g) (L.map g) b mes clock hpg hko (hF b hlt) hb hsz (fun i hi=>(ent i (by omega)).1) (fun i hi=>(ent i (by omega)).2) ?_ ?_)
      ·intro i hi;refine s1 _ ?_;have:=ad2 (default:MapEntry) (l:=mes.toList) (i:=i) (by simpa using hi)
       simpa [List.getD_eq_getElem?_getD,Array.getD_eq_getD_getElem?] using this
      ·intro i j hij hj he;have:=(List.pairwise_iff_getElem.1 s2) i j (by simp; omega) (by simpa using hj) hij;simp only[List.getElem_map,Array.getElem_toList] at this;apply this;have hi:i<mes.size:=by omega
       simpa [Array.getD_eq_getD_getElem?,hi,hj] using he
    ·cases hd
   ·cases hd
  ·cases hd
def fk3 (l:List (Nat×List IV))(g:Nat):IV:=match l.lookup g with
 | some cs=>.ac1 cs
 | none=>.undef
theorem fz8 {laid:List (String×DataW Unit)}(hF:∀ b,b<w.heap.size->FB ρ w b):∀ (laid:List (String×DataW Unit)) (ps:List MemPlace),DataW.LaidVars P w laid ps->∀ (name:String) (d:DataW Unit),(name,d)∈laid->∀ (g:Nat) (t:TypeId) (m:Nat) (c:IV) (ivs:List IV),
  P.globalNamed name=some g->(P.globals[g]?).map (·.type)=some t->dv P m t d=some (c::ivs)->VR ρ w (.ac1 (c::ivs)) (.pointer (some ⟨g,0,none⟩)):=by
 intro laid
 induction laid with
 | nil=>intro ps _ name d hm; cases hm
 | cons x r ih=>
  intro ps h name d hm g t m c ivs hg ht hd;obtain ⟨xn,xd⟩:=x;obtain ⟨g',t',cs,fuel,p,q,h1,h2,h3,h4,h5,_⟩:=h;rcases List.mem_cons.1 hm with hm|hm
  ·cases hm;obtain rfl:=Option.some.inj (h1.symm.trans hg);obtain rfl:=Option.some.inj (h2.symm.trans ht);have hv:=cu2 hF m fuel _ d _ p _ h4 hd;have hc:=fun i=>World.var?_cell h1 h3 i
   have hlen:=hv.len;simp only[List.length_cons,Array.length_toList] at hlen;have h0:=hc 0;rw[Array.getElem?_eq_getElem (by omega)] at h0;refine .ac1 (c::ivs) _ 0 (fun j=>cs.getD j undef) (hF _ (bn2 h0).2) (fun j hj=>?_) (fun j hj=>?_)
   ·simp only[List.length_cons] at hj;rw[Nat.zero_add,hc j,Array.getElem?_eq_getElem (by omega)];simp[Array.getD_eq_getD_getElem?,show j<cs.size by omega]
   ·have:=hv.get j hj
    simpa [List.getD_eq_getElem?_getD,Array.getD_eq_getD_getElem?] using this
  ·exact ih _ h5 name d hm g t m c ivs hg ht hd
def fq1:Rho:=⟨fun _=>.no,fun _=>False⟩
theorem ci9:∀ b,b<w.heap.size->FB fq1 w b:=fun b h=>⟨h,(fun _ _ h=>by cases h),fun h=>h⟩
def jh1:Store:=⟨0,fun _=>none⟩
theorem gs4 {laid:List (String×DataW Unit)}(h:laidMet P laid w)(l:List (Nat×List IV))
  (hl:∀ x∈l,∃ (name:String) (d:DataW Unit) (t:TypeId) (m:Nat) (c:IV) (ivs:List IV),x.2=c::ivs/\(name,d)∈laid/\P.globalNamed name=some x.1/\(P.globals[x.1]?).map (·.type)=some t/\dv P m t d=some (c::ivs)) :
  ∀ g,VR fq1 w (fk3 l g) (.pointer (some ⟨g,0,none⟩)):=by
 intro g;unfold fk3
 cases hg:l.lookup g with
 | none=>exact .undef _
 | some cs=>
  obtain ⟨ps,hps,_,_⟩:=h
  have hm:(g,cs)∈l:=by
   clear hl
   induction l with
   | nil=>cases hg
   | cons x l ih=>
    obtain ⟨a,b⟩:=x;simp only[List.lookup] at hg;split at hg
    ·rename_i hb;cases hg;have:g=a:=by simpa using hb
     rw[this]; exact List.mem_cons_self ..
    ·exact List.mem_cons_of_mem _ (ih hg)
  obtain ⟨name,d,t,m,c,ivs,h1,h2,h3,h4,h5⟩:=hl _ hm;simp only at h1 h3 h4;rw[h1];exact fz8 (laid:=laid) ci9 laid ps hps name d h2 g t m c ivs h3 h4 h5
theorem jm3 (h:∀ g,VR fq1 w (E g) (.pointer (some ⟨g,0,none⟩))):Sim E fq1 w jh1 :=
 ⟨(fun _ _ _ _ _ h=>by cases h),(fun _ _ _ h=>by cases h),(fun _ _ _ h=>by cases h),(fun _ h=>by cases h),(fun _ _=>rfl),(fun _ _=>rfl),h,(fun _ _ _ h=>by cases h),fun _ h=>h.elim⟩
theorem gs5 {f:FuncId}{args:List IV}{rargs:Array Value}{b:Bool}(h:PC P E f args (.bool b))(he:∀ g,VR fq1 w (E g) (.pointer (some ⟨g,0,none⟩)))(ha:CR fq1 w args rargs) :
  Calls P f rargs w fun e w'=>e=.returned (.bool b)/\RowKit.Below w.heap.size w w':=by
 refine callsIn_wide.1 (CallsIn.mono (h jh1 fq1 w rargs (jm3 he) ha) ?_);rintro e w' ⟨v,r,ρ',σ',rfl,⟨rfl,rfl⟩,_,hv,hx⟩;cases hv;exact ⟨rfl,hx.os,hx.tape.1,hx.output,hx.size,fun k hk=>hx.keep k (ci9 k hk).ub⟩
theorem dp3 {H:Type}{enc:TypeId×Value->H}{f:Func}{s:ChangeSpec}{apart fresh handsOn again:Bool}{W W':World}{args:Array Value}{v:Value}{ds gs:List (DataW H)}{before pa pv:List MemPlace}
  (hW:DataW.Whole enc P f.params.toList s.vars apart W args.toList ds gs before)
  (hres:∀ (b:Nat) (sp:Nat->Bool) (hd:Bool),DataW.TrodAll enc P W' b sp hd f.resultTypes.toList (v.resultList f.resultTypes.size) (s.fn H (ds++gs)).results [])
  (hargs:∀ sp:Nat->Bool,(∀ p∈before,sp p.block=true)->DataW.TrodAll enc P W' 0 sp true f.params.toList args.toList (s.fn H (ds++gs)).args pa)
  (hvars:∀ sp:Nat->Bool,(∀ p∈before,sp p.block=true)->DataW.TrodVars enc P W' sp s.vars (s.fn H (ds++gs)).vars pv)
  (hps:before=pa++pv) (hb:RowKit.Below W.heap.size W W')
  (hok:∀ (j:Nat) (t:TypeId) (r:Value),f.resultTypes[j]? = some t->(v.resultList f.resultTypes.size)[j]? = some r->Value.okWide P W' .any 0 t r) :
  s.post enc P f apart fresh handsOn again W args v W':=by
 have hlt:∀ p∈before,p.block<W.heap.size:=fun p hp=>hW.lt p hp
 have hold:∀ p∈before,(fun b=>decide (b<W.heap.size)) p.block=true:=fun p hp=>by simpa using hlt p hp
 refine ⟨ds,gs,before,[],pa,pv,hW,hres _ _ _,hargs _ hold,hvars _ hold,World.keptBut_mono (fun p hp=>⟨hp,?_⟩) (hb.frame (·∈before)),fun _=>?_⟩
 ·rw[hps,List.mem_append] at hp;exact Or.inr hp
 ·obtain ⟨_,_,_,_,_,hz,hn⟩:=hW;refine ⟨hok,_,_,([]++pa)++pv,⟨[]++pa,pv,ChangeShapes.trodAll_append (hargs _ (fun _ _=>rfl)) (hres _ _ _),hvars _ (fun _ _=>rfl),rfl,?_,?_⟩,?_⟩
  ·intro b off hp;have hin:MemPlace.cell b off∈before:=by rw[hps]; simpa using hp
   rw[hb.frozen (hlt _ hin)];exact hz b off hin
  ·intro ha;have:=hn ha;rw[hps] at this
   simpa using this
  ·intro p hp _;rw[hps]
   simpa using hp
end Go.Id
set_option linter.all false
namespace Go.Id
open Go
variable {P:Program} {E:Nat->IV}
def opsL:List (IV×IV):=[(.str [],.int .u8 0),(.str [60],.int .u8 1),(.str [60,61],.int .u8 3),(.str [61],.int .u8 2),(.str [62],.int .u8 4),(.str [62,61],.int .u8 6)]
def ej6 (op:Int):List UInt8:=if op=1 then [60] else if op=2 then [61] else if op=3 then [60,61] else if op=4 then [62] else if op=6 then [62,61] else []
def hk8 (g:Nat):IC :=
(.seq
 (.reg 0 [⟨(some 2),none,(.q (.mov (.c (.str []))))⟩] [0])
 (.seq
 (.seq
  (.reg 1 [⟨(some 5),none,(.q (.load none (.g g)))⟩,⟨(some 6),none,(.bc9 (.t 5))⟩] [0,6])
  (.block 0
  (.loop
   (.seq
   (.reg 2 [⟨(some 7),none,(.cc6 (.t 6))⟩,⟨(some 8),none,(.q (.ext 0 (.t 7)))⟩] [0,6,8])
   (.seq
    (.cond (.t 8)
    .skip
    (.exit 0))
    (.block 1
    (.seq
     (.reg 3 [⟨(some 9),none,(.fc1 (.t 6))⟩,⟨(some 10),none,(.q (.ext 0 (.t 9)))⟩,⟨(some 11),none,(.q (.ext 1 (.t 9)))⟩,⟨(some 3),none,(.q (.mov (.t 10)))⟩,⟨(some 4),none,(.q (.mov (.t 11)))⟩] [0,3,4,6])
     (.seq
     (.reg 4 [⟨(some 12),none,(.q (.mov (.t 4)))⟩,⟨(some 13),none,(.q (.mov (.t 0)))⟩,⟨(some 14),none,(.q (.bin .eql (.t 12) (.t 13)))⟩] [0,3,6,14])
     (.cond (.t 14)
      (.seq
      (.reg 5 [⟨(some 15),none,(.q (.mov (.t 3)))⟩,⟨(some 2),none,(.q (.mov (.t 15)))⟩] [2])
      .ret)
      .skip)))))))))
 (.seq
  (.reg 6 [⟨(some 2),none,(.q (.mov (.c (.str []))))⟩] [2])
  .ret)))
theorem ea5 {α:Type}{d:α}{e:α}:∀ {l:List α} {j:Nat},e∈l->e∈l.eraseIdx j\/e=l.getD j d:=by
 intro l
 induction l with
 | nil=>intro j h; cases h
 | cons x l ih=>
  intro j h
  cases j with
  | zero=>
   rcases List.mem_cons.1 h with rfl|h
   ·exact .inr rfl
   ·exact .inl h
  | succ j=>
   rcases List.mem_cons.1 h with rfl|h
   ·exact .inl (List.mem_cons_self ..)
   ·rcases ih (j:=j) h with h|h
    ·exact .inl (List.mem_cons_of_mem _ h)
    ·exact .inr h
structure TxI (σ0:Store) (n:Int) (id:Nat) (m:Nat) (fr:Frm) (σ:Store):Prop where
 f0:fr.get 0=.int .u8 n
 f6:fr.get 6=.ptr id 0
 next:σ0.next<=σ.next
 low:∀ i,i<σ0.next->σ.obj i=σ0.obj i
 lt:σ0.next<=id
 obj:∃ left cur,σ.obj id=some (.ar7 left cur)/\left.length=m/\(∀ e∈left,e∈opsL)/\∀ e∈opsL,e.2=.int .u8 n->e∈left
theorem gu9 {n:Int}{e:IV×IV}(h:e∈opsL)(hn:e.2=.int .u8 n):e.1=.str (ej6 n):=by
 simp only[opsL,List.mem_cons,List.not_mem_nil,or_false] at h;rcases h with rfl|rfl|rfl|rfl|rfl|rfl<;>cases hn<;>rfl
theorem gb5 {n:Int}(h:∀ e∈opsL,e.2≠.int .u8 n):ej6 n=[]:=by
 have h1:=h (.str [60],.int .u8 1) (by simp[opsL]);have h2:=h (.str [61],.int .u8 2) (by simp[opsL]);have h3:=h (.str [60,61],.int .u8 3) (by simp[opsL]);have h4:=h (.str [62],.int .u8 4) (by simp[opsL]);have h6:=h (.str [62,61],.int .u8 6) (by simp[opsL]);simp only[ne_eq,IV.int.injEq,true_and] at h1 h2 h3 h4 h6;simp[ej6,Ne.symm h1,Ne.symm h2,Ne.symm h3,Ne.symm h4,Ne.symm h6]
theorem ib5 {f g:Nat}{pf:List Nat}{an:Ann}{n:Int}(hf:hh8 P f 16 pf an (hk8 g) [.t 2])(hg:E g=.ac1 [.al6 opsL]):PC P E f [.int .u8 n] (.str (ej6 n)):=by
 refine je1 noT hf (Nat.le_of_ble_eq_true rfl) fun σ hb=>?_
 simp only[hk8,dc4,dc5,cc7,bp4,dc6,cc8,dc7,cc9,fc7,ii6,fc4,fc5,dc8,cd1,dc9,cd2,cd3,bp5,dd2,w_q,cd4,fc8,fc9,cd5,fd2,cd7,bp6,cd6,dd3,dd4,dd5,cd8,bp7,fd3,dd6,fd4,dd7,cd9,ce1,dd8,fd5,fd6,fd7,fd8,fd9,fe1,fe2,fe3,fe4,fe5,dd9,fe6,de1,fe7,de2,ce2,de3,de7,fe8,ii9,ij1,fe9,ff1,ff2,ff3,ff4,ff5,ff6,ff7,ff8,ff9,de8,ce3,bp8,bf5,ce4,bp9,de4,de5,de6,ce5,ii7,ii8,bf7,bq4,cf7,cf8,cf9,cf6,dg2,e_t,e_c,e_g,e_f,fg1,de9,fg2,fg3,fg5,aj5,fg6,df1,ce6,fg7,ce7,fg8,ce8,ce9,fg9,df2,fh1,df3,fh2,fh3,fh4,fh5,df4,df5,eh5,hi8,dy4,eh4,cf1,cf2,df6,df7,cf3,cf4,ij2,bq1,df8,df9,dg1,bq2,cf5,bf6,bq3,bq5,cg1,bq6,bq7,dg3,dg4,eh6,eh7,cg2,cg3,cg5,cg6,dg5,dg6,cg7,bq8,fh6,fh7,fh8,fh9,fi1,fi2,fi3,fi4,fi5,fi6,fi7,fi8,fi9,dg7,dg8,dg9,dh1,dh2,dh3,dh4,dh5,dh6,dh7,bj8,bi2,cg8,cg9,ch1,dh8,dh9,di1,di2,fj1,fj3,di3,fj4,ch2,ch3,ch4,fj7,bn1,hj4,dj1,ch5,ch6,bq9,bk8,by1,fj5,cn7,br1,fj6,cn8,br2,br3,ch7,ch8,ch9,ci1,br4,ci2,ci3,br5,bf8,ba5,br6,ci4,br7,di4,di5,di6,ci5,br8,ci6,ci7,br9,bf9,ba6,bs1,ci8,bs2,di7,di8,di9,List.getElem?_cons_zero,List.getElem?_cons_succ,List.all_cons,List.all_nil,List.drop_zero,List.drop_succ_cons,List.head?_cons,Bool.and_true,Bool.and_self,Frm.bp3,Frm.get_nil,ab5,aa7,decide_true,decide_false,List.append_nil,List.nil_append,List.cons_append,Bool.false_eq_true,Bool.xor_false,Bool.xor_true,Bool.not_true,Bool.not_false,Nat.reduceEqDiff,Nat.reduceAdd,Nat.reduceMul,Nat.reduceLT,Nat.add_zero,Nat.zero_add,Nat.succ_ne_zero,if_true,if_false,↓reduceIte,reduceCtorEq,true_and,and_true,hg];refine hh9 noT (TxI σ n σ.next) opsL.length ⟨rfl,rfl,?_,?_,Nat.le_refl _,opsL,none,?_,rfl,fun _ h=>h,fun _ h _=>h⟩ ?_
 ·show σ.next<=σ.next+1; omega
 ·intro i hi; simp only[aa7]; rw[if_neg (by omega)]
 ·simp only[aa7,if_true]
 ·rintro m fr s ⟨f0,f6,h1,h2,h3,left,cur,h4,h5,h6,h7⟩;have hm:bl8 s (.ptr σ.next 0)=some (σ.next,left):=by simp only[bl8,h4]
  simp only[dc4,dc5,cc7,bp4,dc6,cc8,dc7,cc9,fc7,ii6,fc4,fc5,dc8,cd1,dc9,cd2,cd3,bp5,dd2,w_q,cd4,fc8,fc9,cd5,fd2,cd7,bp6,cd6,dd3,dd4,dd5,cd8,bp7,fd3,dd6,fd4,dd7,cd9,ce1,dd8,fd5,fd6,fd7,fd8,fd9,fe1,fe2,fe3,fe4,fe5,dd9,fe6,de1,fe7,de2,ce2,de3,de7,fe8,ii9,ij1,fe9,ff1,ff2,ff3,ff4,ff5,ff6,ff7,ff8,ff9,de8,ce3,bp8,bf5,ce4,bp9,de4,de5,de6,ce5,ii7,ii8,bf7,bq4,cf7,cf8,cf9,cf6,dg2,e_t,e_c,e_g,e_f,fg1,de9,fg2,fg3,fg5,aj5,fg6,df1,ce6,fg7,ce7,fg8,ce8,ce9,fg9,df2,fh1,df3,fh2,fh3,fh4,fh5,df4,df5,eh5,hi8,dy4,eh4,cf1,cf2,df6,df7,cf3,cf4,ij2,bq1,df8,df9,dg1,bq2,cf5,bf6,bq3,bq5,cg1,bq6,bq7,dg3,dg4,eh6,eh7,cg2,cg3,cg5,cg6,dg5,dg6,cg7,bq8,fh6,fh7,fh8,fh9,fi1,fi2,fi3,fi4,fi5,fi6,fi7,fi8,fi9,dg7,dg8,dg9,dh1,dh2,dh3,dh4,dh5,dh6,dh7,bj8,bi2,cg8,cg9,ch1,dh8,dh9,di1,di2,fj1,fj3,di3,fj4,ch2,ch3,ch4,fj7,bn1,hj4,dj1,ch5,ch6,bq9,bk8,by1,fj5,cn7,br1,fj6,cn8,br2,br3,ch7,ch8,ch9,ci1,br4,ci2,ci3,br5,bf8,ba5,br6,ci4,br7,di4,di5,di6,ci5,br8,ci6,ci7,br9,bf9,ba6,bs1,ci8,bs2,di7,di8,di9,List.getElem?_cons_zero,List.getElem?_cons_succ,List.all_cons,List.all_nil,List.drop_zero,List.drop_succ_cons,List.head?_cons,Bool.and_true,Bool.and_self,Frm.bp3,Frm.get_nil,ab5,aa7,decide_true,decide_false,List.append_nil,List.nil_append,List.cons_append,Bool.false_eq_true,Bool.xor_false,Bool.xor_true,Bool.not_true,Bool.not_false,Nat.reduceEqDiff,Nat.reduceAdd,Nat.reduceMul,Nat.reduceLT,Nat.add_zero,Nat.zero_add,Nat.succ_ne_zero,if_true,if_false,↓reduceIte,reduceCtorEq,true_and,and_true,f0,f6,hm];constructor
  ·intro h0;subst h0;have hno:∀ e∈opsL,e.2≠.int .u8 n:=fun e he hn=>by have:=h7 e he hn; cases this
   refine ⟨fun i hi=>h2 i hi,h1,?_⟩;rw[gb5 hno];exact .keep _ (.str _)
  ·intro j hj;have hmem:left.getD j (.undef,.undef)∈left:=ad2 _ hj;have hops:=h6 _ hmem;have hment:∀ c x,cn4 ⟨x,(s.put σ.next (.ar7 (left.eraseIdx j) (some c))).obj⟩ (.ptr σ.next 0)=some (.tuple [c.1,c.2]):=fun c x=>by simp only[cn4,aa7,if_true]
   generalize hc:left.getD j (.undef,.undef)=c at hmem hops ⊢
   obtain ⟨k,hk⟩:∃ k,c.2=.int .u8 k:=by
    simp only[opsL,List.mem_cons,List.not_mem_nil,or_false] at hops;rcases hops with rfl|rfl|rfl|rfl|rfl|rfl<;>exact ⟨_,rfl⟩
   simp only[hment,dc4,dc5,cc7,bp4,dc6,cc8,dc7,cc9,fc7,ii6,fc4,fc5,dc8,cd1,dc9,cd2,cd3,bp5,dd2,w_q,cd4,fc8,fc9,cd5,fd2,cd7,bp6,cd6,dd3,dd4,dd5,cd8,bp7,fd3,dd6,fd4,dd7,cd9,ce1,dd8,fd5,fd6,fd7,fd8,fd9,fe1,fe2,fe3,fe4,fe5,dd9,fe6,de1,fe7,de2,ce2,de3,de7,fe8,ii9,ij1,fe9,ff1,ff2,ff3,ff4,ff5,ff6,ff7,ff8,ff9,de8,ce3,bp8,bf5,ce4,bp9,de4,de5,de6,ce5,ii7,ii8,bf7,bq4,cf7,cf8,cf9,cf6,dg2,e_t,e_c,e_g,e_f,fg1,de9,fg2,fg3,fg5,aj5,fg6,df1,ce6,fg7,ce7,fg8,ce8,ce9,fg9,df2,fh1,df3,fh2,fh3,fh4,fh5,df4,df5,eh5,hi8,dy4,eh4,cf1,cf2,df6,df7,cf3,cf4,ij2,bq1,df8,df9,dg1,bq2,cf5,bf6,bq3,bq5,cg1,bq6,bq7,dg3,dg4,eh6,eh7,cg2,cg3,cg5,cg6,dg5,dg6,cg7,bq8,fh6,fh7,fh8,fh9,fi1,fi2,fi3,fi4,fi5,fi6,fi7,fi8,fi9,dg7,dg8,dg9,dh1,dh2,dh3,dh4,dh5,dh6,dh7,bj8,bi2,cg8,cg9,ch1,dh8,dh9,di1,di2,fj1,fj3,di3,fj4,ch2,ch3,ch4,fj7,bn1,hj4,dj1,ch5,ch6,bq9,bk8,by1,fj5,cn7,br1,fj6,cn8,br2,br3,ch7,ch8,ch9,ci1,br4,ci2,ci3,br5,bf8,ba5,br6,ci4,br7,di4,di5,di6,ci5,br8,ci6,ci7,br9,bf9,ba6,bs1,ci8,bs2,di7,di8,di9,List.getElem?_cons_zero,List.getElem?_cons_succ,List.all_cons,List.all_nil,List.drop_zero,List.drop_succ_cons,List.head?_cons,Bool.and_true,Bool.and_self,Frm.bp3,Frm.get_nil,ab5,aa7,decide_true,decide_false,List.append_nil,List.nil_append,List.cons_append,Bool.false_eq_true,Bool.xor_false,Bool.xor_true,Bool.not_true,Bool.not_false,Nat.reduceEqDiff,Nat.reduceAdd,Nat.reduceMul,Nat.reduceLT,Nat.add_zero,Nat.zero_add,Nat.succ_ne_zero,if_true,if_false,↓reduceIte,reduceCtorEq,true_and,and_true,hk];by_cases hkn:k=n
   ·subst hkn;simp only[dc4,dc5,cc7,bp4,dc6,cc8,dc7,cc9,fc7,ii6,fc4,fc5,dc8,cd1,dc9,cd2,cd3,bp5,dd2,w_q,cd4,fc8,fc9,cd5,fd2,cd7,bp6,cd6,dd3,dd4,dd5,cd8,bp7,fd3,dd6,fd4,dd7,cd9,ce1,dd8,fd5,fd6,fd7,fd8,fd9,fe1,fe2,fe3,fe4,fe5,dd9,fe6,de1,fe7,de2,ce2,de3,de7,fe8,ii9,ij1,fe9,ff1,ff2,ff3,ff4,ff5,ff6,ff7,ff8,ff9,de8,ce3,bp8,bf5,ce4,bp9,de4,de5,de6,ce5,ii7,ii8,bf7,bq4,cf7,cf8,cf9,cf6,dg2,e_t,e_c,e_g,e_f,fg1,de9,fg2,fg3,fg5,aj5,fg6,df1,ce6,fg7,ce7,fg8,ce8,ce9,fg9,df2,fh1,df3,fh2,fh3,fh4,fh5,df4,df5,eh5,hi8,dy4,eh4,cf1,cf2,df6,df7,cf3,cf4,ij2,bq1,df8,df9,dg1,bq2,cf5,bf6,bq3,bq5,cg1,bq6,bq7,dg3,dg4,eh6,eh7,cg2,cg3,cg5,cg6,dg5,dg6,cg7,bq8,fh6,fh7,fh8,fh9,fi1,fi2,fi3,fi4,fi5,fi6,fi7,fi8,fi9,dg7,dg8,dg9,dh1,dh2,dh3,dh4,dh5,dh6,dh7,bj8,bi2,cg8,cg9,ch1,dh8,dh9,di1,di2,fj1,fj3,di3,fj4,ch2,ch3,ch4,fj7,bn1,hj4,dj1,ch5,ch6,bq9,bk8,by1,fj5,cn7,br1,fj6,cn8,br2,br3,ch7,ch8,ch9,ci1,br4,ci2,ci3,br5,bf8,ba5,br6,ci4,br7,di4,di5,di6,ci5,br8,ci6,ci7,br9,bf9,ba6,bs1,ci8,bs2,di7,di8,di9,List.getElem?_cons_zero,List.getElem?_cons_succ,List.all_cons,List.all_nil,List.drop_zero,List.drop_succ_cons,List.head?_cons,Bool.and_true,Bool.and_self,Frm.bp3,Frm.get_nil,ab5,aa7,decide_true,decide_false,List.append_nil,List.nil_append,List.cons_append,Bool.false_eq_true,Bool.xor_false,Bool.xor_true,Bool.not_true,Bool.not_false,Nat.reduceEqDiff,Nat.reduceAdd,Nat.reduceMul,Nat.reduceLT,Nat.add_zero,Nat.zero_add,Nat.succ_ne_zero,if_true,if_false,↓reduceIte,reduceCtorEq,true_and,and_true];refine ⟨fun i hi=>by rw[if_neg (by omega)]; exact h2 i hi,h1,?_⟩;rw[gu9 hops hk];exact .keep _ (.str _)
   ·simp only[dc4,dc5,cc7,bp4,dc6,cc8,dc7,cc9,fc7,ii6,fc4,fc5,dc8,cd1,dc9,cd2,cd3,bp5,dd2,w_q,cd4,fc8,fc9,cd5,fd2,cd7,bp6,cd6,dd3,dd4,dd5,cd8,bp7,fd3,dd6,fd4,dd7,cd9,ce1,dd8,fd5,fd6,fd7,fd8,fd9,fe1,fe2,fe3,fe4,fe5,dd9,fe6,de1,fe7,de2,ce2,de3,de7,fe8,ii9,ij1,fe9,ff1,ff2,ff3,ff4,ff5,ff6,ff7,ff8,ff9,de8,ce3,bp8,bf5,ce4,bp9,de4,de5,de6,ce5,ii7,ii8,bf7,bq4,cf7,cf8,cf9,cf6,dg2,e_t,e_c,e_g,e_f,fg1,de9,fg2,fg3,fg5,aj5,fg6,df1,ce6,fg7,ce7,fg8,ce8,ce9,fg9,df2,fh1,df3,fh2,fh3,fh4,fh5,df4,df5,eh5,hi8,dy4,eh4,cf1,cf2,df6,df7,cf3,cf4,ij2,bq1,df8,df9,dg1,bq2,cf5,bf6,bq3,bq5,cg1,bq6,bq7,dg3,dg4,eh6,eh7,cg2,cg3,cg5,cg6,dg5,dg6,cg7,bq8,fh6,fh7,fh8,fh9,fi1,fi2,fi3,fi4,fi5,fi6,fi7,fi8,fi9,dg7,dg8,dg9,dh1,dh2,dh3,dh4,dh5,dh6,dh7,bj8,bi2,cg8,cg9,ch1,dh8,dh9,di1,di2,fj1,fj3,di3,fj4,ch2,ch3,ch4,fj7,bn1,hj4,dj1,ch5,ch6,bq9,bk8,by1,fj5,cn7,br1,fj6,cn8,br2,br3,ch7,ch8,ch9,ci1,br4,ci2,ci3,br5,bf8,ba5,br6,ci4,br7,di4,di5,di6,ci5,br8,ci6,ci7,br9,bf9,ba6,bs1,ci8,bs2,di7,di8,di9,List.getElem?_cons_zero,List.getElem?_cons_succ,List.all_cons,List.all_nil,List.drop_zero,List.drop_succ_cons,List.head?_cons,Bool.and_true,Bool.and_self,Frm.bp3,Frm.get_nil,ab5,aa7,decide_true,decide_false,List.append_nil,List.nil_append,List.cons_append,Bool.false_eq_true,Bool.xor_false,Bool.xor_true,Bool.not_true,Bool.not_false,Nat.reduceEqDiff,Nat.reduceAdd,Nat.reduceMul,Nat.reduceLT,Nat.add_zero,Nat.zero_add,Nat.succ_ne_zero,if_true,if_false,↓reduceIte,reduceCtorEq,true_and,and_true,hkn];refine ⟨left.length-1,by omega,rfl,rfl,h1,fun i hi=>?_,Nat.le_refl _,left.eraseIdx j,some c,?_,?_,fun e he=>h6 e (List.mem_of_mem_eraseIdx he),fun e he hn=>?_⟩
    ·simp only[aa7]; rw[if_neg (by omega)]; exact h2 i hi
    ·simp only[aa7,if_true]
    ·rw[List.length_eraseIdx_of_lt hj]
    ·have h8:=h7 e he hn;rcases ea5 (d:=(IV.undef,IV.undef)) (j:=j) h8 with h9|h9
     ·exact h9
     ·rw[h9] at hn; rw[hc,hk] at hn; cases hn; exact absurd rfl hkn
end Go.Id
set_option linter.all false
namespace Go.Id
open Go
variable {P:Program} {E:Nat->IV} {σ σ':Store} {N n0:Nat} {fr:Frm}
def upQ (I:Nat->Frm->Store->Prop)(i n:Nat)(Q:Exit->Frm->Store->Prop):Exit->Frm->Store->Prop
 | .normal,fr,σ=>i<n/\I (i+1) fr σ
 | e,fr,σ=>Q e fr σ
theorem ji3 {I:Nat->Frm->Store->Prop}{i n:Nat}{Q:Exit->Frm->Store->Prop}:upQ I i n Q .normal fr σ=(i<n/\I (i+1) fr σ):=nr rfl
theorem ji4 {I:Nat->Frm->Store->Prop}{i n k:Nat}{Q:Exit->Frm->Store->Prop}:upQ I i n Q (.exit k) fr σ=Q (.exit k) fr σ:=nr rfl
theorem ji5 {I:Nat->Frm->Store->Prop}{i n:Nat}{Q:Exit->Frm->Store->Prop}:upQ I i n Q .ret fr σ=Q .ret fr σ:=nr rfl
theorem ab7 {pt:PT}{ct:CT}(hT:TOK P E pt ct){x:IC}{Q:Exit->Frm->Store->Prop}(I:Nat->Frm->Store->Prop)(n:Nat)(h:I 0 fr σ)
  (hI:∀ i fr σ,i<=n->I i fr σ->wpT pt ct P E N n0 x fr σ (upQ I i n Q)):RI P E N n0 (.loop x) fr σ Q:=by
 refine fu6 (fun m fr σ=>∃ i,i<=n/\m=n-i/\I i fr σ) n ⟨0,Nat.zero_le _,rfl,h⟩ ?_;rintro m fr σ ⟨i,hi,rfl,hi0⟩;refine bx9 x fr σ _ _ ?_ (bf4 hT x fr σ _ (hI i fr σ hi hi0));intro e f s q
 cases e with
 | normal=>exact ⟨n-(i+1),by have:=q.1; omega,i+1,q.1,rfl,q.2⟩
 | _=>exact q
theorem ae3 {α:Type}(es:List α)(i:Nat)(h:i<es.length):∃ a,a∈es/\es[i]? = some a/\es.drop i=a::es.drop (i+1)/\(∀ (f:α->List IV),(es.map f).getD i []=f a)/\es.take (i+1)=es.take i++[a]:=
 ⟨es[i],List.getElem_mem h,List.getElem?_eq_getElem h,List.drop_eq_getElem_cons h,fun f=>by simp[List.getD_eq_getElem?_getD,h],by rw[List.take_add_one,List.getElem?_eq_getElem h]; rfl⟩
theorem fx3 (s:List UInt8)(i:Nat)(h:i<s.length):((⟨s.toArray⟩:ByteArray).get! i)=s[i]:=by
 show (s.toArray)[i]! = s[i];simp[h]
theorem fb4 (s:List UInt8)(i:Nat)(h:i<s.length)(hb:s[i].toNat<128):Utf8.decode ⟨s.toArray⟩ i=(s[i].toNat,1):=by
 unfold Utf8.decode;simp only[Nat.add_zero,fx3 s i h];rw[if_pos hb]
theorem decode_high (s:List UInt8)(i:Nat)(h:i<s.length)(hb:¬ s[i].toNat<128):128<=(Utf8.decode ⟨s.toArray⟩ i).1:=by
 unfold Utf8.decode;simp only[Nat.add_zero,fx3 s i h];rw[if_neg hb];have e:Utf8.runeError=65533:=rfl
 repeat' split
 all_goals first|(rw[e]; omega)|(simp only[ge_iff_le,Bool.and_eq_true,decide_eq_true_eq] at *; omega)
def gp2 (P:Program)(E:Nat->IV)(id:Nat)(I:List (List IV)->Store->Prop)(S:Store->Prop):Prop :=
 ∀ a rest σ,I (a::rest) σ->CV P E (.yield id) a σ fun v s=>σ.next<=s.next/\((v=.bool true/\I rest s)\/(v=.bool false/\S s))
end Go.Id
/- The walk's rewriting rules,marked. Conditions: none; over any program. -/
namespace Go.Id
open Go
attribute [go_sem] dc4 dc5 cc7 bp4 dc6 cc8 dc7 cc9 fc7 ii6 fc4 fc5 dc8 cd1 dc9 cd2 cd3 bp5 dd2 w_q cd4
 fc8 fc9 cd5 fd2 cd7 bp6 cd6 dd3 dd4 dd5 cd8 bp7 fd3 dd6 fd4 dd7 cd9 ce1 dd8 fd5
 fd6 fd7 fd8 fd9 fe1 fe2 fe3 fe4 fe5 dd9 fe6 de1 fe7 de2 ce2 de3 de7 fe8 ii9 ij1 fe9 ff1 ff2 ff3
 ff4 ff5 ff6 ff7 ff8 ff9 de8 ce3 bp8 bf5 ce4 bp9 de4 de5 de6 ce5 ii7 ii8 bf7 bq4
 cf7 cf8 cf9 cf6 dg2 e_t e_c e_g e_f fg1 de9 fg2 fg3 fg5 aj5 fg6 df1 ce6 fg7 ce7 fg8 ce8
 ce9 fg9 df2 fh1 df3 fh2 fh3 fh4 fh5 df4 df5 eh5 hi8 dy4 eh4 cf1 cf2 df6 df7 cf3 cf4 ij2
 bq1 df8 df9 dg1 bq2 cf5 bf6 bq3 bq5 cg1 bq6 bq7 dg3 dg4 eh6 eh7 cg2 cg3
 cg5 cg6 dg5 dg6 cg7 bq8 fh6 fh7 fh8 fh9 fi1 fi2 fi3 fi4 fi5 fi6 fi7 fi8 fi9 dg7 dg8 dg9
 dh1 dh2 dh3 dh4 dh5 dh6 dh7 ip3 ip4 ip5 ip6 bj8 bi2 cg8 cg9 ch1 dh8 dh9 di1 di2 fj1 fj3 di3 fj4
 ch2 ch3 ch4 fj7 bn1 hj4 dj1 ch5 ch6 bq9 bk8 by1 fj5 cn7 br1 fj6 cn8 br2 br3 ch7
 ch8 ch9 ci1 br4 ci2 ci3 br5 bf8 ba5 br6 ci4 br7 di4 di5 di6 ci5 br8
 ci6 ci7 br9 bf9 ba6 bs1 ci8 bs2 di7 di8 di9 Frm.bp3 Frm.get_nil ab5 aa7 ji3 ji4
 ji5 eh5 hi8 dy4 eh4 jd8 ip2 
attribute [go_sem] List.getElem?_cons_zero List.getElem?_cons_succ List.all_cons List.all_nil List.drop_zero List.drop_succ_cons List.head?_cons Bool.and_true Bool.and_self List.append_nil List.nil_append List.cons_append Bool.false_eq_true Bool.xor_false Bool.xor_true Bool.not_true Bool.not_false Nat.add_zero Nat.zero_add Nat.succ_ne_zero if_true if_false true_and and_true
end Go.Id
namespace Go.Id
open Go
variable {P:Program} {E:Nat->IV} {σ σ':Store} {N n0:Nat} {fr:Frm} {pf:List Nat}
theorem ay9 {f:Nat}{ic:IC}{irs:List IR}{args:List IV}{v:IV}(hf:FOK P f (N,ic,irs))(hl:args.length<=N)
  (h:∀ σ,wpT noP noC P E N σ.next ic (bi1 args 0) σ (fz2 irs fun v' σ'=>v'=v/\σ'=σ)):PC P E f args v:=by
 obtain ⟨_,pf,an,h1⟩:=hf;exact jl1 noT h1 hl h
theorem C_f {f:Nat}{ic:IC}{irs:List IR}{args:List IV}{Qc:IV->Store->Prop}(hf:FOK P f (N,ic,irs))(hl:args.length<=N)
  (h:wpT noP noC P E N σ.next ic (bi1 args 0) σ (fz2 irs Qc)):C P E f args σ Qc:=by
 obtain ⟨_,pf,an,h1⟩:=hf;exact C_T noT h1 hl h
def emp:Store:=⟨0,fun _=>none⟩
theorem gp3:emp.next=0:=nr rfl
theorem hs9 {i:Nat}:emp.obj i=none:=nr rfl
attribute [go_sem] gp3 hs9
theorem ae8 {f:Nat}{ic:IC}{irs:List IR}{args:List IV}{v:IV}(hE:∀ g,Bnd 0 (E g))(hf:FOK P f (N,ic,irs))(hl:args.length<=N)(ha:∀ a∈args,Bnd 0 a)
  (h:wpT noP noC P E N 0 ic (bi1 args 0) emp (fz2 irs fun v' σ'=>cm1 σ' 0 v' v)):PC P E f args v :=
 eq9 hE ha (C_f (σ:=emp) hf hl h)
theorem aa4 {f:Nat}{e:FE}{args:List IV}{v:IV}{K:IV->Store->Prop}(hf:FOK P f e)(h:PC P E f args v)(hk:K v σ):ct6 P E none f args σ K :=
 ao1 hf.1 (eh8 h) fun _ _ ⟨h1,h2⟩=>by subst h1; subst h2; exact ⟨Nat.le_refl _,hk⟩
theorem ah1 {f:Nat}{e:FE}{args:List IV}{Qc:IV->Store->Prop}{K:IV->Store->Prop}(hf:FOK P f e)(h:C P E f args σ Qc)(hk:∀ v s,Qc v s->σ.next<=s.next/\K v s):ct6 P E none f args σ K :=
 ao1 hf.1 h hk
theorem ab3 {S:Nat->Prop}(b:Bool):Frz σ S (.bool b) (.bool b):=.keep _ (.bool _)
theorem ae1 {S:Nat->Prop}(k:IntKind)(n:Int):Frz σ S (.int k n) (.int k n):=.keep _ (.int _ _)
theorem bh7 {S:Nat->Prop}(s:List UInt8):Frz σ S (.str s) (.str s):=.keep _ (.str _)
theorem hh2 {ρ:Rho}{w:World}{v:IV}{rargs:Array Value}(h:CR ρ w [v] rargs):VR ρ w v (rargs.getD 0 undef):=by
 have:=h.2 0 (Nat.zero_lt_one)
 simpa using this
theorem eq2 {ρ:Rho}{w:World}{u v:IV}{rargs:Array Value}(h:CR ρ w [u] rargs)(hv:VR ρ w v (rargs.getD 0 undef)):CR ρ w [v] rargs :=
 ⟨h.1,fun i hi=>by
  have:i=0:=by simp at hi; omega
  subst this
  simpa using hv⟩
theorem bm5 {f:Nat}{v:IV}(h1:PC P E f [.aa1] v)(h2:PC P E f [.af3] v):PC P E f [.aa5 []] v:=by
 intro σ ρ w rargs hs hr;have hv:=hh2 hr;generalize hx:rargs.getD 0 undef=r at hv
 cases hv with
 | ca8=>exact h1 σ ρ w rargs hs (eq2 hr (by rw[hx]; exact .aa1))
 | aa5 es b o cap esz sp vs hf hsz hc hv hle=>exact h2 σ ρ w rargs hs (eq2 hr (by rw[hx]; exact .af3 _ _))
theorem ad6 {i:Nat}(h:i<2^62):IntKind.i64.wrap ((i:Int)+1)=((i+1:Nat):Int):=by
 rw[wrap64 (by omega) (by omega)]; omega
theorem ht4 {cs:List IV}:aw5 cs []=some cs:=by simp only[aw5]
theorem ht5 {cs:List IV}{off n:Nat}{v:IV}{ps:List (Nat×Nat×IV)}:aw5 cs ((off,n,v)::ps)=if v.cs.length=n/\off+n<=cs.length/\v.cs.all IV.leaf=true then aw5 (ba9 cs off v.cs) ps else none:=by simp only[aw5]
theorem il5 {c:IV}{cs:List IV}{vs:List IV}:ba9 (c::cs) 0 vs=vs++(c::cs).drop vs.length:=by simp[ba9]
theorem il6 {c:IV}{cs vs:List IV}{n:Nat}:ba9 (c::cs) (n+1) vs=c::ba9 cs n vs:=by simp[ba9,Nat.add_right_comm]
theorem il7 {d:TypeId}{a:List IV}{aZ:List (List IV)}:bv7 (.slice d) (.aa5 (a::aZ))=some false:=nr rfl
theorem il8 {d:TypeId}:bv7 (.slice d) .aa1=some true:=nr rfl
theorem il9 {d:TypeId}:bv7 (.slice d) .af3=some false:=nr rfl
theorem im1 {d:TypeId}:bv7 (.slice d) .ac8=some false:=nr rfl
theorem im2 {d:TypeId}{i o l e:Nat}:bv7 (.slice d) (.slice i o l e)=some false:=nr rfl
theorem ar9 {d:TypeId}:bv7 (.pointer d) .ab6=some true:=nr rfl
theorem ht6 {d:TypeId}{cs:List IV}:bv7 (.pointer d) (.ac1 cs)=some false:=nr rfl
theorem ht7 {d:TypeId}{i o:Nat}:bv7 (.pointer d) (.ptr i o)=some false:=nr rfl
theorem gp4 {e:Nat}{l:List IV}:chunk e 0 l=[]:=nr rfl
theorem gp5 {e n:Nat}{l:List IV}:chunk e (n+1) l=l.take e::chunk e n (l.drop e):=nr rfl
theorem im3 {z:List IV}:rep z 0=[]:=nr rfl
theorem im4 {z:List IV}{n:Nat}:rep z (n+1)=z++rep z n:=nr rfl
theorem ht8 {off:Nat}{cs:List IV}:be7 none off cs=cs[off]?:=nr rfl
theorem ht9 {off n:Nat}{cs:List IV}:be7 (some n) off cs=if off+n<=cs.length then some (.agg ((cs.drop off).take n)) else none:=nr rfl
theorem im5 {ag:Option Nat}{off:Nat}{cs:List IV}:ih9 ag off (.agg cs)=be7 ag off cs:=nr rfl
theorem im6 {ag:Option Nat}{n esz:Nat}{cs:List IV}{k:IntKind}{i:Int}:ho5 ag n esz (.agg cs) (.int k i)=if 0<=i/\i<n then be7 ag (i.toNat*esz) cs else none:=nr rfl
theorem gp6 {n esz:Nat}{v:IV}{k:IntKind}{i:Int}:da6 n esz v (.int k i)=if 0<=i/\i<n then cn2 (i.toNat*esz) v else none:=nr rfl
theorem cc2 {s:List UInt8}{k:IntKind}{i:Int}:du6 (.str s) (.int k i)=if 0<=i then (s[i.toNat]?).map fun b=>.int .u8 b.toNat else none:=nr rfl
theorem hh4 {tags:List Nat}{neg:Bool}{xs ys:List IV}:he9 tags true neg (.agg xs) (.agg ys)=(allEq tags xs ys).map fun b=>.bool (b ^^ neg):=nr rfl
theorem hh5:allEq [] [] []=some true:=nr rfl
def iz5:Option Bool->Option Bool->Option Bool
 | some a,some b=>some (a&&b)
 | _,_=>none
theorem im7 {a b:Bool}:iz5 (some a) (some b)=some (a&&b):=nr rfl
theorem hh6 {t:Nat}{ts:List Nat}{x y:IV}{xs ys:List IV}:allEq (t::ts) (x::xs) (y::ys)=iz5 (aj9 t x y) (allEq ts xs ys):=by
 simp only[allEq]; cases aj9 t x y<;>cases allEq ts xs ys<;>rfl
theorem im8 {k:IntKind}{a b:Int}:aj9 1 (.int k a) (.int k b)=some (decide (a=b)):=by simp[aj9]
theorem im9 {a b:List UInt8}:aj9 2 (.str a) (.str b)=some (decide (a=b)):=nr rfl
theorem eq3 {a b:List UInt8}:an8 2 (.str a) (.str b)=some (decide (a=b)):=nr rfl
theorem in1 {a b:Bool}:aj9 0 (.bool a) (.bool b)=some (a==b):=nr rfl
attribute [go_sem] hh4 hh5 hh6 im7 in1 im8 im9
attribute [go_sem] ht4 ht5 il5 il6 il7 il8 il9 im1 im2 ar9 ht6 ht7 gp4 gp5 im3 im4 ht8 ht9 im5 im6 gp6 cc2
attribute [go_sem] Bool.true_or Bool.or_true Bool.false_or Bool.or_false Bool.true_and Bool.false_and Bool.and_false
attribute [go_sem] List.length_cons List.length_nil List.take_succ_cons List.take_zero List.length_map Int.toNat_natCast
end Go.Id
/- Ranging over functions that tell rows: tellers,and the loops over them. Conditions: none; over any program. -/
namespace Go.Id
open Go
variable {P:Program} {E:Nat->IV} {σ σ':Store} {N n0:Nat} {fr:Frm}
def ix3 (I:List (List IV)->Store->Prop):Prop:=∀ rest s s',I rest s->s.next<=s'.next->(∀ i,i<s.next->s'.obj i=s.obj i)->I rest s'
def in2 (n:Nat)(I:List (List IV)->Store->Prop)(S:Store->Prop):IV->Store->Prop:=fun _ s=>n<=s.next/\(I [] s\/S s)
def eq4 (P:Program)(E:Nat->IV)(fv:IV)(evs:List (List IV))(own:Store->Prop):Prop :=
 ∀ (yid:Nat) (I:List (List IV)->Store->Prop) (S:Store->Prop) (σ:Store),(∀ rest s,I rest s->own s)->ix3 I->gp2 P E yid I S->I evs σ->CVf P E fv [.yield yid] σ (in2 σ.next I S)
def jg4 (P:Program)(E:Nat->IV)(N n0:Nat)(id:Nat)(L:LoopState->Option JX->ak5)(x:IC)(K:IV->Store->Prop):Exit->Frm->Store->Prop
 | .normal,f,s=>s.obj id=some (L .ready none)/\wpT noP noC P E N n0 x f (s.put id (L .busy none)) (cs3 id L K)
 | _,_,_=>False
theorem iz6 {id:Nat}{L:LoopState->Option JX->ak5}{x:IC}{K:IV->Store->Prop}:jg4 P E N n0 id L x K .normal fr σ=(σ.obj id=some (L .ready none)/\wpT noP noC P E N n0 x fr (σ.put id (L .busy none)) (cs3 id L K)):=nr rfl
theorem iz7 {id:Nat}{L:LoopState->Option JX->ak5}{K:IV->Store->Prop}:cs3 id L K .normal fr σ=(σ.obj id=some (L .busy none)/\K (.bool true) (σ.put id (L .ready none))):=nr rfl
theorem iz8 {id:Nat}{L:LoopState->Option JX->ak5}{K:IV->Store->Prop}:cs3 id L K .ret fr σ=(σ.obj id=some (L .busy none)/\K (.bool false) (σ.put id (L .done (some .ret)))):=nr rfl
theorem iz9 {id i:Nat}{L:LoopState->Option JX->ak5}{K:IV->Store->Prop}:cs3 id L K (.exit i) fr σ=(σ.obj id=some (L .busy none)/\K (.bool false) (σ.put id (L .done (some (.exit i))))):=nr rfl
theorem hu4:cz7 fr [] []=fr:=nr rfl
theorem hu5 {p:Nat}{ps:List Nat}{v:IV}{vs:List IV}:cz7 fr (p::ps) (v::vs)=cz7 (fr.set p v) ps vs:=nr rfl
theorem ja1 {p:Nat}{v:IV}:fr.set p v=(p,v)::fr:=nr rfl
def goQ (id n:Nat)(L:LoopState->Option JX->ak5)(J:List (List IV)->Store->Prop)(Q:Exit->Frm->Store->Prop)(fr:Frm)(rest:List (List IV)):IV->Store->Prop:=fun v s=>
 n<=s.next/\((v=.bool true/\s.obj id=some (L .ready none)/\J rest s)\/(v=.bool false/\∃ st pend,st≠.busy/\s.obj id=some (L st pend)/\hr7 Q fr (s.kill id) pend))
theorem eg3 {id n:Nat}{L:LoopState->Option JX->ak5}{J:List (List IV)->Store->Prop}{Q:Exit->Frm->Store->Prop}{rest:List (List IV)}(h1:n<=σ.next)(h2:σ.obj id=some (L .ready none))(h3:J rest σ):goQ id n L J Q fr rest (.bool true) σ:=⟨h1,.inl ⟨rfl,h2,h3⟩⟩
theorem ct2 {id n:Nat}{L:LoopState->Option JX->ak5}{J:List (List IV)->Store->Prop}{Q:Exit->Frm->Store->Prop}{rest:List (List IV)}(h1:n<=σ.next)(h2:σ.obj id=some (L .done (some .ret)))(h3:Q .ret fr (σ.kill id)):goQ id n L J Q fr rest (.bool false) σ:=⟨h1,.inr ⟨rfl,.done,some .ret,(fun h=>by cases h),h2,h3⟩⟩
theorem do3 {g:IX}{ps:List Nat}{y x:IC}{Q:Exit->Frm->Store->Prop}{evs:List (List IV)}{own:Store->Prop}(hT:eq4 P E (g.ev E fr) evs own)
  (J:List (List IV)->Store->Prop) (hown:∀ rest s,J rest s->own s) (hstab:ix3 J) (hlen:∀ a∈evs,a.length=ps.length)
  (hinit:∀ o,J evs ⟨σ.next+1,(σ.put σ.next o).obj⟩)
  (hbody:∀ (L:LoopState->Option JX->ak5) (pre:List (List IV)) (a:List IV) (rest:List (List IV)) (s:Store),evs=pre++a::rest->J (a::rest) s->s.obj σ.next=some (L .ready none)->σ.next<s.next ->
   wpT noP noC P E N s.next y (cz7 fr ps a) s (jg4 P E N s.next σ.next L x (goQ σ.next s.next L J Q fr rest)))
  (hend:∀ s o,J [] s->σ.next<s.next->s.obj σ.next=some o->Q .normal fr (s.kill σ.next)) :
  RI P E N n0 (.bs8 g ps y x) fr σ Q:=by
 refine gn7 fun L hL=>?_
 let I:List (List IV)->Store->Prop:=fun rest s=>(∃ pre,evs=pre++rest)/\s.obj σ.next=some (L .ready none)/\σ.next<s.next/\J rest s
 let S:Store->Prop:=fun s=>∃ st pend,st≠.busy/\s.obj σ.next=some (L st pend)/\hr7 Q fr (s.kill σ.next) pend
 have hI:ix3 I:=by
  rintro rest s s' ⟨hp,h1,h2,h3⟩ hn hs;exact ⟨hp,by rw[hs _ h2]; exact h1,Nat.lt_of_lt_of_le h2 hn,hstab rest s s' h3 hn hs⟩
 have hst:gp2 P E σ.next I S:=by
  rintro a rest s ⟨⟨pre,hp⟩,h1,h2,h3⟩;refine ⟨by rw[h1]; rfl,?_⟩;have hb:=hbody L pre a rest s hp h3 h1 h2;refine hL s a _ (hlen a (by rw[hp]; simp)) h1 ?_;refine (bl9 y _ _ _ (bx9 y _ _ _ _ ?_ (bf4 noT y _ _ _ hb)));intro e f s1 q
  cases e with
  | normal=>
   refine ⟨rfl,q.1,?_⟩;refine (bl9 x _ _ _ (bx9 x _ _ _ _ ?_ (bf4 noT x _ _ _ q.2)))
   have hK:∀ v s2,goQ σ.next s.next L J Q fr rest v s2->s.next<=s2.next/\((v=.bool true/\I rest s2)\/(v=.bool false/\S s2)):=by
    rintro v s2 ⟨hn,h|h⟩
    ·exact ⟨hn,.inl ⟨h.1,⟨pre++[a],by rw[hp]; simp⟩,h.2.1,Nat.lt_of_lt_of_le h2 hn,h.2.2⟩⟩
    ·exact ⟨hn,.inr ⟨h.1,h.2⟩⟩
   intro e f s2 q2
   cases e with
   | normal=>exact ⟨q2.1,hK _ _ q2.2⟩
   | ret=>exact ⟨q2.1,hK _ _ q2.2⟩
   | exit i=>exact ⟨q2.1,hK _ _ q2.2⟩
   | _=>exact q2
  | _=>exact q.elim
 have h:=hT σ.next I S ⟨σ.next+1,(σ.put σ.next (L .ready none)).obj⟩ (fun rest s h=>hown rest s h.2.2.2) hI hst ⟨⟨[],rfl⟩,by simp only[aa7,if_true],Nat.lt_succ_self _,hinit _⟩;refine h.mono ?_;rintro v s ⟨hn,h|h⟩
 ·exact ⟨Nat.le_of_lt hn,.ready,none,(fun h=>by cases h),h.2.1,hend s _ h.2.2.2 h.2.2.1 h.2.1⟩
 ·exact ⟨Nat.le_of_lt hn,h⟩
theorem cn5 {yid:Nat}{I:List (List IV)->Store->Prop}{S:Store->Prop}{a:List IV}{rest:List (List IV)}{K:IV->Store->Prop}(h:gp2 P E yid I S)(hi:I (a::rest) σ)
  (h1:∀ s,σ.next<=s.next->I rest s->K (.bool true) s) (h2:∀ s,σ.next<=s.next->S s->K (.bool false) s):fz3 noC P E (.yield yid) a σ K:=by
 refine ⟨_,h a rest σ hi,?_⟩;rintro v s ⟨hn,⟨rfl,h⟩|⟨rfl,h⟩⟩
 ·exact ⟨hn,h1 s hn h⟩
 ·exact ⟨hn,h2 s hn h⟩
theorem fx4 {i:Nat}:(σ.kill i).next=σ.next:=nr rfl
theorem gp7 {i j:Nat}:(σ.kill i).obj j=if j=i then none else σ.obj j:=nr rfl
attribute [go_sem] fx4 gp7
attribute [go_sem] iz6 iz7 iz8 iz9 hu4 hu5 ja1
end Go.Id
/- Rows that grow,one by one; what is done with,aZ trees. Conditions: none; over any program. -/
namespace Go.Id
open Go
variable {P:Program} {E:Nat->IV} {σ σ':Store} {N n0:Nat} {fr:Frm}
def ja2 (σ:Store):IV->Prop
 | .ac1 _=>True
 | .ptr i _=>match σ.obj i with
  | some (.cells _)=>True
  | _=>False
 | _=>False
def jg5:Option ak5->Prop
 | some (.cells _)=>True
 | _=>False
theorem in3 {ag:Option Nat}{x:IX}:bv9 E fr σ (.q (.load ag x))=ja2 σ (x.ev E fr):=nr rfl
theorem b_t {cs:List IV}:ja2 σ (.ac1 cs)=True:=nr rfl
theorem b_p {i o:Nat}:ja2 σ (.ptr i o)=jg5 (σ.obj i):=nr rfl
theorem b_o {cs:List IV}:jg5 (some (.cells cs))=True:=nr rfl
theorem ja3 {x:IX}:bv9 E fr σ (.q (.mov x))=True:=nr rfl
theorem hu6 {n:Nat}{x:IX}:bv9 E fr σ (.q (.aa6 n x))=True:=nr rfl
theorem in4 {x:IX}:bv9 E fr σ (.q (.ak3 x))=True:=nr rfl
theorem ja4 {n:Nat}{x:IX}:bv9 E fr σ (.q (.len n x))=True:=nr rfl
theorem ja5 {n:Nat}{z:IV}{b:Bool}{x y:IX}:bv9 E fr σ (.q (.lkp n z b x y))=True:=nr rfl
theorem ja6 {z:List IV}{ps:List (Nat×Nat×IX)}:bv9 E fr σ (.q (.bld z ps))=True:=nr rfl
theorem ja7 {op:BinOp}{x y:IX}:bv9 E fr σ (.q (.bin op x y))=True:=nr rfl
theorem hu7 {n:Nat}{x y:IX}:bv9 E fr σ (.q (.ac5 n x y))=True:=nr rfl
theorem in5 {k:IntKind}{x:IX}:bv9 E fr σ (.q (.conv k x))=True:=nr rfl
theorem ja8 {n:Nat}{x:IX}:bv9 E fr σ (.q (.ext n x))=True:=nr rfl
theorem in6 {x y z:IX}:bv9 E fr σ (.q (.pick x y z))=True:=nr rfl
theorem ja9 {x:IX}:bv9 E fr σ (.q (.not x))=True:=nr rfl
theorem hu8 {f:Nat}{xs:List IX}:bv9 E fr σ (.af2 f xs)=True:=nr rfl
theorem in7 {e n:Nat}{z:List IV}{ps:List (Nat×Nat×IX)}:bv9 E fr σ (.av2 e n z ps)=True:=nr rfl
theorem jb5 {e n:Nat}{z:List IV}{ps:List (Nat×Nat×IX)}:bv9 E fr σ (.bsl e n z ps)=True:=nr rfl
theorem jb6 {e:Nat}{x y:IX}:bv9 E fr σ (.app e x y)=True:=nr rfl
theorem hu9 {n:Nat}{x y:IX}:bv9 E fr σ (.store n x y)=True:=nr rfl
theorem in8 {n:Nat}{x y z:IX}:bv9 E fr σ (.db7 n x y z)=True:=nr rfl
theorem hv8 {z:List IV}:bv9 E fr σ (.alloc z)=True:=nr rfl
attribute [go_sem] in3 b_t b_p b_o ja3 hu6 in4 ja4 ja5 ja6 ja7 hu7 in5 ja8 in6 ja9 hu8 in7 jb5 jb6 hu9 in8 hv8
def Grow (σ:Store)(v:IV)(esz:Nat)(es:List (List IV)):Prop :=
 (v=.aa1/\es=[])\/∃ id,v=.slice id 0 es.length esz/\σ.obj id=some (.row es.flatten)/\id<σ.next
def ai2 (v:IV)(σ:Store):Store:=match v with
 | .slice id _ _ _=>σ.kill id
 | _=>σ
theorem av1 {esz:Nat}{es:List (List IV)}(h:∀ e∈es,e.length=esz):es.flatten.length=es.length*esz:=by
 induction es with
 | nil=>simp
 | cons e es ih=>simp[ih (fun x hx=>h x (List.mem_cons_of_mem _ hx)),h e (List.mem_cons_self ..),Nat.add_mul]; omega
theorem fx5 {esz:Nat}{es:List (List IV)}(h:∀ e∈es,e.length=esz)(i j:Nat)(hi:i<es.length)(hj:j<esz):es.flatten.getD (i*esz+j) .undef=(es.getD i []).getD j .undef:=by
 induction es generalizing i with
 | nil=>simp at hi
 | cons e es ih=>
  have he:=h e (List.mem_cons_self ..)
  cases i with
  | zero=>simp[List.getD_eq_getElem?_getD,List.getElem?_append,he,hj]
  | succ i=>
   have h1:¬ ((i+1)*esz+j<e.length):=by rw[he,Nat.add_mul]; omega
   have h2:(i+1)*esz+j-e.length=i*esz+j:=by rw[he,Nat.add_mul]; omega
   have:=ih (fun x hx=>h x (List.mem_cons_of_mem _ hx)) i (by simpa using hi);simp only[List.getD_eq_getElem?_getD,List.flatten_cons,List.getElem?_append,if_neg h1,h2,List.getElem?_cons_succ] at this ⊢;exact this
theorem bx2 {es:List (List IV)}(h:∀ e∈es,e.all IV.leaf=true):es.flatten.all IV.leaf=true:=by
 simp only[List.all_eq_true,List.mem_flatten];rintro c ⟨e,he,hc⟩;exact List.all_eq_true.1 (h e he) c hc
theorem al4 {v:IV}{esz nid:Nat}{es:List (List IV)}{e:List IV}(hg:Grow σ v esz es)(h:∀ x∈es,x.length=esz/\x.all IV.leaf=true)(he:e.length=esz/\e.all IV.leaf=true)(hn:es.length<2147483648) :
  bh3 σ nid esz v (.aa5 [e])=some (.slice nid 0 (es.length+1) esz,(ai2 v σ).put nid (.row (es++[e]).flatten)):=by
 have hsrc:cb5 σ esz (.aa5 [e])=some (1,e):=by simp[cb5,he.1]
 have hl:e.all IV.leaf=true:=he.2;rcases hg with ⟨rfl,rfl⟩|⟨id,rfl,ho,hid⟩
 ·unfold bh3;rw[hsrc];simp[hl,ai2]
 ·unfold bh3;rw[hsrc];have h1:es.flatten.all IV.leaf=true:=bx2 fun x hx=>(h x hx).2
  have h2:es.flatten.length=es.length*esz:=av1 fun x hx=>(h x hx).1
  simp[hl,ho,ai2,h1,h2];omega
theorem Grow.new {v:IV}{esz nid:Nat}{es:List (List IV)}{e:List IV}(hlt:nid<σ'.next)(ho:σ'.obj nid=some (.row (es++[e]).flatten)):Grow σ' (.slice nid 0 (es.length+1) esz) esz (es++[e]):=
 .inr ⟨nid,by simp,ho,hlt⟩
theorem ad9 (v:IV):(ai2 v σ).next=σ.next:=by cases v<;>rfl
theorem af4 {v:IV}{esz:Nat}{es:List (List IV)}(hg:Grow σ v esz es)(i:Nat)(o:ak5)(ho:σ.obj i=some o)(hr:∀ cs,o≠.row cs):(ai2 v σ).obj i=some o:=by
 rcases hg with ⟨rfl,rfl⟩|⟨id,rfl,ho',hid⟩
 ·exact ho
 ·show (if i=id then none else σ.obj i)=some o;rw[if_neg]
  ·exact ho
  ·intro e; subst e; rw[ho] at ho'; cases ho'; exact hr _ rfl
theorem Grow.frz {S:Nat->Prop}{v:IV}{esz:Nat}{es:List (List IV)}(hg:Grow σ v esz es)(h:∀ x∈es,x.length=esz)(hS:∀ id,v=.slice id 0 es.length esz->¬ S id)(hb:∀ e∈es,∀ c∈e,Nm S c):Frz σ S v (.aa5 es):=by
 rcases hg with ⟨rfl,rfl⟩|⟨id,rfl,ho,hid⟩
 ·exact .cb8
 ·refine .slice id 0 es.length esz es.flatten es (hS id rfl) (.inr ho) rfl (by rw[av1 h]; omega) (fun i hi=>h _ (ad2 _ hi)) (fun i hi j hj=>?_);rw[Nat.zero_add,fx5 h i j hi hj];exact .keep _ (hb _ (ad2 _ hi) _ (ad2 _ (by rw[h _ (ad2 _ hi)]; exact hj)))
theorem Grow.mono {v:IV}{esz:Nat}{es:List (List IV)}(hg:Grow σ v esz es)(hn:σ.next<=σ'.next)(h:∀ id,v=.slice id 0 es.length esz->id<σ.next->σ'.obj id=σ.obj id):Grow σ' v esz es:=by
 rcases hg with h0|⟨id,rfl,ho,hid⟩
 ·exact .inl h0
 ·exact .inr ⟨id,rfl,by rw[h id rfl hid]; exact ho,Nat.lt_of_lt_of_le hid hn⟩
theorem Grow.ne {v:IV}{esz id:Nat}{es:List (List IV)}{i:Nat}{o:ak5}(hg:Grow σ v esz es)(hv:v=.slice id 0 es.length esz)(ho:σ.obj i=some o)(hr:∀ cs,o≠.row cs):id≠i:=by
 intro e;subst e;rcases hg with ⟨rfl,_⟩|⟨id',rfl,ho',_⟩
 ·cases hv
 ·cases hv;rw[ho] at ho';cases ho';exact hr _ rfl
theorem cc3 {did esz nid:Nat}{es:List (List IV)}(ho:σ.obj did=some (.row []))(hne:es≠[])(h:∀ x∈es,x.length=esz/\x.all IV.leaf=true)(hn:es.length<=2147483648) :
  bh3 σ nid esz (.slice did 0 0 esz) (.aa5 es)=some (.slice nid 0 es.length esz,(σ.kill did).put nid (.row es.flatten)):=by
 have hsrc:cb5 σ esz (.aa5 es)=some (es.length,es.flatten):=by
  simp only[cb5];rw[if_pos (by simpa using fun x hx=>(h x hx).1)]
 have h1:es.flatten.all IV.leaf=true:=bx2 fun x hx=>(h x hx).2
 have h0:es.length≠0:=fun e=>hne (List.length_eq_zero_iff.1 e)
 unfold bh3;rw[hsrc];simp[h1,ho,h0,hn]
theorem bh8 {did esz nid:Nat}{x:IV}(ho:σ.obj did=some (.row []))(hx:cb5 σ esz x=some (0,[])):bh3 σ nid esz (.slice did 0 0 esz) x=some (.slice did 0 0 esz,σ):=by
 unfold bh3;rw[hx];simp[ho]
theorem ay2 {esz:Nat}{es:List (List IV)}(h:∀ e∈es,e.length=esz)(j:Nat)(hj:j<es.length):(es.flatten.drop (j*esz)).take esz=es.getD j []:=by
 induction es generalizing j with
 | nil=>simp at hj
 | cons e es ih=>
  have he:=h e (List.mem_cons_self ..)
  cases j with
  | zero=>simp[he]
  | succ j=>
   have h2:(j+1)*esz=e.length+j*esz:=by rw[he,Nat.add_mul]; omega
   rw[List.flatten_cons,h2,List.drop_append,List.drop_of_length_le (by omega),List.nil_append,show e.length+j*esz-e.length=j*esz from by omega];exact ih (fun x hx=>h x (List.mem_cons_of_mem _ hx)) j (by simpa using hj)
theorem bf2 {l vs:List IV}{off:Nat}(h:(l.drop off).take vs.length=vs)(hl:off+vs.length<=l.length):ba9 l off vs=l:=by
 unfold ba9
 have h1:l.drop off=vs++l.drop (off+vs.length):=by
  rw[<- List.drop_drop]
  conv=>lhs; rw[<- List.take_append_drop vs.length (l.drop off)]
  rw[h]
 rw[List.append_assoc,<- h1,List.take_append_drop]
theorem eq5 {f:Nat}{Q:IV->Store->Prop}(h1:C P E f [.aa1] σ Q)(h2:C P E f [.af3] σ Q):C P E f [.aa5 []] σ Q:=by
 intro ρ w rargs hs hr;have hv:=hh2 hr;generalize hx:rargs.getD 0 undef=r at hv
 cases hv with
 | ca8=>exact h1 ρ w rargs hs (eq2 hr (by rw[hx]; exact .aa1))
 | aa5 es b o cap esz sp vs hf hsz hc hv hle=>exact h2 ρ w rargs hs (eq2 hr (by rw[hx]; exact .af3 _ _))
inductive gp8 (σ:Store) (S:Nat->Prop):List IV->List IV->Prop
 | nil:gp8 σ S [] []
 | cons {v v':IV} {vs vs':List IV} (h:Frz σ S v v') (t:gp8 σ S vs vs'):gp8 σ S (v::vs) (v'::vs')
theorem gp8.at {S:Nat->Prop}{cs cs':List IV}(h:gp8 σ S cs cs'):cs'.length=cs.length/\∀ i,i<cs.length->Frz σ S (cs.getD i .undef) (cs'.getD i .undef):=by
 induction h with
 | nil=>exact ⟨rfl,fun i hi=>absurd hi (Nat.not_lt_zero _)⟩
 | cons h _ ih=>
  refine ⟨by simp only[List.length_cons,ih.1],fun i hi=>?_⟩
  cases i with
  | zero=>exact h
  | succ i=>exact ih.2 i (by simpa using hi)
theorem Frz.ii3 {S:Nat->Prop}{cs cs':List IV}(h:gp8 σ S cs cs'):Frz σ S (.agg cs) (.agg cs'):=.agg _ _ h.at.1 h.at.2
theorem Frz.cl8 {S:Nat->Prop}{cs cs':List IV}(h:gp8 σ S cs cs'):Frz σ S (.tuple cs) (.tuple cs'):=.tuple _ _ h.at.1 h.at.2
theorem ji6:((0:Nat):Int)=0:=nr rfl
theorem ji7:((1:Nat):Int)=1:=nr rfl
theorem ji8:((2:Nat):Int)=2:=nr rfl
theorem ji9:((3:Nat):Int)=3:=nr rfl
theorem jj1:((4:Nat):Int)=4:=nr rfl
theorem jj2:((5:Nat):Int)=5:=nr rfl
theorem jj3:((6:Nat):Int)=6:=nr rfl
theorem jj4:((7:Nat):Int)=7:=nr rfl
theorem jj5:((8:Nat):Int)=8:=nr rfl
theorem jj6:((9:Nat):Int)=9:=nr rfl
theorem jb7:((10:Nat):Int)=10:=nr rfl
theorem jb8:((11:Nat):Int)=11:=nr rfl
theorem jb9:((12:Nat):Int)=12:=nr rfl
theorem jc1:((13:Nat):Int)=13:=nr rfl
theorem jc2:((14:Nat):Int)=14:=nr rfl
theorem jc3:((15:Nat):Int)=15:=nr rfl
theorem jc4:((16:Nat):Int)=16:=nr rfl
attribute [go_sem] ji6 ji7 ji8 ji9 jj1 jj2 jj3 jj4 jj5 jj6 jb7 jb8 jb9 jc1 jc2 jc3 jc4 List.getD_cons_zero List.getD_cons_succ
theorem jj7:IntKind.i64.wrap 0=0:=nr rfl
theorem jj8:IntKind.i64.wrap 1=1:=nr rfl
theorem jj9:IntKind.i64.wrap 2=2:=nr rfl
theorem jk1:IntKind.i64.wrap 3=3:=nr rfl
theorem jk2:IntKind.i64.wrap 4=4:=nr rfl
theorem jk3:IntKind.i64.wrap 5=5:=nr rfl
theorem jk4:IntKind.i64.wrap 6=6:=nr rfl
theorem jk5:IntKind.i64.wrap 7=7:=nr rfl
theorem jk6:IntKind.i64.wrap 8=8:=nr rfl
theorem jk7:IntKind.i64.wrap 9=9:=nr rfl
theorem jc5:IntKind.i64.wrap 10=10:=nr rfl
theorem jc6:IntKind.i64.wrap 11=11:=nr rfl
theorem jc7:IntKind.i64.wrap 12=12:=nr rfl
theorem jc8:IntKind.i64.wrap 13=13:=nr rfl
theorem jc9:IntKind.i64.wrap 14=14:=nr rfl
theorem jd1:IntKind.i64.wrap 15=15:=nr rfl
theorem jd2:IntKind.i64.wrap 16=16:=nr rfl
attribute [go_sem] jj7 jj8 jj9 jk1 jk2 jk3 jk4 jk5 jk6 jk7 jc5 jc6 jc7 jc8 jc9 jd1 jd2
theorem in9 {ag:Option Nat}{n m:Nat}:irL σ fr [.cell ag n,.t m]=(ax7 σ ag (fr.get n)).map fun v=>[v,fr.get m]:=by
 simp only[irL,irV]; cases ax7 σ ag (fr.get n)<;>rfl
attribute [go_sem] in9 aj5
end Go.Id
/- Answers that are known,looked up; and what they are good for. Conditions: none; over any program. -/
namespace Go.Id
open Go
variable {P:Program} {E:Nat->IV}
def ct3 (r:IV->IV->Bool):List IV->List IV->Bool
 | [],[]=>true
 | a::x,b::y=>r a b&&ct3 r x y
 | _,_=>false
theorem bh9 {r:IV->IV->Bool}(hr:∀ a b,r a b=true->a=b):∀ x y:List IV,ct3 r x y=true->x=y:=by
 intro x
 induction x with
 | nil=>intro y h; cases y with
  | nil=>rfl
  | cons b y=>cases h
 | cons a x ih=>intro y h; cases y with
  | nil=>cases h
  | cons b y=>
   simp only[ct3,Bool.and_eq_true] at h;rw[hr a b h.1,ih y h.2]
def dx4 (r:IV->IV->Bool):List (List IV)->List (List IV)->Bool
 | [],[]=>true
 | a::x,b::y=>ct3 r a b&&dx4 r x y
 | _,_=>false
theorem dx5 {r:IV->IV->Bool}(hr:∀ a b,r a b=true->a=b):∀ x y:List (List IV),dx4 r x y=true->x=y:=by
 intro x
 induction x with
 | nil=>intro y h; cases y with
  | nil=>rfl
  | cons b y=>cases h
 | cons a x ih=>intro y h; cases y with
  | nil=>cases h
  | cons b y=>
   simp only[dx4,Bool.and_eq_true] at h;rw[bh9 hr a b h.1,ih y h.2]
def gp9:List UInt8->List UInt8->Bool
 | [],[]=>true
 | a::x,b::y=>Nat.beq a.toNat b.toNat&&gp9 x y
 | _,_=>false
theorem gq1:∀ x y:List UInt8,gp9 x y=true->x=y:=by
 intro x
 induction x with
 | nil=>intro y h; cases y with
  | nil=>rfl
  | cons b y=>cases h
 | cons a x ih=>intro y h; cases y with
  | nil=>cases h
  | cons b y=>
   simp only[gp9,Bool.and_eq_true] at h;rw[UInt8.toNat_inj.1 (Nat.eq_of_beq_eq_true h.1),ih y h.2]
def gq2:Nat->IV->IV->Bool
 | 0,_,_=>false
 | n+1,a,b=>match a with
  | .bool x=>match b with
   | .bool y=>match x,y with
    | true,true=>true
    | false,false=>true
    | _,_=>false
   | _=>false
  | .int k x=>match b with
   | .int k' y=>decide (k=k')&&decide (x=y)
   | _=>false
  | .str x=>match b with
   | .str y=>gp9 x y
   | _=>false
  | .ab6=>match b with
   | .ab6=>true
   | _=>false
  | .ac1 x=>match b with
   | .ac1 y=>ct3 (gq2 n) x y
   | _=>false
  | .aa5 x=>match b with
   | .aa5 y=>dx4 (gq2 n) x y
   | _=>false
  | .agg x=>match b with
   | .agg y=>ct3 (gq2 n) x y
   | _=>false
  | .tuple x=>match b with
   | .tuple y=>ct3 (gq2 n) x y
   | _=>false
  | .iface t x=>match b with
   | .iface t' y=>Nat.beq t t'&&gq2 n x y
   | _=>false
  | .ah6=>match b with
   | .ah6=>true
   | _=>false
  | .ai8=>match b with
   | .ai8=>true
   | _=>false
  | .ab8=>match b with
   | .ab8=>true
   | _=>false
  | .aa1=>match b with
   | .aa1=>true
   | _=>false
  | _=>false
theorem hv9:∀ (n:Nat) (a b:IV),gq2 n a b=true->a=b:=by
 intro n
 induction n with
 | zero=>intro a b h; cases h
 | succ n ih=>
  intro a b h;cases a<;>simp only[gq2] at h<;>(try cases h)<;>split at h<;>(try cases h)<;>(try rfl)
  ·split at h<;>(try cases h)<;>rfl
  ·simp only[Bool.and_eq_true,decide_eq_true_eq] at h; rw[h.1,h.2]
  ·rw[gq1 _ _ h]
  ·rw[bh9 ih _ _ h]
  ·rw[dx5 ih _ _ h]
  ·simp only[Bool.and_eq_true] at h; rw[Nat.eq_of_beq_eq_true h.1,ih _ _ h.2]
  ·rw[bh9 ih _ _ h]
  ·rw[bh9 ih _ _ h]
abbrev ii4:=List (Nat×List IV×IV)
def ii4.get:ii4->Nat->List IV->Option IV
 | [],_,_=>none
 | (k,aZ,v)::r,f,args=>match Nat.beq k f with
  | true=>match ct3 (gq2 1000) aZ args with
   | true=>some v
   | false=>ii4.get r f args
  | false=>ii4.get r f args
def MOK (P:Program)(E:Nat->IV)(M:ii4):Prop:=∀ e∈M,okF P e.1=true/\PC P E e.1 e.2.1 e.2.2
theorem MOK.nil:MOK P E []:=fun _ h=>by cases h
theorem MOK.cons {M:ii4}{k:Nat}{aZ:List IV}{v:IV}(hk:okF P k=true)(h:PC P E k aZ v)(hM:MOK P E M):MOK P E ((k,aZ,v)::M):=fun e he=>by
 rcases List.mem_cons.1 he with rfl|he
 ·exact ⟨hk,h⟩
 ·exact hM e he
theorem hw5 {l:List (Nat×List IV)}(h:l.all (fun x=>x.2.all (at6 1000))=true):∀ g,Bnd 0 (fk3 l g):=by
 intro g;unfold fk3
 cases hg:l.lookup g with
 | none=>exact .undef
 | some cs=>
  have hm:∃ x∈l,x.2=cs:=by
   clear h
   induction l with
   | nil=>cases hg
   | cons x l ih=>
    obtain ⟨a,b⟩:=x;simp only[List.lookup] at hg;split at hg
    ·cases hg; exact ⟨_,List.mem_cons_self ..,rfl⟩
    ·obtain ⟨x,h1,h2⟩:=ih hg; exact ⟨x,List.mem_cons_of_mem _ h1,h2⟩
  obtain ⟨x,h1,rfl⟩:=hm;exact .ac1 _ fun c hc=>ax1 1000 c (List.all_eq_true.1 (List.all_eq_true.1 h x h1) c hc)
end Go.Id
