/- Running compiled codes on ideal values: codes,calls,and the proof. Conditions: none; over any program. -/
import Derived.Test.YtebfbbjghhagbaaGreatDoorFwW
import Derived.WideKeyElems2
import Derived.OpenShut
import Derived.FnData
import Derived.Below
import Derived.ChangeSame
import Derived.CallsIn
import Derived.ChangeArms
import Derived.MakeChecks
set_option linter.all false
namespace Go.Id
open Go
variable {P:Program} {E:Nat->IV} {σ σ':Store} {N n n0:Nat} {fr:Frm}
abbrev RD:=Nat->Nat->List IV->XSt->Option (IV×XSt)
where
 id8 (r:IV->IV->Bool):List IV->List IV->Bool
  | [],[]=>true
  | a::x,b::y=>r a b&&id8 r x y
  | _,_=>false
 sameLL (r:IV->IV->Bool):List (List IV)->List (List IV)->Bool
  | [],[]=>true
  | a::x,b::y=>id8 r a b&&sameLL r x y
  | _,_=>false
variable {rd:RD} {Λ:Lam} {xs xs':XSt}
theorem fl6 {pf:List Nat}{an:Ann}{c:Code}{i:Nat}{x:IC}(h:bf4 P pf N an c=some (.block i x)):∃ a,c=.block i a/\bf4 P pf N an a=some x:=by
 cases c with
 | block id a=>obtain ⟨_,h1,h⟩:=map_some h; cases h; exact ⟨a,rfl,h1⟩
 | scope a=>obtain ⟨_,_,h⟩:=map_some h; cases h
 | region id ops draw=>simp only[bf4] at h; split at h<;>first|(cases h; done)|(split at h<;>first|(cases h; done)|(split at h<;>cases h))
 | seq a b=>simp only[bf4] at h; split at h<;>cases h
 | cond c a b=>simp only[bf4] at h; split at h<;>cases h
 | loop a=>obtain ⟨_,_,h⟩:=map_some h; cases h
 | rangeFunc g ps assign body=>simp only[bf4] at h; split at h<;>first|(cases h; done)|(split at h<;>cases h)
 | _=>cases h
theorem gb5 {pf:List Nat}{an:Ann}{c:Code}{x:IC}(h:bf4 P pf N an c=some (.loop x)):∃ a,c=.loop a/\bf4 P pf N an a=some x:=by
 cases c with
 | loop a=>obtain ⟨_,h1,h⟩:=map_some h; cases h; exact ⟨a,rfl,h1⟩
 | region id ops draw=>simp only[bf4] at h; split at h<;>first|(cases h; done)|(split at h<;>first|(cases h; done)|(split at h<;>cases h))
 | seq a b=>simp only[bf4] at h; split at h<;>cases h
 | cond c a b=>simp only[bf4] at h; split at h<;>cases h
 | block id a=>obtain ⟨_,_,h⟩:=map_some h; cases h
 | scope a=>obtain ⟨_,_,h⟩:=map_some h; cases h
 | rangeFunc g ps assign body=>simp only[bf4] at h; split at h<;>first|(cases h; done)|(split at h<;>cases h)
 | _=>cases h
theorem av6 {i:Nat}{x:IC}{Q:Exit->Frm->Store->Prop}(h:RI P E N n0 x fr σ (bt6 i Q)):RI P E N n0 (.block i x) fr σ Q:=by
 intro pf an c hc;obtain ⟨a,rfl,hx⟩:=fl6 hc;exact fw2 (h pf an a hx)
theorem gu7 {x:IC}{Q:Exit->Frm->Store->Prop}(I:Nat->Frm->Store->Prop)(m:Nat)(h:I m fr σ)(hI:∀ m fr σ,I m fr σ->RI P E N n0 x fr σ (eh2 I m Q)):RI P E N n0 (.loop x) fr σ Q:=by
 intro pf an c hc;obtain ⟨a,rfl,hx⟩:=gb5 hc;exact hk9 I m h fun m fr σ hi=>hI m fr σ hi pf an a hx
end Go.Id
/- Tables of compiled functions. Conditions: none; over any program. -/
namespace Go.Id
open Go
variable {P:Program} {E:Nat->IV} {σ σ':Store}
inductive BT (V:Type) where
 | e
 | n (k:Nat) (v:V) (l r:BT V)
def BT.get {V:Type}:BT V->Nat->Option V
 | .e,_=>none
 | .n k v l r,i=>bif Nat.beq i k then some v else bif Nat.ble i k then l.get i else r.get i
abbrev FE:=Nat×IC×List IR
def FOK (P:Program)(f:Nat)(e:FE):Prop:=okF P f=true/\∃ pf an,hn6 P f e.1 pf an e.2.1 e.2.2
theorem FOK.mk {f N:Nat}{pf:List Nat}{an:Ann}{ic:IC}{rs:List IR}(h:okF P f=true)(hf:hn6 P f N pf an ic rs):FOK P f (N,ic,rs):=⟨h,pf,an,hf⟩
instance instIX (n:Nat):OfNat IX n:=⟨.t n⟩
def oQ (d:Nat)(q:IQ):ae7:=⟨some d,none,.q q⟩
def oM (d:Nat)(x:IX):ae7:=⟨some d,none,.q (.mov x)⟩
def oK (d:Nat)(k:IK):ae7:=⟨some d,none,k⟩
def gQ (d s:Nat)(w:Bool)(q:IQ):ae7:=⟨some d,some (s,w),.q q⟩
def gK (d s:Nat)(w:Bool)(k:IK):ae7:=⟨some d,some (s,w),k⟩
def oN (k:IK):ae7:=⟨none,none,k⟩
def cI (n:Int):IX:=.c (.int .i64 n)
def cB (b:Bool):IX:=.c (.bool b)
def zI (n:Int):IV:=.int .i64 n
def zU (n:Int):IV:=.int .u8 n
def ct9:IC->Ann
 | .reg id _ keep=>[(id,keep)]
 | .ap8 id _ _ keep=>[(id,keep)]
 | .gq5 id _ keep=>[(id,keep)]
 | .seq a b=>ct9 a++ct9 b
 | .cond _ a b=>ct9 a++ct9 b
 | .block _ a=>ct9 a
 | .loop a=>ct9 a
 | .bt1 _ _ a b=>ct9 a++ct9 b
 | .scope a=>ct9 a
 | _=>[]
theorem ae6 (pf:List Nat){f N:Nat}{fn:Func}{ic:IC}{rs:List IR}(h:P.funcs[f]? = some fn)(ho:okF P f=true:=by kernel_rfl)(hN:fn.ntmps=N:=by kernel_rfl)(hc:fn.body.bind (bf4 P pf N (ct9 ic))=some ic:=by kernel_rfl)(hr:fe1 P fn.results.toList=some rs:=by kernel_rfl):FOK P f (N,ic,rs):=
 .mk (pf:=pf) (an:=ct9 ic) ho (ac7 h hN hc hr)
end Go.Id
/- What the readings of a statement give: arguments and listed variables aZ ideal values; a contract aZ a kit's one. Conditions: none; over any program. -/
namespace Go.Id
open Go
variable {H:Type} {enc:TypeId×Value->H} {P:Program} {w w':World} {base:Nat} {sp:Nat->Bool} {held:Bool} {ρ:Rho} {E:Nat->IV}
structure VL (ρ:Rho) (w:World) (ivs:List IV) (cs:List Value):Prop where
 len:ivs.length=cs.length
 get:∀ i,i<ivs.length->VR ρ w (ivs.getD i .undef) (cs.getD i undef)
def dvF (r:TypeId->DataW H->Option (List IV))(P:Program):List (TypeId×Nat)->List (DataW H)->Nat->Option (List IV)
 | [],[],_=>some []
 | f::fs,d::ds,off=>if f.2=off then (match r f.1 d with
  | some a=>if a.length=P.cellsOf f.1 then (match dvF r P fs ds (off+P.cellsOf f.1) with
   | some b=>some (a++b)
   | none=>none) else none
  | none=>none) else none
 | _,_,_=>none
def dvS (r:DataW H->Option (List IV))(c:Nat):List (DataW H)->Option (List (List IV))
 | []=>some []
 | d::ds=>match r d with
  | some a=>if a.length=c then (match dvS r c ds with
   | some b=>some (a::b)
   | none=>none) else none
  | none=>none
def dvE (r:DataW H->Option (List IV))(x:Lit×DataW H):IV×IV:=match x.1,r x.2 with
 | .string bs,some [v]=>(.str bs,v)
 | _,_=>(.undef,.undef)
def cu1:List IV->Bool
 | []=>true
 | .str a::r=>(r.all fun|.str b=>!(a==b)|_=>false)&&cu1 r
 | _::_=>false
def flat (P:Program)(e:TypeId):Bool:=match P.underlying e with
 | some .bool|some (.int _)|some .string|some (.slice _)|some (.pointer _)=>true
 | _=>false
def dv (P:Program):Nat->TypeId->DataW H->Option (List IV)
 | 0,_,_=>none
 | m+1,t,d=>match P.underlying t,d with
  | some .bool,.lit (.bool b)=>some [.bool b]
  | some (.int _),.lit (.int k n)=>some [.int k n]
  | some .string,.lit (.string bs)=>some [.str bs]
  | some (.pointer _),.nil=>some [.ab6]
  | some (.pointer e),.ptr d=>match dv P m e d with
   | some (c::cs)=>some [.ab8 (c::cs)]
   | _=>none
  | some (.slice _),.nil=>some [.aa5 []]
  | some (.slice e),.slice els _=>if P.cellsOf e=0 then none else match dvS (dv P m e) (P.cellsOf e) els with
   | some es=>some [.aa5 es]
   | none=>none
  | some (.struct fs),.agg ds=>match dvF (dv P m) P (fs.toList.map fun f=>(f.type,f.offset)) ds 0 with
   | some ivs=>if ivs.length=P.cellsOf t then some ivs else none
   | none=>none
  | some (.array n e),.agg ds=>match dvF (dv P m) P ((List.range n).map fun i=>(e,i*P.cellsOf e)) ds 0 with
   | some ivs=>if ivs.length=P.cellsOf t then some ivs else none
   | none=>none
  | some (.map k e),.map es=>match P.underlying k with
   | some .string=>if flat P e&&cu1 (es.map fun x=>(dvE (dv P m e) x).1) then some [.al6 (es.map (dvE (dv P m e)))] else none
   | _=>none
  | _,_=>none
theorem cm4 {v:IV}{r:Value}(h:VR ρ w v r):VL ρ w [v] [r]:=⟨rfl,fun i hi=>by
 have h0:i=0:=by simpa using hi
 rw[h0]; exact h⟩
theorem ho6 {r:TypeId->DataW H->Option (List IV)} {rd:TypeId->List Value->DataW H->Prop} (hr:∀ t cs d ivs,rd t cs d->r t d=some ivs->VL ρ w ivs cs) (cs:List Value) :
  ∀ (fs:List (TypeId×Nat)) (ds:List (DataW H)) (off:Nat) (ivs:List IV),fs.length=ds.length ->
   (∀ (i:Nat) (f:TypeId×Nat) (d:DataW H),fs[i]? = some f->ds[i]? = some d->rd f.1 ((cs.drop f.2).take (P.cellsOf f.1)) d)->dvF r P fs ds off=some ivs ->
   ∀ i,i<ivs.length->off+i<cs.length/\VR ρ w (ivs.getD i .undef) (cs.getD (off+i) undef):=by
 intro fs
 induction fs with
 | nil=>
  intro ds off ivs hl _ h
  cases ds with
  | nil=>cases h; intro i hi; simp at hi
  | cons d ds=>simp at hl
 | cons f fs ih=>
  intro ds off ivs hl hrd h
  cases ds with
  | nil=>simp at hl
  | cons d ds=>
   simp only[dvF] at h;split at h
   ·rename_i hoff;split at h
    ·rename_i a ha;split at h
     ·rename_i hal;split at h
      ·rename_i b hb;cases h;have h0:=hr _ _ _ _ (hrd 0 f d rfl rfl) ha;have hl0:=h0.len;rw[hoff] at h0 hl0;simp only[List.length_take,List.length_drop] at hl0;intro i hi;by_cases hia:i<a.length
       ·have h1:=h0.get i hia;have hlt:off+i<cs.length:=by omega
        refine ⟨hlt,?_⟩;have e1:(a++b).getD i .undef=a.getD i .undef:=by simp[List.getD_eq_getElem?_getD,List.getElem?_append,hia]
        have e2:((cs.drop off).take (P.cellsOf f.1)).getD i undef=cs.getD (off+i) undef:=by
         have:i<P.cellsOf f.1:=by omega
         simp[List.getD_eq_getElem?_getD,List.getElem?_take,this,List.getElem?_drop]
        rw[e1,<- e2]; exact h1
       ·have h1:=ih ds _ b (by simpa using hl) (fun i f' d' hf hd=>hrd (i+1) f' d' (by simpa using hf) (by simpa using hd)) hb (i-a.length) (by simp at hi; omega);have e0:off+P.cellsOf f.1+(i-a.length)=off+i:=by omega
        rw[e0] at h1;refine ⟨h1.1,?_⟩;have e1:(a++b).getD i .undef=b.getD (i-a.length) .undef:=by simp[List.getD_eq_getElem?_getD,List.getElem?_append,hia]
        rw[e1]; exact h1.2
      ·cases h
     ·cases h
    ·cases h
   ·cases h
theorem id3 {r:DataW H->Option (List IV)}{c:Nat}:∀ (ds:List (DataW H)) (es:List (List IV)),dvS r c ds=some es->es.length=ds.length/\∀ i,i<es.length->(es.getD i []).length=c/\∃ d,ds[i]? = some d/\r d=some (es.getD i []):=by
 intro ds
 induction ds with
 | nil=>intro es h; cases h; exact ⟨rfl,fun i hi=>by simp at hi⟩
 | cons d ds ih=>
  intro es h;simp only[dvS] at h;split at h
  ·rename_i a ha;split at h
   ·rename_i hal;split at h
    ·rename_i b hb;cases h;obtain ⟨h1,h2⟩:=ih b hb;refine ⟨by simp[h1],fun i hi=>?_⟩
     cases i with
     | zero=>exact ⟨hal,d,rfl,ha⟩
     | succ i=>
      obtain ⟨h3,d',h4,h5⟩:=h2 i (by simpa using hi);exact ⟨h3,d',h4,h5⟩
    ·cases h
   ·cases h
  ·cases h
theorem ej7 {es:List (IV×IV)}(h:cu1 (es.map (·.1))=true):db1 es:=by
 have:∀ (l:List IV),cu1 l=true->l.Nodup/\∀ v∈l,∃ s,v=.str s:=by
  intro l
  induction l with
  | nil=>intro _; exact ⟨.nil,fun _ h=>by cases h⟩
  | cons v l ih=>
   intro h
   cases v with
   | str a=>
    simp only[cu1,Bool.and_eq_true] at h;obtain ⟨h1,h2⟩:=ih h.2;refine ⟨List.nodup_cons.2 ⟨fun hm=>?_,h1⟩,fun v hv=>?_⟩
    ·have:=List.all_eq_true.1 h.1 _ hm;simp at this
    ·rcases List.mem_cons.1 hv with rfl|hv
     ·exact ⟨a,rfl⟩
     ·exact h2 v hv
   | _=>cases h
 obtain ⟨h1,h2⟩:=this _ h;refine ⟨h1,.str,fun e he=>?_⟩;obtain ⟨s,hs⟩:=h2 e.1 (List.mem_map.2 ⟨e,he,rfl⟩);rw[hs]; trivial
theorem bn4 {a:Addr}{v:Value}(h:w.cell? a=some v):a.spot=none/\a.block<w.heap.size:=by
 unfold World.cell? at h;split at h
 ·rename_i c _ _ hb;split at h
  ·cases h
  ·rename_i hs;refine ⟨by simpa using hs,?_⟩;exact Nat.lt_of_not_le fun hle=>by rw[Array.getElem?_eq_none hle] at hb; cases hb
 ·cases h
theorem fl7:∀ {l:List IV},cu1 l=true->∀ v∈l,∃ s,v=.str s:=by
 intro l
 induction l with
 | nil=>intro _ _ h; cases h
 | cons v l ih=>
  intro h
  cases v with
  | str a=>
   simp only[cu1,Bool.and_eq_true] at h;intro v hv;rcases List.mem_cons.1 hv with rfl|hv
   ·exact ⟨a,rfl⟩
   ·exact ih h.2 v hv
  | _=>cases h
theorem id4 {k:TypeId}{v:Value}{bs:List UInt8}(hk:P.underlying k=some .string)(h:keyOf P k v=some (.string bs)):v=.string ⟨bs.toArray⟩:=by
 unfold keyOf mapKey at h;rw[hk] at h
 cases v with
 | string s=>
  simp only at h;split at h
  ·cases h;congr 1
  ·cases h
 | _=>cases h
theorem fl8 {e:TypeId}{v:Value}(h:flat P e=true)(hf:v.formed P e=true):v.cells.toList=[v]:=by
 unfold flat at h
 cases v with
 | agg cs=>
  unfold Value.formed at hf
  split at h<;>simp_all
 | _=>rfl
theorem cu2 (hF:∀ b,b<w.heap.size->FB ρ w b):∀ (m n:Nat) (t:TypeId) (d:DataW H) (cs:List Value) (ps:List MemPlace) (ivs:List IV),
  DataW.trod enc P w base sp held n t cs=some (d,ps)->dv P m t d=some ivs->VL ρ w ivs cs:=by
 intro m
 induction m with
 | zero=>intro n t d cs ps ivs _ h; cases h
 | succ m ih=>
  intro n t d cs ps ivs h hd;unfold dv at hd;split at hd
  ·rename_i b hu;obtain ⟨b',rfl,hx⟩:=DataW.trod_bool hu h;cases hx; cases hd;exact cm4 (.bool _)
  ·rename_i k0 k n0 hu;obtain ⟨n',rfl,hx,_⟩:=DataW.trod_int hu h;cases hx; cases hd;exact cm4 (.int _ _)
  ·rename_i bs hu;obtain ⟨s,rfl,hx,_⟩:=DataW.trod_string hu h;cases hx; cases hd;have:(⟨s.data.toList.toArray⟩:ByteArray)=s:=by cases s; simp
   exact cm4 (by have:=VR.str (ρ:=ρ) (w:=w) s.data.toList; simpa using this)
  ·rename_i hu;cases hd;rcases DataW.trod_pointer hu h with ⟨rfl,_⟩|⟨a,cs',y,n',_,_,hx,_⟩
   ·exact cm4 .ab6
   ·cases hx
  ·rename_i e d' hu;rcases DataW.trod_pointer hu h with ⟨_,hx⟩|⟨a,cs',y,n',rfl,rfl,hx,hc,hy⟩
   ·cases hx
   ·cases hx;split at hd
    ·rename_i c0 cs0 hd0;cases hd;have hv:=ih n' e y.1 cs' y.2 (c0::cs0) hy hd0;obtain ⟨_,hl,hcell⟩:=World.cells?_some hc;have hlen:=hv.len;simp only[List.length_cons] at hlen;have h0:=hcell 0 (by omega);rw[List.getElem?_eq_getElem (by omega)] at h0;obtain ⟨h1,h2⟩:=bn4 h0;have ea:a.add 0=a:=rfl;rw[ea] at h1 h2;obtain ⟨b,o,s⟩:=a;simp only at h1; subst h1;refine cm4 (.ab8 (c0::cs0) b o (fun j=>cs'.getD j undef) (hF b h2) (fun j hj=>?_) (fun j hj=>hv.get j hj));simp only[List.length_cons] at hj;have hj':=hcell j (by omega);have ej:(⟨b,o,none⟩:Addr).add j=⟨b,o+j,none⟩:=by unfold Addr.add; by_cases hj0:j=0<;>simp[hj0]
     rw[ej] at hj';rw[hj',List.getD_eq_getElem?_getD,List.getElem?_eq_getElem (by omega)];rfl
    ·cases hd
  ·rename_i e hu;cases hd;rcases DataW.trod_slice hu h with ⟨rfl,_⟩|⟨a,len,cap,elems,rest,n',_,_,hx,_⟩
   ·exact cm4 .cb8
   ·cases hx
  ·rename_i e els rst hu;split at hd
   ·cases hd
   ·rename_i hc0;split at hd
    ·rename_i es hes;cases hd;rcases DataW.trod_slice hu h with ⟨rfl,hx⟩|⟨a,len,cap,elems,rest,n',rfl,rfl,hx,_,hlc,_,hel,hcell,_,_⟩
     ·cases hx
     ·cases hx;obtain ⟨g1,g2⟩:=id3 _ _ hes;have hlen:es.length=len:=by rw[g1,List.length_map,hel]
      have key:∀ i,i<es.length->∃ ci p,w.cells? base (a.add (i*P.cellsOf e)) (P.cellsOf e)=some ci/\(es.getD i []).length=P.cellsOf e/\VL ρ w (es.getD i []) ci/\p=():=by
       intro i hi;obtain ⟨g3,d',g4,g5⟩:=g2 i hi;have hc:=hcell i (by omega);rw[List.getElem?_map] at g4
       cases hei:elems[i]? with
       | none=>rw[hei] at g4; cases g4
       | some x=>
        rw[hei] at g4 hc;cases g4;obtain ⟨ci,hci,hx⟩:=Option.bind_eq_some_iff.1 hc;exact ⟨ci,(),hci,g3,ih n' e x.1 ci x.2 _ hx g5,rfl⟩
      have hF0:es≠[]->FB ρ w a.block/\a.spot=none:=by
       intro hne;have h0:0<es.length:=List.length_pos_iff.2 hne;obtain ⟨ci,_,hci,g3,_,_⟩:=key 0 h0;obtain ⟨_,hl,hcc⟩:=World.cells?_some hci;have hcc0:=hcc 0 (by omega);rw[List.getElem?_eq_getElem (by omega)] at hcc0;have ea:(a.add (0*P.cellsOf e)).add 0=a:=by simp[Addr.add]
       rw[ea] at hcc0;obtain ⟨h1,h2⟩:=bn4 hcc0;exact ⟨hF _ h2,h1⟩
      have hcells:∀ i,i<es.length->∀ j,j<P.cellsOf e->∃ v,w.cell? ⟨a.block,a.off+(i*P.cellsOf e+j),none⟩=some v/\VR ρ w ((es.getD i []).getD j .undef) v:=by
       intro i hi j hj;obtain ⟨ci,_,hci,g3,g4,_⟩:=key i hi;obtain ⟨_,hl,hcc⟩:=World.cells?_some hci;have hcj:=hcc j hj;have hsp:=(hF0 (by intro h0; rw[h0] at hi; simp at hi)).2
       have ea:(a.add (i*P.cellsOf e)).add j=⟨a.block,a.off+(i*P.cellsOf e+j),none⟩:=by
        obtain ⟨b,o,s⟩:=a;simp only at hsp; subst hsp;unfold Addr.add;by_cases h1:i*P.cellsOf e=0<;>by_cases h2:j=0<;>simp[h1,h2,Nat.add_assoc]
       rw[ea,List.getElem?_eq_getElem (by omega)] at hcj;refine ⟨_,hcj,?_⟩;have:=g4.get j (by omega);rw[List.getD_eq_getElem?_getD (l:=ci),List.getElem?_eq_getElem (by omega)] at this;exact this
      refine cm4 ?_;obtain ⟨b,o,s⟩:=a;rw[<- hlen];refine .aa5 es b o cap (P.cellsOf e) s (fun i j=>(w.cell? ⟨b,o+(i*P.cellsOf e+j),none⟩).getD undef) hF0 (fun i hi=>(g2 i hi).1) (fun i hi j hj=>?_) (fun i hi j hj=>?_) (by omega)
      ·obtain ⟨v,h1,_⟩:=hcells i hi j hj;simp only at h1;rw[h1]; rfl
      ·obtain ⟨v,h1,h2⟩:=hcells i hi j hj;simp only at h1;rw[h1]; exact h2
    ·cases hd
  ·rename_i fs ds hu;split at hd
   ·rename_i ivs' hd';split at hd
    ·rename_i hil;cases hd;obtain ⟨xs,n',rfl,hx,hlen,hxl,hfi⟩:=DataW.trod_struct hu h;cases hx
     have hg:=ho6 (P:=P) (rd:=fun t cs d=>∃ p,DataW.trod enc P w base sp held n' t cs=some (d,p)) (fun t cs d ivs ⟨p,hp⟩ h=>ih n' t d cs p ivs hp h) cs _ _ 0 _ (by simp[hxl]) (fun i f d hf hd=>by
      rw[List.getElem?_map] at hf hd
      cases hfi':fs.toList[i]? with
      | none=>rw[hfi'] at hf; cases hf
      | some f0=>
       rw[hfi'] at hf; cases hf;have:=hfi i f0 (by simpa using hfi')
       cases hxi:xs[i]? with
       | none=>rw[hxi] at hd; cases hd
       | some x=>rw[hxi] at hd this; cases hd; exact ⟨x.2,this⟩) hd'
     exact ⟨by rw[hil,hlen],fun i hi=>by have:=(hg i hi).2; rwa [Nat.zero_add] at this⟩
    ·cases hd
   ·cases hd
  ·rename_i k e ds hu;split at hd
   ·rename_i ivs' hd';split at hd
    ·rename_i hil;cases hd;obtain ⟨xs,n',rfl,hx,hlen,hxl,hfi⟩:=DataW.trod_array hu h;cases hx
     have hg:=ho6 (P:=P) (rd:=fun t cs d=>∃ p,DataW.trod enc P w base sp held n' t cs=some (d,p)) (fun t cs d ivs ⟨p,hp⟩ h=>ih n' t d cs p ivs hp h) cs _ _ 0 _ (by simp[hxl]) (fun i f d hf hd=>by
      rw[List.getElem?_map] at hf hd
      cases hfi':(List.range k)[i]? with
      | none=>rw[hfi'] at hf; cases hf
      | some f0=>
       rw[hfi'] at hf; cases hf;obtain ⟨hik,rfl⟩:=List.getElem?_eq_some_iff.1 hfi';simp only[List.length_range] at hik;have:=hfi i hik;simp only[List.getElem_range]
       cases hxi:xs[i]? with
       | none=>rw[hxi] at hd; cases hd
       | some x=>rw[hxi] at hd this; cases hd; exact ⟨x.2,this⟩) hd'
     exact ⟨by rw[hil,hlen],fun i hi=>by have:=(hg i hi).2; rwa [Nat.zero_add] at this⟩
    ·cases hd
   ·cases hd
  ·rename_i k e es hu;split at hd
   ·rename_i hk;split at hd
    ·rename_i hfn;cases hd;simp only[Bool.and_eq_true] at hfn;obtain ⟨hfl,hnd⟩:=hfn;rcases WideElems.open_map hu h with ⟨_,hx⟩|⟨b,mes,clock,n',rfl,rfl,hb,_,F,hx⟩
     ·cases hx
     ·simp only[Prod.mk.injEq,DataW.map.injEq] at hx;obtain ⟨hx,_⟩:=hx;have hlt:b<w.heap.size:=Nat.lt_of_not_le fun hle=>by rw[Array.getElem?_eq_none hle] at hb; cases hb
      let g:Lit×DataW H->IV×IV:=dvE (dv P m e);let L:=mes.toList.map (WideElems.rg P k (WideElems.elemAt enc P w base sp held n' e));have hp:L.Perm es:=by rw[hx]; exact (WideShapes.sorted_perm L).symm
      have hpg:(L.map g).Perm (es.map g):=hp.map g;have hko:db1 (es.map g):=ej7 (by rw[List.map_map]; exact hnd)
      have ent:∀ i,i<mes.size->VR ρ w ((L.map g).getD i (.undef,.undef)).1 (mes.getD i default).key/\VR ρ w ((L.map g).getD i (.undef,.undef)).2 (mes.getD i default).val:=by
       intro i hi
       have hmem:mes.getD i default∈mes.toList:=by
        have:=ac9 (default:MapEntry) (l:=mes.toList) (i:=i) (by simpa using hi)
        simpa [List.getD_eq_getElem?_getD,Array.getD_eq_getD_getElem?] using this
       obtain ⟨y,hy⟩:=F.reads _ hmem
       have e1:(L.map g).getD i (.undef,.undef)=g y:=by
        have:L[i]? = some y:=by
         simp only[L,List.getElem?_map];rw[show mes.toList[i]? = some (mes.getD i default) by simp[Array.getD_eq_getD_getElem?,hi]];exact congrArg some (WideElems.rg_of hy)
        simp[List.getD_eq_getElem?_getD,this]
       rw[e1];have hyL:y∈L:=List.mem_map.2 ⟨_,hmem,WideElems.rg_of hy⟩;have hys:∃ s,(g y).1=.str s:=fl7 hnd _ (List.mem_map.2 ⟨y,hp.mem_iff.1 hyL,rfl⟩);have hkey:=WideElems.rd_key hy;obtain ⟨z,hz,hyz⟩:=WideElems.rd_val hy;simp only[g,dvE] at hys ⊢;split at hys
       ·rename_i bs v hl hv;refine ⟨?_,?_⟩
        ·rw[hl] at hkey;rw[id4 hk hkey]; exact .str _
        ·generalize mes.getD i default=me at hz ⊢;unfold WideElems.elemAt at hz;split at hz
         ·rename_i hform;have hvl:=ih n' e z.1 _ z.2 [v] hz (by rw[<- hyz]; exact hv);have hcl:=fl8 hfl hform;rw[hcl] at hvl;exact hvl.get 0 (by simp)
         ·cases hz
       ·obtain ⟨_,hys⟩:=hys; cases hys
      have hsz:(L.map g).length=mes.size:=by simp[L]
      obtain ⟨s1,s2,_⟩:=F.stamped;refine cm4 (.al6 (es.map g) (L.map g) b mes clock hpg hko (hF b hlt) hb hsz (fun i hi=>(ent i (by omega)).1) (fun i hi=>(ent i (by omega)).2) ?_ ?_)
      ·intro i hi;refine s1 _ ?_;have:=ac9 (default:MapEntry) (l:=mes.toList) (i:=i) (by simpa using hi)
       simpa [List.getD_eq_getElem?_getD,Array.getD_eq_getD_getElem?] using this
      ·intro i j hij hj he;have:=(List.pairwise_iff_getElem.1 s2) i j (by simp; omega) (by simpa using hj) hij;simp only[List.getElem_map,Array.getElem_toList] at this;apply this;have hi:i<mes.size:=by omega
       simpa [Array.getD_eq_getD_getElem?,hi,hj] using he
    ·cases hd
   ·cases hd
  ·cases hd
def fl9 (l:List (Nat×List IV))(g:Nat):IV:=match l.lookup g with
 | some cs=>.ab8 cs
 | none=>.undef
theorem gb6 {laid:List (String×DataW Unit)}(hF:∀ b,b<w.heap.size->FB ρ w b):∀ (laid:List (String×DataW Unit)) (ps:List MemPlace),DataW.LaidVars P w laid ps->∀ (name:String) (d:DataW Unit),(name,d)∈laid->∀ (g:Nat) (t:TypeId) (m:Nat) (c:IV) (ivs:List IV),
  P.globalNamed name=some g->(P.globals[g]?).map (·.type)=some t->dv P m t d=some (c::ivs)->VR ρ w (.ab8 (c::ivs)) (.pointer (some ⟨g,0,none⟩)):=by
 intro laid
 induction laid with
 | nil=>intro ps _ name d hm; cases hm
 | cons x r ih=>
  intro ps h name d hm g t m c ivs hg ht hd;obtain ⟨xn,xd⟩:=x;obtain ⟨g',t',cs,fuel,p,q,h1,h2,h3,h4,h5,_⟩:=h;rcases List.mem_cons.1 hm with hm|hm
  ·cases hm;obtain rfl:=Option.some.inj (h1.symm.trans hg);obtain rfl:=Option.some.inj (h2.symm.trans ht);have hv:=cu2 hF m fuel _ d _ p _ h4 hd;have hc:=fun i=>World.var?_cell h1 h3 i
   have hlen:=hv.len;simp only[List.length_cons,Array.length_toList] at hlen;have h0:=hc 0;rw[Array.getElem?_eq_getElem (by omega)] at h0;refine .ab8 (c::ivs) _ 0 (fun j=>cs.getD j undef) (hF _ (bn4 h0).2) (fun j hj=>?_) (fun j hj=>?_)
   ·simp only[List.length_cons] at hj;rw[Nat.zero_add,hc j,Array.getElem?_eq_getElem (by omega)];simp[Array.getD_eq_getD_getElem?,show j<cs.size by omega]
   ·have:=hv.get j hj
    simpa [List.getD_eq_getElem?_getD,Array.getD_eq_getD_getElem?] using this
  ·exact ih _ h5 name d hm g t m c ivs hg ht hd
def fs2:Rho:=⟨fun _=>.no,fun _=>False⟩
theorem cj8:∀ b,b<w.heap.size->FB fs2 w b:=fun b h=>⟨h,(fun _ _ h=>by cases h),fun h=>h⟩
def jk3:Store:=⟨0,fun _=>none⟩
theorem gu8 {laid:List (String×DataW Unit)}(h:laidMet P laid w)(l:List (Nat×List IV))
  (hl:∀ x∈l,∃ (name:String) (d:DataW Unit) (t:TypeId) (m:Nat) (c:IV) (ivs:List IV),x.2=c::ivs/\(name,d)∈laid/\P.globalNamed name=some x.1/\(P.globals[x.1]?).map (·.type)=some t/\dv P m t d=some (c::ivs)) :
  ∀ g,VR fs2 w (fl9 l g) (.pointer (some ⟨g,0,none⟩)):=by
 intro g;unfold fl9
 cases hg:l.lookup g with
 | none=>exact .undef _
 | some cs=>
  obtain ⟨ps,hps,_,_⟩:=h
  have hm:(g,cs)∈l:=by
   clear hl
   induction l with
   | nil=>cases hg
   | cons x l ih=>
    obtain ⟨a,b⟩:=x;simp only[List.lookup] at hg;split at hg
    ·rename_i hb;cases hg;have:g=a:=by simpa using hb
     rw[this]; exact List.mem_cons_self ..
    ·exact List.mem_cons_of_mem _ (ih hg)
  obtain ⟨name,d,t,m,c,ivs,h1,h2,h3,h4,h5⟩:=hl _ hm;simp only at h1 h3 h4;rw[h1];exact gb6 (laid:=laid) cj8 laid ps hps name d h2 g t m c ivs h3 h4 h5
theorem jp5 (h:∀ g,VR fs2 w (E g) (.pointer (some ⟨g,0,none⟩))):Sim E fs2 w jk3 :=
 ⟨(fun _ _ _ _ _ h=>by cases h),(fun _ _ _ h=>by cases h),(fun _ _ _ h=>by cases h),(fun _ h=>by cases h),(fun _ _=>rfl),(fun _ _=>rfl),h,(fun _ _ _ h=>by cases h),fun _ h=>h.elim⟩
theorem gu9 {f:FuncId}{args:List IV}{rargs:Array Value}{b:Bool}(h:PC P E f args (.bool b))(he:∀ g,VR fs2 w (E g) (.pointer (some ⟨g,0,none⟩)))(ha:CR fs2 w args rargs) :
  Calls P f rargs w fun e w'=>e=.returned (.bool b)/\RowKit.Below w.heap.size w w':=by
 refine callsIn_wide.1 (CallsIn.mono (h jk3 fs2 w rargs (jp5 he) ha) ?_);rintro e w' ⟨v,r,ρ',σ',rfl,⟨rfl,rfl⟩,_,hv,hx⟩;cases hv;exact ⟨rfl,hx.os,hx.tape.1,hx.output,hx.size,fun k hk=>hx.keep k (cj8 k hk).ub⟩
theorem dq2 {H:Type}{enc:TypeId×Value->H}{f:Func}{s:ChangeSpec}{apart fresh handsOn again:Bool}{W W':World}{args:Array Value}{v:Value}{ds gs:List (DataW H)}{before pa pv:List MemPlace}
  (hW:DataW.Whole enc P f.params.toList s.vars apart W args.toList ds gs before)
  (hres:∀ (b:Nat) (sp:Nat->Bool) (hd:Bool),DataW.TrodAll enc P W' b sp hd f.resultTypes.toList (v.resultList f.resultTypes.size) (s.fn H (ds++gs)).results [])
  (hargs:∀ sp:Nat->Bool,(∀ p∈before,sp p.block=true)->DataW.TrodAll enc P W' 0 sp true f.params.toList args.toList (s.fn H (ds++gs)).args pa)
  (hvars:∀ sp:Nat->Bool,(∀ p∈before,sp p.block=true)->DataW.TrodVars enc P W' sp s.vars (s.fn H (ds++gs)).vars pv)
  (hps:before=pa++pv) (hb:RowKit.Below W.heap.size W W')
  (hok:∀ (j:Nat) (t:TypeId) (r:Value),f.resultTypes[j]? = some t->(v.resultList f.resultTypes.size)[j]? = some r->Value.okWide P W' .any 0 t r) :
  s.post enc P f apart fresh handsOn again W args v W':=by
 have hlt:∀ p∈before,p.block<W.heap.size:=fun p hp=>hW.lt p hp
 have hold:∀ p∈before,(fun b=>decide (b<W.heap.size)) p.block=true:=fun p hp=>by simpa using hlt p hp
 refine ⟨ds,gs,before,[],pa,pv,hW,hres _ _ _,hargs _ hold,hvars _ hold,World.keptBut_mono (fun p hp=>⟨hp,?_⟩) (hb.frame (·∈before)),fun _=>?_⟩
 ·rw[hps,List.mem_append] at hp;exact Or.inr hp
 ·obtain ⟨_,_,_,_,_,hz,hn⟩:=hW;refine ⟨hok,_,_,([]++pa)++pv,⟨[]++pa,pv,ChangeShapes.trodAll_append (hargs _ (fun _ _=>rfl)) (hres _ _ _),hvars _ (fun _ _=>rfl),rfl,?_,?_⟩,?_⟩
  ·intro b off hp;have hin:MemPlace.cell b off∈before:=by rw[hps]; simpa using hp
   rw[hb.frozen (hlt _ hin)];exact hz b off hin
  ·intro ha;have:=hn ha;rw[hps] at this
   simpa using this
  ·intro p hp _;rw[hps]
   simpa using hp
end Go.Id
set_option linter.all false
namespace Go.Id
open Go
variable {P:Program} {E:Nat->IV}
def opsL:List (IV×IV):=[(.str [],.int .u8 0),(.str [60],.int .u8 1),(.str [60,61],.int .u8 3),(.str [61],.int .u8 2),(.str [62],.int .u8 4),(.str [62,61],.int .u8 6)]
def el1 (op:Int):List UInt8:=if op=1 then [60] else if op=2 then [61] else if op=3 then [60,61] else if op=4 then [62] else if op=6 then [62,61] else []
def hp5 (g:Nat):IC :=
(.seq
 (.reg 0 [⟨(some 2),none,(.q (.mov (.c (.str []))))⟩] [0])
 (.seq
 (.seq
  (.reg 1 [⟨(some 5),none,(.q (.load none (.g g)))⟩,⟨(some 6),none,(.bd3 (.t 5))⟩] [0,6])
  (.block 0
  (.loop
   (.seq
   (.reg 2 [⟨(some 7),none,(.cd4 (.t 6))⟩,⟨(some 8),none,(.q (.ext 0 (.t 7)))⟩] [0,6,8])
   (.seq
    (.cond (.t 8)
    .skip
    (.exit 0))
    (.block 1
    (.seq
     (.reg 3 [⟨(some 9),none,(.fd8 (.t 6))⟩,⟨(some 10),none,(.q (.ext 0 (.t 9)))⟩,⟨(some 11),none,(.q (.ext 1 (.t 9)))⟩,⟨(some 3),none,(.q (.mov (.t 10)))⟩,⟨(some 4),none,(.q (.mov (.t 11)))⟩] [0,3,4,6])
     (.seq
     (.reg 4 [⟨(some 12),none,(.q (.mov (.t 4)))⟩,⟨(some 13),none,(.q (.mov (.t 0)))⟩,⟨(some 14),none,(.q (.bin .eql (.t 12) (.t 13)))⟩] [0,3,6,14])
     (.cond (.t 14)
      (.seq
      (.reg 5 [⟨(some 15),none,(.q (.mov (.t 3)))⟩,⟨(some 2),none,(.q (.mov (.t 15)))⟩] [2])
      .ret)
      .skip)))))))))
 (.seq
  (.reg 6 [⟨(some 2),none,(.q (.mov (.c (.str []))))⟩] [2])
  .ret)))
theorem eb6 {α:Type}{d:α}{e:α}:∀ {l:List α} {j:Nat},e∈l->e∈l.eraseIdx j\/e=l.getD j d:=by
 intro l
 induction l with
 | nil=>intro j h; cases h
 | cons x l ih=>
  intro j h
  cases j with
  | zero=>
   rcases List.mem_cons.1 h with rfl|h
   ·exact .inr rfl
   ·exact .inl h
  | succ j=>
   rcases List.mem_cons.1 h with rfl|h
   ·exact .inl (List.mem_cons_self ..)
   ·rcases ih (j:=j) h with h|h
    ·exact .inl (List.mem_cons_of_mem _ h)
    ·exact .inr h
structure TxI (σ0:Store) (n:Int) (id:Nat) (m:Nat) (fr:Frm) (σ:Store):Prop where
 f0:fr.get 0=.int .u8 n
 f6:fr.get 6=.ptr id 0
 next:σ0.next<=σ.next
 low:∀ i,i<σ0.next->σ.obj i=σ0.obj i
 lt:σ0.next<=id
 obj:∃ left cur,σ.obj id=some (.ar8 left cur)/\left.length=m/\(∀ e∈left,e∈opsL)/\∀ e∈opsL,e.2=.int .u8 n->e∈left
theorem gx6 {n:Int}{e:IV×IV}(h:e∈opsL)(hn:e.2=.int .u8 n):e.1=.str (el1 n):=by
 simp only[opsL,List.mem_cons,List.not_mem_nil,or_false] at h;rcases h with rfl|rfl|rfl|rfl|rfl|rfl<;>cases hn<;>rfl
theorem gd6 {n:Int}(h:∀ e∈opsL,e.2≠.int .u8 n):el1 n=[]:=by
 have h1:=h (.str [60],.int .u8 1) (by simp[opsL]);have h2:=h (.str [61],.int .u8 2) (by simp[opsL]);have h3:=h (.str [60,61],.int .u8 3) (by simp[opsL]);have h4:=h (.str [62],.int .u8 4) (by simp[opsL]);have h6:=h (.str [62,61],.int .u8 6) (by simp[opsL]);simp only[ne_eq,IV.int.injEq,true_and] at h1 h2 h3 h4 h6;simp[el1,Ne.symm h1,Ne.symm h2,Ne.symm h3,Ne.symm h4,Ne.symm h6]
theorem ie7 {f g:Nat}{pf:List Nat}{an:Ann}{n:Int}(hf:hn6 P f 16 pf an (hp5 g) [.t 2])(hg:E g=.ab8 [.al6 opsL]):PC P E f [.int .u8 n] (.str (el1 n)):=by
 refine jh3 noT hf (Nat.le_of_ble_eq_true rfl) fun σ hb=>?_
 simp only[hp5,dd2,dd3,cd5,bp5,dd4,cd6,dd5,cd7,fe5,im3,fe2,fe3,dd6,cd8,dd7,cd9,ce1,bp6,dd8,w_q,ce2,fe6,fe7,ce3,fe8,ce5,bp7,ce4,dd9,de1,de2,ce6,bp8,fe9,de3,ff1,de4,ce7,ce8,de5,ff2,ff3,ff4,ff5,ff6,ff7,ff8,ff9,fg1,fg2,de6,fg3,de7,fg5,de8,ce9,de9,df4,fg6,im6,im7,fg7,fg8,fg9,fh1,fh2,fh3,fh4,fh5,fh6,fh7,df5,cf1,bp9,bg4,cf2,bq1,df1,df2,df3,cf3,im4,im5,bg6,bq5,cg6,cg7,cg8,cg5,dg8,e_t,e_c,e_g,e_f,fh8,df6,fh9,fi1,fi2,ai2,fi3,df7,cf4,fi4,cf5,fi5,cf6,cf7,fi6,df8,fi7,df9,fi8,fi9,fj1,fj3,dg1,dg2,ej1,hn9,dz5,ei9,cf8,cf9,dg3,dg4,cg1,cg2,im8,bq2,dg5,dg6,dg7,bq3,cg3,bg5,bq4,bq6,cg9,bq7,bq8,dg9,dh1,ej2,ej3,ch1,ch2,ch3,ch4,dh2,dh3,ch5,bq9,fj4,fj5,fj6,fj7,fj8,fj9,fk1,fk2,fk3,fk4,fk5,fk6,fk7,dh4,dh5,dh6,dh7,dh8,dh9,di1,di2,di3,di4,bk2,bi7,ch6,ch7,ch8,di5,di6,di7,di8,fk8,fk9,di9,fl1,ch9,ci1,ci2,fl4,bn3,ho4,dj7,ci3,ci4,br1,bk9,by6,fl2,cn8,br2,fl3,cn9,br3,br4,ci5,ci6,ci7,ci8,br5,ci9,cj1,br6,bg7,ba8,br7,cj3,br8,dj1,dj2,dj3,cj4,br9,cj5,cj6,bs1,bg8,ba9,bs2,cj7,bs3,dj4,dj5,dj6,List.getElem?_cons_zero,List.getElem?_cons_succ,List.all_cons,List.all_nil,List.drop_zero,List.drop_succ_cons,List.head?_cons,Bool.and_true,Bool.and_self,Frm.bp4,Frm.get_nil,ab5,aa7,decide_true,decide_false,List.append_nil,List.nil_append,List.cons_append,Bool.false_eq_true,Bool.xor_false,Bool.xor_true,Bool.not_true,Bool.not_false,Nat.reduceEqDiff,Nat.reduceAdd,Nat.reduceMul,Nat.reduceLT,Nat.add_zero,Nat.zero_add,Nat.succ_ne_zero,if_true,if_false,↓reduceIte,reduceCtorEq,true_and,and_true,hg];refine hn7 noT (TxI σ n σ.next) opsL.length ⟨rfl,rfl,?_,?_,Nat.le_refl _,opsL,none,?_,rfl,fun _ h=>h,fun _ h _=>h⟩ ?_
 ·show σ.next<=σ.next+1; omega
 ·intro i hi; simp only[aa7]; rw[if_neg (by omega)]
 ·simp only[aa7,if_true]
 ·rintro m fr s ⟨f0,f6,h1,h2,h3,left,cur,h4,h5,h6,h7⟩;have hm:bm1 s (.ptr σ.next 0)=some (σ.next,left):=by simp only[bm1,h4]
  simp only[dd2,dd3,cd5,bp5,dd4,cd6,dd5,cd7,fe5,im3,fe2,fe3,dd6,cd8,dd7,cd9,ce1,bp6,dd8,w_q,ce2,fe6,fe7,ce3,fe8,ce5,bp7,ce4,dd9,de1,de2,ce6,bp8,fe9,de3,ff1,de4,ce7,ce8,de5,ff2,ff3,ff4,ff5,ff6,ff7,ff8,ff9,fg1,fg2,de6,fg3,de7,fg5,de8,ce9,de9,df4,fg6,im6,im7,fg7,fg8,fg9,fh1,fh2,fh3,fh4,fh5,fh6,fh7,df5,cf1,bp9,bg4,cf2,bq1,df1,df2,df3,cf3,im4,im5,bg6,bq5,cg6,cg7,cg8,cg5,dg8,e_t,e_c,e_g,e_f,fh8,df6,fh9,fi1,fi2,ai2,fi3,df7,cf4,fi4,cf5,fi5,cf6,cf7,fi6,df8,fi7,df9,fi8,fi9,fj1,fj3,dg1,dg2,ej1,hn9,dz5,ei9,cf8,cf9,dg3,dg4,cg1,cg2,im8,bq2,dg5,dg6,dg7,bq3,cg3,bg5,bq4,bq6,cg9,bq7,bq8,dg9,dh1,ej2,ej3,ch1,ch2,ch3,ch4,dh2,dh3,ch5,bq9,fj4,fj5,fj6,fj7,fj8,fj9,fk1,fk2,fk3,fk4,fk5,fk6,fk7,dh4,dh5,dh6,dh7,dh8,dh9,di1,di2,di3,di4,bk2,bi7,ch6,ch7,ch8,di5,di6,di7,di8,fk8,fk9,di9,fl1,ch9,ci1,ci2,fl4,bn3,ho4,dj7,ci3,ci4,br1,bk9,by6,fl2,cn8,br2,fl3,cn9,br3,br4,ci5,ci6,ci7,ci8,br5,ci9,cj1,br6,bg7,ba8,br7,cj3,br8,dj1,dj2,dj3,cj4,br9,cj5,cj6,bs1,bg8,ba9,bs2,cj7,bs3,dj4,dj5,dj6,List.getElem?_cons_zero,List.getElem?_cons_succ,List.all_cons,List.all_nil,List.drop_zero,List.drop_succ_cons,List.head?_cons,Bool.and_true,Bool.and_self,Frm.bp4,Frm.get_nil,ab5,aa7,decide_true,decide_false,List.append_nil,List.nil_append,List.cons_append,Bool.false_eq_true,Bool.xor_false,Bool.xor_true,Bool.not_true,Bool.not_false,Nat.reduceEqDiff,Nat.reduceAdd,Nat.reduceMul,Nat.reduceLT,Nat.add_zero,Nat.zero_add,Nat.succ_ne_zero,if_true,if_false,↓reduceIte,reduceCtorEq,true_and,and_true,f0,f6,hm];constructor
  ·intro h0;subst h0;have hno:∀ e∈opsL,e.2≠.int .u8 n:=fun e he hn=>by have:=h7 e he hn; cases this
   refine ⟨fun i hi=>h2 i hi,h1,?_⟩;rw[gd6 hno];exact .keep _ (.str _)
  ·intro j hj;have hmem:left.getD j (.undef,.undef)∈left:=ac9 _ hj;have hops:=h6 _ hmem;have hment:∀ c x,cn5 ⟨x,(s.put σ.next (.ar8 (left.eraseIdx j) (some c))).obj⟩ (.ptr σ.next 0)=some (.tuple [c.1,c.2]):=fun c x=>by simp only[cn5,aa7,if_true]
   generalize hc:left.getD j (.undef,.undef)=c at hmem hops ⊢
   obtain ⟨k,hk⟩:∃ k,c.2=.int .u8 k:=by
    simp only[opsL,List.mem_cons,List.not_mem_nil,or_false] at hops;rcases hops with rfl|rfl|rfl|rfl|rfl|rfl<;>exact ⟨_,rfl⟩
   simp only[hment,dd2,dd3,cd5,bp5,dd4,cd6,dd5,cd7,fe5,im3,fe2,fe3,dd6,cd8,dd7,cd9,ce1,bp6,dd8,w_q,ce2,fe6,fe7,ce3,fe8,ce5,bp7,ce4,dd9,de1,de2,ce6,bp8,fe9,de3,ff1,de4,ce7,ce8,de5,ff2,ff3,ff4,ff5,ff6,ff7,ff8,ff9,fg1,fg2,de6,fg3,de7,fg5,de8,ce9,de9,df4,fg6,im6,im7,fg7,fg8,fg9,fh1,fh2,fh3,fh4,fh5,fh6,fh7,df5,cf1,bp9,bg4,cf2,bq1,df1,df2,df3,cf3,im4,im5,bg6,bq5,cg6,cg7,cg8,cg5,dg8,e_t,e_c,e_g,e_f,fh8,df6,fh9,fi1,fi2,ai2,fi3,df7,cf4,fi4,cf5,fi5,cf6,cf7,fi6,df8,fi7,df9,fi8,fi9,fj1,fj3,dg1,dg2,ej1,hn9,dz5,ei9,cf8,cf9,dg3,dg4,cg1,cg2,im8,bq2,dg5,dg6,dg7,bq3,cg3,bg5,bq4,bq6,cg9,bq7,bq8,dg9,dh1,ej2,ej3,ch1,ch2,ch3,ch4,dh2,dh3,ch5,bq9,fj4,fj5,fj6,fj7,fj8,fj9,fk1,fk2,fk3,fk4,fk5,fk6,fk7,dh4,dh5,dh6,dh7,dh8,dh9,di1,di2,di3,di4,bk2,bi7,ch6,ch7,ch8,di5,di6,di7,di8,fk8,fk9,di9,fl1,ch9,ci1,ci2,fl4,bn3,ho4,dj7,ci3,ci4,br1,bk9,by6,fl2,cn8,br2,fl3,cn9,br3,br4,ci5,ci6,ci7,ci8,br5,ci9,cj1,br6,bg7,ba8,br7,cj3,br8,dj1,dj2,dj3,cj4,br9,cj5,cj6,bs1,bg8,ba9,bs2,cj7,bs3,dj4,dj5,dj6,List.getElem?_cons_zero,List.getElem?_cons_succ,List.all_cons,List.all_nil,List.drop_zero,List.drop_succ_cons,List.head?_cons,Bool.and_true,Bool.and_self,Frm.bp4,Frm.get_nil,ab5,aa7,decide_true,decide_false,List.append_nil,List.nil_append,List.cons_append,Bool.false_eq_true,Bool.xor_false,Bool.xor_true,Bool.not_true,Bool.not_false,Nat.reduceEqDiff,Nat.reduceAdd,Nat.reduceMul,Nat.reduceLT,Nat.add_zero,Nat.zero_add,Nat.succ_ne_zero,if_true,if_false,↓reduceIte,reduceCtorEq,true_and,and_true,hk];by_cases hkn:k=n
   ·subst hkn;simp only[dd2,dd3,cd5,bp5,dd4,cd6,dd5,cd7,fe5,im3,fe2,fe3,dd6,cd8,dd7,cd9,ce1,bp6,dd8,w_q,ce2,fe6,fe7,ce3,fe8,ce5,bp7,ce4,dd9,de1,de2,ce6,bp8,fe9,de3,ff1,de4,ce7,ce8,de5,ff2,ff3,ff4,ff5,ff6,ff7,ff8,ff9,fg1,fg2,de6,fg3,de7,fg5,de8,ce9,de9,df4,fg6,im6,im7,fg7,fg8,fg9,fh1,fh2,fh3,fh4,fh5,fh6,fh7,df5,cf1,bp9,bg4,cf2,bq1,df1,df2,df3,cf3,im4,im5,bg6,bq5,cg6,cg7,cg8,cg5,dg8,e_t,e_c,e_g,e_f,fh8,df6,fh9,fi1,fi2,ai2,fi3,df7,cf4,fi4,cf5,fi5,cf6,cf7,fi6,df8,fi7,df9,fi8,fi9,fj1,fj3,dg1,dg2,ej1,hn9,dz5,ei9,cf8,cf9,dg3,dg4,cg1,cg2,im8,bq2,dg5,dg6,dg7,bq3,cg3,bg5,bq4,bq6,cg9,bq7,bq8,dg9,dh1,ej2,ej3,ch1,ch2,ch3,ch4,dh2,dh3,ch5,bq9,fj4,fj5,fj6,fj7,fj8,fj9,fk1,fk2,fk3,fk4,fk5,fk6,fk7,dh4,dh5,dh6,dh7,dh8,dh9,di1,di2,di3,di4,bk2,bi7,ch6,ch7,ch8,di5,di6,di7,di8,fk8,fk9,di9,fl1,ch9,ci1,ci2,fl4,bn3,ho4,dj7,ci3,ci4,br1,bk9,by6,fl2,cn8,br2,fl3,cn9,br3,br4,ci5,ci6,ci7,ci8,br5,ci9,cj1,br6,bg7,ba8,br7,cj3,br8,dj1,dj2,dj3,cj4,br9,cj5,cj6,bs1,bg8,ba9,bs2,cj7,bs3,dj4,dj5,dj6,List.getElem?_cons_zero,List.getElem?_cons_succ,List.all_cons,List.all_nil,List.drop_zero,List.drop_succ_cons,List.head?_cons,Bool.and_true,Bool.and_self,Frm.bp4,Frm.get_nil,ab5,aa7,decide_true,decide_false,List.append_nil,List.nil_append,List.cons_append,Bool.false_eq_true,Bool.xor_false,Bool.xor_true,Bool.not_true,Bool.not_false,Nat.reduceEqDiff,Nat.reduceAdd,Nat.reduceMul,Nat.reduceLT,Nat.add_zero,Nat.zero_add,Nat.succ_ne_zero,if_true,if_false,↓reduceIte,reduceCtorEq,true_and,and_true];refine ⟨fun i hi=>by rw[if_neg (by omega)]; exact h2 i hi,h1,?_⟩;rw[gx6 hops hk];exact .keep _ (.str _)
   ·simp only[dd2,dd3,cd5,bp5,dd4,cd6,dd5,cd7,fe5,im3,fe2,fe3,dd6,cd8,dd7,cd9,ce1,bp6,dd8,w_q,ce2,fe6,fe7,ce3,fe8,ce5,bp7,ce4,dd9,de1,de2,ce6,bp8,fe9,de3,ff1,de4,ce7,ce8,de5,ff2,ff3,ff4,ff5,ff6,ff7,ff8,ff9,fg1,fg2,de6,fg3,de7,fg5,de8,ce9,de9,df4,fg6,im6,im7,fg7,fg8,fg9,fh1,fh2,fh3,fh4,fh5,fh6,fh7,df5,cf1,bp9,bg4,cf2,bq1,df1,df2,df3,cf3,im4,im5,bg6,bq5,cg6,cg7,cg8,cg5,dg8,e_t,e_c,e_g,e_f,fh8,df6,fh9,fi1,fi2,ai2,fi3,df7,cf4,fi4,cf5,fi5,cf6,cf7,fi6,df8,fi7,df9,fi8,fi9,fj1,fj3,dg1,dg2,ej1,hn9,dz5,ei9,cf8,cf9,dg3,dg4,cg1,cg2,im8,bq2,dg5,dg6,dg7,bq3,cg3,bg5,bq4,bq6,cg9,bq7,bq8,dg9,dh1,ej2,ej3,ch1,ch2,ch3,ch4,dh2,dh3,ch5,bq9,fj4,fj5,fj6,fj7,fj8,fj9,fk1,fk2,fk3,fk4,fk5,fk6,fk7,dh4,dh5,dh6,dh7,dh8,dh9,di1,di2,di3,di4,bk2,bi7,ch6,ch7,ch8,di5,di6,di7,di8,fk8,fk9,di9,fl1,ch9,ci1,ci2,fl4,bn3,ho4,dj7,ci3,ci4,br1,bk9,by6,fl2,cn8,br2,fl3,cn9,br3,br4,ci5,ci6,ci7,ci8,br5,ci9,cj1,br6,bg7,ba8,br7,cj3,br8,dj1,dj2,dj3,cj4,br9,cj5,cj6,bs1,bg8,ba9,bs2,cj7,bs3,dj4,dj5,dj6,List.getElem?_cons_zero,List.getElem?_cons_succ,List.all_cons,List.all_nil,List.drop_zero,List.drop_succ_cons,List.head?_cons,Bool.and_true,Bool.and_self,Frm.bp4,Frm.get_nil,ab5,aa7,decide_true,decide_false,List.append_nil,List.nil_append,List.cons_append,Bool.false_eq_true,Bool.xor_false,Bool.xor_true,Bool.not_true,Bool.not_false,Nat.reduceEqDiff,Nat.reduceAdd,Nat.reduceMul,Nat.reduceLT,Nat.add_zero,Nat.zero_add,Nat.succ_ne_zero,if_true,if_false,↓reduceIte,reduceCtorEq,true_and,and_true,hkn];refine ⟨left.length-1,by omega,rfl,rfl,h1,fun i hi=>?_,Nat.le_refl _,left.eraseIdx j,some c,?_,?_,fun e he=>h6 e (List.mem_of_mem_eraseIdx he),fun e he hn=>?_⟩
    ·simp only[aa7]; rw[if_neg (by omega)]; exact h2 i hi
    ·simp only[aa7,if_true]
    ·rw[List.length_eraseIdx_of_lt hj]
    ·have h8:=h7 e he hn;rcases eb6 (d:=(IV.undef,IV.undef)) (j:=j) h8 with h9|h9
     ·exact h9
     ·rw[h9] at hn; rw[hc,hk] at hn; cases hn; exact absurd rfl hkn
end Go.Id
set_option linter.all false
namespace Go.Id
open Go
variable {P:Program} {E:Nat->IV} {σ σ':Store} {N n0:Nat} {fr:Frm}
def upQ (I:Nat->Frm->Store->Prop)(i n:Nat)(Q:Exit->Frm->Store->Prop):Exit->Frm->Store->Prop
 | .normal,fr,σ=>i<n/\I (i+1) fr σ
 | e,fr,σ=>Q e fr σ
theorem jl5 {I:Nat->Frm->Store->Prop}{i n:Nat}{Q:Exit->Frm->Store->Prop}:upQ I i n Q .normal fr σ=(i<n/\I (i+1) fr σ):=nr rfl
theorem jl6 {I:Nat->Frm->Store->Prop}{i n k:Nat}{Q:Exit->Frm->Store->Prop}:upQ I i n Q (.exit k) fr σ=Q (.exit k) fr σ:=nr rfl
theorem jl7 {I:Nat->Frm->Store->Prop}{i n:Nat}{Q:Exit->Frm->Store->Prop}:upQ I i n Q .ret fr σ=Q .ret fr σ:=nr rfl
theorem ab7 {pt:PT}{ct:CT}(hT:TOK P E pt ct){x:IC}{Q:Exit->Frm->Store->Prop}(I:Nat->Frm->Store->Prop)(n:Nat)(h:I 0 fr σ)
  (hI:∀ i fr σ,i<=n->I i fr σ->wpT pt ct P E N n0 x fr σ (upQ I i n Q)):RI P E N n0 (.loop x) fr σ Q:=by
 refine fw4 (fun m fr σ=>∃ i,i<=n/\m=n-i/\I i fr σ) n ⟨0,Nat.zero_le _,rfl,h⟩ ?_;rintro m fr σ ⟨i,hi,rfl,hi0⟩;refine by5 x fr σ _ _ ?_ (bg3 hT x fr σ _ (hI i fr σ hi hi0));intro e f s q
 cases e with
 | normal=>exact ⟨n-(i+1),by have:=q.1; omega,i+1,q.1,rfl,q.2⟩
 | _=>exact q
theorem ae2 {α:Type}(es:List α)(i:Nat)(h:i<es.length):∃ a,a∈es/\es[i]? = some a/\es.drop i=a::es.drop (i+1)/\(∀ (f:α->List IV),(es.map f).getD i []=f a)/\es.take (i+1)=es.take i++[a]:=
 ⟨es[i],List.getElem_mem h,List.getElem?_eq_getElem h,List.drop_eq_getElem_cons h,fun f=>by simp[List.getD_eq_getElem?_getD,h],by rw[List.take_add_one,List.getElem?_eq_getElem h]; rfl⟩
theorem fz1 (s:List UInt8)(i:Nat)(h:i<s.length):((⟨s.toArray⟩:ByteArray).get! i)=s[i]:=by
 show (s.toArray)[i]! = s[i];simp[h]
theorem fd2 (s:List UInt8)(i:Nat)(h:i<s.length)(hb:s[i].toNat<128):Utf8.decode ⟨s.toArray⟩ i=(s[i].toNat,1):=by
 unfold Utf8.decode;simp only[Nat.add_zero,fz1 s i h];rw[if_pos hb]
theorem decode_high (s:List UInt8)(i:Nat)(h:i<s.length)(hb:¬ s[i].toNat<128):128<=(Utf8.decode ⟨s.toArray⟩ i).1:=by
 unfold Utf8.decode;simp only[Nat.add_zero,fz1 s i h];rw[if_neg hb];have e:Utf8.runeError=65533:=rfl
 repeat' split
 all_goals first|(rw[e]; omega)|(simp only[ge_iff_le,Bool.and_eq_true,decide_eq_true_eq] at *; omega)
def gr7 (P:Program)(E:Nat->IV)(id:Nat)(I:List (List IV)->Store->Prop)(S:Store->Prop):Prop :=
 ∀ a rest σ,I (a::rest) σ->CV P E (.yield id) a σ fun v s=>σ.next<=s.next/\((v=.bool true/\I rest s)\/(v=.bool false/\S s))
end Go.Id
/- The walk's rewriting rules,marked. Conditions: none; over any program. -/
namespace Go.Id
open Go
attribute [go_sem] dd2 dd3 cd5 bp5 dd4 cd6 dd5 cd7 fe5 im3 fe2 fe3 dd6 cd8 dd7 cd9 ce1 bp6 dd8 w_q ce2
 fe6 fe7 ce3 fe8 ce5 bp7 ce4 dd9 de1 de2 ce6 bp8 fe9 de3 ff1 de4 ce7 ce8 de5 ff2
 ff3 ff4 ff5 ff6 ff7 ff8 ff9 fg1 fg2 de6 fg3 de7 fg5 de8 ce9 de9 df4 fg6 im6 im7 fg7 fg8 fg9 fh1
 fh2 fh3 fh4 fh5 fh6 fh7 df5 cf1 bp9 bg4 cf2 bq1 df1 df2 df3 cf3 im4 im5 bg6 bq5
 cg6 cg7 cg8 cg5 dg8 e_t e_c e_g e_f fh8 df6 fh9 fi1 fi2 ai2 fi3 df7 cf4 fi4 cf5 fi5 cf6
 cf7 fi6 df8 fi7 df9 fi8 fi9 fj1 fj3 dg1 dg2 ej1 hn9 dz5 ei9 cf8 cf9 dg3 dg4 cg1 cg2 im8
 bq2 dg5 dg6 dg7 bq3 cg3 bg5 bq4 bq6 cg9 bq7 bq8 dg9 dh1 ej2 ej3 ch1 ch2
 ch3 ch4 dh2 dh3 ch5 bq9 fj4 fj5 fj6 fj7 fj8 fj9 fk1 fk2 fk3 fk4 fk5 fk6 fk7 dh4 dh5 dh6
 dh7 dh8 dh9 di1 di2 di3 di4 is8 is9 it1 it2 bk2 bi7 ch6 ch7 ch8 di5 di6 di7 di8 fk8 fk9 di9 fl1
 ch9 ci1 ci2 fl4 bn3 ho4 dj7 ci3 ci4 br1 bk9 by6 fl2 cn8 br2 fl3 cn9 br3 br4 ci5
 ci6 ci7 ci8 br5 ci9 cj1 br6 bg7 ba8 br7 cj3 br8 dj1 dj2 dj3 cj4 br9
 cj5 cj6 bs1 bg8 ba9 bs2 cj7 bs3 dj4 dj5 dj6 Frm.bp4 Frm.get_nil ab5 aa7 jl5 jl6
 jl7 ej1 hn9 dz5 ei9 jh1 is7 
attribute [go_sem] List.getElem?_cons_zero List.getElem?_cons_succ List.all_cons List.all_nil List.drop_zero List.drop_succ_cons List.head?_cons Bool.and_true Bool.and_self List.append_nil List.nil_append List.cons_append Bool.false_eq_true Bool.xor_false Bool.xor_true Bool.not_true Bool.not_false Nat.add_zero Nat.zero_add Nat.succ_ne_zero if_true if_false true_and and_true
end Go.Id
namespace Go.Id
open Go
variable {P:Program} {E:Nat->IV} {σ σ':Store} {N n0:Nat} {fr:Frm} {pf:List Nat}
theorem az3 {f:Nat}{ic:IC}{irs:List IR}{args:List IV}{v:IV}(hf:FOK P f (N,ic,irs))(hl:args.length<=N)
  (h:∀ σ,wpT noP noC P E N σ.next ic (bi6 args 0) σ (ga8 irs fun v' σ'=>v'=v/\σ'=σ)):PC P E f args v:=by
 obtain ⟨_,pf,an,h1⟩:=hf;exact jo3 noT h1 hl h
theorem C_f {f:Nat}{ic:IC}{irs:List IR}{args:List IV}{Qc:IV->Store->Prop}(hf:FOK P f (N,ic,irs))(hl:args.length<=N)
  (h:wpT noP noC P E N σ.next ic (bi6 args 0) σ (ga8 irs Qc)):C P E f args σ Qc:=by
 obtain ⟨_,pf,an,h1⟩:=hf;exact C_T noT h1 hl h
def emp:Store:=⟨0,fun _=>none⟩
theorem gr8:emp.next=0:=nr rfl
theorem hz4 {i:Nat}:emp.obj i=none:=nr rfl
attribute [go_sem] gr8 hz4
theorem ae9 {f:Nat}{ic:IC}{irs:List IR}{args:List IV}{v:IV}(hE:∀ g,Bnd 0 (E g))(hf:FOK P f (N,ic,irs))(hl:args.length<=N)(ha:∀ a∈args,Bnd 0 a)
  (h:wpT noP noC P E N 0 ic (bi6 args 0) emp (ga8 irs fun v' σ'=>bt7 σ' 0 v' v)):PC P E f args v :=
 es7 hE ha (C_f (σ:=emp) hf hl h)
theorem aa4 {f:Nat}{e:FE}{args:List IV}{v:IV}{K:IV->Store->Prop}(hf:FOK P f e)(h:PC P E f args v)(hk:K v σ):ct7 P E none f args σ K :=
 an1 hf.1 (ej4 h) fun _ _ ⟨h1,h2⟩=>by subst h1; subst h2; exact ⟨Nat.le_refl _,hk⟩
theorem af1 {f:Nat}{e:FE}{args:List IV}{Qc:IV->Store->Prop}{K:IV->Store->Prop}(hf:FOK P f e)(h:C P E f args σ Qc)(hk:∀ v s,Qc v s->σ.next<=s.next/\K v s):ct7 P E none f args σ K :=
 an1 hf.1 h hk
theorem ab3 {S:Nat->Prop}(b:Bool):Frz σ S (.bool b) (.bool b):=.keep _ (.bool _)
theorem ad9 {S:Nat->Prop}(k:IntKind)(n:Int):Frz σ S (.int k n) (.int k n):=.keep _ (.int _ _)
theorem bi4 {S:Nat->Prop}(s:List UInt8):Frz σ S (.str s) (.str s):=.keep _ (.str _)
theorem hm5 {ρ:Rho}{w:World}{v:IV}{rargs:Array Value}(h:CR ρ w [v] rargs):VR ρ w v (rargs.getD 0 undef):=by
 have:=h.2 0 (Nat.zero_lt_one)
 simpa using this
theorem er7 {ρ:Rho}{w:World}{u v:IV}{rargs:Array Value}(h:CR ρ w [u] rargs)(hv:VR ρ w v (rargs.getD 0 undef)):CR ρ w [v] rargs :=
 ⟨h.1,fun i hi=>by
  have:i=0:=by simp at hi; omega
  subst this
  simpa using hv⟩
theorem bm7 {f:Nat}{v:IV}(h1:PC P E f [.aa1] v)(h2:PC P E f [.af6] v):PC P E f [.aa5 []] v:=by
 intro σ ρ w rargs hs hr;have hv:=hm5 hr;generalize hx:rargs.getD 0 undef=r at hv
 cases hv with
 | cb8=>exact h1 σ ρ w rargs hs (er7 hr (by rw[hx]; exact .aa1))
 | aa5 es b o cap esz sp vs hf hsz hc hv hle=>exact h2 σ ρ w rargs hs (er7 hr (by rw[hx]; exact .af6 _ _))
theorem ad4 {i:Nat}(h:i<2^62):IntKind.i64.wrap ((i:Int)+1)=((i+1:Nat):Int):=by
 rw[wrap64 (by omega) (by omega)]; omega
theorem hz5 {cs:List IV}:ax1 cs []=some cs:=by simp only[ax1]
theorem hz6 {cs:List IV}{off n:Nat}{v:IV}{ps:List (Nat×Nat×IV)}:ax1 cs ((off,n,v)::ps)=if v.cs.length=n/\off+n<=cs.length/\v.cs.all IV.leaf=true then ax1 (ay1 cs off v.cs) ps else none:=by simp only[ax1]
theorem ip2 {c:IV}{cs:List IV}{vs:List IV}:ay1 (c::cs) 0 vs=vs++(c::cs).drop vs.length:=by simp[ay1]
theorem ip3 {c:IV}{cs vs:List IV}{n:Nat}:ay1 (c::cs) (n+1) vs=c::ay1 cs n vs:=by simp[ay1,Nat.add_right_comm]
theorem ip4 {d:TypeId}{a:List IV}{aZ:List (List IV)}:bt8 (.slice d) (.aa5 (a::aZ))=some false:=nr rfl
theorem ip5 {d:TypeId}:bt8 (.slice d) .aa1=some true:=nr rfl
theorem ip6 {d:TypeId}:bt8 (.slice d) .af6=some false:=nr rfl
theorem ip7 {d:TypeId}:bt8 (.slice d) .ac8=some false:=nr rfl
theorem ip8 {d:TypeId}{i o l e:Nat}:bt8 (.slice d) (.slice i o l e)=some false:=nr rfl
theorem as2 {d:TypeId}:bt8 (.pointer d) .ab6=some true:=nr rfl
theorem hz7 {d:TypeId}{cs:List IV}:bt8 (.pointer d) (.ab8 cs)=some false:=nr rfl
theorem hz8 {d:TypeId}{i o:Nat}:bt8 (.pointer d) (.ptr i o)=some false:=nr rfl
theorem gr9 {e:Nat}{l:List IV}:chunk e 0 l=[]:=nr rfl
theorem gs2 {e n:Nat}{l:List IV}:chunk e (n+1) l=l.take e::chunk e n (l.drop e):=nr rfl
theorem ip9 {z:List IV}:rep z 0=[]:=nr rfl
theorem iq1 {z:List IV}{n:Nat}:rep z (n+1)=z++rep z n:=nr rfl
theorem hz9 {off:Nat}{cs:List IV}:bf5 none off cs=cs[off]?:=nr rfl
theorem ia1 {off n:Nat}{cs:List IV}:bf5 (some n) off cs=if off+n<=cs.length then some (.agg ((cs.drop off).take n)) else none:=nr rfl
theorem iq2 {ag:Option Nat}{off:Nat}{cs:List IV}:il5 ag off (.agg cs)=bf5 ag off cs:=nr rfl
theorem iq3 {ag:Option Nat}{n esz:Nat}{cs:List IV}{k:IntKind}{i:Int}:hu4 ag n esz (.agg cs) (.int k i)=if 0<=i/\i<n then bf5 ag (i.toNat*esz) cs else none:=nr rfl
theorem gs3 {n esz:Nat}{v:IV}{k:IntKind}{i:Int}:db4 n esz v (.int k i)=if 0<=i/\i<n then cn4 (i.toNat*esz) v else none:=nr rfl
theorem cd1 {s:List UInt8}{k:IntKind}{i:Int}:dv6 (.str s) (.int k i)=if 0<=i then (s[i.toNat]?).map fun b=>.int .u8 b.toNat else none:=nr rfl
theorem hm6 {tags:List Nat}{neg:Bool}{xs ys:List IV}:gn5 tags true neg (.agg xs) (.agg ys)=(allEq tags xs ys).map fun b=>.bool (b ^^ neg):=nr rfl
theorem hm7:allEq [] [] []=some true:=nr rfl
def jd2:Option Bool->Option Bool->Option Bool
 | some a,some b=>some (a&&b)
 | _,_=>none
theorem iq4 {a b:Bool}:jd2 (some a) (some b)=some (a&&b):=nr rfl
theorem hm8 {t:Nat}{ts:List Nat}{x y:IV}{xs ys:List IV}:allEq (t::ts) (x::xs) (y::ys)=jd2 (ak1 t x y) (allEq ts xs ys):=by
 simp only[allEq]; cases ak1 t x y<;>cases allEq ts xs ys<;>rfl
theorem iq5 {k:IntKind}{a b:Int}:ak1 1 (.int k a) (.int k b)=some (decide (a=b)):=by simp[ak1]
theorem iq6 {a b:List UInt8}:ak1 2 (.str a) (.str b)=some (decide (a=b)):=nr rfl
theorem er8 {a b:List UInt8}:ao3 2 (.str a) (.str b)=some (decide (a=b)):=nr rfl
theorem iq7 {a b:Bool}:ak1 0 (.bool a) (.bool b)=some (a==b):=nr rfl
attribute [go_sem] hm6 hm7 hm8 iq4 iq7 iq5 iq6
attribute [go_sem] hz5 hz6 ip2 ip3 ip4 ip5 ip6 ip7 ip8 as2 hz7 hz8 gr9 gs2 ip9 iq1 hz9 ia1 iq2 iq3 gs3 cd1
attribute [go_sem] Bool.true_or Bool.or_true Bool.false_or Bool.or_false Bool.true_and Bool.false_and Bool.and_false
attribute [go_sem] List.length_cons List.length_nil List.take_succ_cons List.take_zero List.length_map Int.toNat_natCast
end Go.Id
/- Ranging over functions that tell rows: tellers,and the loops over them. Conditions: none; over any program. -/
namespace Go.Id
open Go
variable {P:Program} {E:Nat->IV} {σ σ':Store} {N n0:Nat} {fr:Frm}
def ja4 (I:List (List IV)->Store->Prop):Prop:=∀ rest s s',I rest s->s.next<=s'.next->(∀ i,i<s.next->s'.obj i=s.obj i)->I rest s'
def iq8 (n:Nat)(I:List (List IV)->Store->Prop)(S:Store->Prop):IV->Store->Prop:=fun _ s=>n<=s.next/\(I [] s\/S s)
def er9 (P:Program)(E:Nat->IV)(fv:IV)(evs:List (List IV))(own:Store->Prop):Prop :=
 ∀ (yid:Nat) (I:List (List IV)->Store->Prop) (S:Store->Prop) (σ:Store),(∀ rest s,I rest s->own s)->ja4 I->gr7 P E yid I S->I evs σ->CVf P E fv [.yield yid] σ (iq8 σ.next I S)
def jj6 (P:Program)(E:Nat->IV)(N n0:Nat)(id:Nat)(L:LoopState->Option JX->ak4)(x:IC)(K:IV->Store->Prop):Exit->Frm->Store->Prop
 | .normal,f,s=>s.obj id=some (L .ready none)/\wpT noP noC P E N n0 x f (s.put id (L .busy none)) (cs3 id L K)
 | _,_,_=>False
theorem jd3 {id:Nat}{L:LoopState->Option JX->ak4}{x:IC}{K:IV->Store->Prop}:jj6 P E N n0 id L x K .normal fr σ=(σ.obj id=some (L .ready none)/\wpT noP noC P E N n0 x fr (σ.put id (L .busy none)) (cs3 id L K)):=nr rfl
theorem jd4 {id:Nat}{L:LoopState->Option JX->ak4}{K:IV->Store->Prop}:cs3 id L K .normal fr σ=(σ.obj id=some (L .busy none)/\K (.bool true) (σ.put id (L .ready none))):=nr rfl
theorem jd5 {id:Nat}{L:LoopState->Option JX->ak4}{K:IV->Store->Prop}:cs3 id L K .ret fr σ=(σ.obj id=some (L .busy none)/\K (.bool false) (σ.put id (L .done (some .ret)))):=nr rfl
theorem jd6 {id i:Nat}{L:LoopState->Option JX->ak4}{K:IV->Store->Prop}:cs3 id L K (.exit i) fr σ=(σ.obj id=some (L .busy none)/\K (.bool false) (σ.put id (L .done (some (.exit i))))):=nr rfl
theorem ia2:da3 fr [] []=fr:=nr rfl
theorem ia3 {p:Nat}{ps:List Nat}{v:IV}{vs:List IV}:da3 fr (p::ps) (v::vs)=da3 (fr.set p v) ps vs:=nr rfl
theorem jd7 {p:Nat}{v:IV}:fr.set p v=(p,v)::fr:=nr rfl
def goQ (id n:Nat)(L:LoopState->Option JX->ak4)(J:List (List IV)->Store->Prop)(Q:Exit->Frm->Store->Prop)(fr:Frm)(rest:List (List IV)):IV->Store->Prop:=fun v s=>
 n<=s.next/\((v=.bool true/\s.obj id=some (L .ready none)/\J rest s)\/(v=.bool false/\∃ st pend,st≠.busy/\s.obj id=some (L st pend)/\hy6 Q fr (s.kill id) pend))
theorem eh8 {id n:Nat}{L:LoopState->Option JX->ak4}{J:List (List IV)->Store->Prop}{Q:Exit->Frm->Store->Prop}{rest:List (List IV)}(h1:n<=σ.next)(h2:σ.obj id=some (L .ready none))(h3:J rest σ):goQ id n L J Q fr rest (.bool true) σ:=⟨h1,.inl ⟨rfl,h2,h3⟩⟩
theorem ct2 {id n:Nat}{L:LoopState->Option JX->ak4}{J:List (List IV)->Store->Prop}{Q:Exit->Frm->Store->Prop}{rest:List (List IV)}(h1:n<=σ.next)(h2:σ.obj id=some (L .done (some .ret)))(h3:Q .ret fr (σ.kill id)):goQ id n L J Q fr rest (.bool false) σ:=⟨h1,.inr ⟨rfl,.done,some .ret,(fun h=>by cases h),h2,h3⟩⟩
theorem dp2 {g:IX}{ps:List Nat}{y x:IC}{Q:Exit->Frm->Store->Prop}{evs:List (List IV)}{own:Store->Prop}(hT:er9 P E (g.ev E fr) evs own)
  (J:List (List IV)->Store->Prop) (hown:∀ rest s,J rest s->own s) (hstab:ja4 J) (hlen:∀ a∈evs,a.length=ps.length)
  (hinit:∀ o,J evs ⟨σ.next+1,(σ.put σ.next o).obj⟩)
  (hbody:∀ (L:LoopState->Option JX->ak4) (pre:List (List IV)) (a:List IV) (rest:List (List IV)) (s:Store),evs=pre++a::rest->J (a::rest) s->s.obj σ.next=some (L .ready none)->σ.next<s.next ->
   wpT noP noC P E N s.next y (da3 fr ps a) s (jj6 P E N s.next σ.next L x (goQ σ.next s.next L J Q fr rest)))
  (hend:∀ s o,J [] s->σ.next<s.next->s.obj σ.next=some o->Q .normal fr (s.kill σ.next)) :
  RI P E N n0 (.bt1 g ps y x) fr σ Q:=by
 refine gq4 fun L hL=>?_
 let I:List (List IV)->Store->Prop:=fun rest s=>(∃ pre,evs=pre++rest)/\s.obj σ.next=some (L .ready none)/\σ.next<s.next/\J rest s
 let S:Store->Prop:=fun s=>∃ st pend,st≠.busy/\s.obj σ.next=some (L st pend)/\hy6 Q fr (s.kill σ.next) pend
 have hI:ja4 I:=by
  rintro rest s s' ⟨hp,h1,h2,h3⟩ hn hs;exact ⟨hp,by rw[hs _ h2]; exact h1,Nat.lt_of_lt_of_le h2 hn,hstab rest s s' h3 hn hs⟩
 have hst:gr7 P E σ.next I S:=by
  rintro a rest s ⟨⟨pre,hp⟩,h1,h2,h3⟩;refine ⟨by rw[h1]; rfl,?_⟩;have hb:=hbody L pre a rest s hp h3 h1 h2;refine hL s a _ (hlen a (by rw[hp]; simp)) h1 ?_;refine (bm2 y _ _ _ (by5 y _ _ _ _ ?_ (bg3 noT y _ _ _ hb)));intro e f s1 q
  cases e with
  | normal=>
   refine ⟨rfl,q.1,?_⟩;refine (bm2 x _ _ _ (by5 x _ _ _ _ ?_ (bg3 noT x _ _ _ q.2)))
   have hK:∀ v s2,goQ σ.next s.next L J Q fr rest v s2->s.next<=s2.next/\((v=.bool true/\I rest s2)\/(v=.bool false/\S s2)):=by
    rintro v s2 ⟨hn,h|h⟩
    ·exact ⟨hn,.inl ⟨h.1,⟨pre++[a],by rw[hp]; simp⟩,h.2.1,Nat.lt_of_lt_of_le h2 hn,h.2.2⟩⟩
    ·exact ⟨hn,.inr ⟨h.1,h.2⟩⟩
   intro e f s2 q2
   cases e with
   | normal=>exact ⟨q2.1,hK _ _ q2.2⟩
   | ret=>exact ⟨q2.1,hK _ _ q2.2⟩
   | exit i=>exact ⟨q2.1,hK _ _ q2.2⟩
   | _=>exact q2
  | _=>exact q.elim
 have h:=hT σ.next I S ⟨σ.next+1,(σ.put σ.next (L .ready none)).obj⟩ (fun rest s h=>hown rest s h.2.2.2) hI hst ⟨⟨[],rfl⟩,by simp only[aa7,if_true],Nat.lt_succ_self _,hinit _⟩;refine h.mono ?_;rintro v s ⟨hn,h|h⟩
 ·exact ⟨Nat.le_of_lt hn,.ready,none,(fun h=>by cases h),h.2.1,hend s _ h.2.2.2 h.2.2.1 h.2.1⟩
 ·exact ⟨Nat.le_of_lt hn,h⟩
theorem cn6 {yid:Nat}{I:List (List IV)->Store->Prop}{S:Store->Prop}{a:List IV}{rest:List (List IV)}{K:IV->Store->Prop}(h:gr7 P E yid I S)(hi:I (a::rest) σ)
  (h1:∀ s,σ.next<=s.next->I rest s->K (.bool true) s) (h2:∀ s,σ.next<=s.next->S s->K (.bool false) s):ga9 noC P E (.yield yid) a σ K:=by
 refine ⟨_,h a rest σ hi,?_⟩;rintro v s ⟨hn,⟨rfl,h⟩|⟨rfl,h⟩⟩
 ·exact ⟨hn,h1 s hn h⟩
 ·exact ⟨hn,h2 s hn h⟩
theorem fz2 {i:Nat}:(σ.kill i).next=σ.next:=nr rfl
theorem gs4 {i j:Nat}:(σ.kill i).obj j=if j=i then none else σ.obj j:=nr rfl
attribute [go_sem] fz2 gs4
attribute [go_sem] jd3 jd4 jd5 jd6 ia2 ia3 jd7
end Go.Id
/- Rows that grow,one by one; what is done with,aZ trees. Conditions: none; over any program. -/
namespace Go.Id
open Go
variable {P:Program} {E:Nat->IV} {σ σ':Store} {N n0:Nat} {fr:Frm}
def jd8 (σ:Store):IV->Prop
 | .ab8 _=>True
 | .ptr i _=>match σ.obj i with
  | some (.cells _)=>True
  | _=>False
 | _=>False
def jj7:Option ak4->Prop
 | some (.cells _)=>True
 | _=>False
theorem iq9 {ag:Option Nat}{x:IX}:bw5 E fr σ (.q (.load ag x))=jd8 σ (x.ev E fr):=nr rfl
theorem b_t {cs:List IV}:jd8 σ (.ab8 cs)=True:=nr rfl
theorem b_p {i o:Nat}:jd8 σ (.ptr i o)=jj7 (σ.obj i):=nr rfl
theorem b_o {cs:List IV}:jj7 (some (.cells cs))=True:=nr rfl
theorem jd9 {x:IX}:bw5 E fr σ (.q (.mov x))=True:=nr rfl
theorem ia4 {n:Nat}{x:IX}:bw5 E fr σ (.q (.aa6 n x))=True:=nr rfl
theorem ir1 {x:IX}:bw5 E fr σ (.q (.ak6 x))=True:=nr rfl
theorem je1 {n:Nat}{x:IX}:bw5 E fr σ (.q (.len n x))=True:=nr rfl
theorem je2 {n:Nat}{z:IV}{b:Bool}{x y:IX}:bw5 E fr σ (.q (.lkp n z b x y))=True:=nr rfl
theorem je3 {z:List IV}{ps:List (Nat×Nat×IX)}:bw5 E fr σ (.q (.bld z ps))=True:=nr rfl
theorem je4 {op:BinOp}{x y:IX}:bw5 E fr σ (.q (.bin op x y))=True:=nr rfl
theorem ia5 {n:Nat}{x y:IX}:bw5 E fr σ (.q (.ac4 n x y))=True:=nr rfl
theorem ir2 {k:IntKind}{x:IX}:bw5 E fr σ (.q (.conv k x))=True:=nr rfl
theorem je5 {n:Nat}{x:IX}:bw5 E fr σ (.q (.ext n x))=True:=nr rfl
theorem ir3 {x y z:IX}:bw5 E fr σ (.q (.pick x y z))=True:=nr rfl
theorem je6 {x:IX}:bw5 E fr σ (.q (.not x))=True:=nr rfl
theorem ia6 {f:Nat}{xs:List IX}:bw5 E fr σ (.af5 f xs)=True:=nr rfl
theorem ir4 {e n:Nat}{z:List IV}{ps:List (Nat×Nat×IX)}:bw5 E fr σ (.av4 e n z ps)=True:=nr rfl
theorem je7 {e n:Nat}{z:List IV}{ps:List (Nat×Nat×IX)}:bw5 E fr σ (.bsl e n z ps)=True:=nr rfl
theorem je8 {e:Nat}{x y:IX}:bw5 E fr σ (.app e x y)=True:=nr rfl
theorem ia7 {n:Nat}{x y:IX}:bw5 E fr σ (.store n x y)=True:=nr rfl
theorem ir5 {n:Nat}{x y z:IX}:bw5 E fr σ (.dc5 n x y z)=True:=nr rfl
theorem ia8 {z:List IV}:bw5 E fr σ (.alloc z)=True:=nr rfl
attribute [go_sem] iq9 b_t b_p b_o jd9 ia4 ir1 je1 je2 je3 je4 ia5 ir2 je5 ir3 je6 ia6 ir4 je7 je8 ia7 ir5 ia8
def Grow (σ:Store)(v:IV)(esz:Nat)(es:List (List IV)):Prop :=
 (v=.aa1/\es=[])\/∃ id,v=.slice id 0 es.length esz/\σ.obj id=some (.row es.flatten)/\id<σ.next
def ai7 (v:IV)(σ:Store):Store:=match v with
 | .slice id _ _ _=>σ.kill id
 | _=>σ
theorem am4 {esz:Nat}{es:List (List IV)}(h:∀ e∈es,e.length=esz):es.flatten.length=es.length*esz:=by
 induction es with
 | nil=>simp
 | cons e es ih=>simp[ih (fun x hx=>h x (List.mem_cons_of_mem _ hx)),h e (List.mem_cons_self ..),Nat.add_mul]; omega
theorem dy4 {esz:Nat}{es:List (List IV)}(h:∀ e∈es,e.length=esz)(i j:Nat)(hi:i<es.length)(hj:j<esz):es.flatten.getD (i*esz+j) .undef=(es.getD i []).getD j .undef:=by
 induction es generalizing i with
 | nil=>simp at hi
 | cons e es ih=>
  have he:=h e (List.mem_cons_self ..)
  cases i with
  | zero=>simp[List.getD_eq_getElem?_getD,List.getElem?_append,he,hj]
  | succ i=>
   have h1:¬ ((i+1)*esz+j<e.length):=by rw[he,Nat.add_mul]; omega
   have h2:(i+1)*esz+j-e.length=i*esz+j:=by rw[he,Nat.add_mul]; omega
   have:=ih (fun x hx=>h x (List.mem_cons_of_mem _ hx)) i (by simpa using hi);simp only[List.getD_eq_getElem?_getD,List.flatten_cons,List.getElem?_append,if_neg h1,h2,List.getElem?_cons_succ] at this ⊢;exact this
theorem bx7 {es:List (List IV)}(h:∀ e∈es,e.all IV.leaf=true):es.flatten.all IV.leaf=true:=by
 simp only[List.all_eq_true,List.mem_flatten];rintro c ⟨e,he,hc⟩;exact List.all_eq_true.1 (h e he) c hc
theorem al4 {v:IV}{esz nid:Nat}{es:List (List IV)}{e:List IV}(hg:Grow σ v esz es)(h:∀ x∈es,x.length=esz/\x.all IV.leaf=true)(he:e.length=esz/\e.all IV.leaf=true)(hn:es.length<2147483648) :
  bf6 σ nid esz v (.aa5 [e])=some (.slice nid 0 (es.length+1) esz,(ai7 v σ).put nid (.row (es++[e]).flatten)):=by
 have hsrc:cc5 σ esz (.aa5 [e])=some (1,e):=by simp[cc5,he.1]
 have hl:e.all IV.leaf=true:=he.2;rcases hg with ⟨rfl,rfl⟩|⟨id,rfl,ho,hid⟩
 ·unfold bf6;rw[hsrc];simp[hl,ai7]
 ·unfold bf6;rw[hsrc];have h1:es.flatten.all IV.leaf=true:=bx7 fun x hx=>(h x hx).2
  have h2:es.flatten.length=es.length*esz:=am4 fun x hx=>(h x hx).1
  simp[hl,ho,ai7,h1,h2];omega
theorem Grow.new {v:IV}{esz nid:Nat}{es:List (List IV)}{e:List IV}(hlt:nid<σ'.next)(ho:σ'.obj nid=some (.row (es++[e]).flatten)):Grow σ' (.slice nid 0 (es.length+1) esz) esz (es++[e]):=
 .inr ⟨nid,by simp,ho,hlt⟩
theorem ad8 (v:IV):(ai7 v σ).next=σ.next:=by cases v<;>rfl
theorem af7 {v:IV}{esz:Nat}{es:List (List IV)}(hg:Grow σ v esz es)(i:Nat)(o:ak4)(ho:σ.obj i=some o)(hr:∀ cs,o≠.row cs):(ai7 v σ).obj i=some o:=by
 rcases hg with ⟨rfl,rfl⟩|⟨id,rfl,ho',hid⟩
 ·exact ho
 ·show (if i=id then none else σ.obj i)=some o;rw[if_neg]
  ·exact ho
  ·intro e; subst e; rw[ho] at ho'; cases ho'; exact hr _ rfl
theorem Grow.frz {S:Nat->Prop}{v:IV}{esz:Nat}{es:List (List IV)}(hg:Grow σ v esz es)(h:∀ x∈es,x.length=esz)(hS:∀ id,v=.slice id 0 es.length esz->¬ S id)(hb:∀ e∈es,∀ c∈e,Nm S c):Frz σ S v (.aa5 es):=by
 rcases hg with ⟨rfl,rfl⟩|⟨id,rfl,ho,hid⟩
 ·exact .bu6
 ·refine .slice id 0 es.length esz es.flatten es (hS id rfl) (.inr ho) rfl (by rw[am4 h]; omega) (fun i hi=>h _ (ac9 _ hi)) (fun i hi j hj=>?_);rw[Nat.zero_add,dy4 h i j hi hj];exact .keep _ (hb _ (ac9 _ hi) _ (ac9 _ (by rw[h _ (ac9 _ hi)]; exact hj)))
theorem Grow.mono {v:IV}{esz:Nat}{es:List (List IV)}(hg:Grow σ v esz es)(hn:σ.next<=σ'.next)(h:∀ id,v=.slice id 0 es.length esz->id<σ.next->σ'.obj id=σ.obj id):Grow σ' v esz es:=by
 rcases hg with h0|⟨id,rfl,ho,hid⟩
 ·exact .inl h0
 ·exact .inr ⟨id,rfl,by rw[h id rfl hid]; exact ho,Nat.lt_of_lt_of_le hid hn⟩
theorem Grow.ne {v:IV}{esz id:Nat}{es:List (List IV)}{i:Nat}{o:ak4}(hg:Grow σ v esz es)(hv:v=.slice id 0 es.length esz)(ho:σ.obj i=some o)(hr:∀ cs,o≠.row cs):id≠i:=by
 intro e;subst e;rcases hg with ⟨rfl,_⟩|⟨id',rfl,ho',_⟩
 ·cases hv
 ·cases hv;rw[ho] at ho';cases ho';exact hr _ rfl
theorem bu9 {did esz nid:Nat}{es:List (List IV)}(ho:σ.obj did=some (.row []))(hne:es≠[])(h:∀ x∈es,x.length=esz/\x.all IV.leaf=true)(hn:es.length<=2147483648) :
  bf6 σ nid esz (.slice did 0 0 esz) (.aa5 es)=some (.slice nid 0 es.length esz,(σ.kill did).put nid (.row es.flatten)):=by
 have hsrc:cc5 σ esz (.aa5 es)=some (es.length,es.flatten):=by
  simp only[cc5];rw[if_pos (by simpa using fun x hx=>(h x hx).1)]
 have h1:es.flatten.all IV.leaf=true:=bx7 fun x hx=>(h x hx).2
 have h0:es.length≠0:=fun e=>hne (List.length_eq_zero_iff.1 e)
 unfold bf6;rw[hsrc];simp[h1,ho,h0,hn]
theorem bd2 {did esz nid:Nat}{x:IV}(ho:σ.obj did=some (.row []))(hx:cc5 σ esz x=some (0,[])):bf6 σ nid esz (.slice did 0 0 esz) x=some (.slice did 0 0 esz,σ):=by
 unfold bf6;rw[hx];simp[ho]
theorem av5 {esz:Nat}{es:List (List IV)}(h:∀ e∈es,e.length=esz)(j:Nat)(hj:j<es.length):(es.flatten.drop (j*esz)).take esz=es.getD j []:=by
 induction es generalizing j with
 | nil=>simp at hj
 | cons e es ih=>
  have he:=h e (List.mem_cons_self ..)
  cases j with
  | zero=>simp[he]
  | succ j=>
   have h2:(j+1)*esz=e.length+j*esz:=by rw[he,Nat.add_mul]; omega
   rw[List.flatten_cons,h2,List.drop_append,List.drop_of_length_le (by omega),List.nil_append,show e.length+j*esz-e.length=j*esz from by omega];exact ih (fun x hx=>h x (List.mem_cons_of_mem _ hx)) j (by simpa using hj)
theorem bg1 {l vs:List IV}{off:Nat}(h:(l.drop off).take vs.length=vs)(hl:off+vs.length<=l.length):ay1 l off vs=l:=by
 unfold ay1
 have h1:l.drop off=vs++l.drop (off+vs.length):=by
  rw[<- List.drop_drop]
  conv=>lhs; rw[<- List.take_append_drop vs.length (l.drop off)]
  rw[h]
 rw[List.append_assoc,<- h1,List.take_append_drop]
theorem dp3 {f:Nat}{Q:IV->Store->Prop}(h1:C P E f [.aa1] σ Q)(h2:C P E f [.af6] σ Q):C P E f [.aa5 []] σ Q:=by
 intro ρ w rargs hs hr;have hv:=hm5 hr;generalize hx:rargs.getD 0 undef=r at hv
 cases hv with
 | cb8=>exact h1 ρ w rargs hs (er7 hr (by rw[hx]; exact .aa1))
 | aa5 es b o cap esz sp vs hf hsz hc hv hle=>exact h2 ρ w rargs hs (er7 hr (by rw[hx]; exact .af6 _ _))
inductive gs5 (σ:Store) (S:Nat->Prop):List IV->List IV->Prop
 | nil:gs5 σ S [] []
 | cons {v v':IV} {vs vs':List IV} (h:Frz σ S v v') (t:gs5 σ S vs vs'):gs5 σ S (v::vs) (v'::vs')
theorem gs5.at {S:Nat->Prop}{cs cs':List IV}(h:gs5 σ S cs cs'):cs'.length=cs.length/\∀ i,i<cs.length->Frz σ S (cs.getD i .undef) (cs'.getD i .undef):=by
 induction h with
 | nil=>exact ⟨rfl,fun i hi=>absurd hi (Nat.not_lt_zero _)⟩
 | cons h _ ih=>
  refine ⟨by simp only[List.length_cons,ih.1],fun i hi=>?_⟩
  cases i with
  | zero=>exact h
  | succ i=>exact ih.2 i (by simpa using hi)
theorem Frz.il8 {S:Nat->Prop}{cs cs':List IV}(h:gs5 σ S cs cs'):Frz σ S (.agg cs) (.agg cs'):=.agg _ _ h.at.1 h.at.2
theorem Frz.cm2 {S:Nat->Prop}{cs cs':List IV}(h:gs5 σ S cs cs'):Frz σ S (.tuple cs) (.tuple cs'):=.tuple _ _ h.at.1 h.at.2
theorem jl8:((0:Nat):Int)=0:=nr rfl
theorem jl9:((1:Nat):Int)=1:=nr rfl
theorem jm1:((2:Nat):Int)=2:=nr rfl
theorem jm2:((3:Nat):Int)=3:=nr rfl
theorem jm3:((4:Nat):Int)=4:=nr rfl
theorem jm4:((5:Nat):Int)=5:=nr rfl
theorem jm5:((6:Nat):Int)=6:=nr rfl
theorem jm6:((7:Nat):Int)=7:=nr rfl
theorem jm7:((8:Nat):Int)=8:=nr rfl
theorem jm8:((9:Nat):Int)=9:=nr rfl
theorem je9:((10:Nat):Int)=10:=nr rfl
theorem jf1:((11:Nat):Int)=11:=nr rfl
theorem jf2:((12:Nat):Int)=12:=nr rfl
theorem jf3:((13:Nat):Int)=13:=nr rfl
theorem jf4:((14:Nat):Int)=14:=nr rfl
theorem jf5:((15:Nat):Int)=15:=nr rfl
theorem jf6:((16:Nat):Int)=16:=nr rfl
attribute [go_sem] jl8 jl9 jm1 jm2 jm3 jm4 jm5 jm6 jm7 jm8 je9 jf1 jf2 jf3 jf4 jf5 jf6 List.getD_cons_zero List.getD_cons_succ
theorem jm9:IntKind.i64.wrap 0=0:=nr rfl
theorem jn1:IntKind.i64.wrap 1=1:=nr rfl
theorem jn2:IntKind.i64.wrap 2=2:=nr rfl
theorem jn3:IntKind.i64.wrap 3=3:=nr rfl
theorem jn4:IntKind.i64.wrap 4=4:=nr rfl
theorem jn5:IntKind.i64.wrap 5=5:=nr rfl
theorem jn6:IntKind.i64.wrap 6=6:=nr rfl
theorem jn7:IntKind.i64.wrap 7=7:=nr rfl
theorem jn8:IntKind.i64.wrap 8=8:=nr rfl
theorem jn9:IntKind.i64.wrap 9=9:=nr rfl
theorem jf7:IntKind.i64.wrap 10=10:=nr rfl
theorem jf8:IntKind.i64.wrap 11=11:=nr rfl
theorem jf9:IntKind.i64.wrap 12=12:=nr rfl
theorem jg1:IntKind.i64.wrap 13=13:=nr rfl
theorem jg2:IntKind.i64.wrap 14=14:=nr rfl
theorem jg3:IntKind.i64.wrap 15=15:=nr rfl
theorem jg4:IntKind.i64.wrap 16=16:=nr rfl
attribute [go_sem] jm9 jn1 jn2 jn3 jn4 jn5 jn6 jn7 jn8 jn9 jf7 jf8 jf9 jg1 jg2 jg3 jg4
theorem ir6 {ag:Option Nat}{n m:Nat}:irL σ fr [.cell ag n,.t m]=(ay3 σ ag (fr.get n)).map fun v=>[v,fr.get m]:=by
 simp only[irL,irV]; cases ay3 σ ag (fr.get n)<;>rfl
attribute [go_sem] ir6 ai2
end Go.Id
/- Answers that are known,looked up; and what they are good for. Conditions: none; over any program. -/
namespace Go.Id
open Go
variable {P:Program} {E:Nat->IV}
def ct3 (r:IV->IV->Bool):List IV->List IV->Bool
 | [],[]=>true
 | a::x,b::y=>r a b&&ct3 r x y
 | _,_=>false
theorem bi5 {r:IV->IV->Bool}(hr:∀ a b,r a b=true->a=b):∀ x y:List IV,ct3 r x y=true->x=y:=by
 intro x
 induction x with
 | nil=>intro y h; cases y with
  | nil=>rfl
  | cons b y=>cases h
 | cons a x ih=>intro y h; cases y with
  | nil=>cases h
  | cons b y=>
   simp only[ct3,Bool.and_eq_true] at h;rw[hr a b h.1,ih y h.2]
def dy5 (r:IV->IV->Bool):List (List IV)->List (List IV)->Bool
 | [],[]=>true
 | a::x,b::y=>ct3 r a b&&dy5 r x y
 | _,_=>false
theorem dy6 {r:IV->IV->Bool}(hr:∀ a b,r a b=true->a=b):∀ x y:List (List IV),dy5 r x y=true->x=y:=by
 intro x
 induction x with
 | nil=>intro y h; cases y with
  | nil=>rfl
  | cons b y=>cases h
 | cons a x ih=>intro y h; cases y with
  | nil=>cases h
  | cons b y=>
   simp only[dy5,Bool.and_eq_true] at h;rw[bi5 hr a b h.1,ih y h.2]
def gs6:List UInt8->List UInt8->Bool
 | [],[]=>true
 | a::x,b::y=>Nat.beq a.toNat b.toNat&&gs6 x y
 | _,_=>false
theorem gs7:∀ x y:List UInt8,gs6 x y=true->x=y:=by
 intro x
 induction x with
 | nil=>intro y h; cases y with
  | nil=>rfl
  | cons b y=>cases h
 | cons a x ih=>intro y h; cases y with
  | nil=>cases h
  | cons b y=>
   simp only[gs6,Bool.and_eq_true] at h;rw[UInt8.toNat_inj.1 (Nat.eq_of_beq_eq_true h.1),ih y h.2]
def gs8:Nat->IV->IV->Bool
 | 0,_,_=>false
 | n+1,a,b=>match a with
  | .bool x=>match b with
   | .bool y=>match x,y with
    | true,true=>true
    | false,false=>true
    | _,_=>false
   | _=>false
  | .int k x=>match b with
   | .int k' y=>decide (k=k')&&decide (x=y)
   | _=>false
  | .str x=>match b with
   | .str y=>gs6 x y
   | _=>false
  | .ab6=>match b with
   | .ab6=>true
   | _=>false
  | .ab8 x=>match b with
   | .ab8 y=>ct3 (gs8 n) x y
   | _=>false
  | .aa5 x=>match b with
   | .aa5 y=>dy5 (gs8 n) x y
   | _=>false
  | .agg x=>match b with
   | .agg y=>ct3 (gs8 n) x y
   | _=>false
  | .tuple x=>match b with
   | .tuple y=>ct3 (gs8 n) x y
   | _=>false
  | .iface t x=>match b with
   | .iface t' y=>Nat.beq t t'&&gs8 n x y
   | _=>false
  | .ai1=>match b with
   | .ai1=>true
   | _=>false
  | .aj3=>match b with
   | .aj3=>true
   | _=>false
  | .ab9=>match b with
   | .ab9=>true
   | _=>false
  | .aa1=>match b with
   | .aa1=>true
   | _=>false
  | _=>false
theorem ia9:∀ (n:Nat) (a b:IV),gs8 n a b=true->a=b:=by
 intro n
 induction n with
 | zero=>intro a b h; cases h
 | succ n ih=>
  intro a b h;cases a<;>simp only[gs8] at h<;>(try cases h)<;>split at h<;>(try cases h)<;>(try rfl)
  ·split at h<;>(try cases h)<;>rfl
  ·simp only[Bool.and_eq_true,decide_eq_true_eq] at h; rw[h.1,h.2]
  ·rw[gs7 _ _ h]
  ·rw[bi5 ih _ _ h]
  ·rw[dy6 ih _ _ h]
  ·simp only[Bool.and_eq_true] at h; rw[Nat.eq_of_beq_eq_true h.1,ih _ _ h.2]
  ·rw[bi5 ih _ _ h]
  ·rw[bi5 ih _ _ h]
abbrev il9:=List (Nat×List IV×IV)
def il9.get:il9->Nat->List IV->Option IV
 | [],_,_=>none
 | (k,aZ,v)::r,f,args=>match Nat.beq k f with
  | true=>match ct3 (gs8 1000) aZ args with
   | true=>some v
   | false=>il9.get r f args
  | false=>il9.get r f args
def MOK (P:Program)(E:Nat->IV)(M:il9):Prop:=∀ e∈M,okF P e.1=true/\PC P E e.1 e.2.1 e.2.2
theorem MOK.nil:MOK P E []:=fun _ h=>by cases h
theorem MOK.cons {M:il9}{k:Nat}{aZ:List IV}{v:IV}(hk:okF P k=true)(h:PC P E k aZ v)(hM:MOK P E M):MOK P E ((k,aZ,v)::M):=fun e he=>by
 rcases List.mem_cons.1 he with rfl|he
 ·exact ⟨hk,h⟩
 ·exact hM e he
theorem ib5 {l:List (Nat×List IV)}(h:l.all (fun x=>x.2.all (au1 1000))=true):∀ g,Bnd 0 (fl9 l g):=by
 intro g;unfold fl9
 cases hg:l.lookup g with
 | none=>exact .undef
 | some cs=>
  have hm:∃ x∈l,x.2=cs:=by
   clear h
   induction l with
   | nil=>cases hg
   | cons x l ih=>
    obtain ⟨a,b⟩:=x;simp only[List.lookup] at hg;split at hg
    ·cases hg; exact ⟨_,List.mem_cons_self ..,rfl⟩
    ·obtain ⟨x,h1,h2⟩:=ih hg; exact ⟨x,List.mem_cons_of_mem _ h1,h2⟩
  obtain ⟨x,h1,rfl⟩:=hm;exact .ab8 _ fun c hc=>ax6 1000 c (List.all_eq_true.1 (List.all_eq_true.1 h x h1) c hc)
end Go.Id
