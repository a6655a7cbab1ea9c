/- The rest of the quiet operations,and all of them as one function on ideal values. Conditions: none; over any program. -/
import Derived.Test.YtjpdjifjokldlaaGreatDoorFwB2
import Derived.Lib.Bytealg
import Derived.KernelRfl
set_option linter.all false
namespace Go.Id
open Go
variable {P:Program} {w:World} {ρ:Rho}
theorem di7 {t:TypeId}{fs:Array Field}(hu:P.underlying t=some (.struct fs)):∀ k,ak8 P t=some k->∃ n,k=some n:=by
 intro k hk;have:ea9 P t=some true:=by simp[ea9,hu]
 unfold ak8 at hk;rw[this] at hk
 cases hz:szT P t with
 | none=>rw[hz] at hk; cases hk
 | some n=>rw[hz] at hk; cases hk; exact ⟨n,rfl⟩
theorem bl8:∀ (d:Nat) (t:TypeId) (tags:List Nat),cm7 P d t=some tags->iy1 P d t tags:=by
 intro d
 induction d with
 | zero=>intro t tags h; simp[cm7] at h
 | succ d ih=>
  intro t tags h ρ w e x y rx ry b vx vy hk hb;simp only[cm7] at h
  cases hu:P.underlying t with
  | none=>rw[hu] at h; cases h
  | some u=>
   rw[hu] at h;cases u<;>simp at h
   case bool=>
    subst h;rw[show ak8 P t=some none from by simp[ak8,ea9,hu]] at hk;rw[IV.bl4 hk.1,IV.bl4 hk.2] at hb;obtain ⟨a,c,rfl,rfl,rfl⟩:=fz1 (cf7 hb);cases vx; cases vy;rw[<- Nat.add_assoc];simp[Op.equalIn,run_underlying hu]
   case int k=>
    subst h;rw[show ak8 P t=some none from by simp[ak8,ea9,hu]] at hk;rw[IV.bl4 hk.1,IV.bl4 hk.2] at hb;obtain ⟨k,a,c,rfl,rfl,rfl⟩:=da1 (cf7 hb);cases vx; cases vy;rw[<- Nat.add_assoc];simp[Op.equalIn,run_underlying hu,cf5]
   case string=>
    subst h;rw[show ak8 P t=some none from by simp[ak8,ea9,hu]] at hk;rw[IV.bl4 hk.1,IV.bl4 hk.2] at hb;obtain ⟨a,c,rfl,rfl,rfl⟩:=fz3 (cf7 hb);cases vx; cases vy;rw[<- Nat.add_assoc];simp[Op.equalIn,run_underlying hu,beq_toListBytes,eb1]
   case struct fs=>
    obtain ⟨hst,h⟩:=h;have hfo:P.fieldsOf t=fs:=by simp[Program.fieldsOf,hu]
    cases hlk:ak8 P t with
    | none=>rw[hlk] at hk; exact hk.elim
    | some k=>
     obtain ⟨n,rfl⟩:=di7 hu k hlk;rw[hlk] at hk;obtain ⟨⟨xs,rfl⟩,⟨ys,rfl⟩⟩:=hk
     cases vx with
     | agg _ rxs hx vx=>
      cases vy with
      | agg _ rys hy vy=>
       simp only[IV.cs] at hb;rw[<- Nat.add_assoc,run_equalIn_struct w (e+d) t rxs rys (by rw[hfo]; exact hu) hst,hfo];exact cm8 (fun t tags h=>ih t tags h) hx hy vx vy fs.toList 0 tags b h (by simpa using hb)
   case array n e0=>
    split at h
    ·rename_i k hue;split at h
     ·rename_i hc;cases h;have hlk:ak8 P t=(szT P t).map some:=by simp[ak8,ea9,hu]
      cases hsz:szT P t with
      | none=>rw[hlk,hsz] at hk; exact hk.elim
      | some m=>
       rw[hlk,hsz] at hk;obtain ⟨⟨xs,rfl⟩,⟨ys,rfl⟩⟩:=hk
       cases vx with
       | agg _ rxs hx vx=>
        cases vy with
        | agg _ rys hy vy=>
         rw[<- Nat.add_assoc];exact hu6 hu hue hc.1 (by omega) hx hy vx vy hb
     ·cases h
    ·cases h
def hu7 (tags:List Nat)(neg:Bool):IV->IV->Option IV
 | .agg xs,.agg ys=>(allEq tags xs ys).map fun b=>.bool (b ^^ neg)
 | _,_=>none
theorem di8 {d:Nat}(hd:d<=10000){t:TypeId}{tags:List Nat}{n:Nat}{op:BinOp}{x y:Operand}{a b v:IV}{ra rb:Value}(ht:cm7 P d t=some tags)(hl:ak8 P t=some (some n))
  (hm:P.eqGuardType P.depth t=false) (hop:op=.eql\/op=.neq) (h:hu7 tags (decide (op=.neq)) a b=some v) (ha:VR ρ w a ra) (hb:VR ρ w b rb) :
  ∃ r,(do eqGuard op t x y ra rb; binOp op t ra rb:Sem Value).run P w=.ok r w/\VR ρ w v r:=by
 cases ha with
 | agg xs rxs hx vx=>
  cases hb with
  | agg ys rys hy vy=>
   simp only[hu7] at h
   cases hq:allEq tags xs ys with
   | none=>rw[hq] at h; cases h
   | some q=>
    rw[hq] at h;cases h;have he:=bl8 d t tags ht ρ w (10000-d) (.agg xs) (.agg ys) (.agg rxs) (.agg rys) q (.agg xs rxs hx vx) (.agg ys rys hy vy) (by rw[hl]; exact ⟨⟨_,rfl⟩,⟨_,rfl⟩⟩) hq;rw[show 10000-d+d=10000 from by omega] at he;simp only[Sem.run_bind,run_eqGuard_agg w op t x y rxs rys hm,Result.andThen_ok];rcases hop with rfl|rfl
    ·rw[run_eql_struct,he]; exact ⟨_,rfl,by simpa using VR.bool q⟩
    ·rw[run_neq_struct,he]; exact ⟨_,rfl,by simpa using VR.bool (!q)⟩
  | _=>simp[hu7] at h
 | _=>simp[hu7] at h
def hr5:IV->Option IV
 | .bool b=>some (.bool (!b))
 | _=>none
theorem fe1 {a v:IV}{ra:Value}(h:hr5 a=some v)(ha:VR ρ w a ra):∃ r,(Op.unary .not ra).run P w=.ok r w/\VR ρ w v r:=by
 cases ha<;>simp[hr5] at h;subst h;exact ⟨_,rfl,.bool _⟩
def hr6:IV->Option IV
 | .int k n=>some (.int k (k.wrap (0-n)))
 | _=>none
theorem fe2 {a v:IV}{ra:Value}(h:hr6 a=some v)(ha:VR ρ w a ra):∃ r,(Op.unary .neg ra).run P w=.ok r w/\VR ρ w v r:=by
 cases ha<;>simp only[hr6] at h<;>cases h;exact ⟨_,rfl,.int _ _⟩
def ek1 (k:IntKind):IV->Option IV
 | .int _ n=>some (.int k (k.wrap n))
 | _=>none
theorem ek2 {src dst:TypeId}{k:IntKind}{a v:IV}{ra:Value}{u:TypeDesc}(hs:P.underlying src=some u)(hd:P.underlying dst=some (.int k))(h:ek1 k a=some v)(ha:VR ρ w a ra) :
  ∃ r,(convert src dst ra).run P w=.ok r w/\VR ρ w v r:=by
 cases ha<;>simp only[ek1] at h<;>cases h;exact ⟨_,by simp[convert,run_underlying hs,run_underlying hd,Conv.intToInt],.int _ _⟩
def co3:IV->Option IV
 | .str s=>some (.str s)
 | _=>none
theorem ds9 {src dst:TypeId}{a v:IV}{ra:Value}{u:TypeDesc}(hs:P.underlying src=some u)(hd:P.underlying dst=some .string)(h:co3 a=some v)(ha:VR ρ w a ra) :
  ∃ r,(convert src dst ra).run P w=.ok r w/\VR ρ w v r:=by
 cases ha<;>simp only[co3] at h<;>cases h;exact ⟨_,by simp[convert,run_underlying hs,run_underlying hd],.str _⟩
def da2 (v:IV):Option IV :=
 match v with
 | .ad4 _=>some v
 | .ptr _ _=>some v
 | .func (.func _) _ _=>some v
 | .yield _=>some v
 | _=>none
theorem ek3 {a v:IV}{o:Oper}{x:Operand}{ev:Operand->Value}(ho:o.op=.nilCheck x)
  (h:da2 a=some v) (ha:VR ρ w a (ev x)):∃ r,(execOp ev o).run P w=.ok (.value r) w/\VR ρ w v r:=by
 have key:∀ r:Value,(∀ q,ev x=q->(match q with|.pointer none|.nilIface|.nilFunc=>False|.func (.method _) _ _=>False|_=>True))->ev x=r->(execOp ev o).run P w=.ok (.value r) w:=by
  intro r hq hr;have:=hq _ hr;unfold execOp;rw[ho];simp only[hr]
  cases r with
  | pointer p=>cases p<;>simp at this ⊢
  | func fn f c=>cases fn<;>simp at this ⊢
  | _=>first|rfl|simp at this
 generalize hev:ev x=r at ha
 cases ha with
 | ad4 cs b off vs hf hc hv=>
  cases h
  exact ⟨_,key _ (fun q hq=>by rw[hev] at hq; subst hq; trivial) hev,.ad4 cs b off vs hf hc hv⟩
 | ptr id off B d hid=>cases h; exact ⟨_,key _ (fun q hq=>by rw[hev] at hq; subst hq; trivial) hev,.ptr id off B d hid⟩
 | cd5 id off ad hid=>cases h; exact ⟨_,key _ (fun q hq=>by rw[hev] at hq; subst hq; trivial) hev,.cd5 id off ad hid⟩
 | func fn first cap rf rc hy h1 h2 hf hc=>
  cases fn<;>simp[da2] at h;subst h
  exact ⟨_,key _ (fun q hq=>by rw[hev] at hq; subst hq; trivial) hev,.func _ first cap rf rc hy h1 h2 hf hc⟩
 | yield id B d hid=>cases h; exact ⟨_,key _ (fun q hq=>by rw[hev] at hq; subst hq; trivial) hev,.yield id B d hid⟩
 | av7 id B hid=>cases h; exact ⟨_,key _ (fun q hq=>by rw[hev] at hq; subst hq; trivial) hev,.av7 id B hid⟩
 | _=>simp[da2] at h
end Go.Id
/- Constants,zero values,building of structs and arrays; tables that are read. Conditions: none; over any program. -/
namespace Go.Id
open Go
variable {P:Program} {w:World} {ρ:Rho}
def cv1:Value->Option IV
 | .bool b=>some (.bool b)
 | .int k n=>some (.int k n)
 | .string s=>some (.str s.data.toList)
 | .pointer none=>some .ad5
 | .slice none 0 0=>some .aa1
 | .map none=>some .ag2
 | .nilFunc=>some .ae4
 | .nilIface=>some .ae2
 | _=>none
def cvL:List Value->Option (List IV)
 | []=>some []
 | v::vs=>match cv1 v,cvL vs with
  | some x,some xs=>some (x::xs)
  | _,_=>none
def cv:Value->Option IV
 | .agg cs=>(cvL cs.toList).map .agg
 | v=>cv1 v
def cvs (v:Value):Option (List IV):=cvL v.cells.toList
theorem di9 {v:Value}{x:IV}(h:cv1 v=some x):VR ρ w x v:=by
 unfold cv1 at h;split at h<;>cases h
 ·exact .bool _
 ·exact .int _ _
 ·rename_i s; exact .str _
 ·exact .ad5
 ·exact .aa1
 ·exact .ag2
 ·exact .ae4
 ·exact .ae2
theorem fe3 {vs:List Value}{xs:List IV}(h:cvL vs=some xs):xs.length=vs.length/\∀ i,i<xs.length->VR ρ w (xs.getD i .undef) (vs.getD i undef):=by
 induction vs generalizing xs with
 | nil=>cases h; exact ⟨rfl,fun i hi=>by simp at hi⟩
 | cons v vs ih=>
  simp only[cvL] at h;split at h
  ·rename_i x ys h1 h2;cases h;obtain ⟨hl,hv⟩:=ih h2;refine ⟨by simp[hl],fun i hi=>?_⟩
   cases i with
   | zero=>simpa using di9 h1
   | succ i=>simpa using hv i (by simpa using hi)
  ·cases h
theorem cf8 {v:Value}{xs:List IV}(h:cvs v=some xs):xs.length=v.cells.size/\∀ i,i<xs.length->VR ρ w (xs.getD i .undef) (v.cells.getD i undef):=by
 obtain ⟨hl,hv⟩:=fe3 (ρ:=ρ) (w:=w) h;refine ⟨by simpa using hl,fun i hi=>?_⟩;have:=hv i hi
 simpa [Array.getD_eq_getD_getElem?,List.getD_eq_getElem?_getD] using this
theorem eb2 {v:Value}{x:IV}(h:cv v=some x):VR ρ w x v:=by
 unfold cv at h;split at h
 ·rename_i cs
  cases hc:cvL cs.toList with
  | none=>rw[hc] at h; cases h
  | some xs=>
   rw[hc] at h;cases h;obtain ⟨hl,hv⟩:=cf8 (ρ:=ρ) (w:=w) (v:=.agg cs) (xs:=xs) (by simpa [cvs,Value.cells] using hc);exact .agg _ _ (by simpa [Value.cells] using hl) hv
 ·exact di9 h
def CR (ρ:Rho)(w:World)(xs:List IV)(rs:Array Value):Prop:=xs.length=rs.size/\∀ i,i<xs.length->VR ρ w (xs.getD i .undef) (rs.getD i undef)
def IV.leaf:IV->Bool
 | .undef|.agg _|.tuple _=>false
 | _=>true
theorem da3 {r:Value}(h:r.oneCell'=true):r.cells=#[r]:=by
 cases r<;>first|rfl|simp[Value.oneCell'] at h
theorem bf7 {v:IV}{r:Value}(h:v.leaf=true)(hv:VR ρ w v r):r.oneCell'=true/\r.cells=#[r]:=by
 have:r.oneCell'=true:=by
  cases hv<;>first|rfl|assumption|(simp[IV.leaf] at h; done)
 exact ⟨this,da3 this⟩
theorem bl9 {v:IV}{r:Value}(hv:VR ρ w v r)(hk:v.cs.all IV.leaf=true):CR ρ w v.cs r.cells/\∀ x∈r.cells.toList,x.oneCell'=true:=by
 by_cases ha:∃ zs,v=.agg zs
 ·obtain ⟨zs,rfl⟩:=ha
  cases hv with
  | agg _ rs h1 h2=>
   refine ⟨⟨h1,h2⟩,fun x hx=>?_⟩;obtain ⟨i,hi,rfl⟩:=List.mem_iff_getElem.1 hx;simp[Value.cells] at hi;have hi':i<zs.length:=by omega
   have hl:(zs.getD i .undef).leaf=true:=by
    have:=List.all_eq_true.1 hk zs[i] (List.getElem_mem _)
    simpa [List.getD_eq_getElem?_getD,hi'] using this
   have:=(bf7 hl (h2 i hi')).1;rw[ac7 _ _ _ hi] at this
   simpa [Value.cells] using this
 ·have hn:∀ zs,v≠.agg zs:=fun zs h=>ha ⟨zs,h⟩
  rw[IV.bl4 hn] at hk ⊢;have hl:v.leaf=true:=by simpa using hk
  obtain ⟨h1,h2⟩:=bf7 hl hv;rw[h2];refine ⟨⟨rfl,fun i hi=>?_⟩,fun x hx=>?_⟩
  ·simp at hi; subst hi; simpa using hv
  ·simp at hx; subst hx; exact h1
def ax1 (l:List IV)(off:Nat)(vs:List IV):List IV:=l.take off++vs++l.drop (off+vs.length)
theorem ah3 {l:List IV}{off:Nat}{vs:List IV}(h:off+vs.length<=l.length):(ax1 l off vs).length=l.length:=by
 unfold ax1; simp; omega
theorem dj1 {l:List IV}{off:Nat}{vs:List IV}(h:off+vs.length<=l.length)(i:Nat)(d:IV) :
  (ax1 l off vs).getD i d=if off<=i/\i<off+vs.length then vs.getD (i-off) d else l.getD i d:=by
 unfold ax1;simp only[List.getD_eq_getElem?_getD,List.getElem?_append,List.length_append,List.length_take,List.getElem?_take,List.getElem?_drop];have h1:min off l.length=off:=by omega
 rw[h1];by_cases c1:i<off+vs.length
 ·by_cases c2:i<off
  ·simp[c1,c2,Nat.not_le.2 c2]
  ·simp[c1,c2,Nat.not_lt.1 c2]
 ·have c2:¬ (i<off):=by omega
  simp only[c1,if_false,and_false];congr 2;omega
theorem fe4 (off:Nat):∀ (vs:List Value) (k:Nat) (cells:Array Value),
  ((vs.zipIdx k).foldl (fun cs (c,j)=>cs.setIfInBounds (off+j) c) cells).size=cells.size /\
  ∀ i d,off+k+vs.length<=cells.size->((vs.zipIdx k).foldl (fun cs (c,j)=>cs.setIfInBounds (off+j) c) cells).getD i d =
   if off+k<=i/\i<off+k+vs.length then vs.getD (i-(off+k)) d else cells.getD i d:=by
 intro vs
 induction vs with
 | nil=>intro k cells; exact ⟨rfl,fun i d h=>by simp; intro h1 h2; omega⟩
 | cons v vs ih=>
  intro k cells;simp only[List.zipIdx_cons,List.foldl_cons];obtain ⟨h1,h2⟩:=ih (k+1) (cells.setIfInBounds (off+k) v);refine ⟨by rw[h1]; simp,fun i d h=>?_⟩;simp at h;rw[h2 i d (by simp; omega)];by_cases c1:off+k<=i/\i<off+k+(v::vs).length
  ·obtain ⟨ca,cb⟩:=c1;simp at cb;by_cases c2:i=off+k
   ·subst c2;have hlt:off+k<cells.size:=by omega
    have c3:¬ (off+(k+1)<=off+k):=by omega
    simp[c3,Array.getD_eq_getD_getElem?,hlt]
   ·have c3:off+(k+1)<=i/\i<off+(k+1)+vs.length:=by omega
    have c4:off+k<=i/\i<off+k+(v::vs).length:=by simp; omega
    rw[if_pos c3,if_pos c4];have:i-(off+k)=(i-(off+(k+1)))+1:=by omega
    rw[this];simp
  ·have c3:¬ (off+(k+1)<=i/\i<off+(k+1)+vs.length):=by simp at c1; omega
   rw[if_neg c3,if_neg c1];have c2:off+k≠i:=by simp at c1; omega
   simp[Array.getD_eq_getD_getElem?,Array.getElem?_setIfInBounds,c2]
def an2:List IV->List (Nat×Nat×IV)->Option (List IV)
 | cells,[]=>some cells
 | cells,(off,size,v)::rest=>if v.cs.length=size/\off+size<=cells.length/\v.cs.all IV.leaf=true then an2 (ax1 cells off v.cs) rest else none
theorem co4 {place:Nat->Option (Nat×Nat)}:∀ (ips:List (Nat×Nat×IV)) (rps:List (Nat×Value)) (cells out:List IV) (rcells:Array Value),CR ρ w cells rcells ->
  ips.length=rps.length->(∀ j,j<ips.length->place (rps.getD j (0,undef)).1=some ((ips.getD j (0,0,.undef)).1,(ips.getD j (0,0,.undef)).2.1)/\VR ρ w (ips.getD j (0,0,.undef)).2.2 (rps.getD j (0,undef)).2) ->
  an2 cells ips=some out->∃ rout,Instr.fill place rcells rps=some rout/\CR ρ w out rout:=by
 intro ips
 induction ips with
 | nil=>
  intro rps cells out rcells hc hl hp h
  cases rps with
  | nil=>cases h; exact ⟨rcells,rfl,hc⟩
  | cons _ _=>simp at hl
 | cons ip ips ih=>
  intro rps cells out rcells hc hl hp h;obtain ⟨off,size,v⟩:=ip
  cases rps with
  | nil=>simp at hl
  | cons rp rps=>
   obtain ⟨i,r⟩:=rp;simp only[an2] at h;split at h
   case isFalse=>cases h
   rename_i hh;obtain ⟨h1,h2,h3⟩:=hh;obtain ⟨hp0,hv0⟩:=hp 0 (by simp);simp at hp0 hv0;obtain ⟨⟨c1,c2⟩,c3⟩:=bl9 hv0 h3;have hs:r.cells.size=size:=by omega
   have hcs:rcells.size=cells.length:=hc.1.symm;obtain ⟨f1,f2⟩:=fe4 off r.cells.toList 0 rcells
   have hfold:r.cells.zipIdx.foldl (fun cs (c,j)=>cs.setIfInBounds (off+j) c) rcells=(r.cells.toList.zipIdx 0).foldl (fun cs (c,j)=>cs.setIfInBounds (off+j) c) rcells:=by
    rw[<- Array.foldl_toList]; simp
   refine (ih rps (ax1 cells off v.cs) out (r.cells.zipIdx.foldl (fun cs (c,j)=>cs.setIfInBounds (off+j) c) rcells) ⟨?_,fun j hj=>?_⟩ (by simpa using hl) (fun j hj=>by simpa using hp (j+1) (by simpa using hj)) h).imp fun rout ho=>⟨?_,ho.2⟩
   ·rw[hfold,f1,ah3 (by omega)]; exact hc.1
   ·rw[ah3 (by omega)] at hj;rw[dj1 (by omega),hfold,f2 j undef (by simp; omega)];simp only[Nat.add_zero,Array.length_toList];rw[hs,h1];split
    ·rename_i hj';have:=c2 (j-off) (by omega)
     simpa [Array.getD_eq_getD_getElem?,List.getD_eq_getElem?_getD] using this
    ·exact hc.2 j hj
   ·simp only[Instr.fill,hp0];rw[if_neg (by simp; omega)];exact ho.1
end Go.Id
/- Maps,read. Conditions: none; over any program. -/
namespace Go.Id
open Go
variable {P:Program} {w:World} {ρ:Rho} {E:Nat->IV} {σ:Store}
def bk3 (σ:Store):IV->Option (List (IV×IV))
 | .ag2=>some []
 | .am4 es=>some es
 | .map id=>match σ.obj id with
  | some (.map es)=>some es
  | _=>none
 | _=>none
def aj4 (tag:Nat)(x y:IV):Option Bool :=
 match Nat.ble 3 tag with
 | true=>match x with
  | .agg xs=>match y with
   | .agg ys=>allEq (List.replicate (tag-3) 1) xs ys
   | _=>none
  | _=>none
 | false=>ah8 tag x y
def kOK (tag:Nat)(k:IV):Bool :=
 match Nat.ble 3 tag with
 | true=>(aj4 tag k k).isSome
 | false=>true
def au1 (tag:Nat)(k:IV):List (IV×IV)->Option (Option IV)
 | []=>match kOK tag k with
  | true=>some none
  | false=>none
 | e::es=>match aj4 tag k e.1 with
  | some true=>some (some e.2)
  | some false=>au1 tag k es
  | none=>none
def co5 (σ:Store)(tag:Nat)(zero:IV)(ok:Bool)(x k:IV):Option IV :=
 match bk3 σ x with
 | some es=>match au1 tag k es with
  | some r=>some (if ok then .tuple [r.getD zero,.bool r.isSome] else r.getD zero)
  | none=>none
 | none=>none
def dt1:Option TypeDesc->Option Nat
 | some .bool=>some 0
 | some (.int _)=>some 1
 | some .string=>some 2
 | _=>none
def ip3 (P:Program)(t:TypeId):Bool:=match P.underlying t with
 | some (.int _)=>true
 | _=>false
def fe5 (P:Program)(kt:TypeId):Option Nat :=
 match P.underlying kt with
 | some (.struct fs)=>match cm7 P 30 kt,ak8 P kt with
  | some tags, some (some _) => if tags = List.replicate tags.length 1 ∧ fs.toList.all (fun f => f.name != "_" && ip3 P f.type && decide (f.offset < tags.length)) = true then some (tags.length + 3) else none
  | _,_=>none
 | d=>dt1 d
theorem co6 {kt:TypeId}{tag:Nat}(h:fe5 P kt=some tag):∃ d,P.underlying kt=some d/\((dt1 (some d)=some tag/\tag<3) \/
  (∃ fs n m, d = .struct fs ∧ tag = n + 3 ∧ cm7 P 30 kt = some (List.replicate n 1) ∧ ak8 P kt = some (some m) ∧ ∀ f ∈ fs.toList, f.name ≠ "_" ∧ ip3 P f.type = true ∧ f.offset < n)) := by
 unfold fe5 at h;split at h
 ·rename_i fs hu;refine ⟨_,hu,.inr ?_⟩;split at h
  ·rename_i tags m hf hl;split at h
   ·rename_i hc;cases h;refine ⟨fs,tags.length,m,rfl,rfl,by rw[hf]; exact congrArg some hc.1,hl,fun f hf=>?_⟩;have:=List.all_eq_true.1 hc.2 f hf;simp only[Bool.and_eq_true,bne_iff_ne,ne_eq,decide_eq_true_eq] at this;exact ⟨this.1.1,this.1.2,this.2⟩
   ·cases h
  ·cases h
 ·cases hu:P.underlying kt with
  | none=>rw[hu] at h; cases h
  | some d=>
   rw[hu] at h;refine ⟨d,rfl,.inl ⟨h,?_⟩⟩;cases d<;>simp only[dt1] at h<;>cases h<;>decide
theorem ip4 {n:Nat}:Nat.ble 3 (n+3)=true:=Nat.ble_eq_true_of_le (by omega)
theorem bo5 {tag:Nat}(h:tag<3)(x y:IV):aj4 tag x y=ah8 tag x y:=by
 unfold aj4
 cases hb:Nat.ble 3 tag with
 | false=>rfl
 | true=>have:=Nat.le_of_ble_eq_true hb; omega
theorem bd7 {n:Nat}{x y:IV}{b:Bool}(h:aj4 (n+3) x y=some b):∃ xs ys,x=.agg xs/\y=.agg ys/\allEq (List.replicate n 1) xs ys=some b:=by
 unfold aj4 at h;rw[ip4] at h;simp only at h;split at h
 ·split at h
  ·exact ⟨_,_,rfl,rfl,h⟩
  ·cases h
 ·cases h
theorem au9:∀ {n:Nat} {xs ys:List IV} {b:Bool},allEq (List.replicate n 1) xs ys=some b ->
  ∃ (ks:List IntKind) (as bs:List Int),ks.length=n/\as.length=n/\bs.length=n/\xs=(ks.zip as).map (fun p=>IV.int p.1 p.2)/\ys=(ks.zip bs).map (fun p=>IV.int p.1 p.2)/\b=decide (as=bs):=by
 intro n
 induction n with
 | zero=>
  intro xs ys b h;have:=allEq_len h;simp at this;obtain ⟨rfl,rfl⟩:=this;simp[allEq] at h
  exact ⟨[],[],[],rfl,rfl,rfl,rfl,rfl,by simp[h]⟩
 | succ n ih=>
  intro xs ys b h;rw[List.replicate_succ] at h
  cases xs with
  | nil=>simp[allEq] at h
  | cons x xs=>
   cases ys with
   | nil=>simp[allEq] at h
   | cons y ys=>
    simp only[allEq] at h;split at h
    ·rename_i a c h1 h2;cases h;obtain ⟨k,p,q,rfl,rfl,rfl⟩:=da1 h1;obtain ⟨ks,as,bs,l1,l2,l3,rfl,rfl,rfl⟩:=ih h2;refine ⟨k::ks,p::as,q::bs,by simp[l1],by simp[l2],by simp[l3],rfl,rfl,?_⟩;by_cases e1:p=q<;>by_cases e2:as=bs<;>simp[e1,e2]
    ·cases h
theorem co7:∀ (ks:List IntKind) (as bs:List Int),as.length=ks.length->bs.length=ks.length->allEq (List.replicate ks.length 1) ((ks.zip as).map fun p=>IV.int p.1 p.2) ((ks.zip bs).map fun p=>IV.int p.1 p.2)=some (decide (as=bs)):=by
 intro ks
 induction ks with
 | nil=>
  intro as bs h1 h2;cases as<;>cases bs<;>simp at h1 h2
  simp[allEq]
 | cons k ks ih=>
  intro as bs h1 h2
  cases as with
  | nil=>simp at h1
  | cons a as=>
   cases bs with
   | nil=>simp at h2
   | cons b bs=>
    simp only[List.length_cons,List.replicate_succ,List.zip_cons_cons,List.map_cons,allEq,ah8,if_true];rw[ih as bs (by simpa using h1) (by simpa using h2)];by_cases e1:a=b<;>by_cases e2:as=bs<;>simp[e1,e2]
theorem fe6 {tag:Nat}{k e:IV}{b:Bool}(h:aj4 tag k e=some b):kOK tag k=true:=by
 unfold kOK
 cases hb:Nat.ble 3 tag with
 | false=>rfl
 | true=>
  have h3:=Nat.le_of_ble_eq_true hb;obtain ⟨n,rfl⟩:∃ n,tag=n+3:=⟨tag-3,by omega⟩;obtain ⟨xs,ys,rfl,rfl,h1⟩:=bd7 h;obtain ⟨ks,as,bs,l1,l2,l3,rfl,rfl,rfl⟩:=au9 h1;have:=co7 ks as as (by omega) (by omega);rw[l1] at this;simp[aj4,this,hb]
theorem eb3 {tag:Nat}{k:IV}{es:List (IV×IV)}{r:Option IV}(h:au1 tag k es=some r):kOK tag k=true:=by
 cases es with
 | nil=>
  simp only[au1] at h;split at h
  ·assumption
  ·cases h
 | cons e es=>
  simp only[au1] at h
  cases hq:aj4 tag k e.1 with
  | none=>rw[hq] at h; cases h
  | some b=>exact fe6 hq
theorem gp3 (s t:List UInt8):(ByteArray.mk s.toArray==ByteArray.mk t.toArray)=decide (s=t):=by
 show (s.toArray==t.toArray)=_;by_cases h:s=t<;>simp[h]
def EsR (ρ:Rho)(w:World)(es:List (IV×IV))(mes:List MapEntry):Prop :=
 es.length=mes.length/\∀ i,i<es.length->VR ρ w (es.getD i (.undef,.undef)).1 (mes.getD i default).key/\VR ρ w (es.getD i (.undef,.undef)).2 (mes.getD i default).val
theorem bs4 {d:TypeDesc}{tag:Nat}{x y:IV}{rx ry:Value}{b:Bool}(ht:dt1 (some d)=some tag)(h:ah8 tag x y=some b)(hx:VR ρ w x rx)(hy:VR ρ w y ry):Instr.sameNow d rx ry=some b:=by
 cases d<;>simp only[dt1] at ht<;>cases ht<;>cases x<;>cases y<;>simp only[ah8] at h<;>first|cases h; done|skip
 ·cases hx; cases hy; cases h; rfl
 ·cases hx; cases hy;simp only[Instr.sameNow];split at h
  ·cases h; rename_i e; simp[e,cf5]
  ·cases h
 ·cases hx; cases hy; cases h;rename_i s t;simp only[Instr.sameNow,gp3]
theorem cm9 {fs:Array Field}{x y:Value}:Instr.sameNow (.struct fs) x y=none:=by unfold Instr.sameNow; split<;>first|rfl|contradiction
def EqK (P:Program)(kt:TypeId)(tag:Nat):Prop:=∀ (ρ:Rho) (w:World) (x y:IV) (rx ry:Value) (b:Bool),aj4 tag x y=some b->VR ρ w x rx->VR ρ w y ry->(Op.equal kt rx ry).run P w=.ok b w
theorem ek4 {kt:TypeId}{n m:Nat}(hf:cm7 P 30 kt=some (List.replicate n 1))(hl:ak8 P kt=some (some m)):EqK P kt (n+3):=by
 intro ρ w x y rx ry b h hx hy;obtain ⟨xs,ys,rfl,rfl,h1⟩:=bd7 h;have he:=bl8 30 kt _ hf ρ w (10000-30) (.agg xs) (.agg ys) rx ry b hx hy (by rw[hl]; exact ⟨⟨_,rfl⟩,⟨_,rfl⟩⟩) h1;exact he
theorem cd6 {kt:TypeId}{tag:Nat}{k:IV}{rk:Value}(ht:fe5 P kt=some tag)(hk:VR ρ w k rk):∀ (es:List (IV×IV)) (mes:List MapEntry),EsR ρ w es mes ->
  ∀ (r:Option Nat),(r=none->∀ e∈es,aj4 tag k e.1=some false)->(∀ j,r=some j->j<es.length/\aj4 tag k (es.getD j (.undef,.undef)).1=some true/\∀ i,i<j->aj4 tag k (es.getD i (.undef,.undef)).1=some false) ->
  (Instr.findKey kt rk mes).run P w=.ok (r.map fun j=>(j,(mes.getD j default).val)) w:=by
 obtain ⟨d,hu,hd⟩:=co6 ht
 have now:∀ (es:List (IV×IV)) (mes:List MapEntry) (i0:Nat),tag<3->dt1 (some d)=some tag->EsR ρ w es mes->∀ (r:Option Nat),(r=none->∀ e∈es,aj4 tag k e.1=some false)->(∀ j,r=some j->j<es.length/\aj4 tag k (es.getD j (.undef,.undef)).1=some true/\∀ i,i<j->aj4 tag k (es.getD i (.undef,.undef)).1=some false) ->
   Instr.findNow d rk mes i0=some (r.map fun j=>(i0+j,(mes.getD j default).val)):=by
  intro es
  induction es with
  | nil=>
   intro mes i0 _ _ he r h1 h2;have:mes=[]:=List.length_eq_zero_iff.1 he.1.symm;subst this
   cases r with
   | none=>rfl
   | some j=>exact absurd (h2 j rfl).1 (by simp)
  | cons e es ih=>
   intro mes i0 h3 hto he r h1 h2
   cases mes with
   | nil=>exact absurd he.1 (by simp)
   | cons m mes=>
    have h0:=he.2 0 (by simp);simp at h0;have he':EsR ρ w es mes:=⟨by have:=he.1; simpa using this,fun j hj=>by have:=he.2 (j+1) (by simp; omega); simpa using this⟩
    cases r with
    | none=>
     have hq:=h1 rfl e (List.mem_cons_self ..);rw[bo5 h3] at hq;simp only[Instr.findNow,bs4 hto hq hk h0.1];have:=ih mes (i0+1) h3 hto he' none (fun _ e he=>h1 rfl e (List.mem_cons_of_mem _ he)) (fun j hj=>by cases hj)
     simpa using this
    | some j=>
     obtain ⟨g1,g2,g3⟩:=h2 j rfl
     cases j with
     | zero=>
      simp at g2;rw[bo5 h3] at g2
      simp[Instr.findNow,bs4 hto g2 hk h0.1]
     | succ j=>
      have hq:=g3 0 (by omega);simp at hq;rw[bo5 h3] at hq;simp only[Instr.findNow,bs4 hto hq hk h0.1]
      have:=ih mes (i0+1) h3 hto he' (some j) (fun h=>by cases h) (fun j' hj'=>by
       cases hj';refine ⟨by simpa using g1,by simpa using g2,fun i hi=>?_⟩;have:=g3 (i+1) (by omega)
       simpa using this)
      rw[this];simp;omega
 have ask:∀ (es:List (IV×IV)) (mes:List MapEntry) (i0:Nat),EqK P kt tag->EsR ρ w es mes->∀ (r:Option Nat),(r=none->∀ e∈es,aj4 tag k e.1=some false)->(∀ j,r=some j->j<es.length/\aj4 tag k (es.getD j (.undef,.undef)).1=some true/\∀ i,i<j->aj4 tag k (es.getD i (.undef,.undef)).1=some false) ->
   (Instr.findAsking kt rk mes i0).run P w=.ok (r.map fun j=>(i0+j,(mes.getD j default).val)) w:=by
  intro es
  induction es with
  | nil=>
   intro mes i0 _ he r h1 h2;have:mes=[]:=List.length_eq_zero_iff.1 he.1.symm;subst this
   cases r with
   | none=>simp[Instr.findAsking]
   | some j=>exact absurd (h2 j rfl).1 (by simp)
  | cons e es ih=>
   intro mes i0 hE he r h1 h2
   cases mes with
   | nil=>exact absurd he.1 (by simp)
   | cons m mes=>
    have h0:=he.2 0 (by simp);simp at h0;have he':EsR ρ w es mes:=⟨by have:=he.1; simpa using this,fun j hj=>by have:=he.2 (j+1) (by simp; omega); simpa using this⟩
    cases r with
    | none=>
     have hq:=h1 rfl e (List.mem_cons_self ..);have hr:=hE ρ w k e.1 rk m.key false hq hk h0.1;have:=ih mes (i0+1) hE he' none (fun _ e he=>h1 rfl e (List.mem_cons_of_mem _ he)) (fun j hj=>by cases hj);simp only[Instr.findAsking,Sem.run_bind,hr,Result.andThen_ok]
     simpa using this
    | some j=>
     obtain ⟨g1,g2,g3⟩:=h2 j rfl
     cases j with
     | zero=>
      simp at g2;have hr:=hE ρ w k e.1 rk m.key true g2 hk h0.1
      simp[Instr.findAsking,hr]
     | succ j=>
      have hq:=g3 0 (by omega);simp at hq;have hr:=hE ρ w k e.1 rk m.key false hq hk h0.1
      have:=ih mes (i0+1) hE he' (some j) (fun h=>by cases h) (fun j' hj'=>by
       cases hj';refine ⟨by simpa using g1,by simpa using g2,fun i hi=>?_⟩;have:=g3 (i+1) (by omega)
       simpa using this)
      simp only[Instr.findAsking,Sem.run_bind,hr,Result.andThen_ok];simp only[Bool.false_eq_true,if_false];rw[this];simp;omega
 intro es mes he r h1 h2;rcases hd with ⟨hto,h3⟩|⟨fs,n,m,rfl,rfl,hf,hl,_⟩
 ·have:=now es mes 0 h3 hto he r h1 h2;simp only[Instr.findKey,Sem.run_bind,run_underlying hu,Result.andThen_ok,this];simp
 ·have hE:=ek4 (P:=P) hf hl
  cases mes with
  | nil=>
   have hes:es=[]:=List.length_eq_zero_iff.1 he.1;subst hes
   cases r with
   | none=>simp[Instr.findKey,run_underlying hu,Instr.findNow]
   | some j=>exact absurd (h2 j rfl).1 (by simp)
  | cons m mes=>
   have:=ask es (m::mes) 0 hE he r h1 h2;simp only[Instr.findKey,Sem.run_bind,run_underlying hu,Result.andThen_ok,Instr.findNow,cm9];rw[this];simp
theorem fz4 {tag:Nat}{k:IV}:∀ (es:List (IV×IV)) (r:Option IV),au1 tag k es=some r->∃ q:Option Nat,(q=none->∀ e∈es,aj4 tag k e.1=some false)/\(∀ j,q=some j->j<es.length/\aj4 tag k (es.getD j (.undef,.undef)).1=some true/\∀ i,i<j->aj4 tag k (es.getD i (.undef,.undef)).1=some false) /\
  r=q.map fun j=>(es.getD j (.undef,.undef)).2:=by
 intro es
 induction es with
 | nil=>
  intro r h;refine ⟨none,(fun _ e he=>by cases he),(fun j hj=>by cases hj),?_⟩;simp only[au1] at h;split at h<;>cases h
  rfl
 | cons e es ih=>
  intro r h;simp only[au1] at h
  cases hq:aj4 tag k e.1 with
  | none=>rw[hq] at h; cases h
  | some b=>
   rw[hq] at h
   cases b with
   | true=>cases h; exact ⟨some 0,(fun h=>by cases h),(fun j hj=>by cases hj; exact ⟨by simp,by simpa using hq,fun i hi=>absurd hi (Nat.not_lt_zero _)⟩),rfl⟩
   | false=>
    obtain ⟨q,h1,h2,h3⟩:=ih r h;refine ⟨q.map (·+1),fun h=>?_,fun j hj=>?_,?_⟩
    ·cases q with
     | none=>intro x hx; rcases List.mem_cons.1 hx with rfl|hx; exact hq; exact h1 rfl x hx
     | some j=>cases h
    ·cases q with
     | none=>cases hj
     | some j0=>
      cases hj;obtain ⟨g1,g2,g3⟩:=h2 j0 rfl;refine ⟨by simpa using g1,by simpa using g2,fun i hi=>?_⟩;have hi:i<j0+1:=hi
      cases i with
      | zero=>simpa using hq
      | succ i=>have:=g3 i (by omega); simpa using this
    ·rw[h3]; cases q<;>simp
theorem ax4 {kt:TypeId}{tag:Nat}{b:Bool}{k:IV}{rk:Value}(ht:fe5 P kt=some tag)(hok:kOK tag k=true)(hk:VR ρ w k rk):(Instr.checkKey b 10000 kt rk).run P w=.ok () w:=by
 obtain ⟨d,hu,hd⟩:=co6 ht;rcases hd with ⟨hto,h3⟩|⟨fs,n,m,rfl,rfl,hf,hl,hfs⟩
 ·unfold Instr.checkKey;cases d<;>simp only[dt1] at hto<;>cases hto<;>simp[run_underlying hu]
 ·unfold kOK at hok;rw[ip4] at hok;simp only at hok;obtain ⟨bb,hb⟩:=Option.isSome_iff_exists.1 hok;obtain ⟨xs,ys,rfl,hys,h1⟩:=bd7 hb;cases hys;obtain ⟨ks,as,bs,l1,l2,l3,hxs,hys,rfl⟩:=au9 h1
  cases hk with
  | agg _ rxs hx vx=>
   rw[show (10000:Nat)=9999+1 from rfl,Instr.checkKey];simp only[Sem.run_bind,run_underlying hu,Result.andThen_ok];rw[<- Array.forIn_toList];have hxl:xs.length=n:=by rw[hxs]; simp[l1,l2]
   generalize fs.toList=L at hfs
   induction L with
   | nil=>simp
   | cons f L ih=>
    obtain ⟨hn,hi,ho⟩:=hfs f (List.mem_cons_self ..)
    have hint:∃ kk,P.underlying f.type=some (.int kk):=by
     unfold ip3 at hi;split at hi
     ·rename_i kk hkk; exact ⟨kk,hkk⟩
     ·cases hi
    obtain ⟨kk,hkk⟩:=hint;have hag:ak8 P f.type=some none:=by simp[ak8,ea9,hkk]
    have hfo:f.offset<xs.length:=by omega
    obtain ⟨px,r1,v1⟩:=aq5 (P:=P) (off:=f.offset) (v:=xs[f.offset]) hag (by simp[ay9,hfo]) hx vx
    have p2:(Instr.checkKey b 9999 f.type px).run P w=.ok () w:=by
     unfold Instr.checkKey;simp[run_underlying hkk]
    simp only[List.forIn_cons,Sem.run_bind,hn,ne_eq,not_false_eq_true,if_true,Result.andThen_ok,r1,p2,Sem.run_pure];exact ih fun f hf=>hfs f (List.mem_cons_of_mem _ hf)
open Classical in
theorem ek5 {tag:Nat}{k a b:IV}{K:KK}{r:Bool}(h:ah8 tag k a=some r)(ha:bl6 K a)(hb:bl6 K b):ah8 tag k b=some (decide (k=b)):=by
 unfold ah8 at h;split at h
 ·cases K<;>cases ha
 ·cases K with
  | int K=>
   simp only[bl6] at ha;cases b<;>simp only[bl6] at hb;split at h
   ·rename_i hk; subst ha; subst hb; subst hk; simp[ah8]
   ·cases h
  | _=>cases ha
 ·cases K with
  | str=>cases b<;>first|(cases hb; done)|simp[ah8]
  | _=>cases ha
 ·cases h
theorem fz5:∀ (ks:List IntKind) (cs:List IV),cs.length=ks.length->(∀ i,i<cs.length->∃ n,cs.getD i .undef=.int (ks.getD i .i64) n)->∃ as:List Int,as.length=ks.length/\cs=(ks.zip as).map fun p=>IV.int p.1 p.2:=by
 intro ks
 induction ks with
 | nil=>intro cs h _; exact ⟨[],rfl,by simpa using h⟩
 | cons k ks ih=>
  intro cs h hc
  cases cs with
  | nil=>simp at h
  | cons c cs=>
   obtain ⟨n,hn⟩:=hc 0 (by simp);simp at hn;obtain ⟨as,h1,h2⟩:=ih cs (by simpa using h) (fun i hi=>by have:=hc (i+1) (by simp; omega); simpa using this);exact ⟨n::as,by simp[h1],by rw[hn,h2]; rfl⟩
theorem fe7:∀ (ks:List IntKind) (as bs:List Int),as.length=ks.length->bs.length=ks.length->((ks.zip as).map fun p=>IV.int p.1 p.2)=((ks.zip bs).map fun p=>IV.int p.1 p.2)->as=bs:=by
 intro ks
 induction ks with
 | nil=>intro as bs h1 h2 _; cases as<;>cases bs<;>simp at h1 h2 ⊢
 | cons k ks ih=>
  intro as bs h1 h2 h
  cases as with
  | nil=>simp at h1
  | cons a as=>
   cases bs with
   | nil=>simp at h2
   | cons b bs=>
    simp only[List.zip_cons_cons,List.map_cons,List.cons.injEq,IV.int.injEq,true_and] at h;rw[h.1,ih as bs (by simpa using h1) (by simpa using h2) h.2]
theorem dj2:∀ (ks ks':List IntKind) (as bs:List Int),as.length=ks.length->bs.length=ks'.length->ks.length=ks'.length->(∀ i,i<ks.length->∃ n,((ks.zip as).map fun p=>IV.int p.1 p.2).getD i .undef=.int (ks'.getD i .i64) n)->ks=ks':=by
 intro ks
 induction ks with
 | nil=>intro ks' as bs _ _ h _; exact (List.length_eq_zero_iff.1 h.symm).symm
 | cons k ks ih=>
  intro ks' as bs h1 h2 h hc
  cases ks' with
  | nil=>simp at h
  | cons k' ks'=>
   cases as with
   | nil=>simp at h1
   | cons a as=>
    cases bs with
    | nil=>simp at h2
    | cons b bs=>
     obtain ⟨n,hn⟩:=hc 0 (by simp);simp at hn;rw[hn.1,ih ks' as bs (by simpa using h1) (by simpa using h2) (by simpa using h) (fun i hi=>by have:=hc (i+1) (by simp; omega); simpa using this)]
open Classical in
theorem fe8 {tag:Nat}{k a b:IV}{K:KK}{r:Bool}(h:aj4 tag k a=some r)(ha:bl6 K a)(hb:bl6 K b):aj4 tag k b=some (decide (k=b)):=by
 by_cases h3:tag<3
 ·rw[bo5 h3] at h ⊢; exact ek5 h ha hb
 ·obtain ⟨n,rfl⟩:∃ n,tag=n+3:=⟨tag-3,by omega⟩;obtain ⟨xs,ys,rfl,rfl,h1⟩:=bd7 h;obtain ⟨ks,as,bs,l1,l2,l3,rfl,rfl,rfl⟩:=au9 h1
  cases K with
  | agg ks'=>
   simp only[bl6] at ha;have e1:ks=ks':=dj2 ks ks' bs (List.replicate ks'.length 0) (by omega) (by simp) (by have:=ha.1; simp at this; omega) (fun i hi=>ha.2 i (by simp; omega));subst e1
   cases b with
   | agg cs=>
    simp only[bl6] at hb;obtain ⟨cs',c1,rfl⟩:=fz5 ks cs hb.1 hb.2;have:=co7 ks as cs' (by omega) c1;rw[l1] at this;unfold aj4;rw[ip4];simp only[Nat.add_sub_cancel,this];congr 1;by_cases e:as=cs'
    ·subst e; simp
    ·have:¬ (IV.agg ((ks.zip as).map fun p=>IV.int p.1 p.2)=IV.agg ((ks.zip cs').map fun p=>IV.int p.1 p.2)):=fun h=>e (fe7 ks as cs' (by omega) c1 (IV.agg.inj h))
     simp only[e,this,decide_false]
   | _=>cases hb
  | _=>cases ha
open Classical in
theorem dj3 {tag:Nat}{k:IV}(hok:kOK tag k=true):∀ (es:List (IV×IV)),(∀ e∈es,aj4 tag k e.1=some (decide (k=e.1)))->au1 tag k es=some ((es.find? fun e=>decide (k=e.1)).map (·.2)):=by
 intro es
 induction es with
 | nil=>intro _; simp only[au1,hok]; rfl
 | cons e es ih=>
  intro h;simp only[au1,h e (List.mem_cons_self ..),List.find?_cons];by_cases hk:k=e.1
  ·simp[hk]
  ·simp only[hk,decide_false];exact ih fun x hx=>h x (List.mem_cons_of_mem _ hx)
open Classical in
theorem fe9 {k:IV}{es es':List (IV×IV)}(hp:es'.Perm es)(hn:(es.map (·.1)).Nodup):(es'.find? fun e=>decide (k=e.1))=es.find? fun e=>decide (k=e.1):=by
 cases h:es.find? fun e=>decide (k=e.1) with
 | none=>
  rw[List.find?_eq_none] at h ⊢
  exact fun x hx=>h x (hp.subset hx)
 | some e=>
  have he:=List.mem_of_find?_eq_some h;have hk:k=e.1:=by simpa using List.find?_some h
  cases h':es'.find? fun e=>decide (k=e.1) with
  | none=>
   rw[List.find?_eq_none] at h'
   exact absurd hk (by simpa using h' e (hp.symm.subset he))
  | some e'=>
   have he':=hp.subset (List.mem_of_find?_eq_some h');have hk':k=e'.1:=by simpa using List.find?_some h'
   congr 1
   have inj:∀ (l:List (IV×IV)),(l.map (·.1)).Nodup->∀ x∈l,∀ y∈l,x.1=y.1->x=y:=by
    intro l
    induction l with
    | nil=>intro _ x hx; cases hx
    | cons a l ih=>
     intro hn x hx y hy hxy;simp only[List.map_cons,List.nodup_cons] at hn;rcases List.mem_cons.1 hx with hx1|hx1<;>rcases List.mem_cons.1 hy with hy1|hy1
     ·rw[hx1,hy1]
     ·exact absurd (List.mem_map.2 ⟨y,hy1,by rw[<- hxy,hx1]⟩) hn.1
     ·exact absurd (List.mem_map.2 ⟨x,hx1,by rw[hxy,hy1]⟩) hn.1
     ·exact ih hn.2 x hx1 y hy1 hxy
   exact inj es hn e' he' e he (by rw[<- hk',<- hk])
open Classical in
theorem ek6 {tag:Nat}{k:IV}{es es':List (IV×IV)}{r:Option IV}(hp:es'.Perm es)(hd:di2 es)(h:au1 tag k es=some r):au1 tag k es'=some r:=by
 obtain ⟨hn,K,hK⟩:=hd;have hok:=eb3 h
 have dec:∀ e∈es,aj4 tag k e.1=some (decide (k=e.1)):=by
  cases es with
  | nil=>intro e he; cases he
  | cons a l=>
   simp only[au1] at h
   cases hq:aj4 tag k a.1 with
   | none=>rw[hq] at h; cases h
   | some b=>exact fun e he=>fe8 hq (hK a (List.mem_cons_self ..)) (hK e he)
 rw[dj3 hok es dec] at h;rw[dj3 hok es' fun e he=>dec e (hp.subset he),fe9 hp hn];exact h
theorem fz6 {x:IV}{r:Value}{es:List (IV×IV)}(hs:Sim E ρ w σ)(h:bk3 σ x=some es)(hx:VR ρ w x r) :
  (r=.map none/\es=[])\/∃ b mes clock es',r=.map (some b)/\w.heap[b]? = some (.map mes clock)/\EsR ρ w es' mes.toList/\(∀ tag k o,au1 tag k es=some o->au1 tag k es'=some o):=by
 have toL:∀ (mes:Array MapEntry) (i:Nat),mes.toList.getD i default=mes.getD i default:=fun mes i=>by simp[List.getD_eq_getElem?_getD,Array.getD_eq_getD_getElem?]
 cases hx with
 | ag2=>cases h; exact .inl ⟨rfl,rfl⟩
 | am4 _ es' b mes clock hp hd hf hb hl hk hv h4 h5=>
  cases h
  exact .inr ⟨b,mes,clock,es',rfl,hb,⟨by simpa using hl,fun i hi=>by rw[toL]; exact ⟨hk i hi,hv i hi⟩⟩,fun _ _ _=>ek6 hp hd⟩
 | map id B d hi=>
  simp only[bk3] at h;obtain ⟨o,h1,h2⟩:=hs.obj id B d hi;rw[h1] at h
  cases o with
  | map es'=>
   cases h;obtain ⟨mes,clock,g1,g0,g2,g3,g4,g5⟩:=h2
   exact .inr ⟨B,mes,clock,_,rfl,g1,⟨by simpa using g2,fun i hi=>by rw[toL]; exact g3 i hi⟩,fun _ _ _ h=>h⟩
  | _=>cases h
 | mapD id B hi=>simp only[bk3,hs.dead id hi] at h; cases h
 | _=>cases h
theorem ff1 {xt kt et:TypeId}{tag:Nat}{zero x k v:IV}{z:Value}{ok:Bool}{rx rk:Value}(hu:P.underlying xt=some (.map kt et))(ht:fe5 P kt=some tag)
  (hz:(zeroValue et).run P w=.ok z w) (hzv:VR ρ w zero z) (hs:Sim E ρ w σ) (h:co5 σ tag zero ok x k=some v) (hx:VR ρ w x rx) (hkv:VR ρ w k rk) :
  ∃ r,(Instr.lookup xt rx rk ok).run P w=.ok r w/\VR ρ w v r:=by
 unfold co5 at h
 cases hm:bk3 σ x with
 | none=>rw[hm] at h; cases h
 | some es=>
  rw[hm] at h;simp only at h
  cases hl:au1 tag k es with
  | none=>rw[hl] at h; cases h
  | some r=>
   rw[hl] at h;cases h
   have pair:∀ (a:IV) (ra:Value) (b:Bool),VR ρ w a ra->VR ρ w (if ok then .tuple [a,.bool b] else a) (if ok then .tuple #[ra,.bool b] else ra):=by
    intro a ra b ha
    cases ok with
    | true=>
     refine .tuple _ _ rfl fun i hi=>?_
     match i,hi with
     | 0,_=>exact ha
     | 1,_=>exact .bool b
    | false=>exact ha
   have hok:=eb3 hl;have hck:∀ b,(Instr.checkKey b 10000 kt rk).run P w=.ok () w:=fun b=>ax4 ht hok hkv
   rcases fz6 hs hm hx with ⟨rfl,rfl⟩|⟨b,mes,clock,es',rfl,hb,hes,hlp⟩
   ·have hf:=cd6 ht hkv [] [] ⟨rfl,fun i hi=>by simp at hi⟩ none (fun _ e he=>by cases he) (fun j hj=>by cases hj)
    have hr:r=none:=by
     simp only[au1,hok] at hl;cases hl; rfl
    subst hr;exact ⟨_,by simp[Instr.lookup,run_underlying hu,hck,hf,hz],pair _ _ _ hzv⟩
   ·obtain ⟨q,g1,g2,g3⟩:=fz4 _ _ (hlp _ _ _ hl);have hf:=cd6 ht hkv es' mes.toList hes q g1 g2;have hg:(getObj b).run P w=.ok (.map mes clock) w:=by simp[getObj,Sem.run,hb]
    cases q with
    | none=>
     subst g3
     exact ⟨_,by simp[Instr.lookup,run_underlying hu,hg,hck,hf,hz],pair _ _ _ hzv⟩
    | some j=>
     subst g3;have:=(hes.2 j (g2 j rfl).1).2;exact ⟨_,by simp[Instr.lookup,run_underlying hu,hg,hck,hf],pair _ _ _ this⟩
def mmI (mx:Bool):IV->IV->Option IV
 | .int k a,.int _ b=>some (.int k (if mx then (if b>a then b else a) else (if b<a then b else a)))
 | _,_=>none
theorem ff2 {x y v:IV}{rx ry:Value}{ts:Array TypeId}{t:TypeId}(h:mmI true x y=some v)(hx:VR ρ w x rx)(hy:VR ρ w y ry):∃ r,(Builtin.max_ ts t #[rx,ry]).run P w=.ok r w/\VR ρ w v r:=by
 cases hx<;>simp only[mmI] at h<;>first|(cases h; done)|skip
 cases hy<;>simp only[mmI] at h<;>cases h;exact ⟨_,by simp[Builtin.max_,Builtin.max2],.int _ _⟩
theorem ff3 {x y v:IV}{rx ry:Value}{ts:Array TypeId}{t:TypeId}(h:mmI false x y=some v)(hx:VR ρ w x rx)(hy:VR ρ w y ry):∃ r,(Builtin.min_ ts t #[rx,ry]).run P w=.ok r w/\VR ρ w v r:=by
 cases hx<;>simp only[mmI] at h<;>first|(cases h; done)|skip
 cases hy<;>simp only[mmI] at h<;>cases h;exact ⟨_,by simp[Builtin.min_,Builtin.min2],.int _ _⟩
end Go.Id
/- The quiet operations compiled: one function on ideal values,and its proof against the model. Conditions: none; over any program. -/
namespace Go.Id
open Go
inductive IX where
 | t (n:Nat)
 | c (v:IV)
 | g (n:Nat)
 | f (n:Nat)
 deriving Inhabited
def IX.ev (E:Nat->IV)(fr:Frm):IX->IV
 | .t n=>fr.get n
 | .c v=>v
 | .g n=>E n
 | .f n=>.func (.func n) [] []
inductive IQ where
 | mov (x:IX)
 | pick (c a b:IX)
 | not (x:IX)
 | neg (x:IX)
 | bin (op:BinOp) (x y:IX)
 | bc9 (d:TypeDesc) (neg:Bool) (x:IX)
 | eqs (tags:List Nat) (agg neg:Bool) (x y:IX)
 | conv (k:IntKind) (x:IX)
 | ga4 (x:IX)
 | len (kind:Nat) (x:IX)
 | aa7 (off:Nat) (x:IX)
 | fld (agg:Option Nat) (off:Nat) (x:IX)
 | ab5 (esz:Nat) (x i:IX)
 | cn1 (n esz:Nat) (x i:IX)
 | idx (agg:Option Nat) (n esz:Nat) (x i:IX)
 | ba9 (x i:IX)
 | slc (esz:Nat) (x:IX) (lo hi:Option IX)
 | el1 (x:IX) (lo hi:Option IX)
 | slz (x:IX)
 | ext (i:Nat) (x:IX)
 | mkf (fn:Nat) (first cap:List IX)
 | bld (zero:List IV) (parts:List (Nat×Nat×IX))
 | load (agg:Option Nat) (x:IX)
 | am7 (x:IX)
 | mm (mx:Bool) (x y:IX)
 | lkp (tag:Nat) (zero:IV) (ok:Bool) (x k:IX)
 | ibs (x c:IX)
 | ldt (agg:Option Nat) (x:IX)
 | clp (esz:Nat) (x lo hi mx:IX)
 deriving Inhabited
def im7 (esz:Nat)(x hi:IV):Option IV :=
 match cm6 hi with
 | some h=>match x with
  | .slice did off len e=>if e=esz/\h<=len/\0<len then some (.ad8 did off h len e) else none
  | .ad8 did off len room e=>if e=esz/\h<=room/\0<room then some (.ad8 did off h room e) else none
  | _=>none
 | none=>none
def im8 (esz:Nat)(x lo hi mx:IV):Option IV :=
 match cm6 lo,cm6 hi,cm6 mx with
 | some 0,some h,some m=>if h=m then match x with
  | .aa1=>if h=0 then some .aa1 else none
  | .ab9=>if h=0 then some .ab9 else none
  | .slice did off len e=>if e=esz/\h<=len then (if h=0 then some .ab9 else some (.ae3 did off h e)) else none
  | _=>none
  else none
 | _,_,_=>none
def cd7 (kind:Nat)(σ:Store)(v:IV):Option IV :=
 match kind,v with
 | 0,.aa1|0,.ab9|0,.ad6|0,.aa3 _|0,.slice _ _ _ _|0,.ae3 _ _ _ _|0,.ad8 _ _ _ _ _=>ej5 σ v
 | 1,.str _=>ej5 σ v
 | 2,.ag2|2,.map _=>ej5 σ v
 | _,_=>none
def dj4:IV->IV->IV->Option IV
 | .bool c,a,b=>some (if c then a else b)
 | _,_,_=>none
def fy2 (tags:List Nat)(agg neg:Bool)(x y:IV):Option IV :=
 match agg,x,y with
 | true,.agg xs,.agg ys=>(allEq tags xs ys).map fun b=>.bool (b ^^ neg)
 | false,.bool a,.bool b=>(allEq tags [.bool a] [.bool b]).map fun b=>.bool (b ^^ neg)
 | _,_,_=>none
theorem ek7 {tags:List Nat}{neg:Bool}{x y v:IV}(h:fy2 tags false neg x y=some v) :
  ∃ b1 b2 b,x=.bool b1/\y=.bool b2/\allEq tags [.bool b1] [.bool b2]=some b/\v=.bool (b ^^ neg):=by
 unfold fy2 at h;split at h
 ·contradiction
 ·rename_i b1 b2 _
  cases hq:allEq tags [.bool b1] [.bool b2] with
  | none=>rw[hq] at h; cases h
  | some b=>rw[hq] at h; cases h; exact ⟨b1,b2,b,rfl,rfl,hq,rfl⟩
 ·cases h
theorem dj5 {tags:List Nat}{neg:Bool}{x y v:IV}(h:fy2 tags true neg x y=some v):hu7 tags neg x y=some v:=by
 unfold fy2 at h;split at h
 ·exact h
 ·contradiction
 ·cases h
def dr8 (c:Nat):List UInt8->Nat->Int
 | [],_=>-1
 | b::l,i=>if b.toNat=c then i else dr8 c l (i+1)
def hr7:IV->IV->Option IV
 | .str s,.int .u8 n=>if 0<=n/\n<256 then some (.int .i64 (dr8 n.toNat s 0)) else none
 | _,_=>none
def gw5 (agg:Option Nat)(v:IV):Option IV:=match v with
 | .ad4 cs=>ap4 ⟨0,fun _=>none⟩ agg (.ad4 cs)
 | _=>none
theorem fz7 {agg:Option Nat}{v u:IV}(h:gw5 agg v=some u)(σ:Store):ap4 σ agg v=some u:=by
 unfold gw5 at h;split at h
 ·exact h
 ·cases h
def evq (E:Nat->IV)(fr:Frm)(σ:Store):IQ->Option IV
 | .mov x=>some (x.ev E fr)
 | .pick c a b=>dj4 (c.ev E fr) (a.ev E fr) (b.ev E fr)
 | .not x=>hr5 (x.ev E fr)
 | .neg x=>hr6 (x.ev E fr)
 | .bin op x y=>at1 op (x.ev E fr) (y.ev E fr)
 | .bc9 d neg x=>(bs3 d (x.ev E fr)).map fun b=>.bool (b ^^ neg)
 | .eqs tags agg neg x y=>fy2 tags agg neg (x.ev E fr) (y.ev E fr)
 | .conv k x=>ek1 k (x.ev E fr)
 | .ga4 x=>co3 (x.ev E fr)
 | .len kind x=>cd7 kind σ (x.ev E fr)
 | .aa7 off x=>cb5 off (x.ev E fr)
 | .fld agg off x=>gw4 agg off (x.ev E fr)
 | .ab5 esz x i=>an1 esz (x.ev E fr) (i.ev E fr)
 | .cn1 n esz x i=>cf6 n esz (x.ev E fr) (i.ev E fr)
 | .idx agg n esz x i=>go9 agg n esz (x.ev E fr) (i.ev E fr)
 | .ba9 x i=>cz9 (x.ev E fr) (i.ev E fr)
 | .slc esz x lo hi=>cb6 esz (lo.map (·.ev E fr)) (hi.map (·.ev E fr)) (x.ev E fr)
 | .el1 x lo hi=>bs2 (lo.map (·.ev E fr)) (hi.map (·.ev E fr)) (x.ev E fr)
 | .slz x=>fd7 (x.ev E fr)
 | .ext i x=>gp1 i (x.ev E fr)
 | .mkf fn first cap=>some (.func (.func fn) (first.map (·.ev E fr)) (cap.map (·.ev E fr)))
 | .bld zero parts=>(an2 zero (parts.map fun p=>(p.1,p.2.1,p.2.2.ev E fr))).map .agg
 | .load agg x=>ap4 σ agg (x.ev E fr)
 | .am7 x=>da2 (x.ev E fr)
 | .mm mx x y=>mmI mx (x.ev E fr) (y.ev E fr)
 | .lkp tag zero ok x k=>co5 σ tag zero ok (x.ev E fr) (k.ev E fr)
 | .ibs x c=>hr7 (x.ev E fr) (c.ev E fr)
 | .ldt agg x=>gw5 agg (x.ev E fr)
 | .clp esz x lo hi mx=>im8 esz (x.ev E fr) (lo.ev E fr) (hi.ev E fr) (mx.ev E fr)
def ag1:Operand->Option IX
 | .tmp t=>some (.t t)
 | .const v=>(cv v).map .c
 | .global g=>some (.g g)
 | .func f=>some (.f f)
def dj6:List Operand->Option (List IX)
 | []=>some []
 | x::xs=>match ag1 x,dj6 xs with
  | some y,some ys=>some (y::ys)
  | _,_=>none
def hr8:Option Operand->Option (Option IX)
 | none=>some none
 | some x=>(ag1 x).map some
def cf9 (P:Program)(t:TypeId)(i:Nat):Option (Nat×Nat):=
 match P.underlying t with
 | some (.struct fs)=>match fs[i]? with
  | some f=>(szT P f.type).map fun n=>(f.offset,n)
  | none=>none
 | some (.array _ e)=>(szT P e).map fun n=>(i*n,n)
 | _=>none
def ax5 (P:Program)(place:Nat->Option (Nat×Nat)):List (Nat×Operand)->Option (List (Nat×Nat×IX))
 | []=>some []
 | (i,x)::ps=>match place i,ag1 x,ax5 P place ps with
  | some (off,n),some y,some ys=>some ((off,n,y)::ys)
  | _,_,_=>none
def bd8 (P:Program)(t:TypeId):Option (List IV):=
 match P.info? t with
 | some i=>match i.zero with
  | some z=>cvs z
  | none=>none
 | none=>none
def zeroV (P:Program)(t:TypeId):Option IV :=
 match P.info? t with
 | some i=>match i.zero with
  | some z=>cv z
  | none=>none
 | none=>none
def ca6:Operand->TypeDesc->Bool
 | .const (.pointer none),.pointer _=>true
 | .const (.slice none 0 0),.slice _=>true
 | .const (.map none),.map _ _=>true
 | .const .nilFunc,.func _ _ _=>true
 | _,_=>false
def sized (P:Program)(t:TypeId):Bool :=
 match P.underlying t with
 | some (.struct fs)=>fs.toList.all fun f=>(szT P f.type).isSome
 | some (.array _ e)=>(szT P e).isSome
 | _=>false
def ff4 (P:Program)(op:BinOp)(t:TypeId)(x y:Operand):Option IQ :=
 match P.underlying t with
 | some (.int _)|some .string=>match ag1 x,ag1 y with
  | some a,some b=>some (.bin op a b)
  | _,_=>none
 | some .bool=>match ag1 x,ag1 y,cm7 P 30 t with
  | some a,some b,some tags=>if op=.eql\/op=.neq then some (.eqs tags false (decide (op=.neq)) a b) else none
  | _,_,_=>none
 | some (.struct _)|some (.array _ _)=>match ag1 x,ag1 y,cm7 P 30 t,ak8 P t with
  | some a,some b,some tags,some (some _)=>if (op=.eql\/op=.neq)/\P.eqGuardType P.depth t=false then some (.eqs tags true (decide (op=.neq)) a b) else none
  | _,_,_,_=>none
 | some d=>if (op=.eql\/op=.neq)/\ca6 y d=true then (ag1 x).map fun a=>.bc9 d (decide (op=.neq)) a else none
 | none=>none
def gw6 (P : Program) (f : FuncId) : Bool := (P.funcs[f]?).any fun fn => fn.name == "internal/bytealg.IndexByteString" && fn.body.isNone && fn.origin == ""
def fz8 (P:Program) (op:Op):Option IQ :=
 match op with
 | .move x|.assign x=>(ag1 x).map .mov
 | .pick c a b=>match ag1 c,ag1 a,ag1 b with
  | some c,some a,some b=>some (.pick c a b)
  | _,_,_=>none
 | .unOp .not _ x=>(ag1 x).map .not
 | .unOp .neg _ x=>(ag1 x).map .neg
 | .binOp op t x y _=>ff4 P op t x y
 | .convert s d x=>match P.underlying s,P.underlying d with
  | some (.int _),some (.int k)=>(ag1 x).map (.conv k)
  | some .string,some .string=>(ag1 x).map .ga4
  | _,_=>none
 | .call { callee:=.builtin .len,args,argTypes }=>match args.toList,argTypes.toList with
  | [x],[t]=>match P.underlying t with
   | some (.slice _)=>(ag1 x).map (.len 0)
   | some .string=>(ag1 x).map (.len 1)
   | some (.map _ _)=>(ag1 x).map (.len 2)
   | _=>none
  | _,_=>none
 | .fieldAddr s x i=>match P.underlying s with
  | some (.struct fs)=>match fs[i]? with
   | some f=>match szT P f.type with
    | some (_+1)=>(ag1 x).map (.aa7 f.offset)
    | _=>none
   | none=>none
  | _=>none
 | .field s x i=>match P.underlying s with
  | some (.struct fs)=>match fs[i]? with
   | some f=>match ak8 P f.type with
    | some agg=>(ag1 x).map (.fld agg f.offset)
    | none=>none
   | none=>none
  | _=>none
 | .indexAddr t x i=>match P.underlying t with
  | some (.slice e)=>match szT P e,ag1 x,ag1 i with
   | some n,some a,some b=>some (.ab5 n a b)
   | _,_,_=>none
  | some (.array m e)=>match szT P e,ag1 x,ag1 i with
   | some n,some a,some b=>some (.cn1 m n a b)
   | _,_,_=>none
  | _=>none
 | .index t x i=>match P.underlying t with
  | some .string=>match ag1 x,ag1 i with
   | some a,some b=>some (.ba9 a b)
   | _,_=>none
  | some (.array m e)=>match szT P e,ak8 P e,ag1 x,ag1 i with
   | some n,some agg,some a,some b=>some (.idx agg m n a b)
   | _,_,_,_=>none
  | _=>none
 | .slice t x lo hi none=>match P.underlying t with
  | some (.slice e)=>match szT P e,ag1 x,hr8 lo,hr8 hi with
   | some n,some a,some l,some h=>some (.slc n a l h)
   | _,_,_,_=>none
  | some .string=>match ag1 x,hr8 lo,hr8 hi with
   | some a,some l,some h=>some (.el1 a l h)
   | _,_,_=>none
  | _=>none
 | .slice t x none (some (.const (.int _ 0))) (some (.const (.int _ 0)))=>match P.underlying t with
  | some (.slice e)=>match szT P e,ag1 x with
   | some _,some a=>some (.slz a)
   | _,_=>none
  | _=>none
 | .extract x i=>(ag1 x).map (.ext i)
 | .makeFunc (.func fn) first cap=>match dj6 first.toList,dj6 cap.toList with
  | some a,some b=>some (.mkf fn a b)
  | _,_=>none
 | .build t parts=>match bd8 P t,ax5 P (cf9 P t) parts.toList with
  | some z,some ps=>if sized P t then some (.bld z ps) else none
  | _,_=>none
 | .load t x=>match ak8 P t,ag1 x with
  | some agg,some a=>some (.load agg a)
  | _,_=>none
 | .nilCheck x=>(ag1 x).map .am7
 | .call { callee:=.builtin .max,args,argTypes:=_ }=>match args.toList with
  | [x,y]=>match ag1 x,ag1 y with
   | some a,some b=>some (.mm true a b)
   | _,_=>none
  | _=>none
 | .call { callee:=.builtin .min,args,argTypes:=_ }=>match args.toList with
  | [x,y]=>match ag1 x,ag1 y with
   | some a,some b=>some (.mm false a b)
   | _,_=>none
  | _=>none
 | .lookup xt x k ok=>match P.underlying xt with
  | some (.map kt et)=>match fe5 P kt,zeroV P et,ag1 x,ag1 k with
   | some tag,some z,some a,some b=>some (.lkp tag z ok a b)
   | _,_,_,_=>none
  | _=>none
 | .call { callee:=.value (.func f),args,argTypes:=_ }=>if gw6 P f then (match args.toList with
  | [x,y]=>match ag1 x,ag1 y with
   | some a,some b=>some (.ibs a b)
   | _,_=>none
  | _=>none) else none
 | _=>none
variable {P:Program} {w:World} {ρ:Rho} {E:Nat->IV} {σ:Store} {N:Nat} {fr:Frm} {a:Act}
theorem aa8 {x:Operand}{y:IX}(h:ag1 x=some y)(hs:Sim E ρ w σ)(hf:FR ρ w N fr a.tmps):VR ρ w (y.ev E fr) (a.eval x):=by
 cases x with
 | tmp t=>cases h; exact hf.get t
 | const v=>
  simp only[ag1] at h
  cases hc:cv v with
  | none=>rw[hc] at h; cases h
  | some z=>rw[hc] at h; cases h; exact eb2 hc
 | global g=>cases h; exact hs.env g
 | func f=>
  cases h;exact .func (.func f) [] [] #[] #[] (fun l h=>by cases h) rfl rfl (fun i hi=>by simp at hi) (fun i hi=>by simp at hi)
theorem bm1 {xs:List Operand}{ys:List IX}(h:dj6 xs=some ys)(hs:Sim E ρ w σ)(hf:FR ρ w N fr a.tmps) :
  CR ρ w (ys.map (·.ev E fr)) (xs.map a.eval).toArray:=by
 induction xs generalizing ys with
 | nil=>cases h; exact ⟨rfl,fun i hi=>by simp at hi⟩
 | cons x xs ih=>
  simp only[dj6] at h;split at h
  ·rename_i y ys' h1 h2;cases h;obtain ⟨hl,hv⟩:=ih h2;refine ⟨by simpa using hl,fun i hi=>?_⟩
   cases i with
   | zero=>simpa using aa8 h1 hs hf
   | succ i=>
    have:=hv i (by simpa using hi)
    simpa [Array.getD_eq_getD_getElem?] using this
  ·cases h
theorem bf8 {x:Option Operand}{y:Option IX}(h:hr8 x=some y)(hs:Sim E ρ w σ)(hf:FR ρ w N fr a.tmps):OVR ρ w (y.map (·.ev E fr)) (x.map a.eval):=by
 cases x with
 | none=>cases h; trivial
 | some x=>
  simp only[hr8] at h
  cases hc:ag1 x with
  | none=>rw[hc] at h; cases h
  | some z=>rw[hc] at h; cases h; exact aa8 hc hs hf
theorem map_some {α β:Type}{o:Option α}{f:α->β}{b:β}(h:o.map f=some b):∃ x,o=some x/\f x=b:=by
 cases o with
 | none=>cases h
 | some x=>cases h; exact ⟨x,rfl,rfl⟩
end Go.Id
/- The quiet operations against the model: the one theorem. Conditions: none; over any program. -/
namespace Go.Id
open Go
variable {P:Program} {w:World} {ρ:Rho} {E:Nat->IV} {σ:Store} {N:Nat} {fr:Frm} {a:Act}
def bo1 (P:Program)(ρ:Rho)(w:World)(a:Act)(op:Op)(v:IV):Prop :=
 ∀ o:Oper,o.op=op->∃ r,(execOp a.eval o).run P w=.ok (.value r) w/\VR ρ w v r
theorem bo1.of {op:Op}{v:IV}{s:Sem Value}(hx:∀ o:Oper,o.op=op->execOp a.eval o=(do pure (.value (<- s))))(h:∃ r,s.run P w=.ok r w/\VR ρ w v r):bo1 P ρ w a op v:=by
 intro o ho;obtain ⟨r,hr,hv⟩:=h;exact ⟨r,by rw[hx o ho]; simp[hr],hv⟩
theorem fz9 {op:BinOp}{t yt:TypeId}{x y:Operand}{q:IQ}{v:IV}(h:ff4 P op t x y=some q)(hv:evq E fr σ q=some v)(hs:Sim E ρ w σ)(hf:FR ρ w N fr a.tmps) :
  bo1 P ρ w a (.binOp op t x y yt) v:=by
 refine bo1.of (s:=do eqGuard op t x y (a.eval x) (a.eval y); binOp op t (a.eval x) (a.eval y)) (fun o ho=>by unfold execOp; rw[ho]) ?_;unfold ff4 at h
 cases hu:P.underlying t with
 | none=>rw[hu] at h; cases h
 | some d=>
  rw[hu] at h
  have hnum:∀ q',(match ag1 x,ag1 y with|some a,some b=>some (IQ.bin op a b)|_,_=>none)=some q'->q'=q ->
    ∃ r,(do eqGuard op t x y (a.eval x) (a.eval y); binOp op t (a.eval x) (a.eval y):Sem Value).run P w=.ok r w/\VR ρ w v r:=by
   intro q' h1 h2;subst h2;split at h1
   ·rename_i xa xb ha hb;cases h1;exact fc9 hv (aa8 ha hs hf) (aa8 hb hs hf)
   ·cases h1
  have hnil:∀ rn,ej8 d=some rn->(ca6 y d=true->a.eval y=rn) ->
    (if (op=.eql\/op=.neq)/\ca6 y d=true then (ag1 x).map (fun a=>IQ.bc9 d (decide (op=.neq)) a) else none)=some q ->
    ∃ r,(do eqGuard op t x y (a.eval x) (a.eval y); binOp op t (a.eval x) (a.eval y):Sem Value).run P w=.ok r w/\VR ρ w v r:=by
   intro rn hn hy h1;split at h1
   ·rename_i hc;obtain ⟨xa,ha,rfl⟩:=map_some h1;simp only[evq] at hv;obtain ⟨b,hb,rfl⟩:=map_some hv;have:=fd9 (P:=P) (op:=op) (x:=x) (y:=y) hu hn hc.1 hb (aa8 (a:=a) ha hs hf);rw[hy hc.2];refine ⟨_,this,?_⟩;rcases hc.1 with rfl|rfl
    ·simpa using VR.bool b
    ·simpa using VR.bool (!b)
   ·cases h1
  cases d with
  | int k=>exact hnum q h rfl
  | string=>exact hnum q h rfl
  | bool=>
   simp only at h;split at h
   ·rename_i xa xb tags ha hb ht;split at h
    ·rename_i hop;cases h;simp only[evq] at hv;have va:=aa8 ha hs hf;have vb:=aa8 hb hs hf;obtain ⟨b1,b2,b,e1,e2,hq,rfl⟩:=ek7 hv;rw[e1] at va;rw[e2] at vb;generalize a.eval x=ra at va ⊢;generalize a.eval y=rb at vb ⊢
     have he:=bl8 30 t tags ht ρ w (10000-30) _ _ _ _ b va vb (by
      rw[show ak8 P t=some none from by simp[ak8,ea9,hu]]; exact ⟨fun _ h=>IV.noConfusion h,fun _ h=>IV.noConfusion h⟩) hq
     cases va; cases vb;have he':(Op.equal t (.bool b1) (.bool b2)).run P w=.ok b w:=he
     have hg:(eqGuard op t x y (.bool b1) (.bool b2)).run P w=.ok () w:=by
      unfold eqGuard; rcases hop with rfl|rfl<;>rfl
     rcases hop with rfl|rfl
     ·exact ⟨.bool b,by simp[hg,binOp,he'],by simpa using VR.bool b⟩
     ·exact ⟨.bool (!b),by simp[hg,binOp,he'],by simpa using VR.bool (!b)⟩
    ·cases h
   ·cases h
  | struct fs=>
   simp only at h;split at h
   ·rename_i xa xb tags n ha hb ht hl;split at h
    ·rename_i hop;cases h;simp only[evq] at hv;exact di8 (d:=30) (by omega) ht hl hop.2 hop.1 (dj5 hv) (aa8 ha hs hf) (aa8 hb hs hf)
    ·cases h
   ·cases h
  | array m e=>
   simp only at h;split at h
   ·rename_i xa xb tags n ha hb ht hl;split at h
    ·rename_i hop;cases h;simp only[evq] at hv;exact di8 (d:=30) (by omega) ht hl hop.2 hop.1 (dj5 hv) (aa8 ha hs hf) (aa8 hb hs hf)
    ·cases h
   ·cases h
  | pointer e=>exact hnil (.pointer none) rfl (fun hc=>by unfold ca6 at hc; split at hc<;>simp_all [Act.eval]) h
  | slice e=>exact hnil (.slice none 0 0) rfl (fun hc=>by unfold ca6 at hc; split at hc<;>simp_all [Act.eval]) h
  | map k e=>exact hnil (.map none) rfl (fun hc=>by unfold ca6 at hc; split at hc<;>simp_all [Act.eval]) h
  | func p r v'=>exact hnil .nilFunc rfl (fun hc=>by unfold ca6 at hc; split at hc<;>simp_all [Act.eval]) h
  | _=>
   simp only at h;split at h
   ·rename_i hc; have:=hc.2; unfold ca6 at this; split at this<;>simp_all
   ·cases h
theorem bm2 {place:Nat->Option (Nat×Nat)}:∀ (ps:List (Nat×Operand)) (ips:List (Nat×Nat×IX)),ax5 P place ps=some ips->Sim E ρ w σ->FR ρ w N fr a.tmps ->
  ips.length=ps.length/\∀ j,j<ips.length ->
   place ((ps.map fun p=>(p.1,a.eval p.2)).getD j (0,undef)).1=some (((ips.map fun p=>(p.1,p.2.1,p.2.2.ev E fr)).getD j (0,0,.undef)).1,((ips.map fun p=>(p.1,p.2.1,p.2.2.ev E fr)).getD j (0,0,.undef)).2.1) /\
   VR ρ w ((ips.map fun p=>(p.1,p.2.1,p.2.2.ev E fr)).getD j (0,0,.undef)).2.2 ((ps.map fun p=>(p.1,a.eval p.2)).getD j (0,undef)).2:=by
 intro ps
 induction ps with
 | nil=>intro ips h hs hf; cases h; exact ⟨rfl,fun j hj=>by simp at hj⟩
 | cons p ps ih=>
  intro ips h hs hf;obtain ⟨i,x⟩:=p;simp only[ax5] at h;split at h
  ·rename_i off n y ys h1 h2 h3;cases h;obtain ⟨hl,hv⟩:=ih ys h3 hs hf;refine ⟨by simpa using hl,fun j hj=>?_⟩
   cases j with
   | zero=>exact ⟨by simpa using h1,by simpa using aa8 h2 hs hf⟩
   | succ j=>simpa using hv j (by simpa using hj)
  ·cases h
theorem an9 {t:TypeId}{z:List IV}(h:bd8 P t=some z):∃ zr,(zeroValue t).run P w=.ok zr w/\CR ρ w z zr.cells:=by
 unfold bd8 at h
 cases hi:P.info? t with
 | none=>rw[hi] at h; cases h
 | some i=>
  rw[hi] at h;simp only at h
  cases hz:i.zero with
  | none=>rw[hz] at h; cases h
  | some zr=>
   rw[hz] at h;exact ⟨zr,by simp[zeroValue,typeInfo,hi,hz],cf8 h⟩
def dt2 (P:Program)(f:Field):Option (Nat×Nat):=(szT P f.type).map fun n=>(f.offset,n)
theorem dj7:∀ l:List Field,l.all (fun f=>(szT P f.type).isSome)=true->∃ ps:List (Nat×Nat),(l.mapM (fun f=>do pure (f.offset,<- sizeOf f.type):Field->Sem (Nat×Nat))).run P w=.ok ps w /\
  ∀ i:Nat,ps[i]? = (l[i]?).bind (dt2 P):=by
 intro l
 induction l with
 | nil=>intro _; exact ⟨[],by simp,fun i=>by simp⟩
 | cons f l ih=>
  intro h;simp only[List.all_cons,Bool.and_eq_true] at h;obtain ⟨n,hn⟩:=Option.isSome_iff_exists.1 h.1;obtain ⟨ps,h1,h2⟩:=ih h.2;refine ⟨(f.offset,n)::ps,by rw[List.mapM_cons]; simp only[Sem.run_bind,run_sizeOf hn,Result.andThen_ok,Sem.run_pure,h1],fun i=>?_⟩
  cases i with
  | zero=>simp[dt2,hn]
  | succ i=>simpa using h2 i
theorem dt3 {fs:Array Field}(h:fs.toList.all (fun f=>(szT P f.type).isSome)=true) :
  ∃ ps:Array (Nat×Nat),(fs.mapM (fun f=>do pure (f.offset,<- sizeOf f.type):Field->Sem (Nat×Nat))).run P w=.ok ps w /\
   ∀ i:Nat,ps[i]? = (fs[i]?).bind (dt2 P):=by
 obtain ⟨l⟩:=fs;obtain ⟨ps,h1,h2⟩:=dj7 (w:=w) l h;exact ⟨ps.toArray,by rw[List.mapM_toArray,Sem.run_map,h1]; rfl,fun i=>by simpa using h2 i⟩
theorem ga1 {t:TypeId}{parts:Array (Nat×Operand)}{z:List IV}{ps:List (Nat×Nat×IX)}{v:IV}(hz:bd8 P t=some z)(hp:ax5 P (cf9 P t) parts.toList=some ps)(hsz:sized P t=true)
  (hv:evq E fr σ (.bld z ps)=some v) (hs:Sim E ρ w σ) (hf:FR ρ w N fr a.tmps):bo1 P ρ w a (.build t parts) v:=by
 refine bo1.of (s:=Instr.build t (parts.map fun (i,x)=>(i,a.eval x))) (fun o ho=>by unfold execOp; rw[ho]) ?_;simp only[evq] at hv;obtain ⟨out,hfill,rfl⟩:=map_some hv;obtain ⟨zr,hzr,hcr⟩:=an9 (w:=w) (ρ:=ρ) hz;obtain ⟨hl,hpl⟩:=bm2 parts.toList ps hp hs hf;obtain ⟨rout,hr,ho⟩:=co4 (place:=cf9 P t) _ (parts.toList.map fun p=>(p.1,a.eval p.2)) z out zr.cells hcr (by simp[hl]) (fun j hj=>hpl j (by simpa using hj)) hfill;have hpt:(parts.map fun (i,x)=>(i,a.eval x)).toList=parts.toList.map fun p=>(p.1,a.eval p.2):=by simp
 refine ⟨.agg rout,?_,.agg _ _ ho.1 ho.2⟩;unfold sized at hsz
 cases hu:P.underlying t with
 | none=>rw[hu] at hsz; cases hsz
 | some d=>
  rw[hu] at hsz
  cases d with
  | struct fs=>
   obtain ⟨places,hm,hpl'⟩:=dt3 (P:=P) (w:=w) hsz;have e:(fun i=>places[i]?)=cf9 P t:=by funext i; rw[hpl' i]; simp only[cf9,hu]; cases fs[i]?<;>rfl
   have hr':Instr.fill (fun i=>places[i]?) zr.cells ((parts.map fun (i,x)=>(i,a.eval x)).toList)=some rout:=by rw[hpt,e]; exact hr
   simp only[Instr.build,Sem.run_bind,hzr,Result.andThen_ok,run_underlying hu,hm,hr']
   rfl
  | array n el=>
   obtain ⟨m,hm⟩:=Option.isSome_iff_exists.1 hsz;have e:(fun i=>some (i*m,m))=cf9 P t:=by funext i; simp[cf9,hu,hm]
   have hr':Instr.fill (fun i=>some (i*m,m)) zr.cells ((parts.map fun (i,x)=>(i,a.eval x)).toList)=some rout:=by rw[hpt,e]; exact hr
   simp only[Instr.build,Sem.run_bind,hzr,Result.andThen_ok,run_underlying hu,run_sizeOf hm,hr']
   rfl
  | _=>cases hsz
theorem bs5 {op:Op}{t:TypeId}{x:Operand}{y:IX}{kind:Nat}{v:IV}{args:Array Operand}{argTypes:Array TypeId}(hop:op=.call { callee:=.builtin .len,args,argTypes })(ha:args.toList=[x])(ht:argTypes.toList=[t])
  (hk:match P.underlying t with|some (.slice _)=>kind=0|some .string=>kind=1|some (.map _ _)=>kind=2|_=>False) (hx:ag1 x=some y)
  (hv:evq E fr σ (.len kind y)=some v) (hs:Sim E ρ w σ) (hf:FR ρ w N fr a.tmps):bo1 P ρ w a op v:=by
 subst hop;obtain ⟨al⟩:=args;obtain ⟨tl⟩:=argTypes;simp only at ha ht;subst ha; subst ht;refine fun o ho=>?_
 simp only[evq] at hv
 have key:∃ r,(Builtin.len_ #[t] o.type #[a.eval x]).run P w=.ok r w/\VR ρ w v r:=by
  have hl:ej5 σ (y.ev E fr)=some v:=by unfold cd7 at hv; split at hv<;>first|exact hv|cases hv
  refine fd5 hs ?_ ?_ hl (aa8 hx hs hf)
  ·unfold ip2
   cases hu:P.underlying t with
   | none=>rw[hu] at hk; exact hk.elim
   | some d=>rw[hu] at hk; cases d<;>first|rfl|exact hk.elim
  ·intro u hu;rw[hu] at hk;unfold cd7 at hv;cases u<;>simp only at hk<;>first|exact hk.elim|(subst hk; split at hv<;>simp_all)
 obtain ⟨r,hr,hvr⟩:=key;refine ⟨r,?_,hvr⟩;unfold execOp;rw[ho];simp[resolve,invoke,builtin,hr]
theorem ek8 {s:TypeId}{x:Operand}{y:IX}{i m:Nat}{fs:Array Field}{f:Field}{v:IV}(hu:P.underlying s=some (.struct fs))(hfi:fs[i]? = some f)(hz:szT P f.type=some (m+1))
  (hx:ag1 x=some y) (hv:evq E fr σ (.aa7 f.offset y)=some v) (hs:Sim E ρ w σ) (hf:FR ρ w N fr a.tmps):bo1 P ρ w a (.fieldAddr s x i) v:=by
 refine bo1.of (s:=Instr.fieldAt s (a.eval x) i) (fun o ho=>by unfold execOp; rw[ho]) ?_;simp only[evq] at hv;obtain ⟨ad,hr,hvr⟩:=co2 hv (aa8 hx hs hf);rw[hr];exact ⟨_,ds4 hu hfi hz,hvr⟩
theorem dt4 {t:TypeId}{x:IV}(h:zeroV P t=some x):∃ z,(zeroValue t).run P w=.ok z w/\VR ρ w x z:=by
 unfold zeroV at h
 cases hi:P.info? t with
 | none=>rw[hi] at h; cases h
 | some i=>
  rw[hi] at h;simp only at h
  cases hz:i.zero with
  | none=>rw[hz] at h; cases h
  | some z=>rw[hz] at h; exact ⟨z,by simp[zeroValue,typeInfo,hi,hz],eb2 h⟩
theorem ga2 : Extern.allRows.lookup "internal/bytealg.IndexByteString" = some Extern.BytealgIndexByte.indexByte := by kernel_rfl
theorem ff5 : Extern.allTypedRows.lookup "internal/bytealg.IndexByteString" = none := by kernel_rfl
theorem ff6 : Extern.allGenericRows.lookup "internal/bytealg.IndexByteString" = none := by kernel_rfl
theorem ff7 : Extern.allNextRows.lookup "internal/bytealg.IndexByteString" = none := by kernel_rfl
theorem ek9 : Extern.allNextRows.lookup "" = none := by kernel_rfl
theorem gw7 (c:UInt8):∀ (l:List UInt8) (i:Nat),dr8 c.toNat l i=if Lib.indexByte l c=-1 then -1 else Lib.indexByte l c+i:=by
 intro l
 induction l with
 | nil=>intro i; rfl
 | cons b l ih=>
  intro i;have hge:=Lib.indexByte_ge l c;simp only[dr8,Lib.indexByte,ih];by_cases h:b=c
  ·subst h; simp
  ·have h1:¬ b.toNat=c.toNat:=fun e=>h (UInt8.toNat_inj.1 e)
   have h2:(b==c)=false:=by simpa using h
   simp only[h1,if_false,h2,Bool.false_eq_true];by_cases h3:Lib.indexByte l c=-1
   ·simp[h3]
   ·have h4:(Lib.indexByte l c == -1)=false:=by simpa using h3
    have h5:¬ Lib.indexByte l c+1=-1:=by omega
    simp only[h3,h4,h5,if_false,Bool.false_eq_true];omega
theorem ga3 {f:FuncId}{x y:Operand}{argTypes:Array TypeId}{xa ya:IX}{v:IV}(hok:gw6 P f=true)(hx:ag1 x=some xa)(hy:ag1 y=some ya)(hv:hr7 (xa.ev E fr) (ya.ev E fr)=some v)(hs:Sim E ρ w σ)(hf:FR ρ w N fr a.tmps) :
  bo1 P ρ w a (.call { callee:=.value (.func f),args:=#[x,y],argTypes }) v:=by
 have vx:=aa8 (a:=a) hx hs hf;have vy:=aa8 (a:=a) hy hs hf;generalize xa.ev E fr=ax at vx hv;generalize ya.ev E fr=ay at vy hv;unfold hr7 at hv;split at hv
 ·rename_i s n;split at hv
  ·rename_i hn;cases hv;generalize hrx:a.eval x=rx at vx;generalize hry:a.eval y=ry at vy;cases vx;cases vy;intro o ho;unfold gw6 at hok
   cases hfn:P.funcs[f]? with
   | none=>rw[hfn] at hok; cases hok
   | some fn=>
    rw[hfn] at hok;simp only[Option.any_some,Bool.and_eq_true,beq_iff_eq] at hok;obtain ⟨⟨h1,h2⟩,h3⟩:=hok;refine ⟨.int .i64 (dr8 n.toNat s 0),?_,.int _ _⟩
    have hres:(resolve a.eval { callee:=.value (.func f),args:=#[x,y],argTypes } o.type).run P w=.ok { target:=.fn (.func f) #[],args:=#[.string ⟨s.toArray⟩,.int .u8 n] } w:=by
     simp[resolve,Act.eval,Deferred.ofValue] at hrx hry ⊢;simp[hrx,hry]
    have hfind:Extern.find fn=some Extern.BytealgIndexByte.indexByte:=by
     unfold Extern.find;simp only[h1,h3,ga2,ff5,ff6];rfl
    have hfn2:Extern.findNext fn=none:=by
     unfold Extern.findNext;simp only[h1,h3,ff7,ek9];rfl
    have hinv:(invoke (.fn (.func f) #[]) #[.string ⟨s.toArray⟩,.int .u8 n]).run P w=.ok (.value (.int .i64 (dr8 n.toNat s 0))) w:=by
     have hb:fn.body=none:=by simpa using h2
     have hnm : ¬ fn.name = "runtime.NumGoroutine" := by rw [h1]; decide
     have hr:=Lib.run_indexByteString (P:=P) ⟨s.toArray⟩ n w
     have hc:(n.toNat.toUInt8).toNat=n.toNat:=by
      have:n.toNat<256:=by omega
      simp[Nat.mod_eq_of_lt this]
     have hid:=gw7 n.toNat.toUInt8 s 0;rw[hc] at hid;have hge:=Lib.indexByte_ge s n.toNat.toUInt8
     have hidx:dr8 n.toNat s 0=Lib.indexByte s n.toNat.toUInt8:=by
      rw[hid];split
      ·rename_i h; rw[h]
      ·simp
     simp only[invoke,Array.append_empty];simp only[callFunc];simp only[Sem.run_bind,program,Sem.run,Result.andThen_ok,hfn,h1];simp[hb,hfind,hfn2,mark,Sem.run,Sem.run_bind,hr,hidx]
    unfold execOp;rw[ho];simp only[Sem.run_bind,hres,Result.andThen_ok,hinv]
  ·cases hv
 ·cases hv
theorem ff8 {op:Op}{q:IQ}{v:IV}(h:fz8 P op=some q)(hv:evq E fr σ q=some v)(hs:Sim E ρ w σ)(hf:FR ρ w N fr a.tmps):bo1 P ρ w a op v:=by
 unfold fz8 at h;split at h
 ·obtain ⟨y,hy,rfl⟩:=map_some h;cases hv;exact bo1.of (s:=pure _) (fun o ho=>by unfold execOp; rw[ho]; rfl) ⟨_,rfl,aa8 hy hs hf⟩
 ·obtain ⟨y,hy,rfl⟩:=map_some h;cases hv;exact bo1.of (s:=pure _) (fun o ho=>by unfold execOp; rw[ho]; rfl) ⟨_,rfl,aa8 hy hs hf⟩
 ·rename_i c x y;split at h
  ·rename_i c' x' y' hc hx hy;cases h;have vc:=aa8 hc hs hf;have vx:=aa8 hx hs hf;have vy:=aa8 hy hs hf;simp only[evq] at hv;generalize c'.ev E fr=ic at vc hv;unfold dj4 at hv;split at hv
   ·cases hv;generalize hrc:a.eval c=rc at vc;cases vc;rename_i b;refine fun o ho=>⟨if b then a.eval x else a.eval y,?_,?_⟩
    ·unfold execOp;rw[ho];simp[hrc,asBool]
    ·cases b
     ·exact vy
     ·exact vx
   ·cases hv
  ·cases h
 ·obtain ⟨y,hy,rfl⟩:=map_some h;exact bo1.of (s:=Op.unary .not _) (fun o ho=>by unfold execOp; rw[ho]) (fe1 hv (aa8 hy hs hf))
 ·obtain ⟨y,hy,rfl⟩:=map_some h;exact bo1.of (s:=Op.unary .neg _) (fun o ho=>by unfold execOp; rw[ho]) (fe2 hv (aa8 hy hs hf))
 ·exact fz9 h hv hs hf
 ·split at h
  ·rename_i k1 k2 h1 h2;obtain ⟨y,hy,rfl⟩:=map_some h;exact bo1.of (s:=convert _ _ _) (fun o ho=>by unfold execOp; rw[ho]) (ek2 h1 h2 hv (aa8 hy hs hf))
  ·rename_i h1 h2;obtain ⟨y,hy,rfl⟩:=map_some h;exact bo1.of (s:=convert _ _ _) (fun o ho=>by unfold execOp; rw[ho]) (ds9 h1 h2 hv (aa8 hy hs hf))
  ·cases h
 ·split at h
  ·rename_i args argTypes x t h1 h2;split at h
   ·rename_i e hu;obtain ⟨y,hy,rfl⟩:=map_some h;exact bs5 rfl h1 h2 (by rw[hu]) hy hv hs hf
   ·rename_i hu;obtain ⟨y,hy,rfl⟩:=map_some h;exact bs5 rfl h1 h2 (by rw[hu]) hy hv hs hf
   ·rename_i k e hu;obtain ⟨y,hy,rfl⟩:=map_some h;exact bs5 rfl h1 h2 (by rw[hu]) hy hv hs hf
   ·cases h
  ·cases h
 ·split at h
  ·rename_i fs hu;split at h
   ·rename_i f hfi;split at h
    ·rename_i m hz;obtain ⟨y,hy,rfl⟩:=map_some h;exact ek8 hu hfi hz hy hv hs hf
    ·cases h
   ·cases h
  ·cases h
 ·split at h
  ·rename_i fs hu;split at h
   ·rename_i f hfi;split at h
    ·rename_i agg hk;obtain ⟨y,hy,rfl⟩:=map_some h;exact bo1.of (s:=Instr.field _ _ _) (fun o ho=>by unfold execOp; rw[ho]) (fd2 hu hfi hk hv (aa8 hy hs hf))
    ·cases h
   ·cases h
  ·cases h
 ·split at h
  ·rename_i e hu;split at h
   ·rename_i n xa xb hz hx hi;cases h;exact bo1.of (s:=Instr.indexAt _ _ _) (fun o ho=>by unfold execOp; rw[ho]) (ds5 hu hz hv (aa8 hx hs hf) (aa8 hi hs hf))
   ·cases h
  ·rename_i m e hu;split at h
   ·rename_i n xa xb hz hx hi;cases h;exact bo1.of (s:=Instr.indexAt _ _ _) (fun o ho=>by unfold execOp; rw[ho]) (ds6 hu hz hv (aa8 hx hs hf) (aa8 hi hs hf))
   ·cases h
  ·cases h
 ·split at h
  ·rename_i hu;split at h
   ·rename_i xa xb hx hi;cases h;exact bo1.of (s:=Instr.index _ _ _) (fun o ho=>by unfold execOp; rw[ho]) (ej4 hu hv (aa8 hx hs hf) (aa8 hi hs hf))
   ·cases h
  ·rename_i m e hu;split at h
   ·rename_i n agg xa xb hz hk hx hi;cases h;exact bo1.of (s:=Instr.index _ _ _) (fun o ho=>by unfold execOp; rw[ho]) (fd3 hu hz hk hv (aa8 hx hs hf) (aa8 hi hs hf))
   ·cases h
  ·cases h
 ·split at h
  ·rename_i e hu;split at h
   ·rename_i n xa l hh hz hx hl hhi;cases h;exact bo1.of (s:=Instr.sliceAt _ _ _ _ none) (fun o ho=>by unfold execOp; rw[ho]; rfl) (fd6 hu hz hv (aa8 hx hs hf) (bf8 hl hs hf) (bf8 hhi hs hf))
   ·cases h
  ·rename_i hu;split at h
   ·rename_i xa l hh hx hl hhi;cases h;exact bo1.of (s:=Instr.sliceAt _ _ _ _ none) (fun o ho=>by unfold execOp; rw[ho]; rfl) (ej6 hu hv (aa8 hx hs hf) (bf8 hl hs hf) (bf8 hhi hs hf))
   ·cases h
  ·cases h
 ·split at h
  ·rename_i e hu;split at h
   ·rename_i n xa hz hx;cases h;exact bo1.of (s:=Instr.sliceAt _ _ none _ _) (fun o ho=>by unfold execOp; rw[ho]; rfl) (fd8 hu hz hv (aa8 hx hs hf))
   ·cases h
  ·cases h
 ·obtain ⟨y,hy,rfl⟩:=map_some h;exact bo1.of (s:=Instr.extract _ _) (fun o ho=>by unfold execOp; rw[ho]) (fd4 hv (aa8 hy hs hf))
 ·rename_i fn first cap
  split at h
  ·rename_i ia ib h1 h2;cases h;cases hv;obtain ⟨l1,v1⟩:=bm1 (a:=a) h1 hs hf;obtain ⟨l2,v2⟩:=bm1 (a:=a) h2 hs hf;refine bo1.of (s:=Instr.makeFunc _ _ _) (fun o ho=>by unfold execOp; rw[ho]) ⟨_,rfl,?_⟩;have e1:first.map a.eval=(first.toList.map a.eval).toArray:=by cases first; rw[List.map_toArray]
   have e2:cap.map a.eval=(cap.toList.map a.eval).toArray:=by cases cap; rw[List.map_toArray]
   rw[e1,e2];exact .func _ _ _ _ _ (fun l h=>by cases h) l1 l2 v1 v2
  ·cases h
 ·split at h
  ·rename_i z ps hz hp;split at h
   ·rename_i hsz;cases h;exact ga1 hz hp hsz hv hs hf
   ·cases h
  ·cases h
 ·split at h
  ·rename_i agg xa hk hx;cases h;exact bo1.of (s:=Instr.loadAt _ _) (fun o ho=>by unfold execOp; rw[ho]) (co1 hs hk hv (aa8 hx hs hf))
  ·cases h
 ·obtain ⟨y,hy,rfl⟩:=map_some h;exact fun o ho=>ek3 ho hv (aa8 hy hs hf)
 ·rename_i args argTypes;split at h
  ·rename_i x y ha;split at h
   ·rename_i xa ya hx hy;cases h;obtain ⟨al⟩:=args;simp only at ha;subst ha;intro o ho;obtain ⟨r,hr,hv'⟩:=ff2 (P:=P) (w:=w) (ts:=argTypes) (t:=o.type) hv (aa8 hx hs hf) (aa8 hy hs hf);refine ⟨r,?_,hv'⟩;unfold execOp;rw[ho];simp[resolve,invoke,builtin,hr]
   ·cases h
  ·cases h
 ·rename_i args argTypes;split at h
  ·rename_i x y ha;split at h
   ·rename_i xa ya hx hy;cases h;obtain ⟨al⟩:=args;simp only at ha;subst ha;intro o ho;obtain ⟨r,hr,hv'⟩:=ff3 (P:=P) (w:=w) (ts:=argTypes) (t:=o.type) hv (aa8 hx hs hf) (aa8 hy hs hf);refine ⟨r,?_,hv'⟩;unfold execOp;rw[ho];simp[resolve,invoke,builtin,hr]
   ·cases h
  ·cases h
 ·rename_i xt x k ok;split at h
  ·rename_i kt et hu;split at h
   ·rename_i tag zi xa xb ht hz hx hk;cases h;obtain ⟨z,hz1,hz2⟩:=dt4 (ρ:=ρ) (w:=w) hz;exact bo1.of (s:=Instr.lookup _ _ _ _) (fun o ho=>by unfold execOp; rw[ho]) (ff1 hu ht hz1 hz2 hs hv (aa8 hx hs hf) (aa8 hk hs hf))
   ·cases h
  ·cases h
 ·rename_i f args argTypes;split at h
  ·rename_i hok;split at h
   ·rename_i x y ha;split at h
    ·rename_i xa ya hx hy;cases h;obtain ⟨al⟩:=args;simp only at ha;subst ha;exact ga3 hok hx hy hv hs hf
    ·cases h
   ·cases h
  ·cases h
 ·cases h
end Go.Id
