/- The rest of the quiet operations,and all of them as one function on ideal values. Conditions: none; over any program. -/
import Derived.Test.YtjpdjifjokldlaaDoorFwB2
import Derived.Lib.Bytealg
import Derived.KernelRfl
set_option linter.all false
namespace Go.Id
open Go
variable {P:Program} {w:World} {ρ:Rho}
theorem db1 {t:TypeId}{fs:Array Field}(hu:P.underlying t=some (.struct fs)):∀ k,aj9 P t=some k→∃ n,k=some n:=by
 intro k hk;have:dr4 P t=some true:=by simp[dr4,hu]
 unfold aj9 at hk;rw[this] at hk
 cases hz:szT P t with
 | none=>rw[hz] at hk; cases hk
 | some n=>rw[hz] at hk; cases hk; exact ⟨n,rfl⟩
theorem bi3:∀ (d:Nat) (t:TypeId) (tags:List Nat),cg5 P d t=some tags→if5 P d t tags:=by
 intro d
 induction d with
 | zero=>intro t tags h; simp[cg5] at h
 | succ d ih=>
  intro t tags h ρ w e x y rx ry b vx vy hk hb;simp only[cg5] at h
  cases hu:P.underlying t with
  | none=>rw[hu] at h; cases h
  | some u=>
   rw[hu] at h;cases u<;>simp at h
   case bool=>
    subst h;rw[show aj9 P t=some none from by simp[aj9,dr4,hu]] at hk;rw[IV.bh6 hk.1,IV.bh6 hk.2] at hb;obtain ⟨a,c,rfl,rfl,rfl⟩:=fj8 (cc2 hb);cases vx; cases vy;rw[← Nat.add_assoc];simp[Op.equalIn,run_underlying hu]
   case int k=>
    subst h;rw[show aj9 P t=some none from by simp[aj9,dr4,hu]] at hk;rw[IV.bh6 hk.1,IV.bh6 hk.2] at hb;obtain ⟨k,a,c,rfl,rfl,rfl⟩:=ct4 (cc2 hb);cases vx; cases vy;rw[← Nat.add_assoc];simp[Op.equalIn,run_underlying hu,cb9]
   case string=>
    subst h;rw[show aj9 P t=some none from by simp[aj9,dr4,hu]] at hk;rw[IV.bh6 hk.1,IV.bh6 hk.2] at hb;obtain ⟨a,c,rfl,rfl,rfl⟩:=fj9 (cc2 hb);cases vx; cases vy;rw[← Nat.add_assoc];simp[Op.equalIn,run_underlying hu,beq_toListBytes,dr5]
   case struct fs=>
    obtain ⟨hst,h⟩:=h;have hfo:P.fieldsOf t=fs:=by simp[Program.fieldsOf,hu]
    cases hlk:aj9 P t with
    | none=>rw[hlk] at hk; exact hk.elim
    | some k=>
     obtain ⟨n,rfl⟩:=db1 hu k hlk;rw[hlk] at hk;obtain ⟨⟨xs,rfl⟩,⟨ys,rfl⟩⟩:=hk
     cases vx with
     | agg _ rxs hx vx=>
      cases vy with
      | agg _ rys hy vy=>
       simp only[IV.cs] at hb;rw[← Nat.add_assoc,run_equalIn_struct w (e+d) t rxs rys (by rw[hfo]; exact hu) hst,hfo];exact cg6 (fun t tags h=>ih t tags h) hx hy vx vy fs.toList 0 tags b h (by simpa using hb)
   case array n e0=>
    split at h
    ·rename_i k hue;split at h
     ·rename_i hc;cases h;have hlk:aj9 P t=(szT P t).map some:=by simp[aj9,dr4,hu]
      cases hsz:szT P t with
      | none=>rw[hlk,hsz] at hk; exact hk.elim
      | some m=>
       rw[hlk,hsz] at hk;obtain ⟨⟨xs,rfl⟩,⟨ys,rfl⟩⟩:=hk
       cases vx with
       | agg _ rxs hx vx=>
        cases vy with
        | agg _ rys hy vy=>
         rw[← Nat.add_assoc];exact gs3 hu hue hc.1 (by omega) hx hy vx vy hb
     ·cases h
    ·cases h
def gs4 (tags:List Nat)(neg:Bool):IV→IV→Option IV
 | .agg xs,.agg ys=>(allEq tags xs ys).map fun b=>.bool (b ^^ neg)
 | _,_=>none
theorem db2 {d:Nat}(hd:d≤10000){t:TypeId}{tags:List Nat}{n:Nat}{op:BinOp}{x y:Operand}{a b v:IV}{ra rb:Value}(ht:cg5 P d t=some tags)(hl:aj9 P t=some (some n))
  (hm:P.eqGuardType P.depth t=false) (hop:op=.eql∨op=.neq) (h:gs4 tags (decide (op=.neq)) a b=some v) (ha:VR ρ w a ra) (hb:VR ρ w b rb) :
  ∃ r,(do eqGuard op t x y ra rb; binOp op t ra rb:Sem Value).run P w=.ok r w∧VR ρ w v r:=by
 cases ha with
 | agg xs rxs hx vx=>
  cases hb with
  | agg ys rys hy vy=>
   simp only[gs4] at h
   cases hq:allEq tags xs ys with
   | none=>rw[hq] at h; cases h
   | some q=>
    rw[hq] at h;cases h;have he:=bi3 d t tags ht ρ w (10000-d) (.agg xs) (.agg ys) (.agg rxs) (.agg rys) q (.agg xs rxs hx vx) (.agg ys rys hy vy) (by rw[hl]; exact ⟨⟨_,rfl⟩,⟨_,rfl⟩⟩) hq;rw[show 10000-d+d=10000 from by omega] at he;simp only[Sem.run_bind,run_eqGuard_agg w op t x y rxs rys hm,Result.andThen_ok];rcases hop with rfl|rfl
    ·rw[run_eql_struct,he]; exact ⟨_,rfl,by simpa using VR.bool q⟩
    ·rw[run_neq_struct,he]; exact ⟨_,rfl,by simpa using VR.bool (!q)⟩
  | _=>simp[gs4] at h
 | _=>simp[gs4] at h
/-! ### not,conversions -/
def gq1:IV→Option IV
 | .bool b=>some (.bool (!b))
 | _=>none
theorem ep9 {a v:IV}{ra:Value}(h:gq1 a=some v)(ha:VR ρ w a ra):∃ r,(Op.unary .not ra).run P w=.ok r w∧VR ρ w v r:=by
 cases ha<;>simp[gq1] at h;subst h;exact ⟨_,rfl,.bool _⟩
def gq2:IV→Option IV
 | .int k n=>some (.int k (k.wrap (0-n)))
 | _=>none
theorem eq1 {a v:IV}{ra:Value}(h:gq2 a=some v)(ha:VR ρ w a ra):∃ r,(Op.unary .neg ra).run P w=.ok r w∧VR ρ w v r:=by
 cases ha<;>simp only[gq2] at h<;>cases h;exact ⟨_,rfl,.int _ _⟩
def dy5 (k:IntKind):IV→Option IV
 | .int _ n=>some (.int k (k.wrap n))
 | _=>none
theorem dy6 {src dst:TypeId}{k:IntKind}{a v:IV}{ra:Value}{u:TypeDesc}(hs:P.underlying src=some u)(hd:P.underlying dst=some (.int k))(h:dy5 k a=some v)(ha:VR ρ w a ra) :
  ∃ r,(convert src dst ra).run P w=.ok r w∧VR ρ w v r:=by
 cases ha<;>simp only[dy5] at h<;>cases h;exact ⟨_,by simp[convert,run_underlying hs,run_underlying hd,Conv.intToInt],.int _ _⟩
def ci3:IV→Option IV
 | .str s=>some (.str s)
 | _=>none
theorem dj7 {src dst:TypeId}{a v:IV}{ra:Value}{u:TypeDesc}(hs:P.underlying src=some u)(hd:P.underlying dst=some .string)(h:ci3 a=some v)(ha:VR ρ w a ra) :
  ∃ r,(convert src dst ra).run P w=.ok r w∧VR ρ w v r:=by
 cases ha<;>simp only[ci3] at h<;>cases h;exact ⟨_,by simp[convert,run_underlying hs,run_underlying hd],.str _⟩
/-! ### A check for nil -/
def ct5 (v:IV):Option IV :=
 match v with
 | .af4 _=>some v
 | .ptr _ _=>some v
 | .func (.func _) _ _=>some v
 | .yield _=>some v
 | _=>none
theorem dy7 {a v:IV}{o:Oper}{x:Operand}{ev:Operand→Value}(ho:o.op=.nilCheck x)
  (h:ct5 a=some v) (ha:VR ρ w a (ev x)):∃ r,(execOp ev o).run P w=.ok (.value r) w∧VR ρ w v r:=by
 have key:∀ r:Value,(∀ q,ev x=q→(match q with|.pointer none|.nilIface|.nilFunc=>False|.func (.method _) _ _=>False|_=>True))→ev x=r→(execOp ev o).run P w=.ok (.value r) w:=by
  intro r hq hr;have:=hq _ hr;unfold execOp;rw[ho];simp only[hr]
  cases r with
  | pointer p=>cases p<;>simp at this ⊢
  | func fn f c=>cases fn<;>simp at this ⊢
  | _=>first|rfl|simp at this
 generalize hev:ev x=r at ha
 cases ha with
 | af4 cs b off vs hf hc hv=>
  cases h
  exact ⟨_,key _ (fun q hq=>by rw[hev] at hq; subst hq; trivial) hev,.af4 cs b off vs hf hc hv⟩
 | ptr id off B d hid=>cases h; exact ⟨_,key _ (fun q hq=>by rw[hev] at hq; subst hq; trivial) hev,.ptr id off B d hid⟩
 | ca2 id off ad hid=>cases h; exact ⟨_,key _ (fun q hq=>by rw[hev] at hq; subst hq; trivial) hev,.ca2 id off ad hid⟩
 | func fn first cap rf rc hy h1 h2 hf hc=>
  cases fn<;>simp[ct5] at h;subst h
  exact ⟨_,key _ (fun q hq=>by rw[hev] at hq; subst hq; trivial) hev,.func _ first cap rf rc hy h1 h2 hf hc⟩
 | yield id B d hid=>cases h; exact ⟨_,key _ (fun q hq=>by rw[hev] at hq; subst hq; trivial) hev,.yield id B d hid⟩
 | as7 id B hid=>cases h; exact ⟨_,key _ (fun q hq=>by rw[hev] at hq; subst hq; trivial) hev,.as7 id B hid⟩
 | _=>simp[ct5] at h
end Go.Id
/- Constants,zero values,building of structs and arrays; tables that are read. Conditions: none; over any program. -/
namespace Go.Id
open Go
variable {P:Program} {w:World} {ρ:Rho}
def cv1:Value→Option IV
 | .bool b=>some (.bool b)
 | .int k n=>some (.int k n)
 | .string s=>some (.str s.data.toList)
 | .pointer none=>some .ad3
 | .slice none 0 0=>some .aa1
 | .map none=>some .af9
 | .nilFunc=>some .ae6
 | .nilIface=>some .ae1
 | _=>none
def cvL:List Value→Option (List IV)
 | []=>some []
 | v::vs=>match cv1 v,cvL vs with
  | some x,some xs=>some (x::xs)
  | _,_=>none
def cv:Value→Option IV
 | .agg cs=>(cvL cs.toList).map .agg
 | v=>cv1 v
def cvs (v:Value):Option (List IV):=cvL v.cells.toList
theorem db3 {v:Value}{x:IV}(h:cv1 v=some x):VR ρ w x v:=by
 unfold cv1 at h;split at h<;>cases h
 ·exact .bool _
 ·exact .int _ _
 ·rename_i s; exact .str _
 ·exact .ad3
 ·exact .aa1
 ·exact .af9
 ·exact .ae6
 ·exact .ae1
theorem eq2 {vs:List Value}{xs:List IV}(h:cvL vs=some xs):xs.length=vs.length∧∀ i,i<xs.length→VR ρ w (xs.getD i .undef) (vs.getD i undef):=by
 induction vs generalizing xs with
 | nil=>cases h; exact ⟨rfl,fun i hi=>by simp at hi⟩
 | cons v vs ih=>
  simp only[cvL] at h;split at h
  ·rename_i x ys h1 h2;cases h;obtain ⟨hl,hv⟩:=ih h2;refine ⟨by simp[hl],fun i hi=>?_⟩
   cases i with
   | zero=>simpa using db3 h1
   | succ i=>simpa using hv i (by simpa using hi)
  ·cases h
theorem cc3 {v:Value}{xs:List IV}(h:cvs v=some xs):xs.length=v.cells.size∧∀ i,i<xs.length→VR ρ w (xs.getD i .undef) (v.cells.getD i undef):=by
 obtain ⟨hl,hv⟩:=eq2 (ρ:=ρ) (w:=w) h;refine ⟨by simpa using hl,fun i hi=>?_⟩;have:=hv i hi
 simpa [Array.getD_eq_getD_getElem?,List.getD_eq_getElem?_getD] using this
theorem dr6 {v:Value}{x:IV}(h:cv v=some x):VR ρ w x v:=by
 unfold cv at h;split at h
 ·rename_i cs
  cases hc:cvL cs.toList with
  | none=>rw[hc] at h; cases h
  | some xs=>
   rw[hc] at h;cases h;obtain ⟨hl,hv⟩:=cc3 (ρ:=ρ) (w:=w) (v:=.agg cs) (xs:=xs) (by simpa [cvs,Value.cells] using hc);exact .agg _ _ (by simpa [Value.cells] using hl) hv
 ·exact db3 h
def CR (ρ:Rho)(w:World)(xs:List IV)(rs:Array Value):Prop:=xs.length=rs.size∧∀ i,i<xs.length→VR ρ w (xs.getD i .undef) (rs.getD i undef)
def IV.leaf:IV→Bool
 | .undef|.agg _|.tuple _=>false
 | _=>true
theorem ct6 {r:Value}(h:r.oneCell'=true):r.cells=#[r]:=by
 cases r<;>first|rfl|simp[Value.oneCell'] at h
theorem bc1 {v:IV}{r:Value}(h:v.leaf=true)(hv:VR ρ w v r):r.oneCell'=true∧r.cells=#[r]:=by
 have:r.oneCell'=true:=by
  cases hv<;>first|rfl|assumption|(simp[IV.leaf] at h; done)
 exact ⟨this,ct6 this⟩
theorem bi4 {v:IV}{r:Value}(hv:VR ρ w v r)(hk:v.cs.all IV.leaf=true):CR ρ w v.cs r.cells∧∀ x∈r.cells.toList,x.oneCell'=true:=by
 by_cases ha:∃ zs,v=.agg zs
 ·obtain ⟨zs,rfl⟩:=ha
  cases hv with
  | agg _ rs h1 h2=>
   refine ⟨⟨h1,h2⟩,fun x hx=>?_⟩;obtain ⟨i,hi,rfl⟩:=List.mem_iff_getElem.1 hx;simp[Value.cells] at hi;have hi':i<zs.length:=by omega
   have hl:(zs.getD i .undef).leaf=true:=by
    have:=List.all_eq_true.1 hk zs[i] (List.getElem_mem _)
    simpa [List.getD_eq_getElem?_getD,hi'] using this
   have:=(bc1 hl (h2 i hi')).1;rw[ac5 _ _ _ hi] at this
   simpa [Value.cells] using this
 ·have hn:∀ zs,v≠.agg zs:=fun zs h=>ha ⟨zs,h⟩
  rw[IV.bh6 hn] at hk ⊢;have hl:v.leaf=true:=by simpa using hk
  obtain ⟨h1,h2⟩:=bc1 hl hv;rw[h2];refine ⟨⟨rfl,fun i hi=>?_⟩,fun x hx=>?_⟩
  ·simp at hi; subst hi; simpa using hv
  ·simp at hx; subst hx; exact h1
/-! ### Building -/
def ao8 (l:List IV)(off:Nat)(vs:List IV):List IV:=l.take off++vs++l.drop (off+vs.length)
theorem ad6 {l:List IV}{off:Nat}{vs:List IV}(h:off+vs.length≤l.length):(ao8 l off vs).length=l.length:=by
 unfold ao8; simp; omega
theorem db4 {l:List IV}{off:Nat}{vs:List IV}(h:off+vs.length≤l.length)(i:Nat)(d:IV) :
  (ao8 l off vs).getD i d=if off≤i∧i<off+vs.length then vs.getD (i-off) d else l.getD i d:=by
 unfold ao8;simp only[List.getD_eq_getElem?_getD,List.getElem?_append,List.length_append,List.length_take,List.getElem?_take,List.getElem?_drop];have h1:min off l.length=off:=by omega
 rw[h1];by_cases c1:i<off+vs.length
 ·by_cases c2:i<off
  ·simp[c1,c2,Nat.not_le.2 c2]
  ·simp[c1,c2,Nat.not_lt.1 c2]
 ·have c2:¬ (i<off):=by omega
  simp only[c1,if_false,and_false];congr 2;omega
theorem eq3 (off:Nat):∀ (vs:List Value) (k:Nat) (cells:Array Value),
  ((vs.zipIdx k).foldl (fun cs (c,j)=>cs.setIfInBounds (off+j) c) cells).size=cells.size ∧
  ∀ i d,off+k+vs.length≤cells.size→((vs.zipIdx k).foldl (fun cs (c,j)=>cs.setIfInBounds (off+j) c) cells).getD i d =
   if off+k≤i∧i<off+k+vs.length then vs.getD (i-(off+k)) d else cells.getD i d:=by
 intro vs
 induction vs with
 | nil=>intro k cells; exact ⟨rfl,fun i d h=>by simp; intro h1 h2; omega⟩
 | cons v vs ih=>
  intro k cells;simp only[List.zipIdx_cons,List.foldl_cons];obtain ⟨h1,h2⟩:=ih (k+1) (cells.setIfInBounds (off+k) v);refine ⟨by rw[h1]; simp,fun i d h=>?_⟩;simp at h;rw[h2 i d (by simp; omega)];by_cases c1:off+k≤i∧i<off+k+(v::vs).length
  ·obtain ⟨ca,cb⟩:=c1;simp at cb;by_cases c2:i=off+k
   ·subst c2;have hlt:off+k<cells.size:=by omega
    have c3:¬ (off+(k+1)≤off+k):=by omega
    simp[c3,Array.getD_eq_getD_getElem?,hlt]
   ·have c3:off+(k+1)≤i∧i<off+(k+1)+vs.length:=by omega
    have c4:off+k≤i∧i<off+k+(v::vs).length:=by simp; omega
    rw[if_pos c3,if_pos c4];have:i-(off+k)=(i-(off+(k+1)))+1:=by omega
    rw[this];simp
  ·have c3:¬ (off+(k+1)≤i∧i<off+(k+1)+vs.length):=by simp at c1; omega
   rw[if_neg c3,if_neg c1];have c2:off+k≠i:=by simp at c1; omega
   simp[Array.getD_eq_getD_getElem?,Array.getElem?_setIfInBounds,c2]
def ak7:List IV→List (Nat×Nat×IV)→Option (List IV)
 | cells,[]=>some cells
 | cells,(off,size,v)::rest=>if v.cs.length=size∧off+size≤cells.length∧v.cs.all IV.leaf=true then ak7 (ao8 cells off v.cs) rest else none
theorem bp4 {place:Nat→Option (Nat×Nat)}:∀ (ips:List (Nat×Nat×IV)) (rps:List (Nat×Value)) (cells out:List IV) (rcells:Array Value),CR ρ w cells rcells →
  ips.length=rps.length→(∀ j,j<ips.length→place (rps.getD j (0,undef)).1=some ((ips.getD j (0,0,.undef)).1,(ips.getD j (0,0,.undef)).2.1)∧VR ρ w (ips.getD j (0,0,.undef)).2.2 (rps.getD j (0,undef)).2) →
  ak7 cells ips=some out→∃ rout,Instr.fill place rcells rps=some rout∧CR ρ w out rout:=by
 intro ips
 induction ips with
 | nil=>
  intro rps cells out rcells hc hl hp h
  cases rps with
  | nil=>cases h; exact ⟨rcells,rfl,hc⟩
  | cons _ _=>simp at hl
 | cons ip ips ih=>
  intro rps cells out rcells hc hl hp h;obtain ⟨off,size,v⟩:=ip
  cases rps with
  | nil=>simp at hl
  | cons rp rps=>
   obtain ⟨i,r⟩:=rp;simp only[ak7] at h;split at h
   case isFalse=>cases h
   rename_i hh;obtain ⟨h1,h2,h3⟩:=hh;obtain ⟨hp0,hv0⟩:=hp 0 (by simp);simp at hp0 hv0;obtain ⟨⟨c1,c2⟩,c3⟩:=bi4 hv0 h3;have hs:r.cells.size=size:=by omega
   have hcs:rcells.size=cells.length:=hc.1.symm;obtain ⟨f1,f2⟩:=eq3 off r.cells.toList 0 rcells
   have hfold:r.cells.zipIdx.foldl (fun cs (c,j)=>cs.setIfInBounds (off+j) c) rcells=(r.cells.toList.zipIdx 0).foldl (fun cs (c,j)=>cs.setIfInBounds (off+j) c) rcells:=by
    rw[← Array.foldl_toList]; simp
   refine (ih rps (ao8 cells off v.cs) out (r.cells.zipIdx.foldl (fun cs (c,j)=>cs.setIfInBounds (off+j) c) rcells) ⟨?_,fun j hj=>?_⟩ (by simpa using hl) (fun j hj=>by simpa using hp (j+1) (by simpa using hj)) h).imp fun rout ho=>⟨?_,ho.2⟩
   ·rw[hfold,f1,ad6 (by omega)]; exact hc.1
   ·rw[ad6 (by omega)] at hj;rw[db4 (by omega),hfold,f2 j undef (by simp; omega)];simp only[Nat.add_zero,Array.length_toList];rw[hs,h1];split
    ·rename_i hj';have:=c2 (j-off) (by omega)
     simpa [Array.getD_eq_getD_getElem?,List.getD_eq_getElem?_getD] using this
    ·exact hc.2 j hj
   ·simp only[Instr.fill,hp0];rw[if_neg (by simp; omega)];exact ho.1
end Go.Id
/- Maps,read. Conditions: none; over any program. -/
namespace Go.Id
open Go
variable {P:Program} {w:World} {ρ:Rho} {E:Nat→IV} {σ:Store}
def bg6 (σ:Store):IV→Option (List (IV×IV))
 | .af9=>some []
 | .al5 es=>some es
 | .map id=>match σ.obj id with
  | some (.map es)=>some es
  | _=>none
 | _=>none
def ai7 (tag:Nat)(x y:IV):Option Bool :=
 match Nat.ble 3 tag with
 | true=>match x with
  | .agg xs=>match y with
   | .agg ys=>allEq (List.replicate (tag-3) 1) xs ys
   | _=>none
  | _=>none
 | false=>ai2 tag x y
def kOK (tag:Nat)(k:IV):Bool :=
 match Nat.ble 3 tag with
 | true=>(ai7 tag k k).isSome
 | false=>true
def ar2 (tag:Nat)(k:IV):List (IV×IV)→Option (Option IV)
 | []=>match kOK tag k with
  | true=>some none
  | false=>none
 | e::es=>match ai7 tag k e.1 with
  | some true=>some (some e.2)
  | some false=>ar2 tag k es
  | none=>none
def ct7 (σ:Store)(tag:Nat)(zero:IV)(ok:Bool)(x k:IV):Option IV :=
 match bg6 σ x with
 | some es=>match ar2 tag k es with
  | some r=>some (if ok then .tuple [r.getD zero,.bool r.isSome] else r.getD zero)
  | none=>none
 | none=>none
def dj8:Option TypeDesc→Option Nat
 | some .bool=>some 0
 | some (.int _)=>some 1
 | some .string=>some 2
 | _=>none
def ho9 (P:Program)(t:TypeId):Bool:=match P.underlying t with
 | some (.int _)=>true
 | _=>false
def eq4 (P:Program)(kt:TypeId):Option Nat :=
 match P.underlying kt with
 | some (.struct fs)=>match cg5 P 30 kt,aj9 P kt with
  | some tags, some (some _) => if tags = List.replicate tags.length 1 ∧ fs.toList.all (fun f => f.name != "_" && ho9 P f.type && decide (f.offset < tags.length)) = true then some (tags.length + 3) else none
  | _,_=>none
 | d=>dj8 d
theorem ci4 {kt:TypeId}{tag:Nat}(h:eq4 P kt=some tag):∃ d,P.underlying kt=some d∧((dj8 (some d)=some tag∧tag<3) ∨
  (∃ fs n m, d = .struct fs ∧ tag = n + 3 ∧ cg5 P 30 kt = some (List.replicate n 1) ∧ aj9 P kt = some (some m) ∧ ∀ f ∈ fs.toList, f.name ≠ "_" ∧ ho9 P f.type = true ∧ f.offset < n)) := by
 unfold eq4 at h;split at h
 ·rename_i fs hu;refine ⟨_,hu,.inr ?_⟩;split at h
  ·rename_i tags m hf hl;split at h
   ·rename_i hc;cases h;refine ⟨fs,tags.length,m,rfl,rfl,by rw[hf]; exact congrArg some hc.1,hl,fun f hf=>?_⟩;have:=List.all_eq_true.1 hc.2 f hf;simp only[Bool.and_eq_true,bne_iff_ne,ne_eq,decide_eq_true_eq] at this;exact ⟨this.1.1,this.1.2,this.2⟩
   ·cases h
  ·cases h
 ·cases hu:P.underlying kt with
  | none=>rw[hu] at h; cases h
  | some d=>
   rw[hu] at h;refine ⟨d,rfl,.inl ⟨h,?_⟩⟩;cases d<;>simp only[dj8] at h<;>cases h<;>decide
theorem hp4 {n:Nat}:Nat.ble 3 (n+3)=true:=Nat.ble_eq_true_of_le (by omega)
theorem bk6 {tag:Nat}(h:tag<3)(x y:IV):ai7 tag x y=ai2 tag x y:=by
 unfold ai7
 cases hb:Nat.ble 3 tag with
 | false=>rfl
 | true=>have:=Nat.le_of_ble_eq_true hb; omega
theorem ba3 {n:Nat}{x y:IV}{b:Bool}(h:ai7 (n+3) x y=some b):∃ xs ys,x=.agg xs∧y=.agg ys∧allEq (List.replicate n 1) xs ys=some b:=by
 unfold ai7 at h;rw[hp4] at h;simp only at h;split at h
 ·split at h
  ·exact ⟨_,_,rfl,rfl,h⟩
  ·cases h
 ·cases h
theorem as1:∀ {n:Nat} {xs ys:List IV} {b:Bool},allEq (List.replicate n 1) xs ys=some b →
  ∃ (ks:List IntKind) (as bs:List Int),ks.length=n∧as.length=n∧bs.length=n∧xs=(ks.zip as).map (fun p=>IV.int p.1 p.2)∧ys=(ks.zip bs).map (fun p=>IV.int p.1 p.2)∧b=decide (as=bs):=by
 intro n
 induction n with
 | zero=>
  intro xs ys b h;have:=allEq_len h;simp at this;obtain ⟨rfl,rfl⟩:=this;simp[allEq] at h
  exact ⟨[],[],[],rfl,rfl,rfl,rfl,rfl,by simp[h]⟩
 | succ n ih=>
  intro xs ys b h;rw[List.replicate_succ] at h
  cases xs with
  | nil=>simp[allEq] at h
  | cons x xs=>
   cases ys with
   | nil=>simp[allEq] at h
   | cons y ys=>
    simp only[allEq] at h;split at h
    ·rename_i a c h1 h2;cases h;obtain ⟨k,p,q,rfl,rfl,rfl⟩:=ct4 h1;obtain ⟨ks,as,bs,l1,l2,l3,rfl,rfl,rfl⟩:=ih h2;refine ⟨k::ks,p::as,q::bs,by simp[l1],by simp[l2],by simp[l3],rfl,rfl,?_⟩;by_cases e1:p=q<;>by_cases e2:as=bs<;>simp[e1,e2]
    ·cases h
theorem ci5:∀ (ks:List IntKind) (as bs:List Int),as.length=ks.length→bs.length=ks.length→allEq (List.replicate ks.length 1) ((ks.zip as).map fun p=>IV.int p.1 p.2) ((ks.zip bs).map fun p=>IV.int p.1 p.2)=some (decide (as=bs)):=by
 intro ks
 induction ks with
 | nil=>
  intro as bs h1 h2;cases as<;>cases bs<;>simp at h1 h2
  simp[allEq]
 | cons k ks ih=>
  intro as bs h1 h2
  cases as with
  | nil=>simp at h1
  | cons a as=>
   cases bs with
   | nil=>simp at h2
   | cons b bs=>
    simp only[List.length_cons,List.replicate_succ,List.zip_cons_cons,List.map_cons,allEq,ai2,if_true];rw[ih as bs (by simpa using h1) (by simpa using h2)];by_cases e1:a=b<;>by_cases e2:as=bs<;>simp[e1,e2]
theorem eq5 {tag:Nat}{k e:IV}{b:Bool}(h:ai7 tag k e=some b):kOK tag k=true:=by
 unfold kOK
 cases hb:Nat.ble 3 tag with
 | false=>rfl
 | true=>
  have h3:=Nat.le_of_ble_eq_true hb;obtain ⟨n,rfl⟩:∃ n,tag=n+3:=⟨tag-3,by omega⟩;obtain ⟨xs,ys,rfl,rfl,h1⟩:=ba3 h;obtain ⟨ks,as,bs,l1,l2,l3,rfl,rfl,rfl⟩:=as1 h1;have:=ci5 ks as as (by omega) (by omega);rw[l1] at this;simp[ai7,this,hb]
theorem dr7 {tag:Nat}{k:IV}{es:List (IV×IV)}{r:Option IV}(h:ar2 tag k es=some r):kOK tag k=true:=by
 cases es with
 | nil=>
  simp only[ar2] at h;split at h
  ·assumption
  ·cases h
 | cons e es=>
  simp only[ar2] at h
  cases hq:ai7 tag k e.1 with
  | none=>rw[hq] at h; cases h
  | some b=>exact eq5 hq
theorem fx9 (s t:List UInt8):(ByteArray.mk s.toArray==ByteArray.mk t.toArray)=decide (s=t):=by
 show (s.toArray==t.toArray)=_;by_cases h:s=t<;>simp[h]
def EsR (ρ:Rho)(w:World)(es:List (IV×IV))(mes:List MapEntry):Prop :=
 es.length=mes.length∧∀ i,i<es.length→VR ρ w (es.getD i (.undef,.undef)).1 (mes.getD i default).key∧VR ρ w (es.getD i (.undef,.undef)).2 (mes.getD i default).val
theorem bp5 {d:TypeDesc}{tag:Nat}{x y:IV}{rx ry:Value}{b:Bool}(ht:dj8 (some d)=some tag)(h:ai2 tag x y=some b)(hx:VR ρ w x rx)(hy:VR ρ w y ry):Instr.sameNow d rx ry=some b:=by
 cases d<;>simp only[dj8] at ht<;>cases ht<;>cases x<;>cases y<;>simp only[ai2] at h<;>first|cases h; done|skip
 ·cases hx; cases hy; cases h; rfl
 ·cases hx; cases hy;simp only[Instr.sameNow];split at h
  ·cases h; rename_i e; simp[e,cb9]
  ·cases h
 ·cases hx; cases hy; cases h;rename_i s t;simp only[Instr.sameNow,fx9]
theorem cg7 {fs:Array Field}{x y:Value}:Instr.sameNow (.struct fs) x y=none:=by unfold Instr.sameNow; split<;>first|rfl|contradiction
def EqK (P:Program)(kt:TypeId)(tag:Nat):Prop:=∀ (ρ:Rho) (w:World) (x y:IV) (rx ry:Value) (b:Bool),ai7 tag x y=some b→VR ρ w x rx→VR ρ w y ry→(Op.equal kt rx ry).run P w=.ok b w
theorem dy8 {kt:TypeId}{n m:Nat}(hf:cg5 P 30 kt=some (List.replicate n 1))(hl:aj9 P kt=some (some m)):EqK P kt (n+3):=by
 intro ρ w x y rx ry b h hx hy;obtain ⟨xs,ys,rfl,rfl,h1⟩:=ba3 h;have he:=bi3 30 kt _ hf ρ w (10000-30) (.agg xs) (.agg ys) rx ry b hx hy (by rw[hl]; exact ⟨⟨_,rfl⟩,⟨_,rfl⟩⟩) h1;exact he
theorem ca3 {kt:TypeId}{tag:Nat}{k:IV}{rk:Value}(ht:eq4 P kt=some tag)(hk:VR ρ w k rk):∀ (es:List (IV×IV)) (mes:List MapEntry),EsR ρ w es mes →
  ∀ (r:Option Nat),(r=none→∀ e∈es,ai7 tag k e.1=some false)→(∀ j,r=some j→j<es.length∧ai7 tag k (es.getD j (.undef,.undef)).1=some true∧∀ i,i<j→ai7 tag k (es.getD i (.undef,.undef)).1=some false) →
  (Instr.findKey kt rk mes).run P w=.ok (r.map fun j=>(j,(mes.getD j default).val)) w:=by
 obtain ⟨d,hu,hd⟩:=ci4 ht
 have now:∀ (es:List (IV×IV)) (mes:List MapEntry) (i0:Nat),tag<3→dj8 (some d)=some tag→EsR ρ w es mes→∀ (r:Option Nat),(r=none→∀ e∈es,ai7 tag k e.1=some false)→(∀ j,r=some j→j<es.length∧ai7 tag k (es.getD j (.undef,.undef)).1=some true∧∀ i,i<j→ai7 tag k (es.getD i (.undef,.undef)).1=some false) →
   Instr.findNow d rk mes i0=some (r.map fun j=>(i0+j,(mes.getD j default).val)):=by
  intro es
  induction es with
  | nil=>
   intro mes i0 _ _ he r h1 h2;have:mes=[]:=List.length_eq_zero_iff.1 he.1.symm;subst this
   cases r with
   | none=>rfl
   | some j=>exact absurd (h2 j rfl).1 (by simp)
  | cons e es ih=>
   intro mes i0 h3 hto he r h1 h2
   cases mes with
   | nil=>exact absurd he.1 (by simp)
   | cons m mes=>
    have h0:=he.2 0 (by simp);simp at h0;have he':EsR ρ w es mes:=⟨by have:=he.1; simpa using this,fun j hj=>by have:=he.2 (j+1) (by simp; omega); simpa using this⟩
    cases r with
    | none=>
     have hq:=h1 rfl e (List.mem_cons_self ..);rw[bk6 h3] at hq;simp only[Instr.findNow,bp5 hto hq hk h0.1];have:=ih mes (i0+1) h3 hto he' none (fun _ e he=>h1 rfl e (List.mem_cons_of_mem _ he)) (fun j hj=>by cases hj)
     simpa using this
    | some j=>
     obtain ⟨g1,g2,g3⟩:=h2 j rfl
     cases j with
     | zero=>
      simp at g2;rw[bk6 h3] at g2
      simp[Instr.findNow,bp5 hto g2 hk h0.1]
     | succ j=>
      have hq:=g3 0 (by omega);simp at hq;rw[bk6 h3] at hq;simp only[Instr.findNow,bp5 hto hq hk h0.1]
      have:=ih mes (i0+1) h3 hto he' (some j) (fun h=>by cases h) (fun j' hj'=>by
       cases hj';refine ⟨by simpa using g1,by simpa using g2,fun i hi=>?_⟩;have:=g3 (i+1) (by omega)
       simpa using this)
      rw[this];simp;omega
 have ask:∀ (es:List (IV×IV)) (mes:List MapEntry) (i0:Nat),EqK P kt tag→EsR ρ w es mes→∀ (r:Option Nat),(r=none→∀ e∈es,ai7 tag k e.1=some false)→(∀ j,r=some j→j<es.length∧ai7 tag k (es.getD j (.undef,.undef)).1=some true∧∀ i,i<j→ai7 tag k (es.getD i (.undef,.undef)).1=some false) →
   (Instr.findAsking kt rk mes i0).run P w=.ok (r.map fun j=>(i0+j,(mes.getD j default).val)) w:=by
  intro es
  induction es with
  | nil=>
   intro mes i0 _ he r h1 h2;have:mes=[]:=List.length_eq_zero_iff.1 he.1.symm;subst this
   cases r with
   | none=>simp[Instr.findAsking]
   | some j=>exact absurd (h2 j rfl).1 (by simp)
  | cons e es ih=>
   intro mes i0 hE he r h1 h2
   cases mes with
   | nil=>exact absurd he.1 (by simp)
   | cons m mes=>
    have h0:=he.2 0 (by simp);simp at h0;have he':EsR ρ w es mes:=⟨by have:=he.1; simpa using this,fun j hj=>by have:=he.2 (j+1) (by simp; omega); simpa using this⟩
    cases r with
    | none=>
     have hq:=h1 rfl e (List.mem_cons_self ..);have hr:=hE ρ w k e.1 rk m.key false hq hk h0.1;have:=ih mes (i0+1) hE he' none (fun _ e he=>h1 rfl e (List.mem_cons_of_mem _ he)) (fun j hj=>by cases hj);simp only[Instr.findAsking,Sem.run_bind,hr,Result.andThen_ok]
     simpa using this
    | some j=>
     obtain ⟨g1,g2,g3⟩:=h2 j rfl
     cases j with
     | zero=>
      simp at g2;have hr:=hE ρ w k e.1 rk m.key true g2 hk h0.1
      simp[Instr.findAsking,hr]
     | succ j=>
      have hq:=g3 0 (by omega);simp at hq;have hr:=hE ρ w k e.1 rk m.key false hq hk h0.1
      have:=ih mes (i0+1) hE he' (some j) (fun h=>by cases h) (fun j' hj'=>by
       cases hj';refine ⟨by simpa using g1,by simpa using g2,fun i hi=>?_⟩;have:=g3 (i+1) (by omega)
       simpa using this)
      simp only[Instr.findAsking,Sem.run_bind,hr,Result.andThen_ok];simp only[Bool.false_eq_true,if_false];rw[this];simp;omega
 intro es mes he r h1 h2;rcases hd with ⟨hto,h3⟩|⟨fs,n,m,rfl,rfl,hf,hl,_⟩
 ·have:=now es mes 0 h3 hto he r h1 h2;simp only[Instr.findKey,Sem.run_bind,run_underlying hu,Result.andThen_ok,this];simp
 ·have hE:=dy8 (P:=P) hf hl
  cases mes with
  | nil=>
   have hes:es=[]:=List.length_eq_zero_iff.1 he.1;subst hes
   cases r with
   | none=>simp[Instr.findKey,run_underlying hu,Instr.findNow]
   | some j=>exact absurd (h2 j rfl).1 (by simp)
  | cons m mes=>
   have:=ask es (m::mes) 0 hE he r h1 h2;simp only[Instr.findKey,Sem.run_bind,run_underlying hu,Result.andThen_ok,Instr.findNow,cg7];rw[this];simp
theorem fk1 {tag:Nat}{k:IV}:∀ (es:List (IV×IV)) (r:Option IV),ar2 tag k es=some r→∃ q:Option Nat,(q=none→∀ e∈es,ai7 tag k e.1=some false)∧(∀ j,q=some j→j<es.length∧ai7 tag k (es.getD j (.undef,.undef)).1=some true∧∀ i,i<j→ai7 tag k (es.getD i (.undef,.undef)).1=some false) ∧
  r=q.map fun j=>(es.getD j (.undef,.undef)).2:=by
 intro es
 induction es with
 | nil=>
  intro r h;refine ⟨none,(fun _ e he=>by cases he),(fun j hj=>by cases hj),?_⟩;simp only[ar2] at h;split at h<;>cases h
  rfl
 | cons e es ih=>
  intro r h;simp only[ar2] at h
  cases hq:ai7 tag k e.1 with
  | none=>rw[hq] at h; cases h
  | some b=>
   rw[hq] at h
   cases b with
   | true=>cases h; exact ⟨some 0,(fun h=>by cases h),(fun j hj=>by cases hj; exact ⟨by simp,by simpa using hq,fun i hi=>absurd hi (Nat.not_lt_zero _)⟩),rfl⟩
   | false=>
    obtain ⟨q,h1,h2,h3⟩:=ih r h;refine ⟨q.map (·+1),fun h=>?_,fun j hj=>?_,?_⟩
    ·cases q with
     | none=>intro x hx; rcases List.mem_cons.1 hx with rfl|hx; exact hq; exact h1 rfl x hx
     | some j=>cases h
    ·cases q with
     | none=>cases hj
     | some j0=>
      cases hj;obtain ⟨g1,g2,g3⟩:=h2 j0 rfl;refine ⟨by simpa using g1,by simpa using g2,fun i hi=>?_⟩;have hi:i<j0+1:=hi
      cases i with
      | zero=>simpa using hq
      | succ i=>have:=g3 i (by omega); simpa using this
    ·rw[h3]; cases q<;>simp
theorem au6 {kt:TypeId}{tag:Nat}{b:Bool}{k:IV}{rk:Value}(ht:eq4 P kt=some tag)(hok:kOK tag k=true)(hk:VR ρ w k rk):(Instr.checkKey b 10000 kt rk).run P w=.ok () w:=by
 obtain ⟨d,hu,hd⟩:=ci4 ht;rcases hd with ⟨hto,h3⟩|⟨fs,n,m,rfl,rfl,hf,hl,hfs⟩
 ·unfold Instr.checkKey;cases d<;>simp only[dj8] at hto<;>cases hto<;>simp[run_underlying hu]
 ·unfold kOK at hok;rw[hp4] at hok;simp only at hok;obtain ⟨bb,hb⟩:=Option.isSome_iff_exists.1 hok;obtain ⟨xs,ys,rfl,hys,h1⟩:=ba3 hb;cases hys;obtain ⟨ks,as,bs,l1,l2,l3,hxs,hys,rfl⟩:=as1 h1
  cases hk with
  | agg _ rxs hx vx=>
   rw[show (10000:Nat)=9999+1 from rfl,Instr.checkKey];simp only[Sem.run_bind,run_underlying hu,Result.andThen_ok];rw[← Array.forIn_toList];have hxl:xs.length=n:=by rw[hxs]; simp[l1,l2]
   generalize fs.toList=L at hfs
   induction L with
   | nil=>simp
   | cons f L ih=>
    obtain ⟨hn,hi,ho⟩:=hfs f (List.mem_cons_self ..)
    have hint:∃ kk,P.underlying f.type=some (.int kk):=by
     unfold ho9 at hi;split at hi
     ·rename_i kk hkk; exact ⟨kk,hkk⟩
     ·cases hi
    obtain ⟨kk,hkk⟩:=hint;have hag:aj9 P f.type=some none:=by simp[aj9,dr4,hkk]
    have hfo:f.offset<xs.length:=by omega
    obtain ⟨px,r1,v1⟩:=an8 (P:=P) (off:=f.offset) (v:=xs[f.offset]) hag (by simp[aw5,hfo]) hx vx
    have p2:(Instr.checkKey b 9999 f.type px).run P w=.ok () w:=by
     unfold Instr.checkKey;simp[run_underlying hkk]
    simp only[List.forIn_cons,Sem.run_bind,hn,ne_eq,not_false_eq_true,if_true,Result.andThen_ok,r1,p2,Sem.run_pure];exact ih fun f hf=>hfs f (List.mem_cons_of_mem _ hf)
open Classical in
theorem dy9 {tag:Nat}{k a b:IV}{K:KK}{r:Bool}(h:ai2 tag k a=some r)(ha:bi1 K a)(hb:bi1 K b):ai2 tag k b=some (decide (k=b)):=by
 unfold ai2 at h;split at h
 ·cases K<;>cases ha
 ·cases K with
  | int K=>
   simp only[bi1] at ha;cases b<;>simp only[bi1] at hb;split at h
   ·rename_i hk; subst ha; subst hb; subst hk; simp[ai2]
   ·cases h
  | _=>cases ha
 ·cases K with
  | str=>cases b<;>first|(cases hb; done)|simp[ai2]
  | _=>cases ha
 ·cases h
theorem fk2:∀ (ks:List IntKind) (cs:List IV),cs.length=ks.length→(∀ i,i<cs.length→∃ n,cs.getD i .undef=.int (ks.getD i .i64) n)→∃ as:List Int,as.length=ks.length∧cs=(ks.zip as).map fun p=>IV.int p.1 p.2:=by
 intro ks
 induction ks with
 | nil=>intro cs h _; exact ⟨[],rfl,by simpa using h⟩
 | cons k ks ih=>
  intro cs h hc
  cases cs with
  | nil=>simp at h
  | cons c cs=>
   obtain ⟨n,hn⟩:=hc 0 (by simp);simp at hn;obtain ⟨as,h1,h2⟩:=ih cs (by simpa using h) (fun i hi=>by have:=hc (i+1) (by simp; omega); simpa using this);exact ⟨n::as,by simp[h1],by rw[hn,h2]; rfl⟩
theorem eq6:∀ (ks:List IntKind) (as bs:List Int),as.length=ks.length→bs.length=ks.length→((ks.zip as).map fun p=>IV.int p.1 p.2)=((ks.zip bs).map fun p=>IV.int p.1 p.2)→as=bs:=by
 intro ks
 induction ks with
 | nil=>intro as bs h1 h2 _; cases as<;>cases bs<;>simp at h1 h2 ⊢
 | cons k ks ih=>
  intro as bs h1 h2 h
  cases as with
  | nil=>simp at h1
  | cons a as=>
   cases bs with
   | nil=>simp at h2
   | cons b bs=>
    simp only[List.zip_cons_cons,List.map_cons,List.cons.injEq,IV.int.injEq,true_and] at h;rw[h.1,ih as bs (by simpa using h1) (by simpa using h2) h.2]
theorem db5:∀ (ks ks':List IntKind) (as bs:List Int),as.length=ks.length→bs.length=ks'.length→ks.length=ks'.length→(∀ i,i<ks.length→∃ n,((ks.zip as).map fun p=>IV.int p.1 p.2).getD i .undef=.int (ks'.getD i .i64) n)→ks=ks':=by
 intro ks
 induction ks with
 | nil=>intro ks' as bs _ _ h _; exact (List.length_eq_zero_iff.1 h.symm).symm
 | cons k ks ih=>
  intro ks' as bs h1 h2 h hc
  cases ks' with
  | nil=>simp at h
  | cons k' ks'=>
   cases as with
   | nil=>simp at h1
   | cons a as=>
    cases bs with
    | nil=>simp at h2
    | cons b bs=>
     obtain ⟨n,hn⟩:=hc 0 (by simp);simp at hn;rw[hn.1,ih ks' as bs (by simpa using h1) (by simpa using h2) (by simpa using h) (fun i hi=>by have:=hc (i+1) (by simp; omega); simpa using this)]
open Classical in
theorem eq7 {tag:Nat}{k a b:IV}{K:KK}{r:Bool}(h:ai7 tag k a=some r)(ha:bi1 K a)(hb:bi1 K b):ai7 tag k b=some (decide (k=b)):=by
 by_cases h3:tag<3
 ·rw[bk6 h3] at h ⊢; exact dy9 h ha hb
 ·obtain ⟨n,rfl⟩:∃ n,tag=n+3:=⟨tag-3,by omega⟩;obtain ⟨xs,ys,rfl,rfl,h1⟩:=ba3 h;obtain ⟨ks,as,bs,l1,l2,l3,rfl,rfl,rfl⟩:=as1 h1
  cases K with
  | agg ks'=>
   simp only[bi1] at ha;have e1:ks=ks':=db5 ks ks' bs (List.replicate ks'.length 0) (by omega) (by simp) (by have:=ha.1; simp at this; omega) (fun i hi=>ha.2 i (by simp; omega));subst e1
   cases b with
   | agg cs=>
    simp only[bi1] at hb;obtain ⟨cs',c1,rfl⟩:=fk2 ks cs hb.1 hb.2;have:=ci5 ks as cs' (by omega) c1;rw[l1] at this;unfold ai7;rw[hp4];simp only[Nat.add_sub_cancel,this];congr 1;by_cases e:as=cs'
    ·subst e; simp
    ·have:¬ (IV.agg ((ks.zip as).map fun p=>IV.int p.1 p.2)=IV.agg ((ks.zip cs').map fun p=>IV.int p.1 p.2)):=fun h=>e (eq6 ks as cs' (by omega) c1 (IV.agg.inj h))
     simp only[e,this,decide_false]
   | _=>cases hb
  | _=>cases ha
open Classical in
theorem db6 {tag:Nat}{k:IV}(hok:kOK tag k=true):∀ (es:List (IV×IV)),(∀ e∈es,ai7 tag k e.1=some (decide (k=e.1)))→ar2 tag k es=some ((es.find? fun e=>decide (k=e.1)).map (·.2)):=by
 intro es
 induction es with
 | nil=>intro _; simp only[ar2,hok]; rfl
 | cons e es ih=>
  intro h;simp only[ar2,h e (List.mem_cons_self ..),List.find?_cons];by_cases hk:k=e.1
  ·simp[hk]
  ·simp only[hk,decide_false];exact ih fun x hx=>h x (List.mem_cons_of_mem _ hx)
open Classical in
theorem eq8 {k:IV}{es es':List (IV×IV)}(hp:es'.Perm es)(hn:(es.map (·.1)).Nodup):(es'.find? fun e=>decide (k=e.1))=es.find? fun e=>decide (k=e.1):=by
 cases h:es.find? fun e=>decide (k=e.1) with
 | none=>
  rw[List.find?_eq_none] at h ⊢
  exact fun x hx=>h x (hp.subset hx)
 | some e=>
  have he:=List.mem_of_find?_eq_some h;have hk:k=e.1:=by simpa using List.find?_some h
  cases h':es'.find? fun e=>decide (k=e.1) with
  | none=>
   rw[List.find?_eq_none] at h'
   exact absurd hk (by simpa using h' e (hp.symm.subset he))
  | some e'=>
   have he':=hp.subset (List.mem_of_find?_eq_some h');have hk':k=e'.1:=by simpa using List.find?_some h'
   congr 1
   have inj:∀ (l:List (IV×IV)),(l.map (·.1)).Nodup→∀ x∈l,∀ y∈l,x.1=y.1→x=y:=by
    intro l
    induction l with
    | nil=>intro _ x hx; cases hx
    | cons a l ih=>
     intro hn x hx y hy hxy;simp only[List.map_cons,List.nodup_cons] at hn;rcases List.mem_cons.1 hx with hx1|hx1<;>rcases List.mem_cons.1 hy with hy1|hy1
     ·rw[hx1,hy1]
     ·exact absurd (List.mem_map.2 ⟨y,hy1,by rw[← hxy,hx1]⟩) hn.1
     ·exact absurd (List.mem_map.2 ⟨x,hx1,by rw[hxy,hy1]⟩) hn.1
     ·exact ih hn.2 x hx1 y hy1 hxy
   exact inj es hn e' he' e he (by rw[← hk',← hk])
open Classical in
theorem dz1 {tag:Nat}{k:IV}{es es':List (IV×IV)}{r:Option IV}(hp:es'.Perm es)(hd:da4 es)(h:ar2 tag k es=some r):ar2 tag k es'=some r:=by
 obtain ⟨hn,K,hK⟩:=hd;have hok:=dr7 h
 have dec:∀ e∈es,ai7 tag k e.1=some (decide (k=e.1)):=by
  cases es with
  | nil=>intro e he; cases he
  | cons a l=>
   simp only[ar2] at h
   cases hq:ai7 tag k a.1 with
   | none=>rw[hq] at h; cases h
   | some b=>exact fun e he=>eq7 hq (hK a (List.mem_cons_self ..)) (hK e he)
 rw[db6 hok es dec] at h;rw[db6 hok es' fun e he=>dec e (hp.subset he),eq8 hp hn];exact h
theorem fk3 {x:IV}{r:Value}{es:List (IV×IV)}(hs:Sim E ρ w σ)(h:bg6 σ x=some es)(hx:VR ρ w x r) :
  (r=.map none∧es=[])∨∃ b mes clock es',r=.map (some b)∧w.heap[b]? = some (.map mes clock)∧EsR ρ w es' mes.toList∧(∀ tag k o,ar2 tag k es=some o→ar2 tag k es'=some o):=by
 have toL:∀ (mes:Array MapEntry) (i:Nat),mes.toList.getD i default=mes.getD i default:=fun mes i=>by simp[List.getD_eq_getElem?_getD,Array.getD_eq_getD_getElem?]
 cases hx with
 | af9=>cases h; exact .inl ⟨rfl,rfl⟩
 | al5 _ es' b mes clock hp hd hf hb hl hk hv h4 h5=>
  cases h
  exact .inr ⟨b,mes,clock,es',rfl,hb,⟨by simpa using hl,fun i hi=>by rw[toL]; exact ⟨hk i hi,hv i hi⟩⟩,fun _ _ _=>dz1 hp hd⟩
 | map id B d hi=>
  simp only[bg6] at h;obtain ⟨o,h1,h2⟩:=hs.obj id B d hi;rw[h1] at h
  cases o with
  | map es'=>
   cases h;obtain ⟨mes,clock,g1,g0,g2,g3,g4,g5⟩:=h2
   exact .inr ⟨B,mes,clock,_,rfl,g1,⟨by simpa using g2,fun i hi=>by rw[toL]; exact g3 i hi⟩,fun _ _ _ h=>h⟩
  | _=>cases h
 | mapD id B hi=>simp only[bg6,hs.dead id hi] at h; cases h
 | _=>cases h
theorem eq9 {xt kt et:TypeId}{tag:Nat}{zero x k v:IV}{z:Value}{ok:Bool}{rx rk:Value}(hu:P.underlying xt=some (.map kt et))(ht:eq4 P kt=some tag)
  (hz:(zeroValue et).run P w=.ok z w) (hzv:VR ρ w zero z) (hs:Sim E ρ w σ) (h:ct7 σ tag zero ok x k=some v) (hx:VR ρ w x rx) (hkv:VR ρ w k rk) :
  ∃ r,(Instr.lookup xt rx rk ok).run P w=.ok r w∧VR ρ w v r:=by
 unfold ct7 at h
 cases hm:bg6 σ x with
 | none=>rw[hm] at h; cases h
 | some es=>
  rw[hm] at h;simp only at h
  cases hl:ar2 tag k es with
  | none=>rw[hl] at h; cases h
  | some r=>
   rw[hl] at h;cases h
   have pair:∀ (a:IV) (ra:Value) (b:Bool),VR ρ w a ra→VR ρ w (if ok then .tuple [a,.bool b] else a) (if ok then .tuple #[ra,.bool b] else ra):=by
    intro a ra b ha
    cases ok with
    | true=>
     refine .tuple _ _ rfl fun i hi=>?_
     match i,hi with
     | 0,_=>exact ha
     | 1,_=>exact .bool b
    | false=>exact ha
   have hok:=dr7 hl;have hck:∀ b,(Instr.checkKey b 10000 kt rk).run P w=.ok () w:=fun b=>au6 ht hok hkv
   rcases fk3 hs hm hx with ⟨rfl,rfl⟩|⟨b,mes,clock,es',rfl,hb,hes,hlp⟩
   ·have hf:=ca3 ht hkv [] [] ⟨rfl,fun i hi=>by simp at hi⟩ none (fun _ e he=>by cases he) (fun j hj=>by cases hj)
    have hr:r=none:=by
     simp only[ar2,hok] at hl;cases hl; rfl
    subst hr;exact ⟨_,by simp[Instr.lookup,run_underlying hu,hck,hf,hz],pair _ _ _ hzv⟩
   ·obtain ⟨q,g1,g2,g3⟩:=fk1 _ _ (hlp _ _ _ hl);have hf:=ca3 ht hkv es' mes.toList hes q g1 g2;have hg:(getObj b).run P w=.ok (.map mes clock) w:=by simp[getObj,Sem.run,hb]
    cases q with
    | none=>
     subst g3
     exact ⟨_,by simp[Instr.lookup,run_underlying hu,hg,hck,hf,hz],pair _ _ _ hzv⟩
    | some j=>
     subst g3;have:=(hes.2 j (g2 j rfl).1).2;exact ⟨_,by simp[Instr.lookup,run_underlying hu,hg,hck,hf],pair _ _ _ this⟩
/-! ### max,min of two numbers -/
def mmI (mx:Bool):IV→IV→Option IV
 | .int k a,.int _ b=>some (.int k (if mx then (if b>a then b else a) else (if b<a then b else a)))
 | _,_=>none
theorem er1 {x y v:IV}{rx ry:Value}{ts:Array TypeId}{t:TypeId}(h:mmI true x y=some v)(hx:VR ρ w x rx)(hy:VR ρ w y ry):∃ r,(Builtin.max_ ts t #[rx,ry]).run P w=.ok r w∧VR ρ w v r:=by
 cases hx<;>simp only[mmI] at h<;>first|(cases h; done)|skip
 cases hy<;>simp only[mmI] at h<;>cases h;exact ⟨_,by simp[Builtin.max_,Builtin.max2],.int _ _⟩
theorem er2 {x y v:IV}{rx ry:Value}{ts:Array TypeId}{t:TypeId}(h:mmI false x y=some v)(hx:VR ρ w x rx)(hy:VR ρ w y ry):∃ r,(Builtin.min_ ts t #[rx,ry]).run P w=.ok r w∧VR ρ w v r:=by
 cases hx<;>simp only[mmI] at h<;>first|(cases h; done)|skip
 cases hy<;>simp only[mmI] at h<;>cases h;exact ⟨_,by simp[Builtin.min_,Builtin.min2],.int _ _⟩
end Go.Id
/- The quiet operations compiled: one function on ideal values,and its proof against the model. Conditions: none; over any program. -/
namespace Go.Id
open Go
inductive IX where
 | t (n:Nat)
 | c (v:IV)
 | g (n:Nat)
 | f (n:Nat)
 deriving Inhabited
def IX.ev (E:Nat→IV)(fr:Frm):IX→IV
 | .t n=>fr.get n
 | .c v=>v
 | .g n=>E n
 | .f n=>.func (.func n) [] []
inductive IQ where
 | mov (x:IX)
 | pick (c a b:IX)
 | not (x:IX)
 | neg (x:IX)
 | bin (op:BinOp) (x y:IX)
 | bg7 (d:TypeDesc) (neg:Bool) (x:IX)
 | eqs (tags:List Nat) (agg neg:Bool) (x y:IX)
 | conv (k:IntKind) (x:IX)
 | fl1 (x:IX)
 | len (kind:Nat) (x:IX)
 | aa9 (off:Nat) (x:IX)
 | fld (agg:Option Nat) (off:Nat) (x:IX)
 | ab5 (esz:Nat) (x i:IX)
 | dz5 (n esz:Nat) (x i:IX)
 | idx (agg:Option Nat) (n esz:Nat) (x i:IX)
 | fy2 (x i:IX)
 | slc (esz:Nat) (x:IX) (lo hi:Option IX)
 | gq5 (x:IX) (lo hi:Option IX)
 | slz (x:IX)
 | ext (i:Nat) (x:IX)
 | mkf (fn:Nat) (first cap:List IX)
 | bld (zero:List IV) (parts:List (Nat×Nat×IX))
 | load (agg:Option Nat) (x:IX)
 | au1 (x:IX)
 | mm (mx:Bool) (x y:IX)
 | lkp (tag:Nat) (zero:IV) (ok:Bool) (x k:IX)
 | ibs (x c:IX)
 | ldt (agg:Option Nat) (x:IX)
 | clp (esz:Nat) (x lo hi mx:IX)
 deriving Inhabited
def hm3 (esz:Nat)(x hi:IV):Option IV :=
 match di6 hi with
 | some h=>match x with
  | .slice did off len e=>if e=esz∧h≤len∧0<len then some (.ad7 did off h len e) else none
  | .ad7 did off len room e=>if e=esz∧h≤room∧0<room then some (.ad7 did off h room e) else none
  | _=>none
 | none=>none
def hm4 (esz:Nat)(x lo hi mx:IV):Option IV :=
 match di6 lo,di6 hi,di6 mx with
 | some 0,some h,some m=>if h=m then match x with
  | .aa1=>if h=0 then some .aa1 else none
  | .ab4=>if h=0 then some .ab4 else none
  | .slice did off len e=>if e=esz∧h≤len then (if h=0 then some .ab4 else some (.ae2 did off h e)) else none
  | _=>none
  else none
 | _,_,_=>none
def bh7 (kind:Nat)(σ:Store)(v:IV):Option IV :=
 match kind,v with
 | 0,.aa1|0,.ab4|0,.ad4|0,.aa4 _|0,.slice _ _ _ _|0,.ae2 _ _ _ _|0,.ad7 _ _ _ _ _=>dx9 σ v
 | 1,.str _=>dx9 σ v
 | 2,.af9|2,.map _=>dx9 σ v
 | _,_=>none
def db7:IV→IV→IV→Option IV
 | .bool c,a,b=>some (if c then a else b)
 | _,_,_=>none
def fy1 (tags:List Nat)(agg neg:Bool)(x y:IV):Option IV :=
 match agg,x,y with
 | true,.agg xs,.agg ys=>(allEq tags xs ys).map fun b=>.bool (b ^^ neg)
 | false,.bool a,.bool b=>(allEq tags [.bool a] [.bool b]).map fun b=>.bool (b ^^ neg)
 | _,_,_=>none
theorem dz2 {tags:List Nat}{neg:Bool}{x y v:IV}(h:fy1 tags false neg x y=some v) :
  ∃ b1 b2 b,x=.bool b1∧y=.bool b2∧allEq tags [.bool b1] [.bool b2]=some b∧v=.bool (b ^^ neg):=by
 unfold fy1 at h;split at h
 ·contradiction
 ·rename_i b1 b2 _
  cases hq:allEq tags [.bool b1] [.bool b2] with
  | none=>rw[hq] at h; cases h
  | some b=>rw[hq] at h; cases h; exact ⟨b1,b2,b,rfl,rfl,hq,rfl⟩
 ·cases h
theorem db8 {tags:List Nat}{neg:Bool}{x y v:IV}(h:fy1 tags true neg x y=some v):gs4 tags neg x y=some v:=by
 unfold fy1 at h;split at h
 ·exact h
 ·contradiction
 ·cases h
def di7 (c:Nat):List UInt8→Nat→Int
 | [],_=>-1
 | b::l,i=>if b.toNat=c then i else di7 c l (i+1)
def gq3:IV→IV→Option IV
 | .str s,.int .u8 n=>if 0≤n∧n<256 then some (.int .i64 (di7 n.toNat s 0)) else none
 | _,_=>none
def ge3 (agg:Option Nat)(v:IV):Option IV:=match v with
 | .af4 cs=>am9 ⟨0,fun _=>none⟩ agg (.af4 cs)
 | _=>none
theorem fk4 {agg:Option Nat}{v u:IV}(h:ge3 agg v=some u)(σ:Store):am9 σ agg v=some u:=by
 unfold ge3 at h;split at h
 ·exact h
 ·cases h
def evq (E:Nat→IV)(fr:Frm)(σ:Store):IQ→Option IV
 | .mov x=>some (x.ev E fr)
 | .pick c a b=>db7 (c.ev E fr) (a.ev E fr) (b.ev E fr)
 | .not x=>gq1 (x.ev E fr)
 | .neg x=>gq2 (x.ev E fr)
 | .bin op x y=>aq7 op (x.ev E fr) (y.ev E fr)
 | .bg7 d neg x=>(bk5 d (x.ev E fr)).map fun b=>.bool (b ^^ neg)
 | .eqs tags agg neg x y=>fy1 tags agg neg (x.ev E fr) (y.ev E fr)
 | .conv k x=>dy5 k (x.ev E fr)
 | .fl1 x=>ci3 (x.ev E fr)
 | .len kind x=>bh7 kind σ (x.ev E fr)
 | .aa9 off x=>by9 off (x.ev E fr)
 | .fld agg off x=>ge2 agg off (x.ev E fr)
 | .ab5 esz x i=>al6 esz (x.ev E fr) (i.ev E fr)
 | .dz5 n esz x i=>cc1 n esz (x.ev E fr) (i.ev E fr)
 | .idx agg n esz x i=>fx6 agg n esz (x.ev E fr) (i.ev E fr)
 | .fy2 x i=>da5 (x.ev E fr) (i.ev E fr)
 | .slc esz x lo hi=>dj4 esz (lo.map (·.ev E fr)) (hi.map (·.ev E fr)) (x.ev E fr)
 | .gq5 x lo hi=>dj3 (lo.map (·.ev E fr)) (hi.map (·.ev E fr)) (x.ev E fr)
 | .slz x=>ep6 (x.ev E fr)
 | .ext i x=>fx7 i (x.ev E fr)
 | .mkf fn first cap=>some (.func (.func fn) (first.map (·.ev E fr)) (cap.map (·.ev E fr)))
 | .bld zero parts=>(ak7 zero (parts.map fun p=>(p.1,p.2.1,p.2.2.ev E fr))).map .agg
 | .load agg x=>am9 σ agg (x.ev E fr)
 | .au1 x=>ct5 (x.ev E fr)
 | .mm mx x y=>mmI mx (x.ev E fr) (y.ev E fr)
 | .lkp tag zero ok x k=>ct7 σ tag zero ok (x.ev E fr) (k.ev E fr)
 | .ibs x c=>gq3 (x.ev E fr) (c.ev E fr)
 | .ldt agg x=>ge3 agg (x.ev E fr)
 | .clp esz x lo hi mx=>hm4 esz (x.ev E fr) (lo.ev E fr) (hi.ev E fr) (mx.ev E fr)
/-! ### Compiling -/
def af8:Operand→Option IX
 | .tmp t=>some (.t t)
 | .const v=>(cv v).map .c
 | .global g=>some (.g g)
 | .func f=>some (.f f)
def db9:List Operand→Option (List IX)
 | []=>some []
 | x::xs=>match af8 x,db9 xs with
  | some y,some ys=>some (y::ys)
  | _,_=>none
def gq4:Option Operand→Option (Option IX)
 | none=>some none
 | some x=>(af8 x).map some
def cc4 (P:Program)(t:TypeId)(i:Nat):Option (Nat×Nat):=
 match P.underlying t with
 | some (.struct fs)=>match fs[i]? with
  | some f=>(szT P f.type).map fun n=>(f.offset,n)
  | none=>none
 | some (.array _ e)=>(szT P e).map fun n=>(i*n,n)
 | _=>none
def ao9 (P:Program)(place:Nat→Option (Nat×Nat)):List (Nat×Operand)→Option (List (Nat×Nat×IX))
 | []=>some []
 | (i,x)::ps=>match place i,af8 x,ao9 P place ps with
  | some (off,n),some y,some ys=>some ((off,n,y)::ys)
  | _,_,_=>none
def ay3 (P:Program)(t:TypeId):Option (List IV):=
 match P.info? t with
 | some i=>match i.zero with
  | some z=>cvs z
  | none=>none
 | none=>none
def zeroV (P:Program)(t:TypeId):Option IV :=
 match P.info? t with
 | some i=>match i.zero with
  | some z=>cv z
  | none=>none
 | none=>none
def by3:Operand→TypeDesc→Bool
 | .const (.pointer none),.pointer _=>true
 | .const (.slice none 0 0),.slice _=>true
 | .const (.map none),.map _ _=>true
 | .const .nilFunc,.func _ _ _=>true
 | _,_=>false
def sized (P:Program)(t:TypeId):Bool :=
 match P.underlying t with
 | some (.struct fs)=>fs.toList.all fun f=>(szT P f.type).isSome
 | some (.array _ e)=>(szT P e).isSome
 | _=>false
def er3 (P:Program)(op:BinOp)(t:TypeId)(x y:Operand):Option IQ :=
 match P.underlying t with
 | some (.int _)|some .string=>match af8 x,af8 y with
  | some a,some b=>some (.bin op a b)
  | _,_=>none
 | some .bool=>match af8 x,af8 y,cg5 P 30 t with
  | some a,some b,some tags=>if op=.eql∨op=.neq then some (.eqs tags false (decide (op=.neq)) a b) else none
  | _,_,_=>none
 | some (.struct _)|some (.array _ _)=>match af8 x,af8 y,cg5 P 30 t,aj9 P t with
  | some a,some b,some tags,some (some _)=>if (op=.eql∨op=.neq)∧P.eqGuardType P.depth t=false then some (.eqs tags true (decide (op=.neq)) a b) else none
  | _,_,_,_=>none
 | some d=>if (op=.eql∨op=.neq)∧by3 y d=true then (af8 x).map fun a=>.bg7 d (decide (op=.neq)) a else none
 | none=>none
def ge4 (P : Program) (f : FuncId) : Bool := (P.funcs[f]?).any fun fn => fn.name == "internal/bytealg.IndexByteString" && fn.body.isNone && fn.origin == ""
def fk5 (P:Program) (op:Op):Option IQ :=
 match op with
 | .move x|.assign x=>(af8 x).map .mov
 | .pick c a b=>match af8 c,af8 a,af8 b with
  | some c,some a,some b=>some (.pick c a b)
  | _,_,_=>none
 | .unOp .not _ x=>(af8 x).map .not
 | .unOp .neg _ x=>(af8 x).map .neg
 | .binOp op t x y _=>er3 P op t x y
 | .convert s d x=>match P.underlying s,P.underlying d with
  | some (.int _),some (.int k)=>(af8 x).map (.conv k)
  | some .string,some .string=>(af8 x).map .fl1
  | _,_=>none
 | .call { callee:=.builtin .len,args,argTypes }=>match args.toList,argTypes.toList with
  | [x],[t]=>match P.underlying t with
   | some (.slice _)=>(af8 x).map (.len 0)
   | some .string=>(af8 x).map (.len 1)
   | some (.map _ _)=>(af8 x).map (.len 2)
   | _=>none
  | _,_=>none
 | .fieldAddr s x i=>match P.underlying s with
  | some (.struct fs)=>match fs[i]? with
   | some f=>match szT P f.type with
    | some (_+1)=>(af8 x).map (.aa9 f.offset)
    | _=>none
   | none=>none
  | _=>none
 | .field s x i=>match P.underlying s with
  | some (.struct fs)=>match fs[i]? with
   | some f=>match aj9 P f.type with
    | some agg=>(af8 x).map (.fld agg f.offset)
    | none=>none
   | none=>none
  | _=>none
 | .indexAddr t x i=>match P.underlying t with
  | some (.slice e)=>match szT P e,af8 x,af8 i with
   | some n,some a,some b=>some (.ab5 n a b)
   | _,_,_=>none
  | some (.array m e)=>match szT P e,af8 x,af8 i with
   | some n,some a,some b=>some (.dz5 m n a b)
   | _,_,_=>none
  | _=>none
 | .index t x i=>match P.underlying t with
  | some .string=>match af8 x,af8 i with
   | some a,some b=>some (.fy2 a b)
   | _,_=>none
  | some (.array m e)=>match szT P e,aj9 P e,af8 x,af8 i with
   | some n,some agg,some a,some b=>some (.idx agg m n a b)
   | _,_,_,_=>none
  | _=>none
 | .slice t x lo hi none=>match P.underlying t with
  | some (.slice e)=>match szT P e,af8 x,gq4 lo,gq4 hi with
   | some n,some a,some l,some h=>some (.slc n a l h)
   | _,_,_,_=>none
  | some .string=>match af8 x,gq4 lo,gq4 hi with
   | some a,some l,some h=>some (.gq5 a l h)
   | _,_,_=>none
  | _=>none
 | .slice t x none (some (.const (.int _ 0))) (some (.const (.int _ 0)))=>match P.underlying t with
  | some (.slice e)=>match szT P e,af8 x with
   | some _,some a=>some (.slz a)
   | _,_=>none
  | _=>none
 | .extract x i=>(af8 x).map (.ext i)
 | .makeFunc (.func fn) first cap=>match db9 first.toList,db9 cap.toList with
  | some a,some b=>some (.mkf fn a b)
  | _,_=>none
 | .build t parts=>match ay3 P t,ao9 P (cc4 P t) parts.toList with
  | some z,some ps=>if sized P t then some (.bld z ps) else none
  | _,_=>none
 | .load t x=>match aj9 P t,af8 x with
  | some agg,some a=>some (.load agg a)
  | _,_=>none
 | .nilCheck x=>(af8 x).map .au1
 | .call { callee:=.builtin .max,args,argTypes:=_ }=>match args.toList with
  | [x,y]=>match af8 x,af8 y with
   | some a,some b=>some (.mm true a b)
   | _,_=>none
  | _=>none
 | .call { callee:=.builtin .min,args,argTypes:=_ }=>match args.toList with
  | [x,y]=>match af8 x,af8 y with
   | some a,some b=>some (.mm false a b)
   | _,_=>none
  | _=>none
 | .lookup xt x k ok=>match P.underlying xt with
  | some (.map kt et)=>match eq4 P kt,zeroV P et,af8 x,af8 k with
   | some tag,some z,some a,some b=>some (.lkp tag z ok a b)
   | _,_,_,_=>none
  | _=>none
 | .call { callee:=.value (.func f),args,argTypes:=_ }=>if ge4 P f then (match args.toList with
  | [x,y]=>match af8 x,af8 y with
   | some a,some b=>some (.ibs a b)
   | _,_=>none
  | _=>none) else none
 | _=>none
/-! ### The proof -/
variable {P:Program} {w:World} {ρ:Rho} {E:Nat→IV} {σ:Store} {N:Nat} {fr:Frm} {a:Act}
theorem aa6 {x:Operand}{y:IX}(h:af8 x=some y)(hs:Sim E ρ w σ)(hf:FR ρ w N fr a.tmps):VR ρ w (y.ev E fr) (a.eval x):=by
 cases x with
 | tmp t=>cases h; exact hf.get t
 | const v=>
  simp only[af8] at h
  cases hc:cv v with
  | none=>rw[hc] at h; cases h
  | some z=>rw[hc] at h; cases h; exact dr6 hc
 | global g=>cases h; exact hs.env g
 | func f=>
  cases h;exact .func (.func f) [] [] #[] #[] (fun l h=>by cases h) rfl rfl (fun i hi=>by simp at hi) (fun i hi=>by simp at hi)
theorem bi5 {xs:List Operand}{ys:List IX}(h:db9 xs=some ys)(hs:Sim E ρ w σ)(hf:FR ρ w N fr a.tmps) :
  CR ρ w (ys.map (·.ev E fr)) (xs.map a.eval).toArray:=by
 induction xs generalizing ys with
 | nil=>cases h; exact ⟨rfl,fun i hi=>by simp at hi⟩
 | cons x xs ih=>
  simp only[db9] at h;split at h
  ·rename_i y ys' h1 h2;cases h;obtain ⟨hl,hv⟩:=ih h2;refine ⟨by simpa using hl,fun i hi=>?_⟩
   cases i with
   | zero=>simpa using aa6 h1 hs hf
   | succ i=>
    have:=hv i (by simpa using hi)
    simpa [Array.getD_eq_getD_getElem?] using this
  ·cases h
theorem bc2 {x:Option Operand}{y:Option IX}(h:gq4 x=some y)(hs:Sim E ρ w σ)(hf:FR ρ w N fr a.tmps):OVR ρ w (y.map (·.ev E fr)) (x.map a.eval):=by
 cases x with
 | none=>cases h; trivial
 | some x=>
  simp only[gq4] at h
  cases hc:af8 x with
  | none=>rw[hc] at h; cases h
  | some z=>rw[hc] at h; cases h; exact aa6 hc hs hf
theorem map_some {α β:Type}{o:Option α}{f:α→β}{b:β}(h:o.map f=some b):∃ x,o=some x∧f x=b:=by
 cases o with
 | none=>cases h
 | some x=>cases h; exact ⟨x,rfl,rfl⟩
end Go.Id
/- The quiet operations against the model: the one theorem. Conditions: none; over any program. -/
namespace Go.Id
open Go
variable {P:Program} {w:World} {ρ:Rho} {E:Nat→IV} {σ:Store} {N:Nat} {fr:Frm} {a:Act}
def bj9 (P:Program)(ρ:Rho)(w:World)(a:Act)(op:Op)(v:IV):Prop :=
 ∀ o:Oper,o.op=op→∃ r,(execOp a.eval o).run P w=.ok (.value r) w∧VR ρ w v r
theorem bj9.of {op:Op}{v:IV}{s:Sem Value}(hx:∀ o:Oper,o.op=op→execOp a.eval o=(do pure (.value (← s))))(h:∃ r,s.run P w=.ok r w∧VR ρ w v r):bj9 P ρ w a op v:=by
 intro o ho;obtain ⟨r,hr,hv⟩:=h;exact ⟨r,by rw[hx o ho]; simp[hr],hv⟩
theorem fk6 {op:BinOp}{t yt:TypeId}{x y:Operand}{q:IQ}{v:IV}(h:er3 P op t x y=some q)(hv:evq E fr σ q=some v)(hs:Sim E ρ w σ)(hf:FR ρ w N fr a.tmps) :
  bj9 P ρ w a (.binOp op t x y yt) v:=by
 refine bj9.of (s:=do eqGuard op t x y (a.eval x) (a.eval y); binOp op t (a.eval x) (a.eval y)) (fun o ho=>by unfold execOp; rw[ho]) ?_;unfold er3 at h
 cases hu:P.underlying t with
 | none=>rw[hu] at h; cases h
 | some d=>
  rw[hu] at h
  have hnum:∀ q',(match af8 x,af8 y with|some a,some b=>some (IQ.bin op a b)|_,_=>none)=some q'→q'=q →
    ∃ r,(do eqGuard op t x y (a.eval x) (a.eval y); binOp op t (a.eval x) (a.eval y):Sem Value).run P w=.ok r w∧VR ρ w v r:=by
   intro q' h1 h2;subst h2;split at h1
   ·rename_i xa xb ha hb;cases h1;exact eo9 hv (aa6 ha hs hf) (aa6 hb hs hf)
   ·cases h1
  have hnil:∀ rn,dy3 d=some rn→(by3 y d=true→a.eval y=rn) →
    (if (op=.eql∨op=.neq)∧by3 y d=true then (af8 x).map (fun a=>IQ.bg7 d (decide (op=.neq)) a) else none)=some q →
    ∃ r,(do eqGuard op t x y (a.eval x) (a.eval y); binOp op t (a.eval x) (a.eval y):Sem Value).run P w=.ok r w∧VR ρ w v r:=by
   intro rn hn hy h1;split at h1
   ·rename_i hc;obtain ⟨xa,ha,rfl⟩:=map_some h1;simp only[evq] at hv;obtain ⟨b,hb,rfl⟩:=map_some hv;have:=ep8 (P:=P) (op:=op) (x:=x) (y:=y) hu hn hc.1 hb (aa6 (a:=a) ha hs hf);rw[hy hc.2];refine ⟨_,this,?_⟩;rcases hc.1 with rfl|rfl
    ·simpa using VR.bool b
    ·simpa using VR.bool (!b)
   ·cases h1
  cases d with
  | int k=>exact hnum q h rfl
  | string=>exact hnum q h rfl
  | bool=>
   simp only at h;split at h
   ·rename_i xa xb tags ha hb ht;split at h
    ·rename_i hop;cases h;simp only[evq] at hv;have va:=aa6 ha hs hf;have vb:=aa6 hb hs hf;obtain ⟨b1,b2,b,e1,e2,hq,rfl⟩:=dz2 hv;rw[e1] at va;rw[e2] at vb;generalize a.eval x=ra at va ⊢;generalize a.eval y=rb at vb ⊢
     have he:=bi3 30 t tags ht ρ w (10000-30) _ _ _ _ b va vb (by
      rw[show aj9 P t=some none from by simp[aj9,dr4,hu]]; exact ⟨fun _ h=>IV.noConfusion h,fun _ h=>IV.noConfusion h⟩) hq
     cases va; cases vb;have he':(Op.equal t (.bool b1) (.bool b2)).run P w=.ok b w:=he
     have hg:(eqGuard op t x y (.bool b1) (.bool b2)).run P w=.ok () w:=by
      unfold eqGuard; rcases hop with rfl|rfl<;>rfl
     rcases hop with rfl|rfl
     ·exact ⟨.bool b,by simp[hg,binOp,he'],by simpa using VR.bool b⟩
     ·exact ⟨.bool (!b),by simp[hg,binOp,he'],by simpa using VR.bool (!b)⟩
    ·cases h
   ·cases h
  | struct fs=>
   simp only at h;split at h
   ·rename_i xa xb tags n ha hb ht hl;split at h
    ·rename_i hop;cases h;simp only[evq] at hv;exact db2 (d:=30) (by omega) ht hl hop.2 hop.1 (db8 hv) (aa6 ha hs hf) (aa6 hb hs hf)
    ·cases h
   ·cases h
  | array m e=>
   simp only at h;split at h
   ·rename_i xa xb tags n ha hb ht hl;split at h
    ·rename_i hop;cases h;simp only[evq] at hv;exact db2 (d:=30) (by omega) ht hl hop.2 hop.1 (db8 hv) (aa6 ha hs hf) (aa6 hb hs hf)
    ·cases h
   ·cases h
  | pointer e=>exact hnil (.pointer none) rfl (fun hc=>by unfold by3 at hc; split at hc<;>simp_all [Act.eval]) h
  | slice e=>exact hnil (.slice none 0 0) rfl (fun hc=>by unfold by3 at hc; split at hc<;>simp_all [Act.eval]) h
  | map k e=>exact hnil (.map none) rfl (fun hc=>by unfold by3 at hc; split at hc<;>simp_all [Act.eval]) h
  | func p r v'=>exact hnil .nilFunc rfl (fun hc=>by unfold by3 at hc; split at hc<;>simp_all [Act.eval]) h
  | _=>
   simp only at h;split at h
   ·rename_i hc; have:=hc.2; unfold by3 at this; split at this<;>simp_all
   ·cases h
theorem ay4 {place:Nat→Option (Nat×Nat)}:∀ (ps:List (Nat×Operand)) (ips:List (Nat×Nat×IX)),ao9 P place ps=some ips→Sim E ρ w σ→FR ρ w N fr a.tmps →
  ips.length=ps.length∧∀ j,j<ips.length →
   place ((ps.map fun p=>(p.1,a.eval p.2)).getD j (0,undef)).1=some (((ips.map fun p=>(p.1,p.2.1,p.2.2.ev E fr)).getD j (0,0,.undef)).1,((ips.map fun p=>(p.1,p.2.1,p.2.2.ev E fr)).getD j (0,0,.undef)).2.1) ∧
   VR ρ w ((ips.map fun p=>(p.1,p.2.1,p.2.2.ev E fr)).getD j (0,0,.undef)).2.2 ((ps.map fun p=>(p.1,a.eval p.2)).getD j (0,undef)).2:=by
 intro ps
 induction ps with
 | nil=>intro ips h hs hf; cases h; exact ⟨rfl,fun j hj=>by simp at hj⟩
 | cons p ps ih=>
  intro ips h hs hf;obtain ⟨i,x⟩:=p;simp only[ao9] at h;split at h
  ·rename_i off n y ys h1 h2 h3;cases h;obtain ⟨hl,hv⟩:=ih ys h3 hs hf;refine ⟨by simpa using hl,fun j hj=>?_⟩
   cases j with
   | zero=>exact ⟨by simpa using h1,by simpa using aa6 h2 hs hf⟩
   | succ j=>simpa using hv j (by simpa using hj)
  ·cases h
theorem al1 {t:TypeId}{z:List IV}(h:ay3 P t=some z):∃ zr,(zeroValue t).run P w=.ok zr w∧CR ρ w z zr.cells:=by
 unfold ay3 at h
 cases hi:P.info? t with
 | none=>rw[hi] at h; cases h
 | some i=>
  rw[hi] at h;simp only at h
  cases hz:i.zero with
  | none=>rw[hz] at h; cases h
  | some zr=>
   rw[hz] at h;exact ⟨zr,by simp[zeroValue,typeInfo,hi,hz],cc3 h⟩
def dj9 (P:Program)(f:Field):Option (Nat×Nat):=(szT P f.type).map fun n=>(f.offset,n)
theorem dc1:∀ l:List Field,l.all (fun f=>(szT P f.type).isSome)=true→∃ ps:List (Nat×Nat),(l.mapM (fun f=>do pure (f.offset,← sizeOf f.type):Field→Sem (Nat×Nat))).run P w=.ok ps w ∧
  ∀ i:Nat,ps[i]? = (l[i]?).bind (dj9 P):=by
 intro l
 induction l with
 | nil=>intro _; exact ⟨[],by simp,fun i=>by simp⟩
 | cons f l ih=>
  intro h;simp only[List.all_cons,Bool.and_eq_true] at h;obtain ⟨n,hn⟩:=Option.isSome_iff_exists.1 h.1;obtain ⟨ps,h1,h2⟩:=ih h.2;refine ⟨(f.offset,n)::ps,by rw[List.mapM_cons]; simp only[Sem.run_bind,run_sizeOf hn,Result.andThen_ok,Sem.run_pure,h1],fun i=>?_⟩
  cases i with
  | zero=>simp[dj9,hn]
  | succ i=>simpa using h2 i
theorem dk4 {fs:Array Field}(h:fs.toList.all (fun f=>(szT P f.type).isSome)=true) :
  ∃ ps:Array (Nat×Nat),(fs.mapM (fun f=>do pure (f.offset,← sizeOf f.type):Field→Sem (Nat×Nat))).run P w=.ok ps w ∧
   ∀ i:Nat,ps[i]? = (fs[i]?).bind (dj9 P):=by
 obtain ⟨l⟩:=fs;obtain ⟨ps,h1,h2⟩:=dc1 (w:=w) l h;exact ⟨ps.toArray,by rw[List.mapM_toArray,Sem.run_map,h1]; rfl,fun i=>by simpa using h2 i⟩
theorem fk7 {t:TypeId}{parts:Array (Nat×Operand)}{z:List IV}{ps:List (Nat×Nat×IX)}{v:IV}(hz:ay3 P t=some z)(hp:ao9 P (cc4 P t) parts.toList=some ps)(hsz:sized P t=true)
  (hv:evq E fr σ (.bld z ps)=some v) (hs:Sim E ρ w σ) (hf:FR ρ w N fr a.tmps):bj9 P ρ w a (.build t parts) v:=by
 refine bj9.of (s:=Instr.build t (parts.map fun (i,x)=>(i,a.eval x))) (fun o ho=>by unfold execOp; rw[ho]) ?_;simp only[evq] at hv;obtain ⟨out,hfill,rfl⟩:=map_some hv;obtain ⟨zr,hzr,hcr⟩:=al1 (w:=w) (ρ:=ρ) hz;obtain ⟨hl,hpl⟩:=ay4 parts.toList ps hp hs hf;obtain ⟨rout,hr,ho⟩:=bp4 (place:=cc4 P t) _ (parts.toList.map fun p=>(p.1,a.eval p.2)) z out zr.cells hcr (by simp[hl]) (fun j hj=>hpl j (by simpa using hj)) hfill;have hpt:(parts.map fun (i,x)=>(i,a.eval x)).toList=parts.toList.map fun p=>(p.1,a.eval p.2):=by simp
 refine ⟨.agg rout,?_,.agg _ _ ho.1 ho.2⟩;unfold sized at hsz
 cases hu:P.underlying t with
 | none=>rw[hu] at hsz; cases hsz
 | some d=>
  rw[hu] at hsz
  cases d with
  | struct fs=>
   obtain ⟨places,hm,hpl'⟩:=dk4 (P:=P) (w:=w) hsz;have e:(fun i=>places[i]?)=cc4 P t:=by funext i; rw[hpl' i]; simp only[cc4,hu]; cases fs[i]?<;>rfl
   have hr':Instr.fill (fun i=>places[i]?) zr.cells ((parts.map fun (i,x)=>(i,a.eval x)).toList)=some rout:=by rw[hpt,e]; exact hr
   simp only[Instr.build,Sem.run_bind,hzr,Result.andThen_ok,run_underlying hu,hm,hr']
   rfl
  | array n el=>
   obtain ⟨m,hm⟩:=Option.isSome_iff_exists.1 hsz;have e:(fun i=>some (i*m,m))=cc4 P t:=by funext i; simp[cc4,hu,hm]
   have hr':Instr.fill (fun i=>some (i*m,m)) zr.cells ((parts.map fun (i,x)=>(i,a.eval x)).toList)=some rout:=by rw[hpt,e]; exact hr
   simp only[Instr.build,Sem.run_bind,hzr,Result.andThen_ok,run_underlying hu,run_sizeOf hm,hr']
   rfl
  | _=>cases hsz
theorem bp6 {op:Op}{t:TypeId}{x:Operand}{y:IX}{kind:Nat}{v:IV}{args:Array Operand}{argTypes:Array TypeId}(hop:op=.call { callee:=.builtin .len,args,argTypes })(ha:args.toList=[x])(ht:argTypes.toList=[t])
  (hk:match P.underlying t with|some (.slice _)=>kind=0|some .string=>kind=1|some (.map _ _)=>kind=2|_=>False) (hx:af8 x=some y)
  (hv:evq E fr σ (.len kind y)=some v) (hs:Sim E ρ w σ) (hf:FR ρ w N fr a.tmps):bj9 P ρ w a op v:=by
 subst hop;obtain ⟨al⟩:=args;obtain ⟨tl⟩:=argTypes;simp only at ha ht;subst ha; subst ht;refine fun o ho=>?_
 simp only[evq] at hv
 have key:∃ r,(Builtin.len_ #[t] o.type #[a.eval x]).run P w=.ok r w∧VR ρ w v r:=by
  have hl:dx9 σ (y.ev E fr)=some v:=by unfold bh7 at hv; split at hv<;>first|exact hv|cases hv
  refine ep4 hs ?_ ?_ hl (aa6 hx hs hf)
  ·unfold ho8
   cases hu:P.underlying t with
   | none=>rw[hu] at hk; exact hk.elim
   | some d=>rw[hu] at hk; cases d<;>first|rfl|exact hk.elim
  ·intro u hu;rw[hu] at hk;unfold bh7 at hv;cases u<;>simp only at hk<;>first|exact hk.elim|(subst hk; split at hv<;>simp_all)
 obtain ⟨r,hr,hvr⟩:=key;refine ⟨r,?_,hvr⟩;unfold execOp;rw[ho];simp[resolve,invoke,builtin,hr]
theorem dz3 {s:TypeId}{x:Operand}{y:IX}{i m:Nat}{fs:Array Field}{f:Field}{v:IV}(hu:P.underlying s=some (.struct fs))(hfi:fs[i]? = some f)(hz:szT P f.type=some (m+1))
  (hx:af8 x=some y) (hv:evq E fr σ (.aa9 f.offset y)=some v) (hs:Sim E ρ w σ) (hf:FR ρ w N fr a.tmps):bj9 P ρ w a (.fieldAddr s x i) v:=by
 refine bj9.of (s:=Instr.fieldAt s (a.eval x) i) (fun o ho=>by unfold execOp; rw[ho]) ?_;simp only[evq] at hv;obtain ⟨ad,hr,hvr⟩:=ci2 hv (aa6 hx hs hf);rw[hr];exact ⟨_,di9 hu hfi hz,hvr⟩
theorem dk5 {t:TypeId}{x:IV}(h:zeroV P t=some x):∃ z,(zeroValue t).run P w=.ok z w∧VR ρ w x z:=by
 unfold zeroV at h
 cases hi:P.info? t with
 | none=>rw[hi] at h; cases h
 | some i=>
  rw[hi] at h;simp only at h
  cases hz:i.zero with
  | none=>rw[hz] at h; cases h
  | some z=>rw[hz] at h; exact ⟨z,by simp[zeroValue,typeInfo,hi,hz],dr6 h⟩
theorem fk8 : Extern.allRows.lookup "internal/bytealg.IndexByteString" = some Extern.BytealgIndexByte.indexByte := by kernel_rfl
theorem er4 : Extern.allTypedRows.lookup "internal/bytealg.IndexByteString" = none := by kernel_rfl
theorem er5 : Extern.allGenericRows.lookup "internal/bytealg.IndexByteString" = none := by kernel_rfl
theorem er6 : Extern.allNextRows.lookup "internal/bytealg.IndexByteString" = none := by kernel_rfl
theorem dz4 : Extern.allNextRows.lookup "" = none := by kernel_rfl
theorem ge5 (c:UInt8):∀ (l:List UInt8) (i:Nat),di7 c.toNat l i=if Lib.indexByte l c=-1 then -1 else Lib.indexByte l c+i:=by
 intro l
 induction l with
 | nil=>intro i; rfl
 | cons b l ih=>
  intro i;have hge:=Lib.indexByte_ge l c;simp only[di7,Lib.indexByte,ih];by_cases h:b=c
  ·subst h; simp
  ·have h1:¬ b.toNat=c.toNat:=fun e=>h (UInt8.toNat_inj.1 e)
   have h2:(b==c)=false:=by simpa using h
   simp only[h1,if_false,h2,Bool.false_eq_true];by_cases h3:Lib.indexByte l c=-1
   ·simp[h3]
   ·have h4:(Lib.indexByte l c == -1)=false:=by simpa using h3
    have h5:¬ Lib.indexByte l c+1=-1:=by omega
    simp only[h3,h4,h5,if_false,Bool.false_eq_true];omega
theorem fk9 {f:FuncId}{x y:Operand}{argTypes:Array TypeId}{xa ya:IX}{v:IV}(hok:ge4 P f=true)(hx:af8 x=some xa)(hy:af8 y=some ya)(hv:gq3 (xa.ev E fr) (ya.ev E fr)=some v)(hs:Sim E ρ w σ)(hf:FR ρ w N fr a.tmps) :
  bj9 P ρ w a (.call { callee:=.value (.func f),args:=#[x,y],argTypes }) v:=by
 have vx:=aa6 (a:=a) hx hs hf;have vy:=aa6 (a:=a) hy hs hf;generalize xa.ev E fr=ax at vx hv;generalize ya.ev E fr=ay at vy hv;unfold gq3 at hv;split at hv
 ·rename_i s n;split at hv
  ·rename_i hn;cases hv;generalize hrx:a.eval x=rx at vx;generalize hry:a.eval y=ry at vy;cases vx;cases vy;intro o ho;unfold ge4 at hok
   cases hfn:P.funcs[f]? with
   | none=>rw[hfn] at hok; cases hok
   | some fn=>
    rw[hfn] at hok;simp only[Option.any_some,Bool.and_eq_true,beq_iff_eq] at hok;obtain ⟨⟨h1,h2⟩,h3⟩:=hok;refine ⟨.int .i64 (di7 n.toNat s 0),?_,.int _ _⟩
    have hres:(resolve a.eval { callee:=.value (.func f),args:=#[x,y],argTypes } o.type).run P w=.ok { target:=.fn (.func f) #[],args:=#[.string ⟨s.toArray⟩,.int .u8 n] } w:=by
     simp[resolve,Act.eval,Deferred.ofValue] at hrx hry ⊢;simp[hrx,hry]
    have hfind:Extern.find fn=some Extern.BytealgIndexByte.indexByte:=by
     unfold Extern.find;simp only[h1,h3,fk8,er4,er5];rfl
    have hfn2:Extern.findNext fn=none:=by
     unfold Extern.findNext;simp only[h1,h3,er6,dz4];rfl
    have hinv:(invoke (.fn (.func f) #[]) #[.string ⟨s.toArray⟩,.int .u8 n]).run P w=.ok (.value (.int .i64 (di7 n.toNat s 0))) w:=by
     have hb:fn.body=none:=by simpa using h2
     have hnm : ¬ fn.name = "runtime.NumGoroutine" := by rw [h1]; decide
     have hr:=Lib.run_indexByteString (P:=P) ⟨s.toArray⟩ n w
     have hc:(n.toNat.toUInt8).toNat=n.toNat:=by
      have:n.toNat<256:=by omega
      simp[Nat.mod_eq_of_lt this]
     have hid:=ge5 n.toNat.toUInt8 s 0;rw[hc] at hid;have hge:=Lib.indexByte_ge s n.toNat.toUInt8
     have hidx:di7 n.toNat s 0=Lib.indexByte s n.toNat.toUInt8:=by
      rw[hid];split
      ·rename_i h; rw[h]
      ·simp
     simp only[invoke,Array.append_empty];simp only[callFunc];simp only[Sem.run_bind,program,Sem.run,Result.andThen_ok,hfn,h1];simp[hb,hfind,hfn2,mark,Sem.run,Sem.run_bind,hr,hidx]
    unfold execOp;rw[ho];simp only[Sem.run_bind,hres,Result.andThen_ok,hinv]
  ·cases hv
 ·cases hv
theorem er7 {op:Op}{q:IQ}{v:IV}(h:fk5 P op=some q)(hv:evq E fr σ q=some v)(hs:Sim E ρ w σ)(hf:FR ρ w N fr a.tmps):bj9 P ρ w a op v:=by
 unfold fk5 at h;split at h
 ·obtain ⟨y,hy,rfl⟩:=map_some h;cases hv;exact bj9.of (s:=pure _) (fun o ho=>by unfold execOp; rw[ho]; rfl) ⟨_,rfl,aa6 hy hs hf⟩
 ·obtain ⟨y,hy,rfl⟩:=map_some h;cases hv;exact bj9.of (s:=pure _) (fun o ho=>by unfold execOp; rw[ho]; rfl) ⟨_,rfl,aa6 hy hs hf⟩
 ·rename_i c x y;split at h
  ·rename_i c' x' y' hc hx hy;cases h;have vc:=aa6 hc hs hf;have vx:=aa6 hx hs hf;have vy:=aa6 hy hs hf;simp only[evq] at hv;generalize c'.ev E fr=ic at vc hv;unfold db7 at hv;split at hv
   ·cases hv;generalize hrc:a.eval c=rc at vc;cases vc;rename_i b;refine fun o ho=>⟨if b then a.eval x else a.eval y,?_,?_⟩
    ·unfold execOp;rw[ho];simp[hrc,asBool]
    ·cases b
     ·exact vy
     ·exact vx
   ·cases hv
  ·cases h
 ·obtain ⟨y,hy,rfl⟩:=map_some h;exact bj9.of (s:=Op.unary .not _) (fun o ho=>by unfold execOp; rw[ho]) (ep9 hv (aa6 hy hs hf))
 ·obtain ⟨y,hy,rfl⟩:=map_some h;exact bj9.of (s:=Op.unary .neg _) (fun o ho=>by unfold execOp; rw[ho]) (eq1 hv (aa6 hy hs hf))
 ·exact fk6 h hv hs hf
 ·split at h
  ·rename_i k1 k2 h1 h2;obtain ⟨y,hy,rfl⟩:=map_some h;exact bj9.of (s:=convert _ _ _) (fun o ho=>by unfold execOp; rw[ho]) (dy6 h1 h2 hv (aa6 hy hs hf))
  ·rename_i h1 h2;obtain ⟨y,hy,rfl⟩:=map_some h;exact bj9.of (s:=convert _ _ _) (fun o ho=>by unfold execOp; rw[ho]) (dj7 h1 h2 hv (aa6 hy hs hf))
  ·cases h
 ·split at h
  ·rename_i args argTypes x t h1 h2;split at h
   ·rename_i e hu;obtain ⟨y,hy,rfl⟩:=map_some h;exact bp6 rfl h1 h2 (by rw[hu]) hy hv hs hf
   ·rename_i hu;obtain ⟨y,hy,rfl⟩:=map_some h;exact bp6 rfl h1 h2 (by rw[hu]) hy hv hs hf
   ·rename_i k e hu;obtain ⟨y,hy,rfl⟩:=map_some h;exact bp6 rfl h1 h2 (by rw[hu]) hy hv hs hf
   ·cases h
  ·cases h
 ·split at h
  ·rename_i fs hu;split at h
   ·rename_i f hfi;split at h
    ·rename_i m hz;obtain ⟨y,hy,rfl⟩:=map_some h;exact dz3 hu hfi hz hy hv hs hf
    ·cases h
   ·cases h
  ·cases h
 ·split at h
  ·rename_i fs hu;split at h
   ·rename_i f hfi;split at h
    ·rename_i agg hk;obtain ⟨y,hy,rfl⟩:=map_some h;exact bj9.of (s:=Instr.field _ _ _) (fun o ho=>by unfold execOp; rw[ho]) (ep1 hu hfi hk hv (aa6 hy hs hf))
    ·cases h
   ·cases h
  ·cases h
 ·split at h
  ·rename_i e hu;split at h
   ·rename_i n xa xb hz hx hi;cases h;exact bj9.of (s:=Instr.indexAt _ _ _) (fun o ho=>by unfold execOp; rw[ho]) (dj1 hu hz hv (aa6 hx hs hf) (aa6 hi hs hf))
   ·cases h
  ·rename_i m e hu;split at h
   ·rename_i n xa xb hz hx hi;cases h;exact bj9.of (s:=Instr.indexAt _ _ _) (fun o ho=>by unfold execOp; rw[ho]) (dj2 hu hz hv (aa6 hx hs hf) (aa6 hi hs hf))
   ·cases h
  ·cases h
 ·split at h
  ·rename_i hu;split at h
   ·rename_i xa xb hx hi;cases h;exact bj9.of (s:=Instr.index _ _ _) (fun o ho=>by unfold execOp; rw[ho]) (dx8 hu hv (aa6 hx hs hf) (aa6 hi hs hf))
   ·cases h
  ·rename_i m e hu;split at h
   ·rename_i n agg xa xb hz hk hx hi;cases h;exact bj9.of (s:=Instr.index _ _ _) (fun o ho=>by unfold execOp; rw[ho]) (ep2 hu hz hk hv (aa6 hx hs hf) (aa6 hi hs hf))
   ·cases h
  ·cases h
 ·split at h
  ·rename_i e hu;split at h
   ·rename_i n xa l hh hz hx hl hhi;cases h;exact bj9.of (s:=Instr.sliceAt _ _ _ _ none) (fun o ho=>by unfold execOp; rw[ho]; rfl) (ep5 hu hz hv (aa6 hx hs hf) (bc2 hl hs hf) (bc2 hhi hs hf))
   ·cases h
  ·rename_i hu;split at h
   ·rename_i xa l hh hx hl hhi;cases h;exact bj9.of (s:=Instr.sliceAt _ _ _ _ none) (fun o ho=>by unfold execOp; rw[ho]; rfl) (dy1 hu hv (aa6 hx hs hf) (bc2 hl hs hf) (bc2 hhi hs hf))
   ·cases h
  ·cases h
 ·split at h
  ·rename_i e hu;split at h
   ·rename_i n xa hz hx;cases h;exact bj9.of (s:=Instr.sliceAt _ _ none _ _) (fun o ho=>by unfold execOp; rw[ho]; rfl) (ep7 hu hz hv (aa6 hx hs hf))
   ·cases h
  ·cases h
 ·obtain ⟨y,hy,rfl⟩:=map_some h;exact bj9.of (s:=Instr.extract _ _) (fun o ho=>by unfold execOp; rw[ho]) (ep3 hv (aa6 hy hs hf))
 ·rename_i fn first cap
  split at h
  ·rename_i ia ib h1 h2;cases h;cases hv;obtain ⟨l1,v1⟩:=bi5 (a:=a) h1 hs hf;obtain ⟨l2,v2⟩:=bi5 (a:=a) h2 hs hf;refine bj9.of (s:=Instr.makeFunc _ _ _) (fun o ho=>by unfold execOp; rw[ho]) ⟨_,rfl,?_⟩;have e1:first.map a.eval=(first.toList.map a.eval).toArray:=by cases first; rw[List.map_toArray]
   have e2:cap.map a.eval=(cap.toList.map a.eval).toArray:=by cases cap; rw[List.map_toArray]
   rw[e1,e2];exact .func _ _ _ _ _ (fun l h=>by cases h) l1 l2 v1 v2
  ·cases h
 ·split at h
  ·rename_i z ps hz hp;split at h
   ·rename_i hsz;cases h;exact fk7 hz hp hsz hv hs hf
   ·cases h
  ·cases h
 ·split at h
  ·rename_i agg xa hk hx;cases h;exact bj9.of (s:=Instr.loadAt _ _) (fun o ho=>by unfold execOp; rw[ho]) (ci1 hs hk hv (aa6 hx hs hf))
  ·cases h
 ·obtain ⟨y,hy,rfl⟩:=map_some h;exact fun o ho=>dy7 ho hv (aa6 hy hs hf)
 ·rename_i args argTypes;split at h
  ·rename_i x y ha;split at h
   ·rename_i xa ya hx hy;cases h;obtain ⟨al⟩:=args;simp only at ha;subst ha;intro o ho;obtain ⟨r,hr,hv'⟩:=er1 (P:=P) (w:=w) (ts:=argTypes) (t:=o.type) hv (aa6 hx hs hf) (aa6 hy hs hf);refine ⟨r,?_,hv'⟩;unfold execOp;rw[ho];simp[resolve,invoke,builtin,hr]
   ·cases h
  ·cases h
 ·rename_i args argTypes;split at h
  ·rename_i x y ha;split at h
   ·rename_i xa ya hx hy;cases h;obtain ⟨al⟩:=args;simp only at ha;subst ha;intro o ho;obtain ⟨r,hr,hv'⟩:=er2 (P:=P) (w:=w) (ts:=argTypes) (t:=o.type) hv (aa6 hx hs hf) (aa6 hy hs hf);refine ⟨r,?_,hv'⟩;unfold execOp;rw[ho];simp[resolve,invoke,builtin,hr]
   ·cases h
  ·cases h
 ·rename_i xt x k ok;split at h
  ·rename_i kt et hu;split at h
   ·rename_i tag zi xa xb ht hz hx hk;cases h;obtain ⟨z,hz1,hz2⟩:=dk5 (ρ:=ρ) (w:=w) hz;exact bj9.of (s:=Instr.lookup _ _ _ _) (fun o ho=>by unfold execOp; rw[ho]) (eq9 hu ht hz1 hz2 hs hv (aa6 hx hs hf) (aa6 hk hs hf))
   ·cases h
  ·cases h
 ·rename_i f args argTypes;split at h
  ·rename_i hok;split at h
   ·rename_i x y ha;split at h
    ·rename_i xa ya hx hy;cases h;obtain ⟨al⟩:=args;simp only at ha;subst ha;exact fk9 hok hx hy hv hs hf
    ·cases h
   ·cases h
  ·cases h
 ·cases h
end Go.Id
