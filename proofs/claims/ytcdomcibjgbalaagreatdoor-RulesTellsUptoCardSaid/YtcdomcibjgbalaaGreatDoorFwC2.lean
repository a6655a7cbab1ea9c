/- The rest of the quiet operations,and all of them as one function on ideal values. Conditions: none; over any program. -/
import Derived.Test.YtcdomcibjgbalaaGreatDoorFwB2
import Derived.Lib.Bytealg
import Derived.KernelRfl
open Option renaming some→za,none→zb,isSome_iff_exists→zj
open Array renaming getD_eq_getD_getElem?→zc
open List renaming getD_eq_getElem?_getD→zd,replicate→ze,mem_cons_self→zf,length_eq_zero_iff→zg,mem_cons_of_mem→zh,mem_of_find?_eq_some→zn,mem_cons→zo,map_cons→zp,replicate_succ→zu,zip_cons_cons→zv,find?_eq_none→zw
open Nat renaming add_assoc→zk,ble→zq,le_of_ble_eq_true→zt
open Bool renaming false_eq_true→zl,and_eq_true→zm
open ByteArray renaming mk→zx
set_option linter.all false
private theorem om{P:Prop}(h:P:=by omega):P:=h
namespace Go.Id
open Go
variable {P:Program} {w:World} {ρ:Rho}
theorem eh3 {t:TypeId}{fs:Array Field}(hu:P.underlying t=za (.struct fs)):∀k,aq2 P t=za k->∃n,k=za n:=by
 intro k hk;have:fe1 P t=za true:=by simp[fe1,hu]
 unfold aq2 at hk;rw[this] at hk
 cases hz:szT P t with
 | none=>rw[hz] at hk;cases hk
 | some n=>rw[hz] at hk;cases hk;exact ⟨n,rfl⟩
theorem by7:∀(d:Nat) (t:TypeId) (tags:List Nat),di5 P d t=za tags->kj8 P d t tags:=by
 intro d
 induction d with
 | zero=>intro t tags h;simp[di5] at h
 | succ d ih=>
  intro t tags h ρ w e x y rx ry b vx vy hk hb;simp only[di5] at h
  cases hu:P.underlying t with
  | none=>rw[hu] at h;cases h
  | some u=>
   rw[hu] at h;cases u<;>simp at h
   case bool=>
    subst h;rw[show aq2 P t=za zb from by simp[aq2,fe1,hu]] at hk;rw[IV.by2 hk.1,IV.by2 hk.2] at hb;obtain ⟨a,c,rfl,rfl,rfl⟩:=hr6 (da5 hb);cases vx;cases vy;rw[<- zk];simp[Op.equalIn,run_underlying hu]
   case int k=>
    subst h;rw[show aq2 P t=za zb from by simp[aq2,fe1,hu]] at hk;rw[IV.by2 hk.1,IV.by2 hk.2] at hb;obtain ⟨k,a,c,rfl,rfl,rfl⟩:=dx3 (da5 hb);cases vx;cases vy;rw[<- zk];simp[Op.equalIn,run_underlying hu,da3]
   case string=>
    subst h;rw[show aq2 P t=za zb from by simp[aq2,fe1,hu]] at hk;rw[IV.by2 hk.1,IV.by2 hk.2] at hb;obtain ⟨a,c,rfl,rfl,rfl⟩:=hr7 (da5 hb);cases vx;cases vy;rw[<- zk];simp[Op.equalIn,run_underlying hu,beq_toListBytes,fe2]
   case struct fs=>
    obtain ⟨hst,h⟩:=h;have hfo:P.fieldsOf t=fs:=by simp[Program.fieldsOf,hu]
    cases hlk:aq2 P t with
    | none=>rw[hlk] at hk;exact hk.elim
    | some k=>
     obtain ⟨n,rfl⟩:=eh3 hu k hlk;rw[hlk] at hk;obtain ⟨⟨xs,rfl⟩,⟨ys,rfl⟩⟩:=hk
     cases vx with
     | agg _ rxs hx vx=>
      cases vy with
      | agg _ rys hy vy=>
       simp only[IV.cs] at hb;rw[<- zk,run_equalIn_struct w (e+d) t rxs rys (by rw[hfo];exact hu) hst,hfo];exact di6 (λt tags h=>ih t tags h) hx hy vx vy fs.toList 0 tags b h (by simpa using hb)
   case array n e0=>
    split at h
    ·rename_i k hue;split at h
     ·rename_i hc;cases h;have hlk:aq2 P t=(szT P t).map za:=by simp[aq2,fe1,hu]
      cases hsz:szT P t with
      | none=>rw[hlk,hsz] at hk;exact hk.elim
      | some m=>
       rw[hlk,hsz] at hk;obtain ⟨⟨xs,rfl⟩,⟨ys,rfl⟩⟩:=hk
       cases vx with
       | agg _ rxs hx vx=>
        cases vy with
        | agg _ rys hy vy=>
         rw[<- zk];exact jl2 hu hue hc.1 om hx hy vx vy hb
     ·cases h
    ·cases h
def jl3 (tags:List Nat)(neg:Bool):IV->IV->Option IV
 | .agg xs,.agg ys=>(allEq tags xs ys).map λb=>.bool (b ^^ neg)
 | _,_=>zb
theorem eh4 {d:Nat}(hd:d<=10000){t:TypeId}{tags:List Nat}{n:Nat}{op:BinOp}{x y:Operand}{a b v:IV}{ra rb:Value}(ht:di5 P d t=za tags)(hl:aq2 P t=za (za n))
  (hm:P.eqGuardType P.depth t=false) (hop:op=.eql\/op=.neq) (h:jl3 tags (decide (op=.neq)) a b=za v) (ha:VR ρ w a ra) (hb:VR ρ w b rb) :
  ∃r,(do eqGuard op t x y ra rb;binOp op t ra rb:Sem Value).run P w=.ok r w/\VR ρ w v r:=by
 cases ha with
 | agg xs rxs hx vx=>
  cases hb with
  | agg ys rys hy vy=>
   simp only[jl3] at h
   cases hq:allEq tags xs ys with
   | none=>rw[hq] at h;cases h
   | some q=>
    rw[hq] at h;cases h;have he:=by7 d t tags ht ρ w (10000-d) (.agg xs) (.agg ys) (.agg rxs) (.agg rys) q (.agg xs rxs hx vx) (.agg ys rys hy vy) (by rw[hl];exact ⟨⟨_,rfl⟩,⟨_,rfl⟩⟩) hq
    rw[show 10000-d+d=10000 from by omega] at he;simp only[Sem.run_bind,run_eqGuard_agg w op t x y rxs rys hm,Result.andThen_ok];rcases hop with rfl|rfl
    ·rw[run_eql_struct,he];exact ⟨_,rfl,by simpa using VR.bool q⟩
    ·rw[run_neq_struct,he];exact ⟨_,rfl,by simpa using VR.bool (!q)⟩
  | _=>simp[jl3] at h
 | _=>simp[jl3] at h
def jl4:IV->Option IV
 | .bool b=>za (.bool (!b))
 | _=>zb
theorem gj5 {a v:IV}{ra:Value}(h:jl4 a=za v)(ha:VR ρ w a ra):∃r,(Op.unary .not ra).run P w=.ok r w/\VR ρ w v r:=by
 cases ha<;>simp[jl4] at h;subst h;exact ⟨_,rfl,.bool _⟩
def jl5:IV->Option IV
 | .int k n=>za (.int k (k.wrap (0-n)))
 | _=>zb
theorem gj6 {a v:IV}{ra:Value}(h:jl5 a=za v)(ha:VR ρ w a ra):∃r,(Op.unary .neg ra).run P w=.ok r w/\VR ρ w v r:=by
 cases ha<;>simp only[jl5] at h<;>cases h;exact ⟨_,rfl,.int _ _⟩
def gj7 (k:IntKind):IV->Option IV
 | .int _ n=>za (.int k (k.wrap n))
 | _=>zb
theorem fq7 {src dst:TypeId}{k:IntKind}{a v:IV}{ra:Value}{u:TypeDesc}(hs:P.underlying src=za u)(hd:P.underlying dst=za (.int k))(h:gj7 k a=za v)(ha:VR ρ w a ra) :
  ∃r,(convert src dst ra).run P w=.ok r w/\VR ρ w v r:=by
 cases ha<;>simp only[gj7] at h<;>cases h;exact ⟨_,by simp[convert,run_underlying hs,run_underlying hd,Conv.intToInt],.int _ _⟩
def eh5:IV->Option IV
 | .str s=>za (.str s)
 | _=>zb
theorem et1 {src dst:TypeId}{a v:IV}{ra:Value}{u:TypeDesc}(hs:P.underlying src=za u)(hd:P.underlying dst=za .string)(h:eh5 a=za v)(ha:VR ρ w a ra) :
  ∃r,(convert src dst ra).run P w=.ok r w/\VR ρ w v r:=by
 cases ha<;>simp only[eh5] at h<;>cases h;exact ⟨_,by simp[convert,run_underlying hs,run_underlying hd],.str _⟩
def eh6 (v:IV):Option IV :=
 match v with
 | .ab8 _=>za v
 | .ptr _ _=>za v
 | .func (.func _) _ _=>za v
 | .yield _=>za v
 | _=>zb
theorem fq8 {a v:IV}{o:Oper}{x:Operand}{ev:Operand->Value}(ho:o.op=.nilCheck x)
  (h:eh6 a=za v) (ha:VR ρ w a (ev x)):∃r,(execOp ev o).run P w=.ok (.value r) w/\VR ρ w v r:=by
 have key:∀r:Value,(∀q,ev x=q->(match q with|.pointer zb|.nilIface|.nilFunc=>False|.func (.method _) _ _=>False|_=>True))->ev x=r->(execOp ev o).run P w=.ok (.value r) w:=by
  intro r hq hr;have:=hq _ hr;unfold execOp;rw[ho];simp only[hr]
  cases r with
  | pointer p=>cases p<;>simp at this ⊢
  | func fn f c=>cases fn<;>simp at this ⊢
  | _=>first|rfl|simp at this
 generalize hev:ev x=r at ha
 cases ha with
 | ab8 cs b off vs hf hc hv=>
  cases h
  exact ⟨_,key _ (λq hq=>by rw[hev] at hq;subst hq;trivial) hev,.ab8 cs b off vs hf hc hv⟩
 | ptr id off B d hid=>cases h;exact ⟨_,key _ (λq hq=>by rw[hev] at hq;subst hq;trivial) hev,.ptr id off B d hid⟩
 | cx8 id off ad hid=>cases h;exact ⟨_,key _ (λq hq=>by rw[hev] at hq;subst hq;trivial) hev,.cx8 id off ad hid⟩
 | func fn first cap rf rc hy h1 h2 hf hc=>
  cases fn<;>simp[eh6] at h;subst h
  exact ⟨_,key _ (λq hq=>by rw[hev] at hq;subst hq;trivial) hev,.func _ first cap rf rc hy h1 h2 hf hc⟩
 | yield id B d hid=>cases h;exact ⟨_,key _ (λq hq=>by rw[hev] at hq;subst hq;trivial) hev,.yield id B d hid⟩
 | bc4 id B hid=>cases h;exact ⟨_,key _ (λq hq=>by rw[hev] at hq;subst hq;trivial) hev,.bc4 id B hid⟩
 | _=>simp[eh6] at h
end Go.Id
namespace Go.Id
open Go
variable {P:Program} {w:World} {ρ:Rho}
def cv1:Value->Option IV
 | .bool b=>za (.bool b)
 | .int k n=>za (.int k n)
 | .string s=>za (.str s.data.toList)
 | .pointer zb=>za .ae3
 | .slice zb 0 0=>za .aa1
 | .map zb=>za .ah7
 | .nilFunc=>za .ad7
 | .nilIface=>za .ah2
 | _=>zb
def cvL:List Value->Option (List IV)
 | []=>za []
 | v::vs=>match cv1 v,cvL vs with
  | some x,za xs=>za (x::xs)
  | _,_=>zb
def cv:Value->Option IV
 | .agg cs=>(cvL cs.toList).map .agg
 | v=>cv1 v
def cvs (v:Value):Option (List IV):=cvL v.cells.toList
theorem eh7 {v:Value}{x:IV}(h:cv1 v=za x):VR ρ w x v:=by
 unfold cv1 at h;split at h<;>cases h
 ·exact .bool _
 ·exact .int _ _
 ·rename_i s;exact .str _
 ·exact .ae3
 ·exact .aa1
 ·exact .ah7
 ·exact .ad7
 ·exact .ah2
theorem gj8 {vs:List Value}{xs:List IV}(h:cvL vs=za xs):xs.length=vs.length/\∀i,i<xs.length->VR ρ w (xs.getD i .undef) (vs.getD i undef):=by
 induction vs generalizing xs with
 | nil=>cases h;exact ⟨rfl,λi hi=>by simp at hi⟩
 | cons v vs ih=>
  simp only[cvL] at h;split at h
  ·rename_i x ys h1 h2;cases h;obtain ⟨hl,hv⟩:=ih h2;refine ⟨by simp[hl],λi hi=>?_⟩
   cases i with
   | zero=>simpa using eh7 h1
   | succ i=>simpa using hv i (by simpa using hi)
  ·cases h
theorem da6 {v:Value}{xs:List IV}(h:cvs v=za xs):xs.length=v.cells.size/\∀i,i<xs.length->VR ρ w (xs.getD i .undef) (v.cells.getD i undef):=by
 obtain ⟨hl,hv⟩:=gj8 (ρ:=ρ) (w:=w) h;refine ⟨by simpa using hl,λi hi=>?_⟩;have:=hv i hi
 simpa [zc,zd] using this
theorem fe3 {v:Value}{x:IV}(h:cv v=za x):VR ρ w x v:=by
 unfold cv at h;split at h
 ·rename_i cs
  cases hc:cvL cs.toList with
  | none=>rw[hc] at h;cases h
  | some xs=>
   rw[hc] at h;cases h;obtain ⟨hl,hv⟩:=da6 (ρ:=ρ) (w:=w) (v:=.agg cs) (xs:=xs) (by simpa [cvs,Value.cells] using hc);exact .agg _ _ (by simpa [Value.cells] using hl) hv
 ·exact eh7 h
def CR (ρ:Rho)(w:World)(xs:List IV)(rs:Array Value):Prop:=xs.length=rs.size/\∀i,i<xs.length->VR ρ w (xs.getD i .undef) (rs.getD i undef)
def IV.leaf:IV->Bool
 | .undef|.agg _|.tuple _=>false
 | _=>true
theorem dx4 {r:Value}(h:r.oneCell'=true):r.cells=#[r]:=by
 cases r<;>first|rfl|simp[Value.oneCell'] at h
theorem cx9 {v:IV}{r:Value}(h:v.leaf=true)(hv:VR ρ w v r):r.oneCell'=true/\r.cells=#[r]:=by
 have:r.oneCell'=true:=by
  cases hv<;>first|rfl|assumption|(simp[IV.leaf] at h;done)
 exact ⟨this,dx4 this⟩
theorem by8 {v:IV}{r:Value}(hv:VR ρ w v r)(hk:v.cs.all IV.leaf=true):CR ρ w v.cs r.cells/\∀x∈r.cells.toList,x.oneCell'=true:=by
 by_cases ha:∃zs,v=.agg zs
 ·obtain ⟨zs,rfl⟩:=ha
  cases hv with
  | agg _ rs h1 h2=>
   refine ⟨⟨h1,h2⟩,λx hx=>?_⟩;obtain ⟨i,hi,rfl⟩:=List.mem_iff_getElem.1 hx;simp[Value.cells] at hi;have hi':i<zs.length:=om
   have hl:(zs.getD i .undef).leaf=true:=by
    have:=List.all_eq_true.1 hk zs[i] (List.getElem_mem _)
    simpa [zd,hi'] using this
   have:=(cx9 hl (h2 i hi')).1;rw[ae4 _ _ _ hi] at this
   simpa [Value.cells] using this
 ·have hn:∀zs,v≠.agg zs:=λzs h=>ha ⟨zs,h⟩
  rw[IV.by2 hn] at hk ⊢;have hl:v.leaf=true:=by simpa using hk
  obtain ⟨h1,h2⟩:=cx9 hl hv;rw[h2];refine ⟨⟨rfl,λi hi=>?_⟩,λx hx=>?_⟩
  ·simp at hi;subst hi;simpa using hv
  ·simp at hx;subst hx;exact h1
def be4 (l:List IV)(off:Nat)(vs:List IV):List IV:=l.take off++vs++l.drop (off+vs.length)
theorem ah3 {l:List IV}{off:Nat}{vs:List IV}(h:off+vs.length<=l.length):(be4 l off vs).length=l.length:=by
 unfold be4;simp;omega
theorem eh8 {l:List IV}{off:Nat}{vs:List IV}(h:off+vs.length<=l.length)(i:Nat)(d:IV) :
  (be4 l off vs).getD i d=if off<=i/\i<off+vs.length then vs.getD (i-off) d else l.getD i d:=by
 unfold be4;simp only[zd,List.getElem?_append,List.length_append,List.length_take,List.getElem?_take,List.getElem?_drop];have h1:min off l.length=off:=om;rw[h1];by_cases c1:i<off+vs.length
 ·by_cases c2:i<off
  ·simp[c1,c2,Nat.not_le.2 c2]
  ·simp[c1,c2,Nat.not_lt.1 c2]
 ·have c2:¬(i<off):=om;simp only[c1,if_false,and_false];congr 2;omega
theorem gj9 (off:Nat):∀(vs:List Value) (k:Nat) (cells:Array Value),
  ((vs.zipIdx k).foldl (λcs (c,j)=>cs.setIfInBounds (off+j) c) cells).size=cells.size /\
  ∀i d,off+k+vs.length<=cells.size->((vs.zipIdx k).foldl (λcs (c,j)=>cs.setIfInBounds (off+j) c) cells).getD i d =
   if off+k<=i/\i<off+k+vs.length then vs.getD (i-(off+k)) d else cells.getD i d:=by
 intro vs
 induction vs with
 | nil=>intro k cells;exact ⟨rfl,λi d h=>by simp;intro h1 h2;omega⟩
 | cons v vs ih=>
  intro k cells;simp only[List.zipIdx_cons,List.foldl_cons];obtain ⟨h1,h2⟩:=ih (k+1) (cells.setIfInBounds (off+k) v);refine ⟨by rw[h1];simp,λi d h=>?_⟩;simp at h;rw[h2 i d (by simp;omega)];by_cases c1:off+k<=i/\i<off+k+(v::vs).length
  ·obtain ⟨ca,cb⟩:=c1;simp at cb;by_cases c2:i=off+k
   ·subst c2;have hlt:off+k<cells.size:=om;have c3:¬(off+(k+1)<=off+k):=om;simp[c3,zc,hlt]
   ·have c3:off+(k+1)<=i/\i<off+(k+1)+vs.length:=om;have c4:off+k<=i/\i<off+k+(v::vs).length:=by simp;omega
    rw[if_pos c3,if_pos c4];have:i-(off+k)=(i-(off+(k+1)))+1:=om;rw[this];simp
  ·have c3:¬(off+(k+1)<=i/\i<off+(k+1)+vs.length):=by simp at c1;omega
   rw[if_neg c3,if_neg c1];have c2:off+k≠i:=by simp at c1;omega
   simp[zc,Array.getElem?_setIfInBounds,c2]
def at7:List IV->List (Nat×Nat×IV)->Option (List IV)
 | cells,[]=>za cells
 | cells,(off,size,v)::rest=>if v.cs.length=size/\off+size<=cells.length/\v.cs.all IV.leaf=true then at7 (be4 cells off v.cs) rest else zb
theorem ci9 {place:Nat->Option (Nat×Nat)}:∀(ips:List (Nat×Nat×IV)) (rps:List (Nat×Value)) (cells out:List IV) (rcells:Array Value),CR ρ w cells rcells ->
  ips.length=rps.length->(∀j,j<ips.length->place (rps.getD j (0,undef)).1=za ((ips.getD j (0,0,.undef)).1,(ips.getD j (0,0,.undef)).2.1)/\VR ρ w (ips.getD j (0,0,.undef)).2.2 (rps.getD j (0,undef)).2) ->
  at7 cells ips=za out->∃rout,Instr.fill place rcells rps=za rout/\CR ρ w out rout:=by
 intro ips
 induction ips with
 | nil=>
  intro rps cells out rcells hc hl hp h
  cases rps with
  | nil=>cases h;exact ⟨rcells,rfl,hc⟩
  | cons _ _=>simp at hl
 | cons ip ips ih=>
  intro rps cells out rcells hc hl hp h;obtain ⟨off,size,v⟩:=ip
  cases rps with
  | nil=>simp at hl
  | cons rp rps=>
   obtain ⟨i,r⟩:=rp;simp only[at7] at h;split at h
   case isFalse=>cases h
   rename_i hh;obtain ⟨h1,h2,h3⟩:=hh;obtain ⟨hp0,hv0⟩:=hp 0 (by simp);simp at hp0 hv0;obtain ⟨⟨c1,c2⟩,c3⟩:=by8 hv0 h3
   have hs:r.cells.size=size:=om;have hcs:rcells.size=cells.length:=hc.1.symm;obtain ⟨f1,f2⟩:=gj9 off r.cells.toList 0 rcells
   have hfold:r.cells.zipIdx.foldl (λcs (c,j)=>cs.setIfInBounds (off+j) c) rcells=(r.cells.toList.zipIdx 0).foldl (λcs (c,j)=>cs.setIfInBounds (off+j) c) rcells:=by
    rw[<- Array.foldl_toList];simp
   refine (ih rps (be4 cells off v.cs) out (r.cells.zipIdx.foldl (λcs (c,j)=>cs.setIfInBounds (off+j) c) rcells) ⟨?_,λj hj=>?_⟩ (by simpa using hl) (λj hj=>by simpa using hp (j+1) (by simpa using hj)) h).imp λrout ho=>⟨?_,ho.2⟩
   ·rw[hfold,f1,ah3 om];exact hc.1
   ·rw[ah3 om] at hj;rw[eh8 om,hfold,f2 j undef (by simp;omega)];simp only[Nat.add_zero,Array.length_toList];rw[hs,h1];split
    ·rename_i hj';have:=c2 (j-off) om
     simpa [zc,zd] using this
    ·exact hc.2 j hj
   ·simp only[Instr.fill,hp0];rw[if_neg (by simp;omega)];exact ho.1
end Go.Id
namespace Go.Id
open Go
variable {P:Program} {w:World} {ρ:Rho} {E:Nat->IV} {σ:Store}
def cb9 (σ:Store):IV->Option (List (IV×IV))
 | .ah7=>za []
 | .al4 es=>za es
 | .map id=>match σ.obj id with
  | some (.map es)=>za es
  | _=>zb
 | _=>zb
def ao8 (tag:Nat)(x y:IV):Option Bool :=
 match zq 3 tag with
 | true=>match x with
  | .agg xs=>match y with
   | .agg ys=>allEq (ze (tag-3) 1) xs ys
   | _=>zb
  | _=>zb
 | false=>ak4 tag x y
def kOK (tag:Nat)(k:IV):Bool :=
 match zq 3 tag with
 | true=>(ao8 tag k k).isSome
 | false=>true
def ay9 (tag:Nat)(k:IV):List (IV×IV)->Option (Option IV)
 | []=>match kOK tag k with
  | true=>za zb
  | false=>zb
 | e::es=>match ao8 tag k e.1 with
  | some true=>za (za e.2)
  | some false=>ay9 tag k es
  | none=>zb
def cj1 (σ:Store)(tag:Nat)(zero:IV)(ok:Bool)(x k:IV):Option IV :=
 match cb9 σ x with
 | some es=>match ay9 tag k es with
  | some r=>za (if ok then .tuple [r.getD zero,.bool r.isSome] else r.getD zero)
  | none=>zb
 | none=>zb
def et2:Option TypeDesc->Option Nat
 | some .bool=>za 0
 | some (.int _)=>za 1
 | some .string=>za 2
 | _=>zb
def kb1 (P:Program)(t:TypeId):Bool:=match P.underlying t with
 | some (.int _)=>true
 | _=>false
def ho9 (P:Program)(kt:TypeId):Option Nat :=
 match P.underlying kt with
 | some (.struct fs)=>match di5 P 30 kt,aq2 P kt with
  | some tags, za (za _) => if tags = ze tags.length 1 ∧ fs.toList.all (fun f => f.name != "_" && kb1 P f.type && decide (f.offset < tags.length)) = true then za (tags.length + 3) else zb
  | _,_=>zb
 | d=>et2 d
theorem dl1 {kt:TypeId}{tag:Nat}(h:ho9 P kt=za tag):∃d,P.underlying kt=za d/\((et2 (za d)=za tag/\tag<3) \/
  (∃ fs n m, d = .struct fs ∧ tag = n + 3 ∧ di5 P 30 kt = za (ze n 1) ∧ aq2 P kt = za (za m) ∧ ∀ f ∈ fs.toList, f.name ≠ "_" ∧ kb1 P f.type = true ∧ f.offset < n)) := by
 unfold ho9 at h;split at h
 ·rename_i fs hu;refine ⟨_,hu,.inr ?_⟩;split at h
  ·rename_i tags m hf hl;split at h
   ·rename_i hc;cases h;refine ⟨fs,tags.length,m,rfl,rfl,by rw[hf];exact congrArg za hc.1,hl,λf hf=>?_⟩;have:=List.all_eq_true.1 hc.2 f hf;simp only[zm,bne_iff_ne,ne_eq,decide_eq_true_eq] at this;exact ⟨this.1.1,this.1.2,this.2⟩
   ·cases h
  ·cases h
 ·cases hu:P.underlying kt with
  | none=>rw[hu] at h;cases h
  | some d=>
   rw[hu] at h;refine ⟨d,rfl,.inl ⟨h,?_⟩⟩;cases d<;>simp only[et2] at h<;>cases h<;>decide
theorem kb2 {n:Nat}:zq 3 (n+3)=true:=Nat.ble_eq_true_of_le om
theorem cc1 {tag:Nat}(h:tag<3)(x y:IV):ao8 tag x y=ak4 tag x y:=by
 unfold ao8
 cases hb:zq 3 tag with
 | false=>rfl
 | true=>have:=zt hb;omega
theorem bo4 {n:Nat}{x y:IV}{b:Bool}(h:ao8 (n+3) x y=za b):∃xs ys,x=.agg xs/\y=.agg ys/\allEq (ze n 1) xs ys=za b:=by
 unfold ao8 at h;rw[kb2] at h;simp only at h;split at h
 ·split at h
  ·exact ⟨_,_,rfl,rfl,h⟩
  ·cases h
 ·cases h
theorem br9:∀ {n:Nat} {xs ys:List IV} {b:Bool},allEq (ze n 1) xs ys=za b ->
  ∃(ks:List IntKind) (as bs:List Int),ks.length=n/\as.length=n/\bs.length=n/\xs=(ks.zip as).map (λp=>IV.int p.1 p.2)/\ys=(ks.zip bs).map (λp=>IV.int p.1 p.2)/\b=decide (as=bs):=by
 intro n
 induction n with
 | zero=>
  intro xs ys b h;have:=allEq_len h;simp at this;obtain ⟨rfl,rfl⟩:=this;simp[allEq] at h
  exact ⟨[],[],[],rfl,rfl,rfl,rfl,rfl,by simp[h]⟩
 | succ n ih=>
  intro xs ys b h;rw[zu] at h
  cases xs with
  | nil=>simp[allEq] at h
  | cons x xs=>
   cases ys with
   | nil=>simp[allEq] at h
   | cons y ys=>
    simp only[allEq] at h;split at h
    ·rename_i a c h1 h2;cases h;obtain ⟨k,p,q,rfl,rfl,rfl⟩:=dx3 h1;obtain ⟨ks,as,bs,l1,l2,l3,rfl,rfl,rfl⟩:=ih h2;refine ⟨k::ks,p::as,q::bs,by simp[l1],by simp[l2],by simp[l3],rfl,rfl,?_⟩;by_cases e1:p=q<;>by_cases e2:as=bs<;>simp[e1,e2]
    ·cases h
theorem dl2:∀(ks:List IntKind) (as bs:List Int),as.length=ks.length->bs.length=ks.length->allEq (ze ks.length 1) ((ks.zip as).map λp=>IV.int p.1 p.2) ((ks.zip bs).map λp=>IV.int p.1 p.2)=za (decide (as=bs)):=by
 intro ks
 induction ks with
 | nil=>
  intro as bs h1 h2;cases as<;>cases bs<;>simp at h1 h2
  simp[allEq]
 | cons k ks ih=>
  intro as bs h1 h2
  cases as with
  | nil=>simp at h1
  | cons a as=>
   cases bs with
   | nil=>simp at h2
   | cons b bs=>
    simp only[List.length_cons,zu,zv,zp,allEq,ak4,if_true];rw[ih as bs (by simpa using h1) (by simpa using h2)];by_cases e1:a=b<;>by_cases e2:as=bs<;>simp[e1,e2]
theorem ip3 {tag:Nat}{k e:IV}{b:Bool}(h:ao8 tag k e=za b):kOK tag k=true:=by
 unfold kOK
 cases hb:zq 3 tag with
 | false=>rfl
 | true=>
  have h3:=zt hb;obtain ⟨n,rfl⟩:∃n,tag=n+3:=⟨tag-3,om⟩;obtain ⟨xs,ys,rfl,rfl,h1⟩:=bo4 h;obtain ⟨ks,as,bs,l1,l2,l3,rfl,rfl,rfl⟩:=br9 h1;have:=dl2 ks as as om om;rw[l1] at this;simp[ao8,this,hb]
theorem fe4 {tag:Nat}{k:IV}{es:List (IV×IV)}{r:Option IV}(h:ay9 tag k es=za r):kOK tag k=true:=by
 cases es with
 | nil=>
  simp only[ay9] at h;split at h
  ·assumption
  ·cases h
 | cons e es=>
  simp only[ay9] at h
  cases hq:ao8 tag k e.1 with
  | none=>rw[hq] at h;cases h
  | some b=>exact ip3 hq
theorem ip4 (s t:List UInt8):(zx s.toArray==zx t.toArray)=decide (s=t):=by
 show (s.toArray==t.toArray)=_;by_cases h:s=t<;>simp[h]
def EsR (ρ:Rho)(w:World)(es:List (IV×IV))(mes:List MapEntry):Prop :=
 es.length=mes.length/\∀i,i<es.length->VR ρ w (es.getD i (.undef,.undef)).1 (mes.getD i default).key/\VR ρ w (es.getD i (.undef,.undef)).2 (mes.getD i default).val
theorem cj3 {d:TypeDesc}{tag:Nat}{x y:IV}{rx ry:Value}{b:Bool}(ht:et2 (za d)=za tag)(h:ak4 tag x y=za b)(hx:VR ρ w x rx)(hy:VR ρ w y ry):Instr.sameNow d rx ry=za b:=by
 cases d<;>simp only[et2] at ht<;>cases ht<;>cases x<;>cases y<;>simp only[ak4] at h<;>first|cases h;done|skip
 ·cases hx;cases hy;cases h;rfl
 ·cases hx;cases hy;simp only[Instr.sameNow];split at h
  ·cases h;rename_i e;simp[e,da3]
  ·cases h
 ·cases hx;cases hy;cases h;rename_i s t;simp only[Instr.sameNow,ip4]
theorem di7 {fs:Array Field}{x y:Value}:Instr.sameNow (.struct fs) x y=zb:=by unfold Instr.sameNow;split<;>first|rfl|contradiction
def EqK (P:Program)(kt:TypeId)(tag:Nat):Prop:=∀(ρ:Rho) (w:World) (x y:IV) (rx ry:Value) (b:Bool),ao8 tag x y=za b->VR ρ w x rx->VR ρ w y ry->(Op.equal kt rx ry).run P w=.ok b w
theorem fq9 {kt:TypeId}{n m:Nat}(hf:di5 P 30 kt=za (ze n 1))(hl:aq2 P kt=za (za m)):EqK P kt (n+3):=by
 intro ρ w x y rx ry b h hx hy;obtain ⟨xs,ys,rfl,rfl,h1⟩:=bo4 h;have he:=by7 30 kt _ hf ρ w (10000-30) (.agg xs) (.agg ys) rx ry b hx hy (by rw[hl];exact ⟨⟨_,rfl⟩,⟨_,rfl⟩⟩) h1
 exact he
theorem dx5 {kt:TypeId}{tag:Nat}{k:IV}{rk:Value}(ht:ho9 P kt=za tag)(hk:VR ρ w k rk):∀(es:List (IV×IV)) (mes:List MapEntry),EsR ρ w es mes ->
  ∀(r:Option Nat),(r=zb->∀e∈es,ao8 tag k e.1=za false)->(∀j,r=za j->j<es.length/\ao8 tag k (es.getD j (.undef,.undef)).1=za true/\∀i,i<j->ao8 tag k (es.getD i (.undef,.undef)).1=za false) ->
  (Instr.findKey kt rk mes).run P w=.ok (r.map λj=>(j,(mes.getD j default).val)) w:=by
 obtain ⟨d,hu,hd⟩:=dl1 ht
 have now:∀(es:List (IV×IV)) (mes:List MapEntry) (i0:Nat),tag<3->et2 (za d)=za tag->EsR ρ w es mes->∀(r:Option Nat),(r=zb->∀e∈es,ao8 tag k e.1=za false)->(∀j,r=za j->j<es.length/\ao8 tag k (es.getD j (.undef,.undef)).1=za true/\∀i,i<j->ao8 tag k (es.getD i (.undef,.undef)).1=za false) ->
   Instr.findNow d rk mes i0=za (r.map λj=>(i0+j,(mes.getD j default).val)):=by
  intro es
  induction es with
  | nil=>
   intro mes i0 _ _ he r h1 h2;have:mes=[]:=zg.1 he.1.symm;subst this
   cases r with
   | none=>rfl
   | some j=>exact absurd (h2 j rfl).1 (by simp)
  | cons e es ih=>
   intro mes i0 h3 hto he r h1 h2
   cases mes with
   | nil=>exact absurd he.1 (by simp)
   | cons m mes=>
    have h0:=he.2 0 (by simp);simp at h0;have he':EsR ρ w es mes:=⟨by have:=he.1;simpa using this,λj hj=>by have:=he.2 (j+1) (by simp;omega);simpa using this⟩
    cases r with
    | none=>
     have hq:=h1 rfl e (zf ..);rw[cc1 h3] at hq;simp only[Instr.findNow,cj3 hto hq hk h0.1];have:=ih mes (i0+1) h3 hto he' zb (λ_ e he=>h1 rfl e (zh _ he)) (λj hj=>by cases hj)
     simpa using this
    | some j=>
     obtain ⟨g1,g2,g3⟩:=h2 j rfl
     cases j with
     | zero=>
      simp at g2;rw[cc1 h3] at g2
      simp[Instr.findNow,cj3 hto g2 hk h0.1]
     | succ j=>
      have hq:=g3 0 om;simp at hq;rw[cc1 h3] at hq;simp only[Instr.findNow,cj3 hto hq hk h0.1]
      have:=ih mes (i0+1) h3 hto he' (za j) (λh=>by cases h) (λj' hj'=>by
       cases hj';refine ⟨by simpa using g1,by simpa using g2,λi hi=>?_⟩;have:=g3 (i+1) om
       simpa using this)
      rw[this];simp;omega
 have ask:∀(es:List (IV×IV)) (mes:List MapEntry) (i0:Nat),EqK P kt tag->EsR ρ w es mes->∀(r:Option Nat),(r=zb->∀e∈es,ao8 tag k e.1=za false)->(∀j,r=za j->j<es.length/\ao8 tag k (es.getD j (.undef,.undef)).1=za true/\∀i,i<j->ao8 tag k (es.getD i (.undef,.undef)).1=za false) ->
   (Instr.findAsking kt rk mes i0).run P w=.ok (r.map λj=>(i0+j,(mes.getD j default).val)) w:=by
  intro es
  induction es with
  | nil=>
   intro mes i0 _ he r h1 h2;have:mes=[]:=zg.1 he.1.symm;subst this
   cases r with
   | none=>simp[Instr.findAsking]
   | some j=>exact absurd (h2 j rfl).1 (by simp)
  | cons e es ih=>
   intro mes i0 hE he r h1 h2
   cases mes with
   | nil=>exact absurd he.1 (by simp)
   | cons m mes=>
    have h0:=he.2 0 (by simp);simp at h0;have he':EsR ρ w es mes:=⟨by have:=he.1;simpa using this,λj hj=>by have:=he.2 (j+1) (by simp;omega);simpa using this⟩
    cases r with
    | none=>
     have hq:=h1 rfl e (zf ..);have hr:=hE ρ w k e.1 rk m.key false hq hk h0.1;have:=ih mes (i0+1) hE he' zb (λ_ e he=>h1 rfl e (zh _ he)) (λj hj=>by cases hj);simp only[Instr.findAsking,Sem.run_bind,hr,Result.andThen_ok]
     simpa using this
    | some j=>
     obtain ⟨g1,g2,g3⟩:=h2 j rfl
     cases j with
     | zero=>
      simp at g2;have hr:=hE ρ w k e.1 rk m.key true g2 hk h0.1
      simp[Instr.findAsking,hr]
     | succ j=>
      have hq:=g3 0 om;simp at hq;have hr:=hE ρ w k e.1 rk m.key false hq hk h0.1
      have:=ih mes (i0+1) hE he' (za j) (λh=>by cases h) (λj' hj'=>by
       cases hj';refine ⟨by simpa using g1,by simpa using g2,λi hi=>?_⟩;have:=g3 (i+1) om
       simpa using this)
      simp only[Instr.findAsking,Sem.run_bind,hr,Result.andThen_ok];simp only[zl,if_false];rw[this];simp;omega
 intro es mes he r h1 h2;rcases hd with ⟨hto,h3⟩|⟨fs,n,m,rfl,rfl,hf,hl,_⟩
 ·have:=now es mes 0 h3 hto he r h1 h2;simp only[Instr.findKey,Sem.run_bind,run_underlying hu,Result.andThen_ok,this];simp
 ·have hE:=fq9 (P:=P) hf hl
  cases mes with
  | nil=>
   have hes:es=[]:=zg.1 he.1;subst hes
   cases r with
   | none=>simp[Instr.findKey,run_underlying hu,Instr.findNow]
   | some j=>exact absurd (h2 j rfl).1 (by simp)
  | cons m mes=>
   have:=ask es (m::mes) 0 hE he r h1 h2;simp only[Instr.findKey,Sem.run_bind,run_underlying hu,Result.andThen_ok,Instr.findNow,di7];rw[this];simp
theorem hr8 {tag:Nat}{k:IV}:∀(es:List (IV×IV)) (r:Option IV),ay9 tag k es=za r->∃q:Option Nat,(q=zb->∀e∈es,ao8 tag k e.1=za false)/\(∀j,q=za j->j<es.length/\ao8 tag k (es.getD j (.undef,.undef)).1=za true/\∀i,i<j->ao8 tag k (es.getD i (.undef,.undef)).1=za false) /\
  r=q.map λj=>(es.getD j (.undef,.undef)).2:=by
 intro es
 induction es with
 | nil=>
  intro r h;refine ⟨zb,(λ_ e he=>by cases he),(λj hj=>by cases hj),?_⟩;simp only[ay9] at h;split at h<;>cases h
  rfl
 | cons e es ih=>
  intro r h;simp only[ay9] at h
  cases hq:ao8 tag k e.1 with
  | none=>rw[hq] at h;cases h
  | some b=>
   rw[hq] at h
   cases b with
   | true=>cases h;exact ⟨za 0,(λh=>by cases h),(λj hj=>by cases hj;exact ⟨by simp,by simpa using hq,λi hi=>absurd hi (Nat.not_lt_zero _)⟩),rfl⟩
   | false=>
    obtain ⟨q,h1,h2,h3⟩:=ih r h;refine ⟨q.map (·+1),λh=>?_,λj hj=>?_,?_⟩
    ·cases q with
     | none=>intro x hx;rcases zo.1 hx with rfl|hx;exact hq;exact h1 rfl x hx
     | some j=>cases h
    ·cases q with
     | none=>cases hj
     | some j0=>
      cases hj;obtain ⟨g1,g2,g3⟩:=h2 j0 rfl;refine ⟨by simpa using g1,by simpa using g2,λi hi=>?_⟩;have hi:i<j0+1:=hi
      cases i with
      | zero=>simpa using hq
      | succ i=>have:=g3 i om;simpa using this
    ·rw[h3];cases q<;>simp
theorem cu1 {kt:TypeId}{tag:Nat}{b:Bool}{k:IV}{rk:Value}(ht:ho9 P kt=za tag)(hok:kOK tag k=true)(hk:VR ρ w k rk):(Instr.checkKey b 10000 kt rk).run P w=.ok () w:=by
 obtain ⟨d,hu,hd⟩:=dl1 ht;rcases hd with ⟨hto,h3⟩|⟨fs,n,m,rfl,rfl,hf,hl,hfs⟩
 ·unfold Instr.checkKey;cases d<;>simp only[et2] at hto<;>cases hto<;>simp[run_underlying hu]
 ·unfold kOK at hok;rw[kb2] at hok;simp only at hok;obtain ⟨bb,hb⟩:=zj.1 hok;obtain ⟨xs,ys,rfl,hys,h1⟩:=bo4 hb;cases hys;obtain ⟨ks,as,bs,l1,l2,l3,hxs,hys,rfl⟩:=br9 h1
  cases hk with
  | agg _ rxs hx vx=>
   rw[show (10000:Nat)=9999+1 from rfl,Instr.checkKey];simp only[Sem.run_bind,run_underlying hu,Result.andThen_ok];rw[<- Array.forIn_toList];have hxl:xs.length=n:=by rw[hxs];simp[l1,l2]
   generalize fs.toList=L at hfs
   induction L with
   | nil=>simp
   | cons f L ih=>
    obtain ⟨hn,hi,ho⟩:=hfs f (zf ..)
    have hint:∃kk,P.underlying f.type=za (.int kk):=by
     unfold kb1 at hi;split at hi
     ·rename_i kk hkk;exact ⟨kk,hkk⟩
     ·cases hi
    obtain ⟨kk,hkk⟩:=hint;have hag:aq2 P f.type=za zb:=by simp[aq2,fe1,hkk]
    have hfo:f.offset<xs.length:=om;obtain ⟨px,r1,v1⟩:=aw8 (P:=P) (off:=f.offset) (v:=xs[f.offset]) hag (by simp[bh5,hfo]) hx vx
    have p2:(Instr.checkKey b 9999 f.type px).run P w=.ok () w:=by
     unfold Instr.checkKey;simp[run_underlying hkk]
    simp only[List.forIn_cons,Sem.run_bind,hn,ne_eq,not_false_eq_true,if_true,Result.andThen_ok,r1,p2,Sem.run_pure];exact ih λf hf=>hfs f (zh _ hf)
open Classical in
theorem fr3 {tag:Nat}{k a b:IV}{K:KK}{r:Bool}(h:ak4 tag k a=za r)(ha:dx2 K a)(hb:dx2 K b):ak4 tag k b=za (decide (k=b)):=by
 unfold ak4 at h;split at h
 ·cases K<;>cases ha
 ·cases K with
  | int K=>
   simp only[dx2] at ha;cases b<;>simp only[dx2] at hb;split at h
   ·rename_i hk;subst ha;subst hb;subst hk;simp[ak4]
   ·cases h
  | _=>cases ha
 ·cases K with
  | str=>cases b<;>first|(cases hb;done)|simp[ak4]
  | _=>cases ha
 ·cases h
theorem hr9:∀(ks:List IntKind) (cs:List IV),cs.length=ks.length->(∀i,i<cs.length->∃n,cs.getD i .undef=.int (ks.getD i .i64) n)->∃as:List Int,as.length=ks.length/\cs=(ks.zip as).map λp=>IV.int p.1 p.2:=by
 intro ks
 induction ks with
 | nil=>intro cs h _;exact ⟨[],rfl,by simpa using h⟩
 | cons k ks ih=>
  intro cs h hc
  cases cs with
  | nil=>simp at h
  | cons c cs=>
   obtain ⟨n,hn⟩:=hc 0 (by simp);simp at hn;obtain ⟨as,h1,h2⟩:=ih cs (by simpa using h) (λi hi=>by have:=hc (i+1) (by simp;omega);simpa using this);exact ⟨n::as,by simp[h1],by rw[hn,h2];rfl⟩
theorem iw7:∀(ks:List IntKind) (as bs:List Int),as.length=ks.length->bs.length=ks.length->((ks.zip as).map λp=>IV.int p.1 p.2)=((ks.zip bs).map λp=>IV.int p.1 p.2)->as=bs:=by
 intro ks
 induction ks with
 | nil=>intro as bs h1 h2 _;cases as<;>cases bs<;>simp at h1 h2 ⊢
 | cons k ks ih=>
  intro as bs h1 h2 h
  cases as with
  | nil=>simp at h1
  | cons a as=>
   cases bs with
   | nil=>simp at h2
   | cons b bs=>
    simp only[zv,zp,List.cons.injEq,IV.int.injEq,true_and] at h;rw[h.1,ih as bs (by simpa using h1) (by simpa using h2) h.2]
theorem gk1:∀(ks ks':List IntKind) (as bs:List Int),as.length=ks.length->bs.length=ks'.length->ks.length=ks'.length->(∀i,i<ks.length->∃n,((ks.zip as).map λp=>IV.int p.1 p.2).getD i .undef=.int (ks'.getD i .i64) n)->ks=ks':=by
 intro ks
 induction ks with
 | nil=>intro ks' as bs _ _ h _;exact (zg.1 h.symm).symm
 | cons k ks ih=>
  intro ks' as bs h1 h2 h hc
  cases ks' with
  | nil=>simp at h
  | cons k' ks'=>
   cases as with
   | nil=>simp at h1
   | cons a as=>
    cases bs with
    | nil=>simp at h2
    | cons b bs=>
     obtain ⟨n,hn⟩:=hc 0 (by simp);simp at hn;rw[hn.1,ih ks' as bs (by simpa using h1) (by simpa using h2) (by simpa using h) (λi hi=>by have:=hc (i+1) (by simp;omega);simpa using this)]
open Classical in
theorem gk2 {tag:Nat}{k a b:IV}{K:KK}{r:Bool}(h:ao8 tag k a=za r)(ha:dx2 K a)(hb:dx2 K b):ao8 tag k b=za (decide (k=b)):=by
 by_cases h3:tag<3
 ·rw[cc1 h3] at h ⊢;exact fr3 h ha hb
 ·obtain ⟨n,rfl⟩:∃n,tag=n+3:=⟨tag-3,om⟩;obtain ⟨xs,ys,rfl,rfl,h1⟩:=bo4 h;obtain ⟨ks,as,bs,l1,l2,l3,rfl,rfl,rfl⟩:=br9 h1
  cases K with
  | agg ks'=>
   simp only[dx2] at ha;have e1:ks=ks':=gk1 ks ks' bs (ze ks'.length 0) om (by simp) (by have:=ha.1;simp at this;omega) (λi hi=>ha.2 i (by simp;omega));subst e1
   cases b with
   | agg cs=>
    simp only[dx2] at hb;obtain ⟨cs',c1,rfl⟩:=hr9 ks cs hb.1 hb.2;have:=dl2 ks as cs' om c1;rw[l1] at this;unfold ao8;rw[kb2];simp only[Nat.add_sub_cancel,this];congr 1;by_cases e:as=cs'
    ·subst e;simp
    ·have:¬(IV.agg ((ks.zip as).map λp=>IV.int p.1 p.2)=IV.agg ((ks.zip cs').map λp=>IV.int p.1 p.2)):=λh=>e (iw7 ks as cs' om c1 (IV.agg.inj h))
     simp only[e,this,decide_false]
   | _=>cases hb
  | _=>cases ha
open Classical in
theorem eh9 {tag:Nat}{k:IV}(hok:kOK tag k=true):∀(es:List (IV×IV)),(∀e∈es,ao8 tag k e.1=za (decide (k=e.1)))->ay9 tag k es=za ((es.find? λe=>decide (k=e.1)).map (·.2)):=by
 intro es
 induction es with
 | nil=>intro _;simp only[ay9,hok];rfl
 | cons e es ih=>
  intro h;simp only[ay9,h e (zf ..),List.find?_cons];by_cases hk:k=e.1
  ·simp[hk]
  ·simp only[hk,decide_false];exact ih λx hx=>h x (zh _ hx)
open Classical in
theorem gk3 {k:IV}{es es':List (IV×IV)}(hp:es'.Perm es)(hn:(es.map (·.1)).Nodup):(es'.find? λe=>decide (k=e.1))=es.find? λe=>decide (k=e.1):=by
 cases h:es.find? λe=>decide (k=e.1) with
 | none=>
  rw[zw] at h ⊢
  exact λx hx=>h x (hp.subset hx)
 | some e=>
  have he:=zn h;have hk:k=e.1:=by simpa using List.find?_some h
  cases h':es'.find? λe=>decide (k=e.1) with
  | none=>
   rw[zw] at h'
   exact absurd hk (by simpa using h' e (hp.symm.subset he))
  | some e'=>
   have he':=hp.subset (zn h');have hk':k=e'.1:=by simpa using List.find?_some h'
   congr 1
   have inj:∀(l:List (IV×IV)),(l.map (·.1)).Nodup->∀x∈l,∀y∈l,x.1=y.1->x=y:=by
    intro l
    induction l with
    | nil=>intro _ x hx;cases hx
    | cons a l ih=>
     intro hn x hx y hy hxy;simp only[zp,List.nodup_cons] at hn;rcases zo.1 hx with hx1|hx1<;>rcases zo.1 hy with hy1|hy1
     ·rw[hx1,hy1]
     ·exact absurd (List.mem_map.2 ⟨y,hy1,by rw[<- hxy,hx1]⟩) hn.1
     ·exact absurd (List.mem_map.2 ⟨x,hx1,by rw[hxy,hy1]⟩) hn.1
     ·exact ih hn.2 x hx1 y hy1 hxy
   exact inj es hn e' he' e he (by rw[<- hk',<- hk])
open Classical in
theorem fr4 {tag:Nat}{k:IV}{es es':List (IV×IV)}{r:Option IV}(hp:es'.Perm es)(hd:da2 es)(h:ay9 tag k es=za r):ay9 tag k es'=za r:=by
 obtain ⟨hn,K,hK⟩:=hd;have hok:=fe4 h
 have dec:∀e∈es,ao8 tag k e.1=za (decide (k=e.1)):=by
  cases es with
  | nil=>intro e he;cases he
  | cons a l=>
   simp only[ay9] at h
   cases hq:ao8 tag k a.1 with
   | none=>rw[hq] at h;cases h
   | some b=>exact λe he=>gk2 hq (hK a (zf ..)) (hK e he)
 rw[eh9 hok es dec] at h;rw[eh9 hok es' λe he=>dec e (hp.subset he),gk3 hp hn];exact h
theorem hs8 {x:IV}{r:Value}{es:List (IV×IV)}(hs:Sim E ρ w σ)(h:cb9 σ x=za es)(hx:VR ρ w x r) :
  (r=.map zb/\es=[])\/∃b mes clock es',r=.map (za b)/\w.heap[b]? = za (.map mes clock)/\EsR ρ w es' mes.toList/\(∀tag k o,ay9 tag k es=za o->ay9 tag k es'=za o):=by
 have toL:∀(mes:Array MapEntry) (i:Nat),mes.toList.getD i default=mes.getD i default:=λmes i=>by simp[zd,zc]
 cases hx with
 | ah7=>cases h;exact .inl ⟨rfl,rfl⟩
 | al4 _ es' b mes clock hp hd hf hb hl hk hv h4 h5=>
  cases h
  exact .inr ⟨b,mes,clock,es',rfl,hb,⟨by simpa using hl,λi hi=>by rw[toL];exact ⟨hk i hi,hv i hi⟩⟩,λ_ _ _=>fr4 hp hd⟩
 | map id B d hi=>
  simp only[cb9] at h;obtain ⟨o,h1,h2⟩:=hs.obj id B d hi;rw[h1] at h
  cases o with
  | map es'=>
   cases h;obtain ⟨mes,clock,g1,g0,g2,g3,g4,g5⟩:=h2
   exact .inr ⟨B,mes,clock,_,rfl,g1,⟨by simpa using g2,λi hi=>by rw[toL];exact g3 i hi⟩,λ_ _ _ h=>h⟩
  | _=>cases h
 | mapD id B hi=>simp only[cb9,hs.dead id hi] at h;cases h
 | _=>cases h
theorem gk4 {xt kt et:TypeId}{tag:Nat}{zero x k v:IV}{z:Value}{ok:Bool}{rx rk:Value}(hu:P.underlying xt=za (.map kt et))(ht:ho9 P kt=za tag)
  (hz:(zeroValue et).run P w=.ok z w) (hzv:VR ρ w zero z) (hs:Sim E ρ w σ) (h:cj1 σ tag zero ok x k=za v) (hx:VR ρ w x rx) (hkv:VR ρ w k rk) :
  ∃r,(Instr.lookup xt rx rk ok).run P w=.ok r w/\VR ρ w v r:=by
 unfold cj1 at h
 cases hm:cb9 σ x with
 | none=>rw[hm] at h;cases h
 | some es=>
  rw[hm] at h;simp only at h
  cases hl:ay9 tag k es with
  | none=>rw[hl] at h;cases h
  | some r=>
   rw[hl] at h;cases h
   have pair:∀(a:IV) (ra:Value) (b:Bool),VR ρ w a ra->VR ρ w (if ok then .tuple [a,.bool b] else a) (if ok then .tuple #[ra,.bool b] else ra):=by
    intro a ra b ha
    cases ok with
    | true=>
     refine .tuple _ _ rfl λi hi=>?_
     match i,hi with
     | 0,_=>exact ha
     | 1,_=>exact .bool b
    | false=>exact ha
   have hok:=fe4 hl;have hck:∀b,(Instr.checkKey b 10000 kt rk).run P w=.ok () w:=λb=>cu1 ht hok hkv
   rcases hs8 hs hm hx with ⟨rfl,rfl⟩|⟨b,mes,clock,es',rfl,hb,hes,hlp⟩
   ·have hf:=dx5 ht hkv [] [] ⟨rfl,λi hi=>by simp at hi⟩ zb (λ_ e he=>by cases he) (λj hj=>by cases hj)
    have hr:r=zb:=by
     simp only[ay9,hok] at hl;cases hl;rfl
    subst hr;exact ⟨_,by simp[Instr.lookup,run_underlying hu,hck,hf,hz],pair _ _ _ hzv⟩
   ·obtain ⟨q,g1,g2,g3⟩:=hr8 _ _ (hlp _ _ _ hl);have hf:=dx5 ht hkv es' mes.toList hes q g1 g2;have hg:(getObj b).run P w=.ok (.map mes clock) w:=by simp[getObj,Sem.run,hb]
    cases q with
    | none=>
     subst g3
     exact ⟨_,by simp[Instr.lookup,run_underlying hu,hg,hck,hf,hz],pair _ _ _ hzv⟩
    | some j=>
     subst g3;have:=(hes.2 j (g2 j rfl).1).2;exact ⟨_,by simp[Instr.lookup,run_underlying hu,hg,hck,hf],pair _ _ _ this⟩
def mmI (mx:Bool):IV->IV->Option IV
 | .int k a,.int _ b=>za (.int k (if mx then (if b>a then b else a) else (if b<a then b else a)))
 | _,_=>zb
theorem gk5 {x y v:IV}{rx ry:Value}{ts:Array TypeId}{t:TypeId}(h:mmI true x y=za v)(hx:VR ρ w x rx)(hy:VR ρ w y ry):∃r,(Builtin.max_ ts t #[rx,ry]).run P w=.ok r w/\VR ρ w v r:=by
 cases hx<;>simp only[mmI] at h<;>first|(cases h;done)|skip
 cases hy<;>simp only[mmI] at h<;>cases h;exact ⟨_,by simp[Builtin.max_,Builtin.max2],.int _ _⟩
theorem gk6 {x y v:IV}{rx ry:Value}{ts:Array TypeId}{t:TypeId}(h:mmI false x y=za v)(hx:VR ρ w x rx)(hy:VR ρ w y ry):∃r,(Builtin.min_ ts t #[rx,ry]).run P w=.ok r w/\VR ρ w v r:=by
 cases hx<;>simp only[mmI] at h<;>first|(cases h;done)|skip
 cases hy<;>simp only[mmI] at h<;>cases h;exact ⟨_,by simp[Builtin.min_,Builtin.min2],.int _ _⟩
end Go.Id
namespace Go.Id
open Go
inductive IX where
 | t (n:Nat)
 | c (v:IV)
 | g (n:Nat)
 | f (n:Nat)
 deriving Inhabited
def IX.ev (E:Nat->IV)(fr:Frm):IX->IV
 | .t n=>fr.get n
 | .c v=>v
 | .g n=>E n
 | .f n=>.func (.func n) [] []
inductive IQ where
 | mov (x:IX)
 | pick (c a b:IX)
 | not (x:IX)
 | neg (x:IX)
 | bin (op:BinOp) (x y:IX)
 | au1 (d:TypeDesc) (neg:Bool) (x:IX)
 | eqs (tags:List Nat) (agg neg:Bool) (x y:IX)
 | conv (k:IntKind) (x:IX)
 | hu4 (x:IX)
 | len (kind:Nat) (x:IX)
 | bg4 (off:Nat) (x:IX)
 | fld (agg:Option Nat) (off:Nat) (x:IX)
 | ei4 (esz:Nat) (x i:IX)
 | ei5 (n esz:Nat) (x i:IX)
 | idx (agg:Option Nat) (n esz:Nat) (x i:IX)
 | ix1 (x i:IX)
 | slc (esz:Nat) (x:IX) (lo hi:Option IX)
 | gl3 (x:IX) (lo hi:Option IX)
 | slz (x:IX)
 | ext (i:Nat) (x:IX)
 | mkf (fn:Nat) (first cap:List IX)
 | bld (zero:List IV) (parts:List (Nat×Nat×IX))
 | load (agg:Option Nat) (x:IX)
 | ip6 (x:IX)
 | mm (mx:Bool) (x y:IX)
 | lkp (tag:Nat) (zero:IV) (ok:Bool) (x k:IX)
 | ibs (x c:IX)
 | ldt (agg:Option Nat) (x:IX)
 | clp (esz:Nat) (x lo hi mx:IX)
 deriving Inhabited
def kb3 (esz:Nat)(x lo hi mx:IV):Option IV :=
 match es7 lo,es7 hi,es7 mx with
 | some 0,za h,za m=>if h=m then match x with
  | .aa1=>if h=0 then za .aa1 else zb
  | .ac6=>if h=0 then za .ac6 else zb
  | .slice did off len e=>if e=esz/\h<=len then (if h=0 then za .ac6 else za (.ag6 did off h e)) else zb
  | _=>zb
  else zb
 | _,_,_=>zb
def cc2 (kind:Nat)(σ:Store)(v:IV):Option IV :=
 match kind,v with
 | 0,.aa1|0,.ac6|0,.af6|0,.aa3 _|0,.slice _ _ _ _|0,.ag6 _ _ _ _|0,.ak5 _ _ _ _ _=>ho7 σ v
 | 1,.str _=>ho7 σ v
 | 2,.ah7|2,.map _=>ho7 σ v
 | _,_=>zb
def bc5:IV->IV->IV->Option IV
 | .bool c,a,b=>za (if c then a else b)
 | _,_,_=>zb
def ip5 (tags:List Nat)(agg neg:Bool)(x y:IV):Option IV :=
 match agg,x,y with
 | true,.agg xs,.agg ys=>(allEq tags xs ys).map λb=>.bool (b ^^ neg)
 | false,.bool a,.bool b=>(allEq tags [.bool a] [.bool b]).map λb=>.bool (b ^^ neg)
 | _,_,_=>zb
theorem fr5 {tags:List Nat}{neg:Bool}{x y v:IV}(h:ip5 tags false neg x y=za v) :
  ∃b1 b2 b,x=.bool b1/\y=.bool b2/\allEq tags [.bool b1] [.bool b2]=za b/\v=.bool (b ^^ neg):=by
 unfold ip5 at h;split at h
 ·contradiction
 ·rename_i b1 b2 _
  cases hq:allEq tags [.bool b1] [.bool b2] with
  | none=>rw[hq] at h;cases h
  | some b=>rw[hq] at h;cases h;exact ⟨b1,b2,b,rfl,rfl,hq,rfl⟩
 ·cases h
theorem ei1 {tags:List Nat}{neg:Bool}{x y v:IV}(h:ip5 tags true neg x y=za v):jl3 tags neg x y=za v:=by
 unfold ip5 at h;split at h
 ·exact h
 ·contradiction
 ·cases h
def er8 (c:Nat):List UInt8->Nat->Int
 | [],_=>-1
 | b::l,i=>if b.toNat=c then i else er8 c l (i+1)
def jl6:IV->IV->Option IV
 | .str s,.int .u8 n=>if 0<=n/\n<256 then za (.int .i64 (er8 n.toNat s 0)) else zb
 | _,_=>zb
def jj6 (agg:Option Nat)(v:IV):Option IV:=match v with
 | .ab8 cs=>ay7 ⟨0,λ_=>zb⟩ agg (.ab8 cs)
 | _=>zb
theorem hs9 {agg:Option Nat}{v u:IV}(h:jj6 agg v=za u)(σ:Store):ay7 σ agg v=za u:=by
 unfold jj6 at h;split at h
 ·exact h
 ·cases h
def evq (E:Nat->IV)(fr:Frm)(σ:Store):IQ->Option IV
 | .mov x=>za (x.ev E fr)
 | .pick c a b=>bc5 (c.ev E fr) (a.ev E fr) (b.ev E fr)
 | .not x=>jl4 (x.ev E fr)
 | .neg x=>jl5 (x.ev E fr)
 | .bin op x y=>ba3 op (x.ev E fr) (y.ev E fr)
 | .au1 d neg x=>(ct9 d (x.ev E fr)).map λb=>.bool (b ^^ neg)
 | .eqs tags agg neg x y=>ip5 tags agg neg (x.ev E fr) (y.ev E fr)
 | .conv k x=>gj7 k (x.ev E fr)
 | .hu4 x=>eh5 (x.ev E fr)
 | .len kind x=>cc2 kind σ (x.ev E fr)
 | .bg4 off x=>da4 off (x.ev E fr)
 | .fld agg off x=>jj5 agg off (x.ev E fr)
 | .ei4 esz x i=>au7 esz (x.ev E fr) (i.ev E fr)
 | .ei5 n esz x i=>dk8 n esz (x.ev E fr) (i.ev E fr)
 | .idx agg n esz x i=>iw5 agg n esz (x.ev E fr) (i.ev E fr)
 | .ix1 x i=>eg8 (x.ev E fr) (i.ev E fr)
 | .slc esz x lo hi=>dk9 esz (lo.map (·.ev E fr)) (hi.map (·.ev E fr)) (x.ev E fr)
 | .gl3 x lo hi=>cb8 (lo.map (·.ev E fr)) (hi.map (·.ev E fr)) (x.ev E fr)
 | .slz x=>ho8 (x.ev E fr)
 | .ext i x=>iw6 i (x.ev E fr)
 | .mkf fn first cap=>za (.func (.func fn) (first.map (·.ev E fr)) (cap.map (·.ev E fr)))
 | .bld zero parts=>(at7 zero (parts.map λp=>(p.1,p.2.1,p.2.2.ev E fr))).map .agg
 | .load agg x=>ay7 σ agg (x.ev E fr)
 | .ip6 x=>eh6 (x.ev E fr)
 | .mm mx x y=>mmI mx (x.ev E fr) (y.ev E fr)
 | .lkp tag zero ok x k=>cj1 σ tag zero ok (x.ev E fr) (k.ev E fr)
 | .ibs x c=>jl6 (x.ev E fr) (c.ev E fr)
 | .ldt agg x=>jj6 agg (x.ev E fr)
 | .clp esz x lo hi mx=>kb3 esz (x.ev E fr) (lo.ev E fr) (hi.ev E fr) (mx.ev E fr)
def ai9:Operand->Option IX
 | .tmp t=>za (.t t)
 | .const v=>(cv v).map .c
 | .global g=>za (.g g)
 | .func f=>za (.f f)
def ei2:List Operand->Option (List IX)
 | []=>za []
 | x::xs=>match ai9 x,ei2 xs with
  | some y,za ys=>za (y::ys)
  | _,_=>zb
def jj7:Option Operand->Option (Option IX)
 | none=>za zb
 | some x=>(ai9 x).map za
def da7 (P:Program)(t:TypeId)(i:Nat):Option (Nat×Nat):=
 match P.underlying t with
 | some (.struct fs)=>match fs[i]? with
  | some f=>(szT P f.type).map λn=>(f.offset,n)
  | none=>zb
 | some (.array _ e)=>(szT P e).map λn=>(i*n,n)
 | _=>zb
def ay5 (P:Program)(place:Nat->Option (Nat×Nat)):List (Nat×Operand)->Option (List (Nat×Nat×IX))
 | []=>za []
 | (i,x)::ps=>match place i,ai9 x,ay5 P place ps with
  | some (off,n),za y,za ys=>za ((off,n,y)::ys)
  | _,_,_=>zb
def bk7 (P:Program)(t:TypeId):Option (List IV):=
 match P.info? t with
 | some i=>match i.zero with
  | some z=>cvs z
  | none=>zb
 | none=>zb
def zeroV (P:Program)(t:TypeId):Option IV :=
 match P.info? t with
 | some i=>match i.zero with
  | some z=>cv z
  | none=>zb
 | none=>zb
def cu2:Operand->TypeDesc->Bool
 | .const (.pointer zb),.pointer _=>true
 | .const (.slice zb 0 0),.slice _=>true
 | .const (.map zb),.map _ _=>true
 | .const .nilFunc,.func _ _ _=>true
 | _,_=>false
def sized (P:Program)(t:TypeId):Bool :=
 match P.underlying t with
 | some (.struct fs)=>fs.toList.all λf=>(szT P f.type).isSome
 | some (.array _ e)=>(szT P e).isSome
 | _=>false
def gk7 (P:Program)(op:BinOp)(t:TypeId)(x y:Operand):Option IQ :=
 match P.underlying t with
 | some (.int _)|some .string=>match ai9 x,ai9 y with
  | some a,za b=>za (.bin op a b)
  | _,_=>zb
 | some .bool=>match ai9 x,ai9 y,di5 P 30 t with
  | some a,za b,za tags=>if op=.eql\/op=.neq then za (.eqs tags false (decide (op=.neq)) a b) else zb
  | _,_,_=>zb
 | some (.struct _)|some (.array _ _)=>match ai9 x,ai9 y,di5 P 30 t,aq2 P t with
  | some a,za b,za tags,za (za _)=>if (op=.eql\/op=.neq)/\P.eqGuardType P.depth t=false then za (.eqs tags true (decide (op=.neq)) a b) else zb
  | _,_,_,_=>zb
 | some d=>if (op=.eql\/op=.neq)/\cu2 y d=true then (ai9 x).map λa=>.au1 d (decide (op=.neq)) a else zb
 | none=>zb
def iw8 (P : Program) (f : FuncId) : Bool := (P.funcs[f]?).any fun fn => fn.name == "internal/bytealg.IndexByteString" && fn.body.isNone && fn.origin == ""
def ht4 (P:Program) (op:Op):Option IQ :=
 match op with
 | .move x|.assign x=>(ai9 x).map .mov
 | .pick c a b=>match ai9 c,ai9 a,ai9 b with
  | some c,za a,za b=>za (.pick c a b)
  | _,_,_=>zb
 | .unOp .not _ x=>(ai9 x).map .not
 | .unOp .neg _ x=>(ai9 x).map .neg
 | .binOp op t x y _=>gk7 P op t x y
 | .convert s d x=>match P.underlying s,P.underlying d with
  | some (.int _),za (.int k)=>(ai9 x).map (.conv k)
  | some .string,za .string=>(ai9 x).map .hu4
  | _,_=>zb
 | .call { callee:=.builtin .len,args,argTypes }=>match args.toList,argTypes.toList with
  | [x],[t]=>match P.underlying t with
   | some (.slice _)=>(ai9 x).map (.len 0)
   | some .string=>(ai9 x).map (.len 1)
   | some (.map _ _)=>(ai9 x).map (.len 2)
   | _=>zb
  | _,_=>zb
 | .fieldAddr s x i=>match P.underlying s with
  | some (.struct fs)=>match fs[i]? with
   | some f=>match szT P f.type with
    | some (_+1)=>(ai9 x).map (.bg4 f.offset)
    | _=>zb
   | none=>zb
  | _=>zb
 | .field s x i=>match P.underlying s with
  | some (.struct fs)=>match fs[i]? with
   | some f=>match aq2 P f.type with
    | some agg=>(ai9 x).map (.fld agg f.offset)
    | none=>zb
   | none=>zb
  | _=>zb
 | .indexAddr t x i=>match P.underlying t with
  | some (.slice e)=>match szT P e,ai9 x,ai9 i with
   | some n,za a,za b=>za (.ei4 n a b)
   | _,_,_=>zb
  | some (.array m e)=>match szT P e,ai9 x,ai9 i with
   | some n,za a,za b=>za (.ei5 m n a b)
   | _,_,_=>zb
  | _=>zb
 | .index t x i=>match P.underlying t with
  | some .string=>match ai9 x,ai9 i with
   | some a,za b=>za (.ix1 a b)
   | _,_=>zb
  | some (.array m e)=>match szT P e,aq2 P e,ai9 x,ai9 i with
   | some n,za agg,za a,za b=>za (.idx agg m n a b)
   | _,_,_,_=>zb
  | _=>zb
 | .slice t x lo hi zb=>match P.underlying t with
  | some (.slice e)=>match szT P e,ai9 x,jj7 lo,jj7 hi with
   | some n,za a,za l,za h=>za (.slc n a l h)
   | _,_,_,_=>zb
  | some .string=>match ai9 x,jj7 lo,jj7 hi with
   | some a,za l,za h=>za (.gl3 a l h)
   | _,_,_=>zb
  | _=>zb
 | .slice t x zb (za (.const (.int _ 0))) (za (.const (.int _ 0)))=>match P.underlying t with
  | some (.slice e)=>match szT P e,ai9 x with
   | some _,za a=>za (.slz a)
   | _,_=>zb
  | _=>zb
 | .extract x i=>(ai9 x).map (.ext i)
 | .makeFunc (.func fn) first cap=>match ei2 first.toList,ei2 cap.toList with
  | some a,za b=>za (.mkf fn a b)
  | _,_=>zb
 | .build t parts=>match bk7 P t,ay5 P (da7 P t) parts.toList with
  | some z,za ps=>if sized P t then za (.bld z ps) else zb
  | _,_=>zb
 | .load t x=>match aq2 P t,ai9 x with
  | some agg,za a=>za (.load agg a)
  | _,_=>zb
 | .nilCheck x=>(ai9 x).map .ip6
 | .call { callee:=.builtin .max,args,argTypes:=_ }=>match args.toList with
  | [x,y]=>match ai9 x,ai9 y with
   | some a,za b=>za (.mm true a b)
   | _,_=>zb
  | _=>zb
 | .call { callee:=.builtin .min,args,argTypes:=_ }=>match args.toList with
  | [x,y]=>match ai9 x,ai9 y with
   | some a,za b=>za (.mm false a b)
   | _,_=>zb
  | _=>zb
 | .lookup xt x k ok=>match P.underlying xt with
  | some (.map kt et)=>match ho9 P kt,zeroV P et,ai9 x,ai9 k with
   | some tag,za z,za a,za b=>za (.lkp tag z ok a b)
   | _,_,_,_=>zb
  | _=>zb
 | .call { callee:=.value (.func f),args,argTypes:=_ }=>if iw8 P f then (match args.toList with
  | [x,y]=>match ai9 x,ai9 y with
   | some a,za b=>za (.ibs a b)
   | _,_=>zb
  | _=>zb) else zb
 | _=>zb
variable {P:Program} {w:World} {ρ:Rho} {E:Nat->IV} {σ:Store} {N:Nat} {fr:Frm} {a:Act}
theorem aa9 {x:Operand}{y:IX}(h:ai9 x=za y)(hs:Sim E ρ w σ)(hf:FR ρ w N fr a.tmps):VR ρ w (y.ev E fr) (a.eval x):=by
 cases x with
 | tmp t=>cases h;exact hf.get t
 | const v=>
  simp only[ai9] at h
  cases hc:cv v with
  | none=>rw[hc] at h;cases h
  | some z=>rw[hc] at h;cases h;exact fe3 hc
 | global g=>cases h;exact hs.env g
 | func f=>
  cases h;exact .func (.func f) [] [] #[] #[] (λl h=>by cases h) rfl rfl (λi hi=>by simp at hi) (λi hi=>by simp at hi)
theorem by9 {xs:List Operand}{ys:List IX}(h:ei2 xs=za ys)(hs:Sim E ρ w σ)(hf:FR ρ w N fr a.tmps) :
  CR ρ w (ys.map (·.ev E fr)) (xs.map a.eval).toArray:=by
 induction xs generalizing ys with
 | nil=>cases h;exact ⟨rfl,λi hi=>by simp at hi⟩
 | cons x xs ih=>
  simp only[ei2] at h;split at h
  ·rename_i y ys' h1 h2;cases h;obtain ⟨hl,hv⟩:=ih h2;refine ⟨by simpa using hl,λi hi=>?_⟩
   cases i with
   | zero=>simpa using aa9 h1 hs hf
   | succ i=>
    have:=hv i (by simpa using hi)
    simpa [zc] using this
  ·cases h
theorem bs1 {x:Option Operand}{y:Option IX}(h:jj7 x=za y)(hs:Sim E ρ w σ)(hf:FR ρ w N fr a.tmps):OVR ρ w (y.map (·.ev E fr)) (x.map a.eval):=by
 cases x with
 | none=>cases h;trivial
 | some x=>
  simp only[jj7] at h
  cases hc:ai9 x with
  | none=>rw[hc] at h;cases h
  | some z=>rw[hc] at h;cases h;exact aa9 hc hs hf
theorem map_some {α β:Type}{o:Option α}{f:α->β}{b:β}(h:o.map f=za b):∃x,o=za x/\f x=b:=by
 cases o with
 | none=>cases h
 | some x=>cases h;exact ⟨x,rfl,rfl⟩
end Go.Id
namespace Go.Id
open Go
variable {P:Program} {w:World} {ρ:Rho} {E:Nat->IV} {σ:Store} {N:Nat} {fr:Frm} {a:Act}
def cb3 (P:Program)(ρ:Rho)(w:World)(a:Act)(op:Op)(v:IV):Prop :=
 ∀o:Oper,o.op=op->∃r,(execOp a.eval o).run P w=.ok (.value r) w/\VR ρ w v r
theorem cb3.of {op:Op}{v:IV}{s:Sem Value}(hx:∀o:Oper,o.op=op->execOp a.eval o=(do pure (.value (<- s))))(h:∃r,s.run P w=.ok r w/\VR ρ w v r):cb3 P ρ w a op v:=by
 intro o ho;obtain ⟨r,hr,hv⟩:=h;exact ⟨r,by rw[hx o ho];simp[hr],hv⟩
theorem ht5 {op:BinOp}{t yt:TypeId}{x y:Operand}{q:IQ}{v:IV}(h:gk7 P op t x y=za q)(hv:evq E fr σ q=za v)(hs:Sim E ρ w σ)(hf:FR ρ w N fr a.tmps) :
  cb3 P ρ w a (.binOp op t x y yt) v:=by
 refine cb3.of (s:=do eqGuard op t x y (a.eval x) (a.eval y);binOp op t (a.eval x) (a.eval y)) (λo ho=>by unfold execOp;rw[ho]) ?_;unfold gk7 at h
 cases hu:P.underlying t with
 | none=>rw[hu] at h;cases h
 | some d=>
  rw[hu] at h
  have hnum:∀q',(match ai9 x,ai9 y with|some a,za b=>za (IQ.bin op a b)|_,_=>zb)=za q'->q'=q ->
    ∃r,(do eqGuard op t x y (a.eval x) (a.eval y);binOp op t (a.eval x) (a.eval y):Sem Value).run P w=.ok r w/\VR ρ w v r:=by
   intro q' h1 h2;subst h2;split at h1
   ·rename_i xa xb ha hb;cases h1;exact gi5 hv (aa9 ha hs hf) (aa9 hb hs hf)
   ·cases h1
  have hnil:∀rn,fq5 d=za rn->(cu2 y d=true->a.eval y=rn) ->
    (if (op=.eql\/op=.neq)/\cu2 y d=true then (ai9 x).map (λa=>IQ.au1 d (decide (op=.neq)) a) else zb)=za q ->
    ∃r,(do eqGuard op t x y (a.eval x) (a.eval y);binOp op t (a.eval x) (a.eval y):Sem Value).run P w=.ok r w/\VR ρ w v r:=by
   intro rn hn hy h1;split at h1
   ·rename_i hc;obtain ⟨xa,ha,rfl⟩:=map_some h1;simp only[evq] at hv;obtain ⟨b,hb,rfl⟩:=map_some hv;have:=gj4 (P:=P) (op:=op) (x:=x) (y:=y) hu hn hc.1 hb (aa9 (a:=a) ha hs hf);rw[hy hc.2];refine ⟨_,this,?_⟩;rcases hc.1 with rfl|rfl
    ·simpa using VR.bool b
    ·simpa using VR.bool (!b)
   ·cases h1
  cases d with
  | int k=>exact hnum q h rfl
  | string=>exact hnum q h rfl
  | bool=>
   simp only at h;split at h
   ·rename_i xa xb tags ha hb ht;split at h
    ·rename_i hop;cases h;simp only[evq] at hv;have va:=aa9 ha hs hf;have vb:=aa9 hb hs hf;obtain ⟨b1,b2,b,e1,e2,hq,rfl⟩:=fr5 hv;rw[e1] at va;rw[e2] at vb;generalize a.eval x=ra at va ⊢;generalize a.eval y=rb at vb ⊢
     have he:=by7 30 t tags ht ρ w (10000-30) _ _ _ _ b va vb (by
      rw[show aq2 P t=za zb from by simp[aq2,fe1,hu]];exact ⟨λ_ h=>IV.noConfusion h,λ_ h=>IV.noConfusion h⟩) hq
     cases va;cases vb;have he':(Op.equal t (.bool b1) (.bool b2)).run P w=.ok b w:=he
     have hg:(eqGuard op t x y (.bool b1) (.bool b2)).run P w=.ok () w:=by
      unfold eqGuard;rcases hop with rfl|rfl<;>rfl
     rcases hop with rfl|rfl
     ·exact ⟨.bool b,by simp[hg,binOp,he'],by simpa using VR.bool b⟩
     ·exact ⟨.bool (!b),by simp[hg,binOp,he'],by simpa using VR.bool (!b)⟩
    ·cases h
   ·cases h
  | struct fs=>
   simp only at h;split at h
   ·rename_i xa xb tags n ha hb ht hl;split at h
    ·rename_i hop;cases h;simp only[evq] at hv;exact eh4 (d:=30) om ht hl hop.2 hop.1 (ei1 hv) (aa9 ha hs hf) (aa9 hb hs hf)
    ·cases h
   ·cases h
  | array m e=>
   simp only at h;split at h
   ·rename_i xa xb tags n ha hb ht hl;split at h
    ·rename_i hop;cases h;simp only[evq] at hv;exact eh4 (d:=30) om ht hl hop.2 hop.1 (ei1 hv) (aa9 ha hs hf) (aa9 hb hs hf)
    ·cases h
   ·cases h
  | pointer e=>exact hnil (.pointer zb) rfl (λhc=>by unfold cu2 at hc;split at hc<;>simp_all [Act.eval]) h
  | slice e=>exact hnil (.slice zb 0 0) rfl (λhc=>by unfold cu2 at hc;split at hc<;>simp_all [Act.eval]) h
  | map k e=>exact hnil (.map zb) rfl (λhc=>by unfold cu2 at hc;split at hc<;>simp_all [Act.eval]) h
  | func p r v'=>exact hnil .nilFunc rfl (λhc=>by unfold cu2 at hc;split at hc<;>simp_all [Act.eval]) h
  | _=>
   simp only at h;split at h
   ·rename_i hc;have:=hc.2;unfold cu2 at this;split at this<;>simp_all
   ·cases h
theorem bk8 {place:Nat->Option (Nat×Nat)}:∀(ps:List (Nat×Operand)) (ips:List (Nat×Nat×IX)),ay5 P place ps=za ips->Sim E ρ w σ->FR ρ w N fr a.tmps ->
  ips.length=ps.length/\∀j,j<ips.length ->
   place ((ps.map λp=>(p.1,a.eval p.2)).getD j (0,undef)).1=za (((ips.map λp=>(p.1,p.2.1,p.2.2.ev E fr)).getD j (0,0,.undef)).1,((ips.map λp=>(p.1,p.2.1,p.2.2.ev E fr)).getD j (0,0,.undef)).2.1) /\
   VR ρ w ((ips.map λp=>(p.1,p.2.1,p.2.2.ev E fr)).getD j (0,0,.undef)).2.2 ((ps.map λp=>(p.1,a.eval p.2)).getD j (0,undef)).2:=by
 intro ps
 induction ps with
 | nil=>intro ips h hs hf;cases h;exact ⟨rfl,λj hj=>by simp at hj⟩
 | cons p ps ih=>
  intro ips h hs hf;obtain ⟨i,x⟩:=p;simp only[ay5] at h;split at h
  ·rename_i off n y ys h1 h2 h3;cases h;obtain ⟨hl,hv⟩:=ih ys h3 hs hf;refine ⟨by simpa using hl,λj hj=>?_⟩
   cases j with
   | zero=>exact ⟨by simpa using h1,by simpa using aa9 h2 hs hf⟩
   | succ j=>simpa using hv j (by simpa using hj)
  ·cases h
theorem aq8 {t:TypeId}{z:List IV}(h:bk7 P t=za z):∃zr,(zeroValue t).run P w=.ok zr w/\CR ρ w z zr.cells:=by
 unfold bk7 at h
 cases hi:P.info? t with
 | none=>rw[hi] at h;cases h
 | some i=>
  rw[hi] at h;simp only at h
  cases hz:i.zero with
  | none=>rw[hz] at h;cases h
  | some zr=>
   rw[hz] at h;exact ⟨zr,by simp[zeroValue,typeInfo,hi,hz],da6 h⟩
def et3 (P:Program)(f:Field):Option (Nat×Nat):=(szT P f.type).map λn=>(f.offset,n)
theorem ei3:∀l:List Field,l.all (λf=>(szT P f.type).isSome)=true->∃ps:List (Nat×Nat),(l.mapM (λf=>do pure (f.offset,<- sizeOf f.type):Field->Sem (Nat×Nat))).run P w=.ok ps w /\
  ∀i:Nat,ps[i]? = (l[i]?).bind (et3 P):=by
 intro l
 induction l with
 | nil=>intro _;exact ⟨[],by simp,λi=>by simp⟩
 | cons f l ih=>
  intro h;simp only[List.all_cons,zm] at h;obtain ⟨n,hn⟩:=zj.1 h.1;obtain ⟨ps,h1,h2⟩:=ih h.2;refine ⟨(f.offset,n)::ps,by rw[List.mapM_cons];simp only[Sem.run_bind,run_sizeOf hn,Result.andThen_ok,Sem.run_pure,h1],λi=>?_⟩
  cases i with
  | zero=>simp[et3,hn]
  | succ i=>simpa using h2 i
theorem et4 {fs:Array Field}(h:fs.toList.all (λf=>(szT P f.type).isSome)=true) :
  ∃ps:Array (Nat×Nat),(fs.mapM (λf=>do pure (f.offset,<- sizeOf f.type):Field->Sem (Nat×Nat))).run P w=.ok ps w /\
   ∀i:Nat,ps[i]? = (fs[i]?).bind (et3 P):=by
 obtain ⟨l⟩:=fs;obtain ⟨ps,h1,h2⟩:=ei3 (w:=w) l h;exact ⟨ps.toArray,by rw[List.mapM_toArray,Sem.run_map,h1];rfl,λi=>by simpa using h2 i⟩
theorem ht6 {t:TypeId}{parts:Array (Nat×Operand)}{z:List IV}{ps:List (Nat×Nat×IX)}{v:IV}(hz:bk7 P t=za z)(hp:ay5 P (da7 P t) parts.toList=za ps)(hsz:sized P t=true)
  (hv:evq E fr σ (.bld z ps)=za v) (hs:Sim E ρ w σ) (hf:FR ρ w N fr a.tmps):cb3 P ρ w a (.build t parts) v:=by
 refine cb3.of (s:=Instr.build t (parts.map λ(i,x)=>(i,a.eval x))) (λo ho=>by unfold execOp;rw[ho]) ?_;simp only[evq] at hv;obtain ⟨out,hfill,rfl⟩:=map_some hv;obtain ⟨zr,hzr,hcr⟩:=aq8 (w:=w) (ρ:=ρ) hz;obtain ⟨hl,hpl⟩:=bk8 parts.toList ps hp hs hf;obtain ⟨rout,hr,ho⟩:=ci9 (place:=da7 P t) _ (parts.toList.map λp=>(p.1,a.eval p.2)) z out zr.cells hcr (by simp[hl]) (λj hj=>hpl j (by simpa using hj)) hfill;have hpt:(parts.map λ(i,x)=>(i,a.eval x)).toList=parts.toList.map λp=>(p.1,a.eval p.2):=by simp
 refine ⟨.agg rout,?_,.agg _ _ ho.1 ho.2⟩;unfold sized at hsz
 cases hu:P.underlying t with
 | none=>rw[hu] at hsz;cases hsz
 | some d=>
  rw[hu] at hsz
  cases d with
  | struct fs=>
   obtain ⟨places,hm,hpl'⟩:=et4 (P:=P) (w:=w) hsz;have e:(λi=>places[i]?)=da7 P t:=by funext i;rw[hpl' i];simp only[da7,hu];cases fs[i]?<;>rfl
   have hr':Instr.fill (λi=>places[i]?) zr.cells ((parts.map λ(i,x)=>(i,a.eval x)).toList)=za rout:=by rw[hpt,e];exact hr
   simp only[Instr.build,Sem.run_bind,hzr,Result.andThen_ok,run_underlying hu,hm,hr']
   rfl
  | array n el=>
   obtain ⟨m,hm⟩:=zj.1 hsz;have e:(λi=>za (i*m,m))=da7 P t:=by funext i;simp[da7,hu,hm]
   have hr':Instr.fill (λi=>za (i*m,m)) zr.cells ((parts.map λ(i,x)=>(i,a.eval x)).toList)=za rout:=by rw[hpt,e];exact hr
   simp only[Instr.build,Sem.run_bind,hzr,Result.andThen_ok,run_underlying hu,run_sizeOf hm,hr']
   rfl
  | _=>cases hsz
theorem cj4 {op:Op}{t:TypeId}{x:Operand}{y:IX}{kind:Nat}{v:IV}{args:Array Operand}{argTypes:Array TypeId}(hop:op=.call { callee:=.builtin .len,args,argTypes })(ha:args.toList=[x])(ht:argTypes.toList=[t])
  (hk:match P.underlying t with|some (.slice _)=>kind=0|some .string=>kind=1|some (.map _ _)=>kind=2|_=>False) (hx:ai9 x=za y)
  (hv:evq E fr σ (.len kind y)=za v) (hs:Sim E ρ w σ) (hf:FR ρ w N fr a.tmps):cb3 P ρ w a op v:=by
 subst hop;obtain ⟨al⟩:=args;obtain ⟨tl⟩:=argTypes;simp only at ha ht;subst ha;subst ht;refine λo ho=>?_
 simp only[evq] at hv
 have key:∃r,(Builtin.len_ #[t] o.type #[a.eval x]).run P w=.ok r w/\VR ρ w v r:=by
  have hl:ho7 σ (y.ev E fr)=za v:=by unfold cc2 at hv;split at hv<;>first|exact hv|cases hv
  refine gi9 hs ?_ ?_ hl (aa9 hx hs hf)
  ·unfold ka9
   cases hu:P.underlying t with
   | none=>rw[hu] at hk;exact hk.elim
   | some d=>rw[hu] at hk;cases d<;>first|rfl|exact hk.elim
  ·intro u hu;rw[hu] at hk;unfold cc2 at hv;cases u<;>simp only at hk<;>first|exact hk.elim|(subst hk;split at hv<;>simp_all)
 obtain ⟨r,hr,hvr⟩:=key;refine ⟨r,?_,hvr⟩;unfold execOp;rw[ho];simp[resolve,invoke,builtin,hr]
theorem fr6 {s:TypeId}{x:Operand}{y:IX}{i m:Nat}{fs:Array Field}{f:Field}{v:IV}(hu:P.underlying s=za (.struct fs))(hfi:fs[i]? = za f)(hz:szT P f.type=za (m+1))
  (hx:ai9 x=za y) (hv:evq E fr σ (.bg4 f.offset y)=za v) (hs:Sim E ρ w σ) (hf:FR ρ w N fr a.tmps):cb3 P ρ w a (.fieldAddr s x i) v:=by
 refine cb3.of (s:=Instr.fieldAt s (a.eval x) i) (λo ho=>by unfold execOp;rw[ho]) ?_;simp only[evq] at hv;obtain ⟨ad,hr,hvr⟩:=dk7 hv (aa9 hx hs hf);rw[hr];exact ⟨_,es4 hu hfi hz,hvr⟩
theorem et5 {t:TypeId}{x:IV}(h:zeroV P t=za x):∃z,(zeroValue t).run P w=.ok z w/\VR ρ w x z:=by
 unfold zeroV at h
 cases hi:P.info? t with
 | none=>rw[hi] at h;cases h
 | some i=>
  rw[hi] at h;simp only at h
  cases hz:i.zero with
  | none=>rw[hz] at h;cases h
  | some z=>rw[hz] at h;exact ⟨z,by simp[zeroValue,typeInfo,hi,hz],fe3 h⟩
theorem ht8 : Extern.allRows.lookup "internal/bytealg.IndexByteString" = za Extern.BytealgIndexByte.indexByte := by kernel_rfl
theorem gk8 : Extern.allTypedRows.lookup "internal/bytealg.IndexByteString" = zb := by kernel_rfl
theorem gk9 : Extern.allGenericRows.lookup "internal/bytealg.IndexByteString" = zb := by kernel_rfl
theorem gl1 : Extern.allNextRows.lookup "internal/bytealg.IndexByteString" = zb := by kernel_rfl
theorem fr7 : Extern.allNextRows.lookup "" = zb := by kernel_rfl
theorem iw9 (c:UInt8):∀(l:List UInt8) (i:Nat),er8 c.toNat l i=if Lib.indexByte l c=-1 then -1 else Lib.indexByte l c+i:=by
 intro l
 induction l with
 | nil=>intro i;rfl
 | cons b l ih=>
  intro i;have hge:=Lib.indexByte_ge l c;simp only[er8,Lib.indexByte,ih];by_cases h:b=c
  ·subst h;simp
  ·have h1:¬b.toNat=c.toNat:=λe=>h (UInt8.toNat_inj.1 e)
   have h2:(b==c)=false:=by simpa using h
   simp only[h1,if_false,h2,zl];by_cases h3:Lib.indexByte l c=-1
   ·simp[h3]
   ·have h4:(Lib.indexByte l c == -1)=false:=by simpa using h3
    have h5:¬Lib.indexByte l c+1=-1:=om;simp only[h3,h4,h5,if_false,zl];omega
theorem ht9 {f:FuncId}{x y:Operand}{argTypes:Array TypeId}{xa ya:IX}{v:IV}(hok:iw8 P f=true)(hx:ai9 x=za xa)(hy:ai9 y=za ya)(hv:jl6 (xa.ev E fr) (ya.ev E fr)=za v)(hs:Sim E ρ w σ)(hf:FR ρ w N fr a.tmps) :
  cb3 P ρ w a (.call { callee:=.value (.func f),args:=#[x,y],argTypes }) v:=by
 have vx:=aa9 (a:=a) hx hs hf;have vy:=aa9 (a:=a) hy hs hf;generalize xa.ev E fr=ax at vx hv;generalize ya.ev E fr=ay at vy hv;unfold jl6 at hv;split at hv
 ·rename_i s n;split at hv
  ·rename_i hn;cases hv;generalize hrx:a.eval x=rx at vx;generalize hry:a.eval y=ry at vy;cases vx;cases vy;intro o ho;unfold iw8 at hok
   cases hfn:P.funcs[f]? with
   | none=>rw[hfn] at hok;cases hok
   | some fn=>
    rw[hfn] at hok;simp only[Option.any_some,zm,beq_iff_eq] at hok;obtain ⟨⟨h1,h2⟩,h3⟩:=hok;refine ⟨.int .i64 (er8 n.toNat s 0),?_,.int _ _⟩
    have hres:(resolve a.eval { callee:=.value (.func f),args:=#[x,y],argTypes } o.type).run P w=.ok { target:=.fn (.func f) #[],args:=#[.string ⟨s.toArray⟩,.int .u8 n] } w:=by
     simp[resolve,Act.eval,Deferred.ofValue] at hrx hry ⊢;simp[hrx,hry]
    have hfind:Extern.find fn=za Extern.BytealgIndexByte.indexByte:=by
     unfold Extern.find;simp only[h1,h3,ht8,gk8,gk9];rfl
    have hfn2:Extern.findNext fn=zb:=by
     unfold Extern.findNext;simp only[h1,h3,gl1,fr7];rfl
    have hinv:(invoke (.fn (.func f) #[]) #[.string ⟨s.toArray⟩,.int .u8 n]).run P w=.ok (.value (.int .i64 (er8 n.toNat s 0))) w:=by
     have hb:fn.body=zb:=by simpa using h2
     have hnm : ¬ fn.name = "runtime.NumGoroutine" := by rw [h1]; decide
     have hr:=Lib.run_indexByteString (P:=P) ⟨s.toArray⟩ n w
     have hc:(n.toNat.toUInt8).toNat=n.toNat:=by
      have:n.toNat<256:=om;simp[Nat.mod_eq_of_lt this]
     have hid:=iw9 n.toNat.toUInt8 s 0;rw[hc] at hid;have hge:=Lib.indexByte_ge s n.toNat.toUInt8
     have hidx:er8 n.toNat s 0=Lib.indexByte s n.toNat.toUInt8:=by
      rw[hid];split
      ·rename_i h;rw[h]
      ·simp
     simp only[invoke,Array.append_empty];simp only[callFunc];simp only[Sem.run_bind,program,Sem.run,Result.andThen_ok,hfn,h1];simp[hb,hfind,hfn2,mark,Sem.run,Sem.run_bind,hr,hidx]
    unfold execOp;rw[ho];simp only[Sem.run_bind,hres,Result.andThen_ok,hinv]
  ·cases hv
 ·cases hv
theorem gl2 {op:Op}{q:IQ}{v:IV}(h:ht4 P op=za q)(hv:evq E fr σ q=za v)(hs:Sim E ρ w σ)(hf:FR ρ w N fr a.tmps):cb3 P ρ w a op v:=by
 unfold ht4 at h;split at h
 ·obtain ⟨y,hy,rfl⟩:=map_some h;cases hv;exact cb3.of (s:=pure _) (λo ho=>by unfold execOp;rw[ho];rfl) ⟨_,rfl,aa9 hy hs hf⟩
 ·obtain ⟨y,hy,rfl⟩:=map_some h;cases hv;exact cb3.of (s:=pure _) (λo ho=>by unfold execOp;rw[ho];rfl) ⟨_,rfl,aa9 hy hs hf⟩
 ·rename_i c x y;split at h
  ·rename_i c' x' y' hc hx hy;cases h;have vc:=aa9 hc hs hf;have vx:=aa9 hx hs hf;have vy:=aa9 hy hs hf;simp only[evq] at hv;generalize c'.ev E fr=ic at vc hv;unfold bc5 at hv;split at hv
   ·cases hv;generalize hrc:a.eval c=rc at vc;cases vc;rename_i b;refine λo ho=>⟨if b then a.eval x else a.eval y,?_,?_⟩
    ·unfold execOp;rw[ho];simp[hrc,asBool]
    ·cases b
     ·exact vy
     ·exact vx
   ·cases hv
  ·cases h
 ·obtain ⟨y,hy,rfl⟩:=map_some h;exact cb3.of (s:=Op.unary .not _) (λo ho=>by unfold execOp;rw[ho]) (gj5 hv (aa9 hy hs hf))
 ·obtain ⟨y,hy,rfl⟩:=map_some h;exact cb3.of (s:=Op.unary .neg _) (λo ho=>by unfold execOp;rw[ho]) (gj6 hv (aa9 hy hs hf))
 ·exact ht5 h hv hs hf
 ·split at h
  ·rename_i k1 k2 h1 h2;obtain ⟨y,hy,rfl⟩:=map_some h;exact cb3.of (s:=convert _ _ _) (λo ho=>by unfold execOp;rw[ho]) (fq7 h1 h2 hv (aa9 hy hs hf))
  ·rename_i h1 h2;obtain ⟨y,hy,rfl⟩:=map_some h;exact cb3.of (s:=convert _ _ _) (λo ho=>by unfold execOp;rw[ho]) (et1 h1 h2 hv (aa9 hy hs hf))
  ·cases h
 ·split at h
  ·rename_i args argTypes x t h1 h2;split at h
   ·rename_i e hu;obtain ⟨y,hy,rfl⟩:=map_some h;exact cj4 rfl h1 h2 (by rw[hu]) hy hv hs hf
   ·rename_i hu;obtain ⟨y,hy,rfl⟩:=map_some h;exact cj4 rfl h1 h2 (by rw[hu]) hy hv hs hf
   ·rename_i k e hu;obtain ⟨y,hy,rfl⟩:=map_some h;exact cj4 rfl h1 h2 (by rw[hu]) hy hv hs hf
   ·cases h
  ·cases h
 ·split at h
  ·rename_i fs hu;split at h
   ·rename_i f hfi;split at h
    ·rename_i m hz;obtain ⟨y,hy,rfl⟩:=map_some h;exact fr6 hu hfi hz hy hv hs hf
    ·cases h
   ·cases h
  ·cases h
 ·split at h
  ·rename_i fs hu;split at h
   ·rename_i f hfi;split at h
    ·rename_i agg hk;obtain ⟨y,hy,rfl⟩:=map_some h;exact cb3.of (s:=Instr.field _ _ _) (λo ho=>by unfold execOp;rw[ho]) (gi6 hu hfi hk hv (aa9 hy hs hf))
    ·cases h
   ·cases h
  ·cases h
 ·split at h
  ·rename_i e hu;split at h
   ·rename_i n xa xb hz hx hi;cases h;exact cb3.of (s:=Instr.indexAt _ _ _) (λo ho=>by unfold execOp;rw[ho]) (es5 hu hz hv (aa9 hx hs hf) (aa9 hi hs hf))
   ·cases h
  ·rename_i m e hu;split at h
   ·rename_i n xa xb hz hx hi;cases h;exact cb3.of (s:=Instr.indexAt _ _ _) (λo ho=>by unfold execOp;rw[ho]) (es6 hu hz hv (aa9 hx hs hf) (aa9 hi hs hf))
   ·cases h
  ·cases h
 ·split at h
  ·rename_i hu;split at h
   ·rename_i xa xb hx hi;cases h;exact cb3.of (s:=Instr.index _ _ _) (λo ho=>by unfold execOp;rw[ho]) (fq2 hu hv (aa9 hx hs hf) (aa9 hi hs hf))
   ·cases h
  ·rename_i m e hu;split at h
   ·rename_i n agg xa xb hz hk hx hi;cases h;exact cb3.of (s:=Instr.index _ _ _) (λo ho=>by unfold execOp;rw[ho]) (gi7 hu hz hk hv (aa9 hx hs hf) (aa9 hi hs hf))
   ·cases h
  ·cases h
 ·split at h
  ·rename_i e hu;split at h
   ·rename_i n xa l hh hz hx hl hhi;cases h;exact cb3.of (s:=Instr.sliceAt _ _ _ _ zb) (λo ho=>by unfold execOp;rw[ho];rfl) (gj1 hu hz hv (aa9 hx hs hf) (bs1 hl hs hf) (bs1 hhi hs hf))
   ·cases h
  ·rename_i hu;split at h
   ·rename_i xa l hh hx hl hhi;cases h;exact cb3.of (s:=Instr.sliceAt _ _ _ _ zb) (λo ho=>by unfold execOp;rw[ho];rfl) (fq3 hu hv (aa9 hx hs hf) (bs1 hl hs hf) (bs1 hhi hs hf))
   ·cases h
  ·cases h
 ·split at h
  ·rename_i e hu;split at h
   ·rename_i n xa hz hx;cases h;exact cb3.of (s:=Instr.sliceAt _ _ zb _ _) (λo ho=>by unfold execOp;rw[ho];rfl) (gj2 hu hz hv (aa9 hx hs hf))
   ·cases h
  ·cases h
 ·obtain ⟨y,hy,rfl⟩:=map_some h;exact cb3.of (s:=Instr.extract _ _) (λo ho=>by unfold execOp;rw[ho]) (gi8 hv (aa9 hy hs hf))
 ·rename_i fn first cap
  split at h
  ·rename_i ia ib h1 h2;cases h;cases hv;obtain ⟨l1,v1⟩:=by9 (a:=a) h1 hs hf
   obtain ⟨l2,v2⟩:=by9 (a:=a) h2 hs hf
   refine cb3.of (s:=Instr.makeFunc _ _ _) (λo ho=>by unfold execOp;rw[ho]) ⟨_,rfl,?_⟩;have e1:first.map a.eval=(first.toList.map a.eval).toArray:=by cases first;rw[List.map_toArray]
   have e2:cap.map a.eval=(cap.toList.map a.eval).toArray:=by cases cap;rw[List.map_toArray]
   rw[e1,e2];exact .func _ _ _ _ _ (λl h=>by cases h) l1 l2 v1 v2
  ·cases h
 ·split at h
  ·rename_i z ps hz hp;split at h
   ·rename_i hsz;cases h;exact ht6 hz hp hsz hv hs hf
   ·cases h
  ·cases h
 ·split at h
  ·rename_i agg xa hk hx;cases h;exact cb3.of (s:=Instr.loadAt _ _) (λo ho=>by unfold execOp;rw[ho]) (dk6 hs hk hv (aa9 hx hs hf))
  ·cases h
 ·obtain ⟨y,hy,rfl⟩:=map_some h;exact λo ho=>fq8 ho hv (aa9 hy hs hf)
 ·rename_i args argTypes;split at h
  ·rename_i x y ha;split at h
   ·rename_i xa ya hx hy;cases h;obtain ⟨al⟩:=args;simp only at ha;subst ha;intro o ho;obtain ⟨r,hr,hv'⟩:=gk5 (P:=P) (w:=w) (ts:=argTypes) (t:=o.type) hv (aa9 hx hs hf) (aa9 hy hs hf);refine ⟨r,?_,hv'⟩;unfold execOp;rw[ho];simp[resolve,invoke,builtin,hr]
   ·cases h
  ·cases h
 ·rename_i args argTypes;split at h
  ·rename_i x y ha;split at h
   ·rename_i xa ya hx hy;cases h;obtain ⟨al⟩:=args;simp only at ha;subst ha;intro o ho;obtain ⟨r,hr,hv'⟩:=gk6 (P:=P) (w:=w) (ts:=argTypes) (t:=o.type) hv (aa9 hx hs hf) (aa9 hy hs hf);refine ⟨r,?_,hv'⟩;unfold execOp;rw[ho];simp[resolve,invoke,builtin,hr]
   ·cases h
  ·cases h
 ·rename_i xt x k ok;split at h
  ·rename_i kt et hu;split at h
   ·rename_i tag zi xa xb ht hz hx hk;cases h;obtain ⟨z,hz1,hz2⟩:=et5 (ρ:=ρ) (w:=w) hz;exact cb3.of (s:=Instr.lookup _ _ _ _) (λo ho=>by unfold execOp;rw[ho]) (gk4 hu ht hz1 hz2 hs hv (aa9 hx hs hf) (aa9 hk hs hf))
   ·cases h
  ·cases h
 ·rename_i f args argTypes;split at h
  ·rename_i hok;split at h
   ·rename_i x y ha;split at h
    ·rename_i xa ya hx hy;cases h;obtain ⟨al⟩:=args;simp only at ha;subst ha;exact ht9 hok hx hy hv hs hf
    ·cases h
   ·cases h
  ·cases h
 ·cases h
end Go.Id
