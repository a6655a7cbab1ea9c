/- Regions: the operations compiled,their ideal semantics,and the proof for a region whose order is the text's. Conditions: none; over any program. -/
import Derived.Test.YthjhfdodeghbpaaGreatDoorFwE
import Derived.RangeFuncRecord
import Derived.RangeFuncIn
open Nat renaming le_refl→za
open Option renaming some→zb,none→zc
open Array renaming getD_eq_getD_getElem?→zd,getElem?_eq_some_iff→zf,getElem?_append→zg,replicate→zh,foldl→zi
open List renaming getD_eq_getElem?_getD→ze,range'→zj,getElem?_append→zk
open Bool renaming false_eq_true→zl
set_option linter.all false
private theorem sm{P:Prop}(h:P:=by simp):P:=h
namespace Go.Id
open Go
inductive IK where
 | q (q:IQ)
 | alloc (z:List IV)
 | box (x:IX)
 | bsl (esz n:Nat) (z:List IV) (parts:List (Nat×Nat×IX))
 | store (sz:Nat) (x y:IX)
 | app (esz:Nat) (s x:IX)
 | dc4
 | bq1 (x:IX)
 | dj8 (x:IX)
 | gl8 (tag:Nat) (x k v:IX)
 | call (f:Nat) (args:List IX)
 | bo9 (f:Nat) (args:List IX)
 | dj9 (x:IX) (args:List IX)
 | ay6 (x:IX) (args:List IX)
 | eb1 (esz n:Nat) (z:List IV) (parts:List (Nat×Nat×IX))
 | el4 (x:IX)
 | bo5 (x:IX)
 | dc5 (x:IX)
 | gu4 (x:IX)
 | dn3 (esz:Nat) (z:List IV) (x:IX)
 | clr (esz:Nat) (z:List IV) (x:IX)
 | st (k:SK) (xs:List IX)
 deriving Inhabited
structure af1 where
 dst:Option Nat
 guard:Option (Nat×Bool)
 op:IK
 deriving Inhabited
def IK.lays:IK->Bool
 | .alloc _|.box _|.bsl _ _ _ _|.app _ _ _|.dc4|.bq1 _|.bo5 _|.dn3 _ _ _|.st _ _=>true
 | _=>false
def okF (P : Program) (f : FuncId) : Bool := (P.funcs[f]?).any fun fn => fn.name != "runtime.NumGoroutine" && fn.body.isSome
def CYd (P:Program)(E:Nat->IV)(id:Nat)(args:List IV)(σ:Store)(Q:IV->Store->Prop):Prop :=
 ∀(ρ:Rho) (w:World) (rargs:Array Value) (B d:Nat),Sim E ρ w σ->CR ρ w args rargs->ρ id=.at B d ->
  ∃(fn:FuncId) (tmps:Array Value) (assign body:Code),(Instr.yield B rargs).run P w=.ok (.round B fn tmps assign body) w/\RoundIn Fence.wide 0 P B fn tmps assign body w λe w'=>
   ∃v r ρ' σ',e=.returned r/\Q v σ'/\Sim E ρ' w' σ'/\VR ρ' w' v r/\bh8 σ.next ρ w ρ' w'
def CV (P:Program)(E:Nat->IV)(fv:IV)(args:List IV)(σ:Store)(Q:IV->Store->Prop):Prop :=
 match fv with
 | .func (.func f) first cap=>okF P f=true/\C P E f (first++args++cap) σ Q
 | .yield id=>(σ.obj id).isSome=true/\CYd P E id args σ Q
 | _=>False
def PC (P:Program)(E:Nat->IV)(f:FuncId)(args:List IV)(v:IV):Prop :=
 ∀σ,C P E f args σ λv' σ'=>v'=v/\σ'=σ
def PCV (P:Program)(E:Nat->IV)(fv:IV)(args:List IV)(v:IV):Prop :=
 ∃f first cap,fv=.func (.func f) first cap/\okF P f=true/\PC P E f (first++args++cap) v
def opR (P:Program)(E:Nat->IV)(op:IK)(id:Nat)(fr:Frm)(σ:Store)(K:IV->Store->Prop):Prop :=
 match op with
 | .q q=>∃v,evq E fr σ q=zb v/\K v σ
 | .alloc z=>K (.ptr id 0) (σ.put id (.cells z))
 | .box x=>(x.ev E fr).cs.all IV.leaf=true/\K (.ptr id 0) (σ.put id (.cells (x.ev E fr).cs))
 | .bsl esz n z parts=>∃out,au8 (rep z n) (parts.map λp=>(p.1,p.2.1,p.2.2.ev E fr))=zb out/\K (.slice id 0 n esz) (σ.put id (.row out))
 | .store sz x y=>∃σ',ar5 σ sz (x.ev E fr) (y.ev E fr)=zb σ'/\K .undef σ'
 | .bq1 x=>∃s,x.ev E fr=.str s/\K (.ptr id 0) (σ.put id (.bh7 s 0))
 | .dj8 x=>∃r,bp5 σ (x.ev E fr)=zb r/\K r.1 r.2
 | .dc4=>K (.map id) (σ.put id (.map []))
 | .gl8 tag x k v=>∃σ',ap3 σ tag (x.ev E fr) (k.ev E fr) (v.ev E fr)=zb σ'/\K .undef σ'
 | .app esz s x=>∃r,bb4 σ id esz (s.ev E fr) (x.ev E fr)=zb r/\K r.1 r.2
 | .call f args=>∃Q,C P E f (args.map (·.ev E fr)) σ Q/\∀v σ',Q v σ'->σ.next<=σ'.next/\K v σ'
 | .bo9 f args=>∃v,PC P E f (args.map (·.ev E fr)) v/\K v σ
 | .dj9 x args=>∃Q,CV P E (x.ev E fr) (args.map (·.ev E fr)) σ Q/\∀v σ',Q v σ'->σ.next<=σ'.next/\K v σ'
 | .ay6 x args=>∃v,PCV P E (x.ev E fr) (args.map (·.ev E fr)) v/\K v σ
 | .eb1 esz n z parts=>∃out,au8 (rep z n) (parts.map λp=>(p.1,p.2.1,p.2.2.ev E fr))=zb out/\K (.aa2 (chunk esz n out)) σ
 | .el4 x=>(x.ev E fr).cs.all IV.leaf=true/\K (.ab5 (x.ev E fr).cs) σ
 | .bo5 x=>∃es,x.ev E fr=.am2 es/\K (.ptr id 0) (σ.put id (.as9 es zc))
 | .dc5 x=>∃i left,bp6 σ (x.ev E fr)=zb (i,left)/\(left=[]->K (.tuple [.bool false]) σ) /\
   ∀j,j<left.length->K (.tuple [.bool true,(left.getD j (.undef,.undef)).1,(left.getD j (.undef,.undef)).2]) (σ.put i (.as9 (left.eraseIdx j) (zb (left.getD j (.undef,.undef)))))
 | .gu4 x=>∃v,cw4 σ (x.ev E fr)=zb v/\K v σ
 | .dn3 esz z x=>∃n,db4 (x.ev E fr)=zb n/\K (.slice id 0 n esz) (σ.put id (.row (rep z n)))
 | .clr esz z x=>∃σ',gq9 σ esz z (x.ev E fr)=zb σ'/\σ'.next=σ.next/\K .undef σ'
 | .st k xs=>∃r,stI k id σ (xs.map (·.ev E fr))=zb r/\K r.1 r.2
def Frm.ba3 (fr:Frm)(d:Option Nat)(v:IV):Frm :=
 match d with
 | some t=>fr.set t v
 | none=>fr
abbrev skV:IV:=.tuple []
def ii5 (v:IV)(want:Bool):Option Bool :=
 match v with
 | .bool b=>zb (decide (b=want))
 | .tuple []=>zb false
 | _=>zc
def ck4 (o:af1)(fr:Frm):Option Bool :=
 match o.guard with
 | none=>zb true
 | some (s,want)=>ii5 (fr.get s) want
def cd6 (P:Program)(E:Nat->IV):List af1->Nat->Frm->Store->(Frm->Store->Prop)->Prop
 | [],_,fr,σ,K=>K fr σ
 | o::rest,id,fr,σ,K=>∃act,ck4 o fr=zb act /\
  (if act=true then opR P E o.op id fr σ λv σ'=>cd6 P E rest (if o.op.lays then id+1 else id) (fr.ba3 o.dst v) σ' K
  else cd6 P E rest (if o.op.lays then id+1 else id) (fr.ba3 o.dst skV) σ K)
def cd7 (ops:List af1):Nat:=(ops.filter λo=>o.op.lays).length
def loX:Option Operand->Option IX
 | none=>zb (.c (.int .i64 0))
 | some o=>ak1 o
def gt6 (P:Program) (pf:List Nat) (fz:Bool) (op:Op):Option IK :=
 match op with
 | .alloc t=>(bl9 P t).map .alloc
 | .box _ x=>(ak1 x).map (if fz=true then .el4 else .box)
 | .buildSlice t n parts=>match P.underlying t with
  | some (.slice e)=>match szT P e,bl9 P e with
   | some esz,zb z=>match ba1 P (λi=>zb (i*esz,esz)) parts.toList with
    | some ps=>if 0<esz/\z.length=esz/\n*esz<=2^24 then zb (if fz=true then (if n=0/\ps.isEmpty=true/\pf.contains 4000000=true then .q (.mov (.c .ad2)) else .eb1 esz n z ps) else .bsl esz n z ps) else zc
    | none=>zc
   | _,_=>zc
  | _=>zc
 | .store t x y=>match szT P t,ak1 x,ak1 y with
  | some sz,zb a,zb b=>zb (.store sz a b)
  | _,_,_=>zc
 | .range t x=>match P.underlying t with
  | some .string=>(ak1 x).map .bq1
  | some (.map _ _)=>(ak1 x).map .bo5
  | _=>zc
 | .next x true=>(ak1 x).map .dj8
 | .next x false=>(ak1 x).map .dc5
 | .entry x=>(ak1 x).map .gu4
 | .makeMap _ zc=>zb .dc4
 | .mapUpdate t x k v=>match P.underlying t with
  | some (.map kt _)=>match ib7 P kt,ak1 x,ak1 k,ak1 v with
   | some tag,zb a,zb b,zb c=>zb (.gl8 tag a b c)
   | _,_,_,_=>zc
  | _=>zc
 | .makeSlice t x y=>match P.underlying t with
  | some (.slice e)=>match P.info? e,bl9 P e,ak1 x with
   | some i,zb z,zb a=>if z.length=i.size/\0<i.size/\i.bytes<=4096/\db5 x y=true then zb (match fz,a with
    | true,.c (.int .i64 m)=>if 0<=m/\m<=2147483647 then .eb1 i.size m.toNat z [] else .dn3 i.size z a
    | _,_=>.dn3 i.size z a) else zc
   | _,_,_=>zc
  | _=>zc
 | .insert t x k v=>match P.underlying t with
  | some (.map kt _)=>match ib7 P kt,ak1 x,ak1 k,ak1 v with
   | some tag,zb a,zb b,zb c=>zb (.gl8 tag a b c)
   | _,_,_,_=>zc
  | _=>zc
 | .call { callee:=.builtin .clear,args,argTypes }=>match args.toList,argTypes.toList with
  | [x],[t]=>match P.underlying t with
   | some (.slice e)=>match szT P e,bl9 P e,ak1 x with
    | some sz,zb z,zb a=>if z.length=sz/\0<sz then zb (.clr sz z a) else zc
    | _,_,_=>zc
   | _=>zc
  | _,_=>zc
 | .call { callee:=.builtin .append,args,argTypes }=>match args.toList,argTypes.toList with
  | [s,x],[t,xt]=>match P.underlying t,P.underlying xt with
   | some (.slice e),zb (.slice _)=>match P.info? e,bl9 P e,ak1 s,ak1 x with
    | some i,zb z,zb a,zb b=>if i.bytes<=4096/\z.length=i.size then zb (if fz=true then .st (.apr i.size) [a,b] else .app i.size a b) else zc
    | _,_,_,_=>zc
   | _,_=>zc
  | _,_=>zc
 | .call { callee:=.value (.func f),args,argTypes:=_ }=>match ei7 args.toList with
  | some xs=>if okF P f then (if pf.contains f then zb (.bo9 f xs) else zb (.call f xs)) else (ie7 P op).map .q
  | none=>zc
 | .call { callee:=.value (.tmp t),args,argTypes:=_ }=>match ei7 args.toList with
  | some xs=>zb (if pf.contains 3000000 then .ay6 (.t t) xs else .dj9 (.t t) xs)
  | none=>zc
 | .call { callee:=.builtin .delete,args,argTypes }=>match args.toList,argTypes[0]? with
  | [x,k],zb t=>match P.underlying t with
   | some (.map kt _)=>match ib7 P kt,ak1 x,ak1 k with
    | some tag,zb a,zb b=>zb (.st (.ky4 tag) [a,b])
    | _,_,_=>zc
   | _=>zc
  | _,_=>zc
 | .call { callee:=.builtin .copy,args,argTypes }=>match args.toList,argTypes[0]? with
  | [x,y],zb t=>match P.underlying t with
   | some (.slice e)=>match szT P e,ak1 x,ak1 y with
    | some n,zb a,zb b=>zb (.st (.cpy n) [a,b])
    | _,_,_=>zc
   | _=>zc
  | _,_=>zc
 | .slice t x zc (zb (.const (.int _ 0))) (zb (.const (.int _ 0)))=>(ie7 P op).map .q
 | .slice t x lo (zb h) (zb m)=>match P.underlying t with
  | some (.slice e)=>match szT P e,ak1 x,loX lo,ak1 h,ak1 m with
   | some n,zb a,zb l,zb b,zb c=>zb (if fz=false then .q (.clp n a l b c) else .st (.sl3 n fz) [a,l,b,c])
   | _,_,_,_,_=>zc
  | _=>zc
 | .slice t x zc (zb h) zc=>match fz,P.underlying t with
  | true,zb (.slice e)=>match szT P e,ak1 x,ak1 h with
   | some n,zb a,zb b=>zb (.st (.rlp n) [a,b])
   | _,_,_=>zc
  | _,_=>(ie7 P op).map .q
 | .load t x=>match ie7 P (.load t x) with
  | some (.load agg a)=>zb (.q (if fz=true then .ldt agg a else .load agg a))
  | _=>zc
 | op=>(ie7 P op).map .q
def ji3:Op->Bool
 | .defer _=>true
 | _=>false
def jz8 (P:Program)(pf:List Nat)(fz:Bool)(op:Op):Option IK :=
 match gt6 P pf fz op with
 | some k=>zb k
 | none=>if ji3 op then zc else zb (.st .nev [])
def gt7 (N:Nat)(d:Option Nat):Bool :=
 match d with
 | some t=>decide (t<N)
 | none=>true
def ck5 (P:Program) (pf:List Nat) (N:Nat) (ops:Array Oper) (o:Oper):Option af1 :=
 match jz8 P pf (o.dst.any λt=>pf.contains (1000000+t)) o.op with
 | none=>zc
 | some k=>
  if gt7 N o.dst=true then
   match o.guard with
   | none=>zb ⟨o.dst,zc,k⟩
   | some (j,want)=>match (ops[j]?).bind (·.dst) with
    | some s=>zb ⟨o.dst,zb (s,want),k⟩
    | none=>zc
  else zc
def by4 (P:Program)(pf:List Nat)(N:Nat)(ops:Array Oper):List Oper->Option (List af1)
 | []=>zb []
 | o::os=>match ck5 P pf N ops o,by4 P pf N ops os with
  | some x,zb xs=>zb (x::xs)
  | _,_=>zc
variable {P:Program} {w w' w'':World} {ρ ρ' ρ'':Rho} {E:Nat->IV} {σ σ':Store} {N n n':Nat} {fr:Frm} {a:Act} {pf:List Nat}
def FR.ba3 (hf:FR ρ w N fr a.tmps){d:Option Nat}(c:gt7 N d=true){v:IV}{r:Value}(b:VR ρ w v r):FR ρ w N (fr.ba3 d v) (a.put d r).tmps:=by
 cases d with
 | none=>exact hf
 | some d=>exact hf.set (by simpa [gt7] using c) b
def ew8 {b:Bool}{op:Op}{k:IK}(h:gt6 P pf b op=zb k):(∀c,op≠.defer c):=by
 intro c hc;subst hc;simp[gt6,ie7] at h
def fi6 {m:Nat}(hs:Sim E ρ w σ)(h:∀i,m<=i->ρ i=.no):Sim E ρ w { σ with next:=m } :=
 ⟨hs.inj,hs.lt,hs.obj,hs.dead,h,hs.aw6,hs.env,hs.nx,hs.xlt⟩
def ea7 {f:FuncId}{args:Array Value}(h:okF P f=true):(callFunc f args).run P w=.ok (.enter f args) w:=by
 unfold okF at h
 cases hf:P.funcs[f]? with
 | none=>rw[hf] at h;cases h
 | some fn=>
  rw[hf] at h;simp at h;have c:¬fn.body=zc:=by intro b;rw[b] at h;simp at h
  simp[callFunc,hf,h.1,c]
def Ext.le (h:Ext n ρ w ρ' w')(b:n'<=n):Ext n' ρ w ρ' w' :=
 ⟨h.size,h.keep,h.shape,h.img,h.at_,h.dead,λi hi h0=>h.no i (Nat.lt_of_lt_of_le hi b) h0,h.output,h.os,h.tape,h.loops,h.X⟩
def CR.map {xs:List Operand}{b:List IX}(h:ei7 xs=zb b)(hs:Sim E ρ w σ)(hf:FR ρ w N fr a.tmps):CR ρ w (b.map (·.ev E fr)) (xs.toArray.map a.eval):=by
 have:=bz2 (a:=a) h hs hf
 rwa [<- List.map_toArray] at this
def CR.append {xs c:List IV}{b d:Array Value}(e:CR ρ w xs b)(f:CR ρ w c d):CR ρ w (xs++c) (b++d):=by
 refine ⟨by simp[e.1,f.1],λi hi=>?_⟩;simp only[List.length_append] at hi;by_cases h:i<xs.length
 .have e1:(xs++c).getD i .undef=xs.getD i .undef:=by simp[ze,zk,h]
  have e2:(b++d).getD i undef=b.getD i undef:=by
   have:i<b.size:=by rw[<- e.1];exact h
   simp[zd,zg,this]
  rw[e1,e2];exact e.2 i h
 .have e1:(xs++c).getD i .undef=c.getD (i-xs.length) .undef:=by simp[ze,zk,h]
  have e2:(b++d).getD i undef=d.getD (i-xs.length) undef:=by
   have:¬i<b.size:=by rw[<- e.1];exact h
   simp[zd,zg,this,e.1]
  rw[e1,e2];exact f.2 _ (by omega)
def ew9 {f:FuncId}{n0:Nat}{K:IV->Store->Prop}{o:Oper}{next:Act->World->Prop}{Q:Exit->Act->World->Prop}{s:Option Nat}{p:IV->Store->Prop}{args:List IV}{b:Array Value}
  (x:∀c,o.op≠.defer c) (g:(execOp a.eval o).run P w=.ok (.enter f b) w) (hc:C P E f args σ p) (z:∀v σ',p v σ'->σ.next<=σ'.next/\K v σ') (hs:Sim E ρ w σ) (y:CR ρ w args b) (m:n0<=σ.next)
  (u:∀v σ' r ρ' w',σ.next<=σ'.next->K v σ'->Sim E ρ' w' σ'->VR ρ' w' v r->Ext n0 ρ w ρ' w'->(∀i,i<σ.next->ρ i=.no->ρ' i=.no)->next (a.put o.dst r) w'):o.wpIn (fw s) 0 P a w next Q:=by
 refine ⟨λf _=>trivial,?_⟩;rw[Oper.semAt_eq _ _ _ x,g,Oper.uponIn_enter];refine ⟨(λh=>by cases h),?_⟩;have d:CallsIn (fw s) 0 P f b w λe w'=>∃v r ρ' σ',e=.returned r/\p v σ'/\Sim E ρ' w' σ'/\VR ρ' w' v r/\bh8 σ.next ρ w ρ' w':=hc ρ w b hs y
 refine CallsIn.mono d ?_;rintro e w'' ⟨v,r,ρ',σ',rfl,q,k,j,t⟩;have⟨B,A⟩:=z v σ' q;exact u v σ' r ρ' w'' B A k j ((t.ext hs.fresh).le m) t.no
def gt8 {o:Oper}{t:Tmp}{args:Array Operand}{argTypes:Array TypeId}{f:FuncId}{rf rc:Array Value}(ho:o.op=.call { callee:=.value (.tmp t),args,argTypes })(hv:a.eval (.tmp t)=.func (.func f) rf rc)(hf:okF P f=true) :
  (execOp a.eval o).run P w=.ok (.enter f (rf++args.map a.eval++rc)) w:=by
 unfold execOp;rw[ho];simp only[resolve,hv,Deferred.ofValue,Sem.run_bind,Sem.run_pure,Result.andThen_ok,invoke];exact ea7 hf
def ek6 {o:Oper}{args:Array Operand}{argTypes:Array TypeId}{f:FuncId}(ho:o.op=.call { callee:=.value (.func f),args,argTypes })(hf:okF P f=true) :
  (execOp a.eval o).run P w=.ok (.enter f (args.map a.eval)) w:=by
 unfold execOp;rw[ho];simp only[resolve,Act.eval,Deferred.ofValue,Sem.run_bind,Sem.run_pure,Result.andThen_ok,invoke];rw[ea7 hf];simp
def ii6 {o:Oper}{s x:Operand}{is ix:IX}{t xt e xe:TypeId}{args:Array Operand}{argTypes:Array TypeId}{i:TypeInfo}{z:List IV}{id n0:Nat}{v:IV}(ho:o.op=.call { callee:=.builtin .append,args,argTypes })(ha:args.toList=[s,x])(ht:argTypes.toList=[t,xt])
  (hu:P.underlying t=zb (.slice e)) (hxu:P.underlying xt=zb (.slice xe)) (hi:P.info? e=zb i) (hz:bl9 P e=zb z) (hs':ak1 s=zb is) (hx:ak1 x=zb ix) (hb:i.bytes<=4096) (hzl:z.length=i.size)
  (h:bb4 σ id i.size (is.ev E fr) (ix.ev E fr)=zb (v,σ')) (hs:Sim E ρ w σ) (hf:FR ρ w N fr a.tmps) (hno:ρ id=.no) (hlt:id<σ.next) (hn:n0<=id) :
  cu2 P E id n0 ρ w a o.op v σ':=by
 have⟨al⟩:=args;have⟨tl⟩:=argTypes;simp only at ha ht;subst ha;subst ht;intro o' ho'
 have hzero:∃zr,i.zero=zb zr/\zr.cells.size=i.size:=by
  unfold bl9 at hz;rw[hi] at hz;simp only at hz
  cases hzz:i.zero with
  | none=>rw[hzz] at hz;cases hz
  | some zr=>
   rw[hzz] at hz;have:=(da8 (ρ:=ρ) (w:=w) hz).1;exact ⟨zr,rfl,by rw[<- this];exact hzl⟩
 have⟨zr,hzr,hzs⟩:=hzero;have⟨r,ρ',w',hrun,hsim,hvr,hx1,hnb⟩:=je8 (P:=P) (ty:=o'.type) hu ⟨_,hxu,λk hk=>by cases hk⟩ hi hzr rfl hzs hb h (ab1 (a:=a) hs' hs hf) (ab1 (a:=a) hx hs hf) hs hno hlt hn;refine ⟨.value r,r,ρ',w',?_,.inl rfl,hsim,hvr,hx1,hnb⟩;unfold execOp;rw[ho',ho];simp[resolve,invoke,builtin,hrun]
def ex1 {b:Nat}{x y:IV}(h:ar5 σ b x y=zb σ'):σ'.next=σ.next:=by
 unfold ar5 at h;split at h
 .split at h
  .split at h
   .cases h;rfl
   .cases h
  .split at h
   .cases h;rfl
   .cases h
  .cases h
 .cases h
def cu4 {b:Nat}{x k v:IV}(h:ap3 σ b x k v=zb σ'):σ'.next=σ.next:=by
 unfold ap3 at h;split at h
 .split at h
  .obtain ⟨c,_,rfl⟩:=map_some h;rfl
  .cases h
 .cases h
def gt9 {id esz:Nat}{s x v:IV}(h:bb4 σ id esz s x=zb (v,σ')):σ'.next=σ.next:=by
 unfold bb4 at h;split at h
 .cases h
 .split at h
  .cases h
  .split at h
   .split at h
    .cases h;rfl
    .split at h
     .cases h;rfl
     .cases h
   .split at h
    .cases h;rfl
    .split at h
     .cases h;rfl
     .cases h
   .split at h
    .cases h;rfl
    .cases h
   .split at h
    .split at h
     .cases h;rfl
     .split at h
      .cases h;rfl
      .cases h
    .cases h
   .split at h
    .split at h
     .cases h;rfl
     .split at h
      .cases h;rfl
      .cases h
    .cases h
   .cases h
def gu1 {k:IK} {id n0:Nat} {K:IV->Store->Prop} {o:Oper} {next:Act->World->Prop} {Q:Exit->Act->World->Prop} {ro:Option Nat}
  {fz:Bool} (b:gt6 P pf fz o.op=zb k) (h:opR P E k id fr σ K) (hs:Sim E ρ w σ) (hf:FR ρ w N fr a.tmps) (X:n0<=σ.next) (L:k.lays=true->ρ id=.no/\id<σ.next/\n0<=id)
  (hn:∀v σ' r ρ' w',σ.next<=σ'.next->K v σ'->Sim E ρ' w' σ'->VR ρ' w' v r->Ext n0 ρ w ρ' w'->(∀i,i<σ.next->(k.lays=true->i≠id)->ρ i=.no->ρ' i=.no)->next (a.put o.dst r) w'):o.wpIn (fw ro) 0 P a w next Q:=by
 have ab:=ew8 b
 have u:∀ {v:IV} {σ':Store} {id' n':Nat},σ'.next=σ.next->cu2 P E id' n' ρ w a o.op v σ'->n0<=n'->(k.lays=true->id'=id)->(k.lays=false->σ.next<=id')->K v σ'->o.wpIn (fw ro) 0 P a w next Q:=by
  intro v σ' id' n' aF aa ap aB aA hK;have⟨x,r,ρ',w',J,U,ag,W,he,az⟩:=aa o rfl
  have ad:∀i,i<σ.next->(k.lays=true->i≠id)->ρ i=.no->ρ' i=.no:=by
   intro i hi hl h0;refine az i (λe=>?_) h0
   cases Y:k.lays with
   | true=>exact hl Y (by rw[e,aB Y])
   | false=>have:=aA Y;omega
  refine ⟨λf _=>trivial,?_⟩;rw[Oper.semAt_eq _ _ _ ab,J];rcases U with rfl|⟨rfl,rfl⟩
  .exact hn v σ' r ρ' w' (by omega) hK ag W (he.le ap) ad
  .exact hn v σ' undef ρ' w' (by omega) hK ag W (he.le ap) ad
 have quiet:∀q,ie7 P o.op=zb q->k=.q q->o.wpIn (fw ro) 0 P a w next Q:=by
  intro q hq aC;subst aC;have⟨v,hv,hK⟩:=h;have⟨r,J,ai⟩:=gp8 hq hv hs hf o rfl;refine ⟨λf _=>trivial,?_⟩;rw[Oper.semAt_eq _ _ _ ab,J];exact hn v σ r ρ w (za _) hK hs ai (Ext.refl _ _ _) (λi _ _ h0=>h0)
 unfold gt6 at b;split at b
 .rename_i t g;obtain ⟨z,hz,rfl⟩:=map_some b;have⟨H,I,M⟩:=L rfl;refine u (id':=id) (n':=n0) (σ':=σ.put id (.cells z)) rfl ?_ (za _) (λ_=>rfl) (λh=>by cases h) h;rw[g];exact fv1 hz hs H I M
 .rename_i t x g;have⟨y,V,he⟩:=map_some b
  cases fz with
  | true=>
   simp only[if_true] at he;subst he;refine u (id':=σ.next) (n':=n0) (σ':=σ) rfl ?_ (za _) (λh=>by cases h) (λ_=>za _) h.2;rw[g]
   exact gq5 V h.1 hs hf X
  | false=>
   simp only[zl,if_false] at he;subst he;have⟨H,I,M⟩:=L rfl;refine u (id':=id) (n':=n0) (σ':=σ.put id (.cells (y.ev E fr).cs)) rfl ?_ (za _) (λ_=>rfl) (λh=>by cases h) h.2;rw[g];exact fh2 V h.1 hs hf H I M
 .rename_i t n parts g;split at b
  .rename_i e S;split at b
   .rename_i esz z T hz;split at b
    .rename_i ps hp;split at b
     .rename_i hc
      cases fz with
      | true=>
       simp only[if_true] at b;by_cases h0:n=0/\ps.isEmpty=true/\pf.contains 4000000=true
       .rw[if_pos h0] at b;cases b;obtain ⟨rfl,he,_⟩:=h0;have aD:ps=[]:=List.isEmpty_iff.1 he;subst aD;have⟨v,hv,H⟩:=h;cases hv;refine u (id':=σ.next) (n':=n0) (σ':=σ) rfl ?_ (za _) (λh=>by cases h) (λ_=>za _) H;rw[g];exact if6 (E:=E) (fr:=fr) S T hc.1 hz hc.2.1 hp rfl hs hf X
       rw[if_neg h0] at b;cases b;have⟨ae,p,A⟩:=h;refine u (id':=σ.next) (n':=n0) (σ':=σ) rfl ?_ (za _) (λh=>by cases h) (λ_=>za _) A;rw[g]
       exact gq6 S T hc.1 hz hc.2.1 hc.2.2 hp p hs hf X
      | false=>
      simp only[zl,if_false] at b;cases b;have⟨H,I,M⟩:=L rfl;have⟨ae,p,A⟩:=h;refine u (id':=id) (n':=n0) (σ':=σ.put id (.row ae)) rfl ?_ (za _) (λ_=>rfl) (λh=>by cases h) A;rw[g];exact fh3 S T hc.1 hz hc.2.1 hc.2.2 hp p hs hf H I M
     .cases b
    .cases b
   .cases b
  .cases b
 .rename_i t x y g;split at b
  .rename_i sz ia ib T U V;cases b;have⟨σ',p,A⟩:=h;refine u (id':=σ.next) (n':=n0) (σ':=σ') (ex1 p) ?_ (za _) (λh=>by cases h) (λ_=>za _) A;rw[g];exact fv2 T U V p hs hf
  .cases b
 .rename_i t x g;split at b
  .rename_i S;obtain ⟨y,V,rfl⟩:=map_some b;have⟨H,I,M⟩:=L rfl;have⟨s,ak,aj⟩:=h;refine u (id':=id) (n':=n0) (σ':=σ.put id (.bh7 s 0)) rfl ?_ (za _) (λ_=>rfl) (λh=>by cases h) aj;rw[g];exact ev6 S V ak hs hf H I M
  .rename_i kt et S;obtain ⟨y,V,rfl⟩:=map_some b;have⟨H,I,M⟩:=L rfl;have⟨es,ak,aj⟩:=h;refine u (id':=id) (n':=n0) (σ':=σ.put id (.as9 es zc)) rfl ?_ (za _) (λ_=>rfl) (λh=>by cases h) aj;rw[g];exact ev8 S V ak hs hf H I M
  .cases b
 .rename_i x g;obtain ⟨y,V,rfl⟩:=map_some b;have⟨⟨v,σ'⟩,p,A⟩:=h;refine u (id':=σ.next) (n':=n0) (σ':=σ') (ev7 p) ?_ (za _) (λh=>by cases h) (λ_=>za _) A;rw[g];exact fv5 V p hs hf
 .rename_i x g;obtain ⟨y,V,rfl⟩:=map_some b;have⟨i,left,p,A,am⟩:=h;rcases fv6 (n:=n0) (id0:=σ.next) (a:=a) V p hs hf with ⟨he,aa⟩|⟨j,hj,aa⟩
  .refine u (id':=σ.next) (n':=n0) (σ':=σ) rfl ?_ (za _) (λh=>by cases h) (λ_=>za _) (A he);rw[g];exact aa
  .refine u (id':=σ.next) (n':=n0) (σ':=σ.put i (.as9 (left.eraseIdx j) (zb (left.getD j (.undef,.undef))))) rfl ?_ (za _) (λh=>by cases h) (λ_=>za _) (am j hj);rw[g];exact aa
 .rename_i x g;obtain ⟨y,V,rfl⟩:=map_some b;have⟨v,p,A⟩:=h;refine u (id':=σ.next) (n':=n0) (σ':=σ) rfl ?_ (za _) (λh=>by cases h) (λ_=>za _) A;rw[g];exact gq8 V p hs hf
 .rename_i t g;cases b;have⟨H,I,M⟩:=L rfl;refine u (id':=id) (n':=n0) (σ':=σ.put id (.map [])) rfl ?_ (za _) (λ_=>rfl) (λh=>by cases h) h;rw[g];exact fv4 hs H I M
 .rename_i t x k v g;split at b
  .rename_i kt et S;split at b
   .rename_i an ia ib ic ht U Y hv;cases b;have⟨σ',p,A⟩:=h;refine u (id':=σ.next) (n':=n0) (σ':=σ') (cu4 p) ?_ (za _) (λh=>by cases h) (λ_=>za _) A;rw[g];exact db3 S ht U Y hv p hs hf
   .cases b
  .cases b
 .rename_i t x y g;split at b
  .rename_i e S;split at b
   .rename_i i z ia hi hz U;split at b
    .rename_i hc
     have plain:k=.dn3 i.size z ia->o.wpIn (fw ro) 0 P a w next Q:=by
      intro e;subst e;have⟨H,I,M⟩:=L rfl;have⟨len,p,A⟩:=h;refine u (id':=id) (n':=n0) (σ':=σ.put id (.row (rep z len))) rfl ?_ (za _) (λ_=>rfl) (λh=>by cases h) A;rw[g];exact ej5 S hi hz hc.1 hc.2.1 hc.2.2.1 U hc.2.2.2 p hs hf H I M
     replace b:=zb.inj b;split at b
     .rename_i m;split at b
      .rename_i hm;subst b;have⟨ae,p,A⟩:=h;have he:ae=rep z m.toNat:=by simp only[List.map_nil,au8] at p;exact (zb.inj p).symm
       subst he;refine u (id':=σ.next) (n':=n0) (σ':=σ) rfl ?_ (za _) (λh=>by cases h) (λ_=>za _) A;rw[g];exact fv8 S hi hz hc.1 hc.2.1 hc.2.2.1 U hc.2.2.2 (by simp only[IX.ev,db4];rw[if_pos (by omega)]) hs hf X
      .exact plain b.symm
     .exact plain b.symm
    .cases b
   .cases b
  .cases b
 .rename_i t x k v g;split at b
  .rename_i kt et S;split at b
   .rename_i an ia ib ic ht U Y hv;cases b;have⟨σ',p,A⟩:=h;refine u (id':=σ.next) (n':=n0) (σ':=σ') (cu4 p) ?_ (za _) (λh=>by cases h) (λ_=>za _) A;rw[g];exact ew1 (db3 S ht U Y hv p hs hf)
   .cases b
  .cases b
 .rename_i args D g;split at b
  .rename_i x t ha ht;split at b
   .rename_i e S;split at b
    .rename_i sz z ia T hz U;split at b
     .rename_i hc;cases b;have⟨σ',p,am,A⟩:=h;refine u (id':=σ.next) (n':=n0) (σ':=σ') am ?_ (za _) (λh=>by cases h) (λ_=>za _) A;rw[g];have⟨al⟩:=args;have⟨tl⟩:=D;simp only at ha ht;subst ha;subst ht;exact if7 S T hz hc.1 hc.2 U p hs hf
     .cases b
    .cases b
   .cases b
  .cases b
 .rename_i args D g;split at b
  .rename_i s x t xt ha ht;split at b
   .rename_i e xe S aw;split at b
    .rename_i i z ia ib hi hz ax av;split at b
     .rename_i hc;replace b:=zb.inj b;by_cases ar:fz=true
      .rw[if_pos ar] at b;subst b;have⟨H,I,M⟩:=L rfl;have⟨⟨v,σ'⟩,p,A⟩:=h;exact nomatch (show (zc:Option (IV×Store))=zb (v,σ') from p)
      rw[if_neg ar] at b;subst b;have⟨H,I,M⟩:=L rfl;have⟨⟨v,σ'⟩,p,A⟩:=h;exact u (id':=id) (n':=n0) (σ':=σ') (gt9 p) (ii6 g ha ht S aw hi hz ax av hc.1 hc.2 p hs hf H I M) (za _) (λ_=>rfl) (λh=>by cases h) A
     .cases b
    .cases b
   .cases b
  .cases b
 .rename_i f args D g;split at b
  .rename_i xs af;split at b
   .rename_i ah;split at b
    .cases b;have⟨v,ay,hK⟩:=h;exact ew9 ab (ek6 g ah) (ay σ) (λv' σ' ⟨H,I⟩=>by subst H;subst I;exact ⟨za _,hK⟩) hs (CR.map af hs hf) X (λv σ' r ρ' w' H I M h4 h5 h6=>hn v σ' r ρ' w' H I M h4 h5 (λi hi _ h0=>h6 i hi h0))
    cases b;have⟨Qc,hc,hK⟩:=h;exact ew9 ab (ek6 g ah) hc hK hs (CR.map af hs hf) X (λv σ' r ρ' w' H I M h4 h5 h6=>hn v σ' r ρ' w' H I M h4 h5 (λi hi _ h0=>h6 i hi h0))
   .obtain ⟨q,hq,rfl⟩:=map_some b;exact quiet q hq rfl
  .cases b
 .rename_i t args D g;split at b
  .rename_i xs af
   have h:∃Q,CV P E (fr.get t) (xs.map (·.ev E fr)) σ Q/\∀v σ',Q v σ'->σ.next<=σ'.next/\K v σ':=by
    split at b
    .cases b;have⟨v,⟨f,fs,cp,e,ho,hp⟩,hK⟩:=h;refine ⟨λv' σ'=>v'=v/\σ'=σ,?_,λv' σ' e=>by obtain ⟨rfl,rfl⟩:=e;exact ⟨za _,hK⟩⟩;have e:fr.get t=_:=e;rw[e];exact ⟨ho,hp σ⟩
    .cases b;exact h
   have⟨Qc,hc,hK⟩:=h;have vt:VR ρ w (fr.get t) (a.eval (.tmp t)):=hf.get t;have au:=CR.map (a:=a) af hs hf;generalize aH:fr.get t=fv at hc vt;generalize ao:a.eval (.tmp t)=rv at vt
   cases vt with
   | func fn first cap rf rc V l1 l2 v1 v2=>
    cases fn with
    | func f=>
     have⟨ah,hc⟩:=hc;have J:=gt8 (P:=P) (w:=w) g ao ah;refine ew9 ab J hc hK hs ?_ X (λv σ' r ρ' w' H I M h4 h5 h6=>hn v σ' r ρ' w' H I M h4 h5 (λi hi _ h0=>h6 i hi h0))
     exact ((CR.append ⟨l1,v1⟩ au).append ⟨l2,v2⟩)
    | _=>exact hc.elim
   | yield id' B d hid'=>
    have⟨fn,tmps,ac,body,V,hr⟩:=hc.2 ρ w (args.map a.eval) B d hs au hid';refine ⟨λf _=>trivial,?_⟩
    have J:(execOp a.eval o).run P w=.ok (.round B fn tmps ac body) w:=by
     unfold execOp;rw[g];simp only[resolve,ao,Deferred.ofValue,Sem.run_bind,Sem.run_pure,Result.andThen_ok,invoke]
     simpa using V
    rw[Oper.semAt_eq _ _ _ ab,J,Oper.uponIn_round];refine ⟨(λh=>by cases h),?_⟩;refine RoundIn.mono (F:=fw ro) (n:=0) hr ?_;rintro e w'' ⟨v,r,ρ',σ',rfl,q,ag,W,U⟩;have⟨H,I⟩:=hK v σ' q
    exact hn v σ' r ρ' w'' H I ag W ((U.ext hs.fresh).le X) (λi hi _ h0=>U.no i hi h0)
   | bd9 id' B hid'=>
    have:=hs.dead id' hid';have:=hc.1
    simp_all
   | _=>exact hc.elim
  .cases b
 .rename_i args D g;split at b
  .rename_i x k t ha ht;split at b
   .rename_i kt et S;split at b
    .rename_i an ia ib aG U Y;cases b;have⟨H,I,M⟩:=L rfl;have⟨⟨v,σ'⟩,p,A⟩:=h;refine u (id':=id) (n':=n0) (σ':=σ') (dz8 p) ?_ (za _) (λ_=>rfl) (λh=>by cases h) A;rw[g];have⟨al⟩:=args;simp only at ha;subst ha;exact nomatch (show (zc:Option (IV×Store))=zb (v,σ') from p)
    .cases b
   .cases b
  .cases b
 .rename_i args D g;split at b
  .rename_i x y t ha ht;split at b
   .rename_i e S;split at b
    .rename_i n ia ib T U V;cases b;have⟨H,I,M⟩:=L rfl;have⟨⟨v,σ'⟩,p,A⟩:=h;refine u (id':=id) (n':=n0) (σ':=σ') (dz8 p) ?_ (za _) (λ_=>rfl) (λh=>by cases h) A;rw[g];have⟨al⟩:=args;simp only at ha;subst ha;exact nomatch (show (zc:Option (IV×Store))=zb (v,σ') from p)
    .cases b
   .cases b
  .cases b
 .obtain ⟨q,hq,rfl⟩:=map_some b;exact quiet q hq rfl
 .rename_i t x lo oh om _ g;split at b
  .rename_i e S;split at b
   .rename_i n ia il ib ic T U hl hh hm;replace b:=zb.inj b;by_cases as:fz=false
    .rw[if_pos as] at b;subst b;have⟨v,W,A⟩:=h;refine u (id':=σ.next) (n':=n0) (σ':=σ) rfl ?_ (za _) (λh=>by cases h) (λ_=>za _) A;rw[g]
     have aq:(lo=zc/\il=.c (.int .i64 0))\/∃o,lo=zb o/\ak1 o=zb il:=by
      cases lo with
      | none=>cases hl;exact .inl ⟨rfl,rfl⟩
      | some o=>exact .inr ⟨o,rfl,hl⟩
     exact if8 S T U aq hh hm W hs hf
    rw[if_neg as] at b;subst b;have⟨H,I,M⟩:=L rfl;have⟨⟨v,σ'⟩,p,A⟩:=h;refine u (id':=id) (n':=n0) (σ':=σ') (dz8 p) ?_ (za _) (λ_=>rfl) (λh=>by cases h) A;rw[g]
    have aq:(lo=zc/\il=.c (.int .i64 0))\/∃o,lo=zb o/\ak1 o=zb il:=by
     cases lo with
     | none=>cases hl;exact .inl ⟨rfl,rfl⟩
     | some o=>exact .inr ⟨o,rfl,hl⟩
    exact nomatch (show (zc:Option (IV×Store))=zb (v,σ') from p)
   .cases b
  .cases b
 .rename_i t x oh g;split at b
  .rename_i e S;split at b
   .rename_i n ia ib T U hh;cases b;have⟨H,I,M⟩:=L rfl;have⟨⟨v,σ'⟩,p,A⟩:=h;exact nomatch (show (zc:Option (IV×Store))=zb (v,σ') from p)
   .cases b
  .obtain ⟨q,hq,rfl⟩:=map_some b;exact quiet q hq rfl
 .rename_i t x g;split at b
  .rename_i aE ia hq;cases b;have⟨v,hv,hK⟩:=h
   have W:evq E fr σ (.load aE ia)=zb v:=by
    cases fz with
    | true=>exact ie6 hv σ
    | false=>exact hv
   have⟨r,J,ai⟩:=gp8 hq W hs hf o g;refine ⟨λf _=>trivial,?_⟩;rw[Oper.semAt_eq _ _ _ ab,J];exact hn v σ r ρ w (za _) hK hs ai (Ext.refl _ _ _) (λi _ _ h0=>h0)
  .cases b
 .rename_i op g _ _ _ _ _ _ _;obtain ⟨q,hq,rfl⟩:=map_some b;exact quiet q hq rfl
def fi7 {k:IK}{id n0:Nat}{K:IV->Store->Prop}{o:Oper}{next:Act->World->Prop}{Q:Exit->Act->World->Prop}{f:Option Nat}
  {j:Bool} (b:jz8 P pf j o.op=zb k) (h:opR P E k id fr σ K) (hs:Sim E ρ w σ) (hf:FR ρ w N fr a.tmps) (c:n0<=σ.next) (e:k.lays=true->ρ id=.no/\id<σ.next/\n0<=id)
  (g:∀v σ' r ρ' w',σ.next<=σ'.next->K v σ'->Sim E ρ' w' σ'->VR ρ' w' v r->Ext n0 ρ w ρ' w'->(∀i,i<σ.next->(k.lays=true->i≠id)->ρ i=.no->ρ' i=.no)->next (a.put o.dst r) w'):o.wpIn (fw f) 0 P a w next Q:=by
 unfold jz8 at b;split at b
 .rename_i m d;cases b;exact gu1 d h hs hf c e g
 .split at b
  .cases b
  .cases b;have⟨r,hr,_⟩:=h;cases hr
end Go.Id
namespace Go.Id
open Go
variable {P:Program} {w w' w'':World} {ρ ρ' ρ'':Rho} {E:Nat->IV} {σ σ':Store} {N n n':Nat} {fr:Frm} {a:Act} {pf:List Nat}
def ek7 {ops:Array Oper}{o:Oper}{j s:Nat}{c b:Bool}(h:o.guard=zb (j,c))(hs:(ops[j]?).bind (·.dst)=zb s)(hf:FR ρ w N fr a.tmps)(i:fr.get s=.bool b) :
  Region.wanted o (yielded ops a.tmps)=decide (b=c):=by
 have d:=hf.get s;rw[i] at d
 have g:a.tmps[s]? = zb (.bool b):=by
  generalize hr:a.tmps.getD s undef=r at d;cases d;rw[zd] at hr
  cases e:a.tmps[s]? with
  | none=>rw[e] at hr;simp[undef] at hr
  | some v=>rw[e] at hr;simp at hr;rw[hr]
 have f:yielded ops a.tmps j=zb b:=by
  unfold yielded;rw[hs];simp[g]
 unfold Region.wanted;rw[h];simp only[f];cases b<;>cases c<;>rfl
def iz2 {ρ:Rho}{w:World}:VR ρ w skV undef:=.tuple [] #[] rfl λi hi=>absurd hi (Nat.not_lt_zero _)
def ek8 {ops:Array Oper}{o:Oper}{j s:Nat}{c e:Bool}(i:o.guard=zb (j,c))(hs:(ops[j]?).bind (·.dst)=zb s)(hf:FR ρ w N fr a.tmps)(d:ii5 (fr.get s) c=zb e) :
  Region.wanted o (yielded ops a.tmps)=e:=by
 unfold ii5 at d;split at d
 .rename_i b h;cases d;exact ek7 i hs hf h
 .rename_i h;cases d;have f:=hf.get s;rw[h] at f
  have k:yielded ops a.tmps j=zc:=by
   unfold yielded;rw[hs];generalize hr:a.tmps.getD s undef=r at f
   cases f with
   | tuple _ rs hl _=>
    rw[zd] at hr
    cases g:a.tmps[s]? with
    | none=>simp[g]
    | some v=>rw[g] at hr;simp at hr;simp[g,hr]
  unfold Region.wanted;rw[i];simp[k]
 .cases d
def put_defers (a:Act)(d:Option Tmp)(v:Value):(a.put d v).defers=a.defers:=by cases d<;>rfl
def ck6 (o:af1)(b:List af1):cd7 (o::b)=(if o.op.lays then 1 else 0)+cd7 b:=by
 unfold cd7;rw[List.filter_cons];split<;>simp_all;omega
def dc3 {ops:Array Oper}{o:Oper}{c:af1}(h:ck5 P pf N ops o=zb c):(∃g,jz8 P pf g o.op=zb c.op)/\c.dst=o.dst/\gt7 N o.dst=true /\
  (o.guard=zc/\c.guard=zc\/∃j b s,o.guard=zb (j,b)/\(ops[j]?).bind (·.dst)=zb s/\c.guard=zb (s,b)):=by
 unfold ck5 at h
 cases d:jz8 P pf (o.dst.any λt=>pf.contains (1000000+t)) o.op with
 | none=>rw[d] at h;cases h
 | some k=>
  rw[d] at h;simp only at h;by_cases e:gt7 N o.dst=true
  .rw[if_pos e] at h
   cases f:o.guard with
   | none=>rw[f] at h;cases h;exact ⟨⟨_,d⟩,rfl,e,.inl ⟨rfl,rfl⟩⟩
   | some p=>
    have⟨j,b⟩:=p;rw[f] at h;simp only at h
    cases hs:(ops[j]?).bind (·.dst) with
    | none=>rw[hs] at h;cases h
    | some s=>rw[hs] at h;cases h;exact ⟨⟨_,d⟩,rfl,e,.inr ⟨j,b,s,rfl,hs,rfl⟩⟩
  .rw[if_neg e] at h;cases h
def gu2 {ops:Array Oper}{n0:Nat}{ro:Option Nat}{Qw:Exit->Act->World->Prop}{K:Frm->Store->Prop}{ρ0:Rho}{w0:World}{ds:List Deferred}
  (hfin:∀fr σ ρ w a,n0<=σ.next->K fr σ->Sim E ρ w σ->FR ρ w N fr a.tmps->a.defers=ds->bh8 n0 ρ0 w0 ρ w->Qw .normal a w) :
  ∀(os:List Oper) (ios:List af1) (i id:Nat) (fr:Frm) (σ:Store) (ρ:Rho) (w:World) (a:Act),ops.toList.drop i=os->by4 P pf N ops os=zb ios->cd6 P E ios id fr σ K ->
   Sim E ρ w σ->FR ρ w N fr a.tmps->a.defers=ds->bh8 n0 ρ0 w0 ρ w->n0<=id->(∀k,id<=k->k<id+cd7 ios->ρ k=.no)->id+cd7 ios<=σ.next ->
   wpOpsIn (fw ro) 0 P ops Qw (zj i os.length) a w:=by
 intro os
 induction os with
 | nil=>
  intro ios i id fr σ ρ w a _ hc h hs hf hd hx hn0 hres hle;cases hc
  exact hfin fr σ ρ w a (by simp[cd7] at hle;omega) h hs hf hd hx
 | cons o os ih=>
  intro ios i id fr σ ρ w a hdrop hc h hs hf hd hx hn0 hres hle;simp only[by4] at hc;split at hc
  .rename_i io ios' hio hios;cases hc;have⟨⟨fz,hk⟩,hdst,hdN,hg⟩:=dc3 hio
   have hi:ops[i]? = zb o:=by
    have:=congrArg (λl=>l[0]?) hdrop
    simpa [List.getElem?_drop] using this
   have hdrop':ops.toList.drop (i+1)=os:=by
    have:=congrArg (List.drop 1) hdrop
    simpa [List.drop_drop] using this
   simp only[List.length_cons,List.range'_succ];rw[wpOpsIn_cons]
   have run:opR P E io.op id fr σ (λv σ'=>cd6 P E ios' (if io.op.lays then id+1 else id) (fr.ba3 io.dst v) σ' K)->o.wpIn (fw ro) 0 P a w (wpOpsIn (fw ro) 0 P ops Qw (zj (i+1) os.length)) Qw:=by
    intro hop;have hlN:=ck6 io ios';refine fi7 hk hop hs hf (by omega) (λhl=>⟨hres id (za _) (by rw[hlN,hl];simp;omega),by rw[hlN,hl] at hle;simp at hle;omega,hn0⟩) ?_;intro v σ' r ρ' w' hnx hK hs' hv' hx' hno;refine ih ios' (i+1) _ _ σ' ρ' w' (a.put o.dst r) hdrop' hios hK hs' ?_ (by rw[put_defers];exact hd) (hx.trans (hx'.weak (za _))) (by split<;>omega) ?_ ?_
    .rw[hdst];exact FR.ba3 (hf.mono hx') hdN hv'
    .intro k hk1 hk2;have hk3:id<=k:=by split at hk1<;>omega
     have hk4:k<id+cd7 (io::ios'):=by
      rw[hlN];cases hl:io.op.lays<;>rw[hl] at hk2<;>simp at hk2 ⊢<;>omega
     exact hno k (by omega) (λhl=>by rw[hl] at hk1;simp at hk1;omega) (hres k hk3 hk4)
    .rw[hlN] at hle;split<;>simp_all<;>omega
   unfold wpOpIn;simp only[hi];simp only[cd6] at h;have⟨act,hact,h⟩:=h
   have skip:cd6 P E ios' (if io.op.lays then id+1 else id) (fr.ba3 io.dst skV) σ K->(∀f,o.about P w a.eval=zb f->(fw ro).fn f)/\wpOpsIn (fw ro) 0 P ops Qw (zj (i+1) os.length) (a.put o.dst undef) w:=by
    intro h;refine ⟨λf _=>trivial,?_⟩;have hlN:=ck6 io ios';refine ih ios' (i+1) _ _ σ ρ w (a.put o.dst undef) hdrop' hios h hs (by rw[hdst];exact FR.ba3 hf hdN iz2) (by rw[put_defers];exact hd) hx (by split<;>omega) ?_ ?_
    .intro k hk1 hk2;refine hres k (by split at hk1<;>omega) ?_;rw[hlN];cases hl:io.op.lays<;>rw[hl] at hk2<;>simp at hk2 ⊢<;>omega
    .rw[hlN] at hle;split<;>simp_all<;>omega
   have hw:Region.wanted o (yielded ops a.tmps)=act:=by
    rcases hg with ⟨hg1,hg2⟩|⟨j,want,s,hg1,hgs,hg2⟩
    .simp only[ck4,hg2,zb.injEq] at hact;unfold Region.wanted;rw[hg1];exact hact
    .simp only[ck4,hg2] at hact;exact ek8 hg1 hgs hf hact
   rw[hw]
   cases act with
   | true=>exact run h
   | false=>exact skip h
  .cases hc
end Go.Id
namespace Go.Id
open Go
variable {P:Program} {w w' w'':World} {ρ ρ' ρ'':Rho} {E:Nat->IV} {σ σ':Store} {N n n':Nat} {fr:Frm} {a:Act} {pf:List Nat}
def ii7 {n0 id:Nat}{ops:Array Oper}{b:List af1}{Q:Exit->Frm->Store->Prop}(hc:by4 P pf N ops ops.toList=zb b)
  (h:cd6 P E b σ.next fr { σ with next:=σ.next+cd7 b } (λfr' σ'=>Q .normal fr' σ')):R P E N n0 (.region id ops false) fr σ Q:=by
 intro m r h0 ρ w a hs hf p hr;refine wpIn_region ?_;rw[List.range_eq_range'];have e:ops.size=ops.toList.length:=sm
 rw[e]
 refine gu2 (n0:=n0) (ρ0:=ρ) (w0:=w) (ds:=a.defers) (K:=λfr' σ'=>Q .normal fr' σ') ?_ ops.toList b 0 σ.next fr _ ρ w a rfl hc h
  (fi6 hs (λi hi=>hs.fresh i (by omega))) hf rfl (bh8.refl _ _ _) m (λk o _=>hs.fresh k o) (za _)
 intro fr' σ' ρ' w' s f q d g j c;exact ⟨fr',σ',ρ',f,q,d,g,by rw[j];exact p.mono c,hr.mono c,c⟩
def VR.turn {r:Nat}{v:IV}{x:Value}(hsz:w'.heap.size=w.heap.size)(hb:∀b,b≠r->w'.heap[b]? = w.heap[b]?)(hr:∀rcs el fz,w.heap[r]?≠zb (Obj.cells rcs el fz))(hmp:∀mes c,w.heap[r]?≠zb (Obj.map mes c))(h:VR ρ w v x):VR ρ w' v x:=by
 have hcells:∀(b:Nat) (rcs:Array Value) (el:TypeId) (fz:Nat×Nat),w.heap[b]? = zb (.cells rcs el fz)->w'.heap[b]? = zb (.cells rcs el fz):=λb rcs el fz hh=>by
  have:b≠r:=λe=>by subst e;exact hr _ _ _ hh
  rw[hb b this];exact hh
 have hfb:∀b,FB ρ w b->FB ρ w' b:=λb hh=>⟨by rw[hsz];exact hh.1,hh.2,hh.3⟩
 have hcell:∀(ad:Addr) (q:Value),w.cell? ad=zb q->w'.cell? ad=zb q:=λad q hh=>by
  unfold World.cell? at hh ⊢;split at hh
  .rename_i c el fz hc;rw[hcells _ _ _ _ hc];exact hh
  .cases hh
 induction h with
 | undef r=>exact .undef r
 | bool b=>exact .bool b
 | int k n=>exact .int k n
 | str s=>exact .str s
 | ag2=>exact .ag2
 | ptr id off B d hi=>exact .ptr id off B d hi
 | cx4 id off ad hi=>exact .cx4 id off ad hi
 | ab5 cs b o vs hf hc _ ih=>exact .ab5 cs b o vs (hfb _ hf) (λj hj=>hcell _ _ (hc j hj)) ih
 | aa5=>exact .aa5
 | ad2 a=>exact .ad2 a
 | af7 a c=>exact .af7 a c
 | slice id off len esz B d cap rcs el fz hi hbk hs hle=>exact .slice id off len esz B d cap rcs el fz hi (hcells _ _ _ _ hbk) hs hle
 | am9 id off esz B d a hi=>exact .am9 id off esz B d a hi
 | am3 id off len esz cap ad hi hle=>exact .am3 id off len esz cap ad hi hle
 | ag6 id off len esz B d rcs el fz hi hbk hs=>exact .ag6 id off len esz B d rcs el fz hi (hcells _ _ _ _ hbk) hs
 | aq6 id off len esz ad hi=>exact .aq6 id off len esz ad hi
 | al2 id off len room esz B d cap rcs el fz hi hbk hs hle hr=>exact .al2 id off len room esz B d cap rcs el fz hi (hcells _ _ _ _ hbk) hs hle hr
 | az1 id off len room esz cap ad hi hle hr=>exact .az1 id off len room esz cap ad hi hle hr
 | aa2 es b o cap esz sp vs hf hs hc _ hle ih=>exact .aa2 es b o cap esz sp vs (λhne=>⟨hfb _ (hf hne).1,(hf hne).2⟩) hs (λi hi j hj=>hcell _ _ (hc i hi j hj)) ih hle
 | ci6=>exact .ci6
 | am1=>exact .am1
 | map id B d hi=>exact .map id B d hi
 | mapD id B hi=>exact .mapD id B hi
 | am2 es es' b mes clock hp hd hf hh hl _ _ h4 h5 ihk ihv=>exact .am2 es es' b mes clock hp hd (hfb _ hf) (by have:b≠r:=λe=>by { subst e;exact hmp _ _ hh };rw[hb b this];exact hh) hl ihk ihv h4 h5
 | func fn first cap rf rc hy h1 h2 _ _ ihf ihc=>exact .func fn first cap rf rc hy h1 h2 ihf ihc
 | yield id B d hi=>exact .yield id B d hi
 | bd9 id B hi=>exact .bd9 id B hi
 | ai8=>exact .ai8
 | iface t v r _ ih=>exact .iface t v r ih
 | ah6=>exact .ah6
 | agg cs rs h1 _ ih=>exact .agg cs rs h1 ih
 | tuple cs rs h1 _ ih=>exact .tuple cs rs h1 ih
def OR.turn {r B d:Nat}{o:aj8}(f:w'.heap.size=w.heap.size)(k:∀b,b≠r->w'.heap[b]? = w.heap[b]?)(hr:∀u el T,w.heap[r]?≠zb (Obj.cells u el T))(g:∀m c,w.heap[r]?≠zb (Obj.map m c))(A:B≠r)(h:OR ρ w B d o):OR ρ w' B d o:=by
 have z:∀cs,ar2 ρ w B d cs->ar2 ρ w' B d cs:=λcs ⟨u,el,x,q,p⟩=>⟨u,el,by rw[k B A];exact x,q,λi hi=>(p i hi).turn f k hr g⟩
 cases o with
 | cells cs=>exact z cs h
 | row cs=>exact z cs h
 | map es=>
  have⟨m,j,x,h0,q,p,F,D⟩:=h
  exact ⟨m,j,by rw[k B A];exact x,h0,q,λi hi=>⟨(p i hi).1.turn f k hr g,(p i hi).2.turn f k hr g⟩,F,D⟩
 | bh7 s pos=>exact ⟨by rw[k B A];exact h.1,h.2⟩
 | loop N tmps params assign body st pend=>
  have⟨J,l,x,q,p,F,D,M,L,K⟩:=h
  exact ⟨J,l,by rw[k B A];exact x,q,p,F,D,M,L,λt=>(K t).turn f k hr g⟩
 | as9 left cur=>
  have⟨J,H,last,y,m,j,I,x,q,p,F,D,M,L,K,hc,Q⟩:=h;have S:H≠r:=λe=>by subst e;exact g _ _ p
  exact ⟨J,H,last,y,m,j,I,by rw[k B A];exact x,⟨by rw[f];exact q.1,q.2,q.3⟩,by rw[k H S];exact p,F,D,M,L,K,λc e=>let ⟨i,g1,g2,g3,g4⟩:=hc c e;⟨i,g1,g2,g3.turn f k hr g,g4.turn f k hr g⟩,λi hi=>⟨(Q i hi).1.turn f k hr g,(Q i hi).2.turn f k hr g⟩⟩
def Sim.turn {r:Nat}(f:w'.heap.size=w.heap.size)(q:∀b,b≠r->w'.heap[b]? = w.heap[b]?)(hr:∀k el s,w.heap[r]?≠zb (Obj.cells k el s))(j:∀m c,w.heap[r]?≠zb (Obj.map m c))(p:UB ρ w r)(hs:Sim E ρ w σ):Sim E ρ w' σ :=
 ⟨hs.inj,λi B d h=>by rw[f];exact hs.lt i B d h,λi B d h=>let ⟨o,h1,h2⟩:=hs.obj i B d h;⟨o,h1,h2.turn f q hr j (λe=>p.2 i d (by rw[<- e];exact h))⟩,hs.dead,hs.fresh,hs.aw6,λg=>(hs.env g).turn f q hr j,hs.nx,λb h=>by rw[f];exact hs.xlt b h⟩
def kl8 (P:Program)(σ:Store)(fr:Frm):ResultVar->Option IV
 | .tmp t=>zb (fr.get t)
 | .cell ad t=>match aq5 P t with
  | some agg=>ay8 σ agg (fr.get ad)
  | none=>zc
def ii8 (P:Program)(σ:Store)(fr:Frm):List ResultVar->Option (List IV)
 | []=>zb []
 | r::rs=>match kl8 P σ fr r,ii8 P σ fr rs with
  | some v,zb vs=>zb (v::vs)
  | _,_=>zc
def fx1:List IV->IV
 | [v]=>v
 | vs=>.tuple vs
def fi8 (tmps:Array Value):ResultVar->Sem Value
 | .tmp t=>pure (tmps.getD t undef)
 | .cell a t=>do loadVar t (<- asAddr (tmps.getD a undef))
def fx2 (b:Func)(tmps:Array Value):results b tmps=(do let vs <- b.results.mapM (fi8 tmps);pure (if h:vs.size=1 then vs[0] else .tuple vs)):=by
 unfold results;refine congrArg (λm:Sem (Array Value)=>m >>= λvs=>pure (if h:vs.size=1 then vs[0] else .tuple vs)) ?_;refine congrArg (λg=>b.results.mapM g) ?_;funext x;cases x<;>rfl
def fx3 {tmps:Array Value}(hs:Sim E ρ w σ)(hf:FR ρ w N fr tmps):∀(f:List ResultVar) (vs:List IV),ii8 P σ fr f=zb vs ->
  ∃c:List Value,(f.mapM (fi8 tmps)).run P w=.ok c w/\CR ρ w vs c.toArray:=by
 intro f
 induction f with
 | nil=>intro vs h;cases h;exact ⟨[],rfl,rfl,λi hi=>by simp at hi⟩
 | cons r f ih=>
  intro vs h;simp only[ii8] at h;split at h
  .rename_i v m d u;cases h;have⟨c,hr,hc⟩:=ih m u
   have p:∃x,(fi8 tmps r).run P w=.ok x w/\VR ρ w v x:=by
    cases r with
    | tmp t=>cases d;exact ⟨_,rfl,hf.get t⟩
    | cell ad t=>
     simp only[kl8] at d;split at d
     .rename_i y s;have q:=hf.get ad;have⟨x,j,e⟩:=dm1 hs s d q
      have hp:∃g,tmps.getD ad undef=.pointer (zb g):=by
       unfold ay8 at d
       cases hc:ar3 σ (fr.get ad) with
       | none=>rw[hc] at d;cases d
       | some cs=>have⟨b,o,k,_⟩:=cc6 hs q hc;exact ⟨_,k⟩
      have⟨g,k⟩:=hp;rw[k] at j;refine ⟨x,?_,e⟩;show (do loadVar t (<- asAddr (tmps.getD ad undef)):Sem Value).run P w=.ok x w;rw[k]
      simpa [Instr.loadAt,Instr.sureAddr,asAddr] using j
     .cases d
   have⟨x,j,e⟩:=p;refine ⟨x::c,?_,by have:=hc.1;simp at this ⊢;exact this,λi hi=>?_⟩
   .rw[List.mapM_cons];simp only[Sem.run_bind,j,hr,Result.andThen_ok,Sem.run_pure]
   .cases i with
    | zero=>simpa using e
    | succ i=>simpa [zd] using hc.2 i (by simpa using hi)
  .cases h
def ea8 {c:Func}{tmps:Array Value}{vs:List IV}(hs:Sim E ρ w σ)(hf:FR ρ w N fr tmps)(h:ii8 P σ fr c.results.toList=zb vs) :
  ∃x,(results c tmps).run P w=.ok x w/\VR ρ w (fx1 vs) x:=by
 have⟨b,hr,hc⟩:=fx3 (P:=P) hs hf c.results.toList vs h
 have d:(c.results.mapM (fi8 tmps)).run P w=.ok b.toArray w:=by
  obtain ⟨l,e⟩:∃l,c.results=⟨l⟩:=⟨c.results.toList,rfl⟩;rw[e] at hr ⊢;rw[List.mapM_toArray,Sem.run_map,hr];rfl
 rw[fx2];simp only[Sem.run_bind,d,Result.andThen_ok]
 match vs,b,hc with
 | [],[],hc=>exact ⟨_,rfl,.tuple _ _ hc.1 hc.2⟩
 | [v],[x],hc=>exact ⟨x,rfl,by have:=hc.2 0 sm;simpa [fx1] using this⟩
 | v::v'::vs,x::x'::b,hc=>exact ⟨.tuple (x::x'::b).toArray,rfl,.tuple _ _ hc.1 hc.2⟩
 | [],x::b,hc=>exact absurd hc.1 sm
 | [v],[],hc=>exact absurd hc.1 sm
 | v::v'::vs,[],hc=>exact absurd hc.1 sm
 | v::v'::vs,[x],hc=>exact absurd hc.1 sm
 | [v],x::x'::b,hc=>exact absurd hc.1 sm
def bm7:List IV->Nat->Frm
 | [],_=>[]
 | v::vs,i=>(i,v)::bm7 vs (i+1)
def gu3 (vs:List IV):∀(i t:Nat),(bm7 vs i).get t=if i<=t then vs.getD (t-i) .undef else .undef:=by
 induction vs with
 | nil=>intro i t;simp[bm7,Frm.get]
 | cons v vs ih=>
  intro i t;have:bm7 (v::vs) i=(bm7 vs (i+1)).set i v:=rfl;rw[this,Frm.ci8,ih];by_cases h:t=i
  .subst h;simp
  .rw[if_neg h];by_cases c:i<=t
   .have b:i+1<=t:=by omega
    rw[if_pos c,if_pos b,show t-i=(t-(i+1))+1 from by omega];simp
   .have b:¬(i+1<=t):=by omega
    rw[if_neg c,if_neg b]
def kr5 {args:List IV}{b:Array Value}(hc:CR ρ w args b)(c:args.length<=N):FR ρ w N (bm7 args 0) (b++zh (N-b.size) undef):=by
 refine ⟨by rw[hc.1] at c;simp;omega,λt=>?_⟩;rw[gu3];simp only[Nat.zero_le,if_true,Nat.sub_zero];by_cases h:t<args.length
 .have d:t<b.size:=by rw[<- hc.1];exact h
  have:=hc.2 t h
  have e:(b++zh (N-b.size) undef).getD t undef=b.getD t undef:=by
   simp[zd,zg,d]
  rw[e];exact this
 .have:args.getD t .undef=.undef:=by simp[ze,List.getElem?_eq_none (Nat.le_of_not_lt h)]
  rw[this];exact .undef _
def dn2 (w:World)(r b:Nat)(o:Obj)(h:b≠r):(w.putObj r o).heap[b]? = w.heap[b]?:=by
 have c:¬r=b:=λe=>h e.symm
 show (w.heap.setIfInBounds r o)[b]? = _;rw[Array.getElem?_setIfInBounds];simp[c]
def DF.sub {h0:Nat×List Deferred}{ds:List Deferred}(h:DF h0 ρ w ds):∀d∈h0.2,d∈ds:=by
 induction h with
 | nil=>exact λd b=>b
 | cons r ds _ _ _ _ _ ih=>exact λd b=>List.mem_cons_of_mem _ (ih d b)
def DF.put {h0:Nat×List Deferred}{r:Nat}:∀ {ds:List Deferred},DF h0 ρ w ds->(∀d∈ds,d.target=.collected r->False)->DF h0 ρ (w.putObj r (.deferred zc)) ds:=by
 have b:(w.putObj r (.deferred zc)).heap.size=w.heap.size:=by show (w.heap.setIfInBounds r _).size=_;simp
 intro ds g
 induction g with
 | nil hz hb0=>intro _;exact .nil (by rw[b];exact hz) (by rw[b];exact hb0)
 | cons r' ds'' hr' hb' hh' hn' _ ih'=>
  intro c;have f:r'≠r:=λe=>c { target:=.collected r',args:=#[] } sm (by rw[e])
  exact .cons r' ds'' (by rw[dn2 w r r' _ f];exact hr') ⟨by rw[b];exact hb'.1,hb'.2⟩ hh' hn' (ih' (λd g=>c d (by simp[g])))
def ek9 {n0:Nat}{h0:Nat×List Deferred}{B:Func}{tmps:Array Value}{D:Ending->World->Prop}{ρ0:Rho}{w0:World}{u:FrameMode}(F:u≠.run)(I:w0.heap.size<=h0.1)
  (J:World->Prop) (H:∀w r,J w->(∀d∈h0.2,d.target=.collected r->False)->J (w.putObj r (.deferred zc)))
  (f:∀w,Sim E ρ w σ->FR ρ w N fr tmps->J w->bh8 n0 ρ0 w0 ρ w->LeavesInM Fence.wide 0 P B tmps D h0.2 u w) :
  ∀(ds:List Deferred) (w:World),Sim E ρ w σ->FR ρ w N fr tmps->DF h0 ρ w ds->J w->bh8 n0 ρ0 w0 ρ w->LeavesInM Fence.wide 0 P B tmps D ds u w:=by
 intro ds
 induction ds with
 | nil=>
  intro w hs hf k q e;generalize y:([]:List Deferred)=ds at k
  cases k with
  | nil hz hb=>exact f w hs hf q e
  | cons=>cases y
 | cons d ds ih=>
  intro w hs hf k q e;generalize y:d::ds=ds' at k
  cases k with
  | nil hz hb=>exact f w hs hf q e
  | cons r _ hr hb hh1 hn hd'=>
   cases y;have j:(w.putObj r (.deferred zc)).heap.size=w.heap.size:=by show (w.heap.setIfInBounds r _).size=_;simp
   have o:∀(i:Array Value) (el:TypeId) (z:Nat×Nat),w.heap[r]?≠zb (Obj.cells i el z):=λ_ _ _ h=>by rw[hr] at h;cases h
   have m:∀(s:Array MapEntry) (c:Nat),w.heap[r]?≠zb (Obj.map s c):=λ_ _ h=>by rw[hr] at h;cases h
   have p:∀b,b≠r->(w.putObj r (.deferred zc)).heap[b]? = w.heap[b]?:=λb h=>dn2 w r b _ h
   refine ⟨F,.inl ⟨r,w.putObj r (.deferred zc),rfl,run_takeDeferred hr,?_⟩⟩;refine ih _ (hs.turn j p o m hb) ⟨hf.size,λt=>(hf.get t).turn j p o m⟩ (hd'.put hn) (H w r q λd k=>hn d (hd'.sub d k)) ?_;refine ⟨by rw[j];exact e.size,λb g=>?_,λb i el z g=>?_,e.img,e.at_,e.dead,e.no,e.output,e.os,e.tape,λl L A=>?_,e.X⟩
   .rw[p b (by have:=g.1;omega)];exact e.keep b g
   .have x:=(zf.1 g).1;rw[p b (by omega)];exact e.shape b i el z g
   .have x:=(zf.1 A).1;rw[p l (by omega)];exact e.loops l L A
def el1 {n0 h:Nat}{f:Func}{tmps:Array Value}{g:Ending->World->Prop}{ρ0:Rho}{w0:World}{vs:List IV}
  (c:∀x w',Sim E ρ w' σ->VR ρ w' (fx1 vs) x->bh8 n0 ρ0 w0 ρ w'->g (.returned x) w') (b:ii8 P σ fr f.results.toList=zb vs) (j:w0.heap.size<=h) :
  ∀(ds:List Deferred) (w:World),Sim E ρ w σ->FR ρ w N fr tmps->DF (h,[]) ρ w ds->bh8 n0 ρ0 w0 ρ w->LeavesInM Fence.wide 0 P f tmps g ds .returning w :=
 λds w hs hf k e=>ek9 (h0:=(h,[])) (u:=.returning) (λh=>by cases h) j (λ_=>True) (λ_ _ _ _=>trivial) (λw hs hf _ e=>by
  have⟨x,d,i⟩:=ea8 (P:=P) hs hf b;exact ⟨x,d,c x w hs i e⟩) ds w hs hf k trivial e
def lb7 (P:Program)(rs:List ResultVar)(Qc:IV->Store->Prop):Exit->Frm->Store->Prop
 | .normal,fr,σ|.ret,fr,σ=>∃vs,ii8 P σ fr rs=zb vs/\Qc (fx1 vs) σ
 | _,_,_=>False
def jz9 {f:FuncId}{g:Func}{c:Code}{args:List IV}{m:IV->Store->Prop}(hf:P.funcs[f]? = zb g)(D:g.body=zb c)(u:g.ntmps=N)(B:args.length<=N)
  (h:R P E N σ.next c (bm7 args 0) σ (lb7 P g.results.toList m)):C P E f args σ m:=by
 intro ρ w b hs hc;refine callsIn_of_wp_marks hf D trivial ?_;have d:=kr5 hc B;rw[<- u] at d;refine wpIn_mono (h (za _) zc (w.heap.size,[]) ρ w { tmps:=b++zh (g.ntmps-b.size) undef,defers:=[] } hs (by rw[u] at d ⊢;exact d) (.nil (za _) (λ_ h=>by cases h)) (λl e=>by cases e)) ?_;rintro e t w' ⟨fr',σ',ρ',A,q,o,p,s,_,y⟩
 have fin:(∃vs,ii8 P σ' fr' g.results.toList=zb vs/\m (fx1 vs) σ')->LeavesInM Fence.wide 0 P g t.tmps (λe w'=>∃v r ρ' σ',e=.returned r/\m v σ'/\Sim E ρ' w' σ'/\VR ρ' w' v r/\bh8 σ.next ρ w ρ' w') t.defers .returning w':=by
  rintro ⟨vs,hr,z⟩;exact el1 (n0:=σ.next) (ρ0:=ρ) (w0:=w) (h:=w.heap.size) (λx w'' k j i=>⟨fx1 vs,x,ρ',σ',rfl,z,k,j,i⟩) hr (za _) t.defers w' o p s y
 cases e with
 | normal=>exact fin q
 | ret=>exact fin q
 | _=>exact q.elim
end Go.Id
namespace Go.Id
open Go
variable {P:Program} {w w' w'':World} {ρ ρ' ρ'':Rho} {E:Nat->IV} {σ σ':Store} {N n n':Nat} {fr:Frm} {a:Act}
def cw6 {l₀:Nat}{r₀:Loop}(h:w.heap[l₀]? = zb (.loop r₀))(fn:FuncId)(tmps:Array Value)(ps:Array Tmp)(assign body:Code) :
  (Instr.enterLoop fn tmps ps assign body (zb l₀)).run P w =
   .ok (w.heap.size,[]) (w.alloc (.loop { state:=.ready,pending:=zc,fn,tmps,params:=ps,assign,body,defers:=r₀.defers })):=by
 unfold Instr.enterLoop;simp only[Sem.run_bind,run_getLoop h,run_newObj_alloc,Result.andThen,Sem.run_pure]
def bt1 (n:Nat)(o:Obj):Ext n ρ w ρ (w.alloc o) where
 size:=by show w.heap.size<=(w.heap.push o).size;simp
 keep:=λb c=>ba8 w o b c.1
 shape:=λb e el g c=>⟨e,by rw[ba8 w o b (zf.1 c).1];exact c,rfl⟩
 img:=λi B d hi=>.inl ⟨i,d,hi⟩
 at_:=λ_ _ _ h=>.inl h
 dead:=λ_ h=>h
 no:=λ_ _ h=>h
 output:=rfl
 os:=rfl
 tape:=rfl
 loops:=λl L f=>⟨L,by rw[ba8 w o l (zf.1 f).1];exact f⟩
 X:=rfl
def fx4 (o:Obj)(hs:Sim E ρ w σ):Sim E ρ (w.alloc o) σ :=
 ⟨hs.inj,λi B d h=>by have:=hs.lt i B d h;show B<(w.heap.push o).size;rw[Array.size_push];omega,
  λi B d h=>let ⟨o',h1,h2⟩:=hs.obj i B d h;⟨o',h1,h2.mono (bt1 0 o) (ba8 w o B (hs.lt i B d h))⟩,hs.dead,hs.fresh,hs.aw6,λg=>(hs.env g).mono (bt1 0 o),hs.nx,λb h=>by have:=hs.xlt b h;show b<(w.heap.push o).size;rw[Array.size_push];omega⟩
def cd8 {n l d id:Nat}{L L':Loop}(f:ρ id=.at l d)(j:w.heap[l]? = zb (.loop L)):Ext n ρ w ρ (w.putObj l (.loop L')) where
 size:=by rw[World.putObj_size];exact za _
 keep:=λb g=>World.putObj_heap_other (λh=>by subst h;exact g.2 id d f)
 shape:=λb e el o c=>by
  have h:b≠l:=λh=>by subst h;rw[j] at c;cases c
  exact ⟨e,by rw[World.putObj_heap_other h];exact c,rfl⟩
 img:=λi B d h=>.inl ⟨i,d,h⟩
 at_:=λ_ _ _ h=>.inl h
 dead:=λ_ h=>h
 no:=λ_ _ h=>h
 output:=rfl
 os:=rfl
 tape:=rfl
 loops:=λk K m=>by
  by_cases h:k=l
  .subst h;exact ⟨L',World.putObj_heap_same (zf.1 j).1⟩
  .exact ⟨K,by rw[World.putObj_heap_other h];exact m⟩
 X:=rfl
def ea9 {id l d:Nat}{L L':Loop}{o:aj8}(hs:Sim E ρ w σ)(c:ρ id=.at l d)(m:w.heap[l]? = zb (.loop L))(q:OR ρ (w.putObj l (.loop L')) l d o):Sim E ρ (w.putObj l (.loop L')) (σ.put id o) where
 inj:=hs.inj
 lt:=λi j f h=>by rw[World.putObj_size];exact hs.lt i j f h
 obj:=λi j f hi=>by
  simp only[Store.put];by_cases h:i=id
  .subst h;rw[c] at hi;cases hi;exact ⟨o,by simp,q⟩
  .have⟨p,s,r⟩:=hs.obj i j f hi;have k:j≠l:=λe=>h (hs.inj i id l f d (by rw[hi,e]) c)
   exact ⟨p,by simp[h,s],r.mono (cd8 (n:=0) c m) (World.putObj_heap_other k)⟩
 dead:=λi hi=>by
  have:i≠id:=λe=>by subst e;rw[c] at hi;cases hi
  simp[Store.put,this,hs.dead i hi]
 fresh:=λi hi=>hs.fresh i hi
 aw6:=λi hi=>by
  have:i≠id:=λe=>by subst e;rw[c] at hi;cases hi
  simp[Store.put,this,hs.aw6 i hi]
 env:=λg=>(hs.env g).mono (cd8 (n:=0) c m)
 nx:=hs.nx
 xlt:=λb h=>by rw[World.putObj_size];exact hs.xlt b h
def dj7 (fr:Frm):List Nat->List IV->Frm
 | p::ps,v::vs=>dj7 (fr.set p v) ps vs
 | _,_=>fr
def ii9:∀(ps:List Nat) (args:List IV) (b:List Value) (fr:Frm) (tmps:Array Value),(∀p∈ps,p<N)->args.length=ps.length->b.length=ps.length ->
  (∀i,i<args.length->VR ρ w (args.getD i .undef) (b.getD i undef))->FR ρ w N fr tmps->FR ρ w N (dj7 fr ps args) ((ps.zip b).foldl (λtmps (t,a)=>tmps.setIfInBounds t a) tmps):=by
 intro ps
 induction ps with
 | nil=>intro args b fr tmps _ d c _ hf;exact hf
 | cons p ps ih=>
  intro args b fr tmps hp d c e hf
  match args,b,d,c with
  | v::vs,r::rs,d,c=>
   refine ih vs rs _ _ (λq f=>hp q (by simp[f])) (by simpa using d) (by simpa using c) (λi hi=>?_) (hf.set (hp p sm) ?_)
   .have:=e (i+1) (by simpa using hi)
    simpa [ze] using this
   .have:=e 0 sm
    simpa [ze] using this
def el3 (l:Nat):Fence.wide.inRound l=fw (zb l):=rfl
def ka1 (id:Nat)(L:LoopState->Option Code->aj8)(K:IV->Store->Prop):Exit->Frm->Store->Prop
 | .normal,_,σ=>σ.obj id=zb (L .busy zc)/\K (.bool true) (σ.put id (L .ready zc))
 | .ret,_,σ=>σ.obj id=zb (L .busy zc)/\K (.bool false) (σ.put id (L .done (zb .ret)))
 | .exit i,_,σ=>σ.obj id=zb (L .busy zc)/\K (.bool false) (σ.put id (L .done (zb (.exit i))))
 | _,_,_=>False
def ka2 {id:Nat}{ps:List Nat}{asg body:Code}{args:List IV}{K:IV->Store->Prop}(ae:∀p∈ps,p<N)(hl:args.length=ps.length)(ho:σ.obj id=zb (.loop N fr ps.toArray asg body .ready zc))
  (h:R P E N σ.next asg (dj7 fr ps args) σ λe f s=>e=.normal/\s.obj id=zb (.loop N fr ps.toArray asg body .ready zc) /\
   R P E N σ.next body f (s.put id (.loop N fr ps.toArray asg body .busy zc)) (ka1 id (λs p=>.loop N fr ps.toArray asg body s p) K)):CYd P E id args σ K:=by
 intro ρ w b B d hs hc Q;have⟨o,h1,h2⟩:=hs.obj id B d Q;rw[ho] at h1;cases h1;have⟨hd,L,g1,g2,g3,g4,g5,g6,g7,g8⟩:=h2;subst hd;have aa:b.size=L.params.size:=by rw[g2,<- hc.1];simpa using hl
 have ag:id<σ.next:=by
  rcases Nat.lt_or_ge id σ.next with h|h
  .exact h
  .have:=hs.fresh id h;rw[Q] at this;cases this
 refine ⟨L.fn,_,L.assign,L.body,run_yield g1 aa,roundIn_of_wpIn trivial ?_⟩;rw[g3,g4,el3]
 have ah:FR ρ w N (dj7 fr ps args) (zi (λtmps (x:Tmp×Value)=>tmps.setIfInBounds x.1 x.2) L.tmps (L.params.zip b)):=by
  have:=ii9 (ρ:=ρ) (w:=w) ps args b.toList fr L.tmps ae hl (by rw[Array.length_toList,<- hc.1];exact hl) (λi hi=>by have:=hc.2 i hi;simpa [zd,ze] using this) ⟨g7,g8⟩
  have e:(zi (λtmps (x:Tmp×Value)=>tmps.setIfInBounds x.1 x.2) L.tmps (L.params.zip b))=List.foldl (λtmps (x:Tmp×Value)=>tmps.setIfInBounds x.1 x.2) L.tmps (ps.zip b.toList):=by
   rw[<- Array.foldl_toList,Array.toList_zip,g2]
  rw[e];exact this
 refine wpIn_mono (h (za _) (zb B) (w.heap.size,[]) ρ w { tmps:=zi (λtmps (x:Tmp×Value)=>tmps.setIfInBounds x.1 x.2) L.tmps (L.params.zip b),defers:=[] } hs ah (.nil (za _) (λ_ h=>by cases h)) (λl e=>by cases e;exact ⟨_,g1⟩)) ?_;rintro e a1 w1 ⟨X,Y,z,af,⟨rfl,I,S⟩,A,ai,aj,ad,W⟩
 have H:∀ {ρ':Rho} {w':World} {σ':Store} {st:LoopState} {pd:Option Code},bh8 σ.next ρ w ρ' w'->Sim E ρ' w' σ'->σ'.obj id=zb (.loop N fr ps.toArray asg body st pd)->ρ' id=.at B 0:=λhx y D=>by
  rcases hx.at_ id B 0 ag Q with h|h
  .exact h
  .have:=y.dead id h;rw[D] at this;cases this
 have k:=H W A I;have⟨o1,T,k2⟩:=A.obj id B 0 k;rw[I] at T;cases T;have⟨aq,L1,e1,e2,e3,e4,e5,e6,e7,e8⟩:=k2;have ak:=A.lt id B 0 k;refine ⟨_,run_beginRound e1 e6,?_⟩;have M:∀m,Ext m z w1 z (w1.putObj B (.loop { L1 with state:=.busy })):=λm=>cd8 k e1
 have ac:Sim E z (w1.putObj B (.loop { L1 with state:=.busy })) (Y.put id (.loop N fr ps.toArray asg body .busy zc)):=
  ea9 A k e1 ⟨rfl,{ L1 with state:=.busy },World.putObj_heap_same ak,e2,e3,e4,e5,rfl,e7,λt=>(e8 t).mono (M 0)⟩
 have J:=(M σ.next).weak (za σ.next);refine wpIn_mono (S af (zb B) (w.heap.size,[]) z _ a1 ac (ai.mono (M 0)) (aj.mono J) (ad.mono J)) ?_;rintro e a' w' ⟨fr',σ',ρ',an,q,y,ao,ar,am,hx⟩
 have fin:∀(g:Option Code) (st:LoopState),st=(if g.isNone then .ready else .done)->σ'.obj id=zb (.loop N fr ps.toArray asg body .busy zc)->K (.bool g.isNone) (σ'.put id (.loop N fr ps.toArray asg body st g)) ->
   ∃v j,(Instr.endRound B g).run P w'=.ok v j/\∃v' r ρ'' F,Ending.returned v=.returned r/\K v' F/\Sim E ρ'' j F/\VR ρ'' j v' r/\bh8 σ.next ρ w ρ'' j:=by
  intro g st ab D hK;have U:bh8 σ.next ρ w ρ' w':=(W.trans J).trans hx;have u:=H U y D;have⟨o',T,k2⟩:=y.obj id B 0 u;rw[D] at T;cases T;have⟨ap,L',X,f2,f3,f4,f5,f6,f7,f8⟩:=k2;have al:=y.lt id B 0 u;have V:∀m,Ext m ρ' w' ρ' (w'.putObj B (.loop { L' with state:=if g.isNone then .ready else .done,pending:=g })):=λm=>cd8 u X
  refine ⟨_,_,run_endRound g X,_,_,ρ',_,rfl,hK,ea9 y u X ⟨rfl,_,World.putObj_heap_same al,f2,f3,f4,rfl,ab.symm,f7,λt=>(f8 t).mono (V 0)⟩,.bool _,?_⟩;exact U.trans ((V σ.next).weak (za _))
 cases e with
 | normal=>exact fin zc .ready rfl q.1 q.2
 | ret=>exact fin (zb .ret) .done rfl q.1 q.2
 | exit i=>exact fin (zb (.exit i)) .done rfl q.1 q.2
 | goto t=>exact q.elim
 | panic c=>exact q.elim
 | outgrown=>exact q.elim
def kr6 (Q:Exit->Frm->Store->Prop)(fr:Frm)(σ:Store):Option Code->Prop
 | none=>Q .normal fr σ
 | some .ret=>Q .ret fr σ
 | some (.exit i)=>Q (.exit i) fr σ
 | _=>False
def CVf (P:Program)(E:Nat->IV)(fv:IV)(args:List IV)(σ:Store)(Q:IV->Store->Prop):Prop :=
 match fv with
 | .func (.func f) first cap=>okF P f=true/\C P E f (first++args++cap) σ Q
 | _=>False
def CVf.mono {b:IV}{args:List IV}{Q Q':IV->Store->Prop}(h:CVf P E b args σ Q)(c:∀v s,Q v s->Q' v s):CVf P E b args σ Q':=by
 unfold CVf at h ⊢;split at h
 .exact ⟨h.1,h.2.mono c⟩
 .exact h.elim
def ex2 {n0:Nat}{g:Operand}{gx:IX}{ps:List Nat}{asg body:Code}{Q:Exit->Frm->Store->Prop}(hg:ak1 g=zb gx)
  (h:CVf P E (gx.ev E fr) [.yield σ.next] ⟨σ.next+1,(σ.put σ.next (.loop N fr ps.toArray asg body .ready zc)).obj⟩
   λ_ q=>σ.next<=q.next/\∃st j,st≠.busy/\q.obj σ.next=zb (.loop N fr ps.toArray asg body st j)/\kr6 Q fr (q.kill σ.next) j) :
  R P E N n0 (.rangeFunc g ps.toArray asg body) fr σ Q:=by
 intro hn X h0 ρ w a hs hf u hr;refine wpIn_rangeFunc λfn aC=>?_
 have ac:∃(s:List Deferred) (b:World) (df:Nat),(Instr.enterLoop fn a.tmps ps.toArray asg body X).run P w=.ok (b.heap.size,s) (b.alloc (.loop { state:=.ready,pending:=zc,fn,tmps:=a.tmps,params:=ps.toArray,assign:=asg,body,defers:=df })) /\
   Sim E ρ b σ/\Ext n0 ρ w ρ b/\DF h0 ρ b (s++a.defers)/\RO X b:=by
  cases X with
  | none=>
   refine ⟨[{ target:=.collected w.heap.size,args:=#[] }],w.alloc (.deferred (zb [])),w.heap.size,?_,fx4 _ hs,bt1 _ _,?_,λl e=>by cases e⟩
   .have:=run_enterLoop_outer (P:=P) (w:=w) fn a.tmps ps.toArray asg body;rw[this];simp
   .have av:=u.mono ((bt1 (ρ:=ρ) (w:=w) n0 (.deferred (zb []))).weak (za _));refine .cons w.heap.size a.defers (World.alloc_heap_new _ _) ⟨by show w.heap.size<(w.heap.push _).size;simp,λi d h=>?_⟩ u.size (λd aw W=>?_) av
    .have:=hs.lt i _ d h;omega
    .have:∀ds,DF h0 ρ w ds->∀d∈ds,d.target=.collected w.heap.size->False:=by
      intro ds as
      induction as with
      | nil _ hb=>intro d u W;exact absurd (hb d u _ W) (Nat.lt_irrefl _)
      | cons r ds hr hb _ _ _ ih=>
       intro d u W;rcases List.mem_cons.1 u with rfl|u
       .cases W;exact absurd hb.1 (Nat.lt_irrefl _)
       .exact ih d u W
     exact this _ u d aw W
  | some l0=>
   have⟨L0,ay⟩:=hr l0 rfl;exact ⟨[],w,L0.defers,cw6 ay fn a.tmps ps.toArray asg body,hs,Ext.refl _ _ _,u,hr⟩
 have⟨s,b,df,he,k,Y,au,ap⟩:=ac;generalize hL:({ state:=.ready,pending:=zc,fn,tmps:=a.tmps,params:=ps.toArray,assign:=asg,body,defers:=df }:Loop)=L at he;have ai:ρ σ.next=.no:=k.fresh _ (za _);have B:∀m,m<=σ.next->Ext m ρ b (ρ.put σ.next (.at b.heap.size 0)) (b.alloc (.loop L)):=λm hm=>am4 ai hm
 have ag:Sim E (ρ.put σ.next (.at b.heap.size 0)) (b.alloc (.loop L)) ⟨σ.next+1,(σ.put σ.next (.loop N fr ps.toArray asg body .ready zc)).obj⟩:=by
  have an:Sim E ρ b ⟨σ.next+1,σ.obj⟩:=⟨k.inj,k.lt,k.obj,k.dead,λi hi=>k.fresh i (Nat.le_of_succ_le hi),k.aw6,k.env,k.nx,k.xlt⟩;refine bz3 an ai (Nat.lt_succ_self _) ⟨rfl,L,World.alloc_heap_new _ _,?_⟩;subst hL;exact ⟨rfl,rfl,rfl,rfl,rfl,hf.size,λt=>((hf.get t).mono Y).mono (B 0 (Nat.zero_le _))⟩
 have aj:VR (ρ.put σ.next (.at b.heap.size 0)) (b.alloc (.loop L)) (.yield σ.next) (.func (.yield b.heap.size) #[] #[]):=.yield _ b.heap.size 0 (by simp[Rho.put]);have I:Ext n0 ρ w (ρ.put σ.next (.at b.heap.size 0)) (b.alloc (.loop L)):=Y.trans (B n0 hn) (za _);have M:=(ab1 (a:=a) hg hs hf).mono I;generalize aB:gx.ev E fr=fv at h M;generalize ao:a.eval g=rv at M
 cases M with
 | func fnv first cap rf rc hy l1 l2 v1 v2=>
  cases fnv with
  | func f=>
   have⟨aq,hc⟩:=h
   have aa:(resolve a.eval (rangeCall g b.heap.size) 0).run P (b.alloc (.loop L))=.ok { target:=.fn (.func f) rc,args:=rf++#[Value.func (.yield b.heap.size) #[] #[]] } (b.alloc (.loop L)):=by
    simp only[resolve,ao,Deferred.ofValue,Sem.run_pure];simp[Act.eval]
   have ab:(invoke (.fn (.func f) rc) (rf++#[Value.func (.yield b.heap.size) #[] #[]])).run P (b.alloc (.loop L))=.ok (.enter f (rf++#[Value.func (.yield b.heap.size) #[] #[]]++rc)) (b.alloc (.loop L)):=by
    simp only[invoke];exact ea7 aq
   refine ⟨b.heap.size,s,_,_,_,f,_,_,he,aa,λ_ _=>trivial,ab,(λh=>by cases h),?_⟩
   have ax:CR (ρ.put σ.next (.at b.heap.size 0)) (b.alloc (.loop L)) (first++[.yield σ.next]++cap) (rf++#[Value.func (.yield b.heap.size) #[] #[]]++rc):=
    (CR.append ⟨l1,v1⟩ ⟨rfl,λi hi=>by
     have:i=0:=by simpa using hi
     subst this;exact aj⟩).append ⟨l2,v2⟩
   have U:CallsIn (fw X) 0 P f (rf++#[Value.func (.yield b.heap.size) #[] #[]]++rc) (b.alloc (.loop L)) _:=hc _ _ _ ag ax;refine CallsIn.mono (F:=fw X) (n:=0) U ?_;rintro e x ⟨v,r,ρ',q,rfl,⟨aA,st,j,al,ah,hq⟩,A,az,hx⟩
   have p:ρ' σ.next=.at b.heap.size 0:=by
    rcases hx.at_ σ.next b.heap.size 0 (Nat.lt_succ_self _) (by simp[Rho.put]) with h|h
    .exact h
    .have:=A.dead _ h;rw[ah] at this;cases this
   have⟨o',k1,k2⟩:=A.obj _ _ _ p;rw[ah] at k1;cases k1;have⟨aD,L',f1,f2,f3,f4,f5,f6,f7,f8⟩:=k2;have V:L'.state≠.busy:=by rw[f6];exact al
   have ad:=run_endLoop (P:=P) f1 V;refine ⟨j,_,(by rw[<- f5];exact ad),?_⟩;have y:∀m,Ext m ρ' x ρ' (x.putObj b.heap.size (.loop { L' with state:=.exhausted })):=λm=>cd8 p f1
   have am:=ea9 (L':={ L' with state:=.exhausted }) (o:=.loop N fr ps.toArray asg body .exhausted j) A p f1 ⟨rfl,_,World.putObj_heap_same (A.lt _ _ _ p),f2,f3,f4,f5,rfl,f7,λt=>(f8 t).mono (y 0)⟩;have z:=dz5 am p
   have ar:((q.put σ.next (.loop N fr ps.toArray asg body .exhausted j)).kill σ.next)=q.kill σ.next:=by
    unfold Store.put Store.kill;simp only;congr 1;funext i;by_cases h:i=σ.next<;>simp[h]
   rw[ar] at z;have D:∀m,Ext m ρ' (x.putObj b.heap.size (.loop { L' with state:=.exhausted })) (ρ'.put σ.next .dead) (x.putObj b.heap.size (.loop { L' with state:=.exhausted })):=λm=>cd1 p
   have H:bh8 n0 ρ w (ρ'.put σ.next .dead) (x.putObj b.heap.size (.loop { L' with state:=.exhausted })):=
    ((I.weak (za _)).trans (hx.le (Nat.le_trans hn (Nat.le_succ _)))).trans (((y n0).weak (za _)).trans ((D n0).weak (za _)))
   have ae:Ext n0 (ρ.put σ.next (.at b.heap.size 0)) (b.alloc (.loop L)) ρ' x:=(hx.ext ag.fresh).le (Nat.le_trans hn (Nat.le_succ _));have ak:Ext n0 ρ w (ρ'.put σ.next .dead) (x.putObj b.heap.size (.loop { L' with state:=.exhausted })):=(I.trans ae (za _)).trans ((y n0).trans (D n0) (za _)) (za _);have af:Ext n0 ρ b (ρ'.put σ.next .dead) (x.putObj b.heap.size (.loop { L' with state:=.exhausted })):=((B n0 hn).trans ae (za _)).trans ((y n0).trans (D n0) (za _)) (za _);have S:FR (ρ'.put σ.next .dead) (x.putObj b.heap.size (.loop { L' with state:=.exhausted })) N fr a.tmps:=hf.mono ak;have T:=au.mono (af.weak (za _));have J:=ap.mono (af.weak (za _));have K:n0<=(q.kill σ.next).next:=by show n0<=q.next;omega
   cases j with
   | none=>exact ⟨fr,_,_,K,hq,z,S,T,J,H⟩
   | some c=>
    cases c with
    | ret=>exact wpIn_ret ⟨fr,_,_,K,hq,z,S,T,J,H⟩
    | exit i=>exact wpIn_exit ⟨fr,_,_,K,hq,z,S,T,J,H⟩
    | _=>exact hq.elim
  | _=>exact h.elim
 | _=>exact h.elim
end Go.Id
