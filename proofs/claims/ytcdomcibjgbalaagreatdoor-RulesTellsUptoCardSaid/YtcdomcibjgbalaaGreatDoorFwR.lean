/- Regions: the operations compiled,their ideal semantics,and the proof for a region whose order is the text's. Conditions: none; over any program. -/
import Derived.Test.YtcdomcibjgbalaaGreatDoorFwE
import Derived.RangeFuncRecord
import Derived.RangeFuncIn
open Nat renaming le_refl→za
open Option renaming some→zb,none→zc
open Array renaming getD_eq_getD_getElem?→zd,getElem?_eq_some_iff→zf,getElem?_append→zg,replicate→zh,foldl→zi
open List renaming getD_eq_getElem?_getD→ze,range'→zj,getElem?_append→zk
open Bool renaming false_eq_true→zl
set_option linter.all false
namespace Go.Id
open Go
inductive IK where
 | q (q:IQ)
 | alloc (z:List IV)
 | box (x:IX)
 | bsl (esz n:Nat) (z:List IV) (parts:List (Nat×Nat×IX))
 | store (sz:Nat) (x y:IX)
 | app (esz:Nat) (s x:IX)
 | ck6
 | bn6 (x:IX)
 | dc5 (x:IX)
 | ci4 (tag:Nat) (x k v:IX)
 | call (f:Nat) (args:List IX)
 | bb1 (f:Nat) (args:List IX)
 | cw7 (x:IX) (args:List IX)
 | aj3 (esz n:Nat) (z:List IV) (parts:List (Nat×Nat×IX))
 | cu6 (x:IX)
 | be9 (x:IX)
 | ck7 (x:IX)
 | fu2 (x:IX)
 | dj2 (esz:Nat) (z:List IV) (x:IX)
 | clr (esz:Nat) (z:List IV) (x:IX)
 | st (k:SK) (xs:List IX)
 deriving Inhabited
structure ae7 where
 dst:Option Nat
 guard:Option (Nat×Bool)
 op:IK
 deriving Inhabited
def IK.lays:IK->Bool
 | .alloc _|.box _|.bsl _ _ _ _|.app _ _ _|.ck6|.bn6 _|.be9 _|.dj2 _ _ _|.st _ _=>true
 | _=>false
def okF (P : Program) (f : FuncId) : Bool := (P.funcs[f]?).any fun fn => fn.name != "runtime.NumGoroutine" && fn.body.isSome
def CYd (P:Program)(E:Nat->IV)(id:Nat)(args:List IV)(σ:Store)(Q:IV->Store->Prop):Prop :=
 ∀(ρ:Rho) (w:World) (rargs:Array Value) (B d:Nat),Sim E ρ w σ->CR ρ w args rargs->ρ id=.at B d ->
  ∃(fn:FuncId) (tmps:Array Value) (assign body:Code),(Instr.yield B rargs).run P w=.ok (.round B fn tmps assign body) w/\RoundIn Fence.wide 0 P B fn tmps assign body w λe w'=>
   ∃v r ρ' σ',e=.returned r/\Q v σ'/\Sim E ρ' w' σ'/\VR ρ' w' v r/\bg5 σ.next ρ w ρ' w'
def CV (P:Program)(E:Nat->IV)(fv:IV)(args:List IV)(σ:Store)(Q:IV->Store->Prop):Prop :=
 match fv with
 | .func (.func f) first cap=>okF P f=true/\C P E f (first++args++cap) σ Q
 | .yield id=>(σ.obj id).isSome=true/\CYd P E id args σ Q
 | _=>False
def PC (P:Program)(E:Nat->IV)(f:FuncId)(args:List IV)(v:IV):Prop :=
 ∀σ,C P E f args σ λv' σ'=>v'=v/\σ'=σ
def opR (P:Program)(E:Nat->IV)(op:IK)(id:Nat)(fr:Frm)(σ:Store)(K:IV->Store->Prop):Prop :=
 match op with
 | .q q=>∃v,evq E fr σ q=zb v/\K v σ
 | .alloc z=>K (.ptr id 0) (σ.put id (.cells z))
 | .box x=>(x.ev E fr).cs.all IV.leaf=true/\K (.ptr id 0) (σ.put id (.cells (x.ev E fr).cs))
 | .bsl esz n z parts=>∃out,at7 (rep z n) (parts.map λp=>(p.1,p.2.1,p.2.2.ev E fr))=zb out/\K (.slice id 0 n esz) (σ.put id (.row out))
 | .store sz x y=>∃σ',aq9 σ sz (x.ev E fr) (y.ev E fr)=zb σ'/\K .undef σ'
 | .bn6 x=>∃s,x.ev E fr=.str s/\K (.ptr id 0) (σ.put id (.bg3 s 0))
 | .dc5 x=>∃r,bo5 σ (x.ev E fr)=zb r/\K r.1 r.2
 | .ck6=>K (.map id) (σ.put id (.map []))
 | .ci4 tag x k v=>∃σ',ao9 σ tag (x.ev E fr) (k.ev E fr) (v.ev E fr)=zb σ'/\K .undef σ'
 | .app esz s x=>∃r,as2 σ id esz (s.ev E fr) (x.ev E fr)=zb r/\K r.1 r.2
 | .call f args=>∃Q,C P E f (args.map (·.ev E fr)) σ Q/\∀v σ',Q v σ'->σ.next<=σ'.next/\K v σ'
 | .bb1 f args=>∃v,PC P E f (args.map (·.ev E fr)) v/\K v σ
 | .cw7 x args=>∃Q,CV P E (x.ev E fr) (args.map (·.ev E fr)) σ Q/\∀v σ',Q v σ'->σ.next<=σ'.next/\K v σ'
 | .aj3 esz n z parts=>∃out,at7 (rep z n) (parts.map λp=>(p.1,p.2.1,p.2.2.ev E fr))=zb out/\K (.aa3 (chunk esz n out)) σ
 | .cu6 x=>(x.ev E fr).cs.all IV.leaf=true/\K (.ab8 (x.ev E fr).cs) σ
 | .be9 x=>∃es,x.ev E fr=.al4 es/\K (.ptr id 0) (σ.put id (.as1 es zc))
 | .ck7 x=>∃i left,bo6 σ (x.ev E fr)=zb (i,left)/\(left=[]->K (.tuple [.bool false]) σ) /\
   ∀j,j<left.length->K (.tuple [.bool true,(left.getD j (.undef,.undef)).1,(left.getD j (.undef,.undef)).2]) (σ.put i (.as1 (left.eraseIdx j) (zb (left.getD j (.undef,.undef)))))
 | .fu2 x=>∃v,cw4 σ (x.ev E fr)=zb v/\K v σ
 | .dj2 esz z x=>∃n,db2 (x.ev E fr)=zb n/\K (.slice id 0 n esz) (σ.put id (.row (rep z n)))
 | .clr esz z x=>∃σ',gm4 σ esz z (x.ev E fr)=zb σ'/\σ'.next=σ.next/\K .undef σ'
 | .st k xs=>∃r,stI k id σ (xs.map (·.ev E fr))=zb r/\K r.1 r.2
def Frm.ap3 (fr:Frm)(d:Option Nat)(v:IV):Frm :=
 match d with
 | some t=>fr.set t v
 | none=>fr
abbrev skV:IV:=.tuple []
def ia8 (v:IV)(want:Bool):Option Bool :=
 match v with
 | .bool b=>zb (decide (b=want))
 | .tuple []=>zb false
 | _=>zc
def bh9 (o:ae7)(fr:Frm):Option Bool :=
 match o.guard with
 | none=>zb true
 | some (s,want)=>ia8 (fr.get s) want
def cd3 (P:Program)(E:Nat->IV):List ae7->Nat->Frm->Store->(Frm->Store->Prop)->Prop
 | [],_,fr,σ,K=>K fr σ
 | o::rest,id,fr,σ,K=>∃act,bh9 o fr=zb act /\
  (if act=true then opR P E o.op id fr σ λv σ'=>cd3 P E rest (if o.op.lays then id+1 else id) (fr.ap3 o.dst v) σ' K
  else cd3 P E rest (if o.op.lays then id+1 else id) (fr.ap3 o.dst skV) σ K)
def cd4 (ops:List ae7):Nat:=(ops.filter λo=>o.op.lays).length
def loX:Option Operand->Option IX
 | none=>zb (.c (.int .i64 0))
 | some o=>ai9 o
def gp9 (P:Program) (pf:List Nat) (fz:Bool) (op:Op):Option IK :=
 match op with
 | .alloc t=>(bk7 P t).map .alloc
 | .box _ x=>(ai9 x).map (if fz=true then .cu6 else .box)
 | .buildSlice t n parts=>match P.underlying t with
  | some (.slice e)=>match szT P e,bk7 P e with
   | some esz,zb z=>match ay5 P (λi=>zb (i*esz,esz)) parts.toList with
    | some ps=>if 0<esz/\z.length=esz/\n*esz<=2^24 then zb (if fz=true then (if n=0/\ps.isEmpty=true/\pf.contains 4000000=true then .q (.mov (.c .ac6)) else .aj3 esz n z ps) else .bsl esz n z ps) else zc
    | none=>zc
   | _,_=>zc
  | _=>zc
 | .store t x y=>match szT P t,ai9 x,ai9 y with
  | some sz,zb a,zb b=>zb (.store sz a b)
  | _,_,_=>zc
 | .range t x=>match P.underlying t with
  | some .string=>(ai9 x).map .bn6
  | some (.map _ _)=>(ai9 x).map .be9
  | _=>zc
 | .next x true=>(ai9 x).map .dc5
 | .next x false=>(ai9 x).map .ck7
 | .entry x=>(ai9 x).map .fu2
 | .makeMap _ zc=>zb .ck6
 | .mapUpdate t x k v=>match P.underlying t with
  | some (.map kt _)=>match ho9 P kt,ai9 x,ai9 k,ai9 v with
   | some tag,zb a,zb b,zb c=>zb (.ci4 tag a b c)
   | _,_,_,_=>zc
  | _=>zc
 | .makeSlice t x y=>match P.underlying t with
  | some (.slice e)=>match P.info? e,bk7 P e,ai9 x with
   | some i,zb z,zb a=>if z.length=i.size/\0<i.size/\i.bytes<=4096/\db3 x y=true then zb (match fz,a with
    | true,.c (.int .i64 m)=>if 0<=m/\m<=2147483647 then .aj3 i.size m.toNat z [] else .dj2 i.size z a
    | _,_=>.dj2 i.size z a) else zc
   | _,_,_=>zc
  | _=>zc
 | .insert t x k v=>match P.underlying t with
  | some (.map kt _)=>match ho9 P kt,ai9 x,ai9 k,ai9 v with
   | some tag,zb a,zb b,zb c=>zb (.ci4 tag a b c)
   | _,_,_,_=>zc
  | _=>zc
 | .call { callee:=.builtin .clear,args,argTypes }=>match args.toList,argTypes.toList with
  | [x],[t]=>match P.underlying t with
   | some (.slice e)=>match szT P e,bk7 P e,ai9 x with
    | some sz,zb z,zb a=>if z.length=sz/\0<sz then zb (.clr sz z a) else zc
    | _,_,_=>zc
   | _=>zc
  | _,_=>zc
 | .call { callee:=.builtin .append,args,argTypes }=>match args.toList,argTypes.toList with
  | [s,x],[t,xt]=>match P.underlying t,P.underlying xt with
   | some (.slice e),zb (.slice _)=>match P.info? e,bk7 P e,ai9 s,ai9 x with
    | some i,zb z,zb a,zb b=>if i.bytes<=4096/\z.length=i.size then zb (if fz=true then .st (.apr i.size) [a,b] else .app i.size a b) else zc
    | _,_,_,_=>zc
   | _,_=>zc
  | _,_=>zc
 | .call { callee:=.value (.func f),args,argTypes:=_ }=>match ei2 args.toList with
  | some xs=>if okF P f then (if pf.contains f then zb (.bb1 f xs) else zb (.call f xs)) else (ht4 P op).map .q
  | none=>zc
 | .call { callee:=.value (.tmp t),args,argTypes:=_ }=>match ei2 args.toList with
  | some xs=>zb (.cw7 (.t t) xs)
  | none=>zc
 | .call { callee:=.builtin .delete,args,argTypes }=>match args.toList,argTypes[0]? with
  | [x,k],zb t=>match P.underlying t with
   | some (.map kt _)=>match ho9 P kt,ai9 x,ai9 k with
    | some tag,zb a,zb b=>zb (.st (.ks3 tag) [a,b])
    | _,_,_=>zc
   | _=>zc
  | _,_=>zc
 | .call { callee:=.builtin .copy,args,argTypes }=>match args.toList,argTypes[0]? with
  | [x,y],zb t=>match P.underlying t with
   | some (.slice e)=>match szT P e,ai9 x,ai9 y with
    | some n,zb a,zb b=>zb (.st (.cpy n) [a,b])
    | _,_,_=>zc
   | _=>zc
  | _,_=>zc
 | .slice t x zc (zb (.const (.int _ 0))) (zb (.const (.int _ 0)))=>(ht4 P op).map .q
 | .slice t x lo (zb h) (zb m)=>match P.underlying t with
  | some (.slice e)=>match szT P e,ai9 x,loX lo,ai9 h,ai9 m with
   | some n,zb a,zb l,zb b,zb c=>zb (if fz=false then .q (.clp n a l b c) else .st (.sl3 n fz) [a,l,b,c])
   | _,_,_,_,_=>zc
  | _=>zc
 | .slice t x zc (zb h) zc=>match fz,P.underlying t with
  | true,zb (.slice e)=>match szT P e,ai9 x,ai9 h with
   | some n,zb a,zb b=>zb (.st (.rlp n) [a,b])
   | _,_,_=>zc
  | _,_=>(ht4 P op).map .q
 | .load t x=>match ht4 P (.load t x) with
  | some (.load agg a)=>zb (.q (if fz=true then .ldt agg a else .load agg a))
  | _=>zc
 | op=>(ht4 P op).map .q
def ja4:Op->Bool
 | .defer _=>true
 | _=>false
def jp6 (P:Program)(pf:List Nat)(fz:Bool)(op:Op):Option IK :=
 match gp9 P pf fz op with
 | some k=>zb k
 | none=>if ja4 op then zc else zb (.st .nev [])
def gq1 (N:Nat)(d:Option Nat):Bool :=
 match d with
 | some t=>decide (t<N)
 | none=>true
def ck4 (P:Program) (pf:List Nat) (N:Nat) (ops:Array Oper) (o:Oper):Option ae7 :=
 match jp6 P pf (o.dst.any λt=>pf.contains (1000000+t)) o.op with
 | none=>zc
 | some k=>
  if gq1 N o.dst=true then
   match o.guard with
   | none=>zb ⟨o.dst,zc,k⟩
   | some (j,want)=>match (ops[j]?).bind (·.dst) with
    | some s=>zb ⟨o.dst,zb (s,want),k⟩
    | none=>zc
  else zc
def bp3 (P:Program)(pf:List Nat)(N:Nat)(ops:Array Oper):List Oper->Option (List ae7)
 | []=>zb []
 | o::os=>match ck4 P pf N ops o,bp3 P pf N ops os with
  | some x,zb xs=>zb (x::xs)
  | _,_=>zc
variable {P:Program} {w w' w'':World} {ρ ρ' ρ'':Rho} {E:Nat->IV} {σ σ':Store} {N n n':Nat} {fr:Frm} {a:Act} {pf:List Nat}
theorem FR.ap3 (hf:FR ρ w N fr a.tmps){d:Option Nat}(hd:gq1 N d=true){v:IV}{r:Value}(hv:VR ρ w v r):FR ρ w N (fr.ap3 d v) (a.put d r).tmps:=by
 cases d with
 | none=>exact hf
 | some d=>exact hf.set (by simpa [gq1] using hd) hv
theorem ev1 {fz:Bool}{op:Op}{k:IK}(h:gp9 P pf fz op=zb k):(∀c,op≠.defer c):=by
 intro c hc;subst hc;simp[gp9,ht4] at h
theorem dy9 {m:Nat}(hs:Sim E ρ w σ)(h:∀i,m<=i->ρ i=.no):Sim E ρ w { σ with next:=m } :=
 ⟨hs.inj,hs.lt,hs.obj,hs.dead,h,hs.av3,hs.env,hs.nx,hs.xlt⟩
theorem ea1 {f:FuncId}{args:Array Value}(h:okF P f=true):(callFunc f args).run P w=.ok (.enter f args) w:=by
 unfold okF at h
 cases hf:P.funcs[f]? with
 | none=>rw[hf] at h;cases h
 | some fn=>
  rw[hf] at h;simp at h;have h2:¬fn.body=zc:=by intro hb;rw[hb] at h;simp at h
  simp[callFunc,hf,h.1,h2]
theorem Ext.le (h:Ext n ρ w ρ' w')(hn:n'<=n):Ext n' ρ w ρ' w' :=
 ⟨h.size,h.keep,h.shape,h.img,h.at_,h.dead,λi hi h0=>h.no i (Nat.lt_of_lt_of_le hi hn) h0,h.output,h.os,h.tape,h.loops,h.X⟩
theorem CR.map {xs:List Operand}{ys:List IX}(h:ei2 xs=zb ys)(hs:Sim E ρ w σ)(hf:FR ρ w N fr a.tmps):CR ρ w (ys.map (·.ev E fr)) (xs.toArray.map a.eval):=by
 have:=by9 (a:=a) h hs hf
 rwa [<- List.map_toArray] at this
theorem CR.append {xs ys:List IV}{rx ry:Array Value}(h1:CR ρ w xs rx)(h2:CR ρ w ys ry):CR ρ w (xs++ys) (rx++ry):=by
 refine ⟨by simp[h1.1,h2.1],λi hi=>?_⟩;simp only[List.length_append] at hi;by_cases h:i<xs.length
 ·have e1:(xs++ys).getD i .undef=xs.getD i .undef:=by simp[ze,zk,h]
  have e2:(rx++ry).getD i undef=rx.getD i undef:=by
   have:i<rx.size:=by rw[<- h1.1];exact h
   simp[zd,zg,this]
  rw[e1,e2];exact h1.2 i h
 ·have e1:(xs++ys).getD i .undef=ys.getD (i-xs.length) .undef:=by simp[ze,zk,h]
  have e2:(rx++ry).getD i undef=ry.getD (i-xs.length) undef:=by
   have:¬i<rx.size:=by rw[<- h1.1];exact h
   simp[zd,zg,this,h1.1]
  rw[e1,e2];exact h2.2 _ (by omega)
theorem ev2 {f:FuncId}{n0:Nat}{K:IV->Store->Prop}{o:Oper}{next:Act->World->Prop}{Q:Exit->Act->World->Prop}{ro:Option Nat}{Qc:IV->Store->Prop}{args:List IV}{rargs:Array Value}
  (hd:∀c,o.op≠.defer c) (hrun:(execOp a.eval o).run P w=.ok (.enter f rargs) w) (hc:C P E f args σ Qc) (hK:∀v σ',Qc v σ'->σ.next<=σ'.next/\K v σ') (hs:Sim E ρ w σ) (ha:CR ρ w args rargs) (hn0:n0<=σ.next)
  (hn:∀v σ' r ρ' w',σ.next<=σ'.next->K v σ'->Sim E ρ' w' σ'->VR ρ' w' v r->Ext n0 ρ w ρ' w'->(∀i,i<σ.next->ρ i=.no->ρ' i=.no)->next (a.put o.dst r) w'):o.wpIn (fw ro) 0 P a w next Q:=by
 refine ⟨λf _=>trivial,?_⟩;rw[Oper.semAt_eq _ _ _ hd,hrun,Oper.uponIn_enter];refine ⟨(λh=>by cases h),?_⟩;have hcall:CallsIn (fw ro) 0 P f rargs w λe w'=>∃v r ρ' σ',e=.returned r/\Qc v σ'/\Sim E ρ' w' σ'/\VR ρ' w' v r/\bg5 σ.next ρ w ρ' w':=hc ρ w rargs hs ha
 refine CallsIn.mono hcall ?_;rintro e w'' ⟨v,r,ρ',σ',rfl,q,hs',hv',hx⟩;obtain ⟨h1,h2⟩:=hK v σ' q;exact hn v σ' r ρ' w'' h1 h2 hs' hv' ((hx.ext hs.fresh).le hn0) hx.no
theorem gq2 {o:Oper}{t:Tmp}{args:Array Operand}{argTypes:Array TypeId}{f:FuncId}{rf rc:Array Value}(ho:o.op=.call { callee:=.value (.tmp t),args,argTypes })(hv:a.eval (.tmp t)=.func (.func f) rf rc)(hf:okF P f=true) :
  (execOp a.eval o).run P w=.ok (.enter f (rf++args.map a.eval++rc)) w:=by
 unfold execOp;rw[ho];simp only[resolve,hv,Deferred.ofValue,Sem.run_bind,Sem.run_pure,Result.andThen_ok,invoke];exact ea1 hf
theorem ek2 {o:Oper}{args:Array Operand}{argTypes:Array TypeId}{f:FuncId}(ho:o.op=.call { callee:=.value (.func f),args,argTypes })(hf:okF P f=true) :
  (execOp a.eval o).run P w=.ok (.enter f (args.map a.eval)) w:=by
 unfold execOp;rw[ho];simp only[resolve,Act.eval,Deferred.ofValue,Sem.run_bind,Sem.run_pure,Result.andThen_ok,invoke];rw[ea1 hf];simp
theorem ia9 {o:Oper}{s x:Operand}{is ix:IX}{t xt e xe:TypeId}{args:Array Operand}{argTypes:Array TypeId}{i:TypeInfo}{z:List IV}{id n0:Nat}{v:IV}(ho:o.op=.call { callee:=.builtin .append,args,argTypes })(ha:args.toList=[s,x])(ht:argTypes.toList=[t,xt])
  (hu:P.underlying t=zb (.slice e)) (hxu:P.underlying xt=zb (.slice xe)) (hi:P.info? e=zb i) (hz:bk7 P e=zb z) (hs':ai9 s=zb is) (hx:ai9 x=zb ix) (hb:i.bytes<=4096) (hzl:z.length=i.size)
  (h:as2 σ id i.size (is.ev E fr) (ix.ev E fr)=zb (v,σ')) (hs:Sim E ρ w σ) (hf:FR ρ w N fr a.tmps) (hno:ρ id=.no) (hlt:id<σ.next) (hn:n0<=id) :
  cu3 P E id n0 ρ w a o.op v σ':=by
 obtain ⟨al⟩:=args;obtain ⟨tl⟩:=argTypes;simp only at ha ht;subst ha;subst ht;intro o' ho'
 have hzero:∃zr,i.zero=zb zr/\zr.cells.size=i.size:=by
  unfold bk7 at hz;rw[hi] at hz;simp only at hz
  cases hzz:i.zero with
  | none=>rw[hzz] at hz;cases hz
  | some zr=>
   rw[hzz] at hz;have:=(da6 (ρ:=ρ) (w:=w) hz).1;exact ⟨zr,rfl,by rw[<- this];exact hzl⟩
 obtain ⟨zr,hzr,hzs⟩:=hzero;obtain ⟨r,ρ',w',hrun,hsim,hvr,hx1,hnb⟩:=ix2 (P:=P) (ty:=o'.type) hu ⟨_,hxu,λk hk=>by cases hk⟩ hi hzr rfl hzs hb h (aa9 (a:=a) hs' hs hf) (aa9 (a:=a) hx hs hf) hs hno hlt hn;refine ⟨.value r,r,ρ',w',?_,.inl rfl,hsim,hvr,hx1,hnb⟩;unfold execOp;rw[ho',ho];simp[resolve,invoke,builtin,hrun]
theorem ev3 {sz:Nat}{x y:IV}(h:aq9 σ sz x y=zb σ'):σ'.next=σ.next:=by
 unfold aq9 at h;split at h
 ·split at h
  ·split at h
   ·cases h;rfl
   ·cases h
  ·split at h
   ·cases h;rfl
   ·cases h
  ·cases h
 ·cases h
theorem cu5 {tag:Nat}{x k v:IV}(h:ao9 σ tag x k v=zb σ'):σ'.next=σ.next:=by
 unfold ao9 at h;split at h
 ·split at h
  ·obtain ⟨es',_,rfl⟩:=map_some h;rfl
  ·cases h
 ·cases h
theorem gq3 {id esz:Nat}{s x v:IV}(h:as2 σ id esz s x=zb (v,σ')):σ'.next=σ.next:=by
 unfold as2 at h;split at h
 ·cases h
 ·split at h
  ·cases h
  ·split at h
   ·split at h
    ·cases h;rfl
    ·split at h
     ·cases h;rfl
     ·cases h
   ·split at h
    ·cases h;rfl
    ·split at h
     ·cases h;rfl
     ·cases h
   ·split at h
    ·cases h;rfl
    ·cases h
   ·split at h
    ·split at h
     ·cases h;rfl
     ·split at h
      ·cases h;rfl
      ·cases h
    ·cases h
   ·split at h
    ·split at h
     ·cases h;rfl
     ·split at h
      ·cases h;rfl
      ·cases h
    ·cases h
   ·cases h
theorem gq4 {k:IK} {id n0:Nat} {K:IV->Store->Prop} {o:Oper} {next:Act->World->Prop} {Q:Exit->Act->World->Prop} {ro:Option Nat}
  {fz:Bool} (hk:gp9 P pf fz o.op=zb k) (h:opR P E k id fr σ K) (hs:Sim E ρ w σ) (hf:FR ρ w N fr a.tmps) (hn0:n0<=σ.next) (hid:k.lays=true->ρ id=.no/\id<σ.next/\n0<=id)
  (hn:∀v σ' r ρ' w',σ.next<=σ'.next->K v σ'->Sim E ρ' w' σ'->VR ρ' w' v r->Ext n0 ρ w ρ' w'->(∀i,i<σ.next->(k.lays=true->i≠id)->ρ i=.no->ρ' i=.no)->next (a.put o.dst r) w'):o.wpIn (fw ro) 0 P a w next Q:=by
 have hdf:=ev1 hk
 have acts:∀ {v:IV} {σ':Store} {id' n':Nat},σ'.next=σ.next->cu3 P E id' n' ρ w a o.op v σ'->n0<=n'->(k.lays=true->id'=id)->(k.lays=false->σ.next<=id')->K v σ'->o.wpIn (fw ro) 0 P a w next Q:=by
  intro v σ' id' n' hnx hact hn1 hl1 hl2 hK;obtain ⟨x,r,ρ',w',hrun,hx,hs',hv',he,hnb⟩:=hact o rfl
  have hno':∀i,i<σ.next->(k.lays=true->i≠id)->ρ i=.no->ρ' i=.no:=by
   intro i hi hl h0;refine hnb i (λe=>?_) h0
   cases hk':k.lays with
   | true=>exact hl hk' (by rw[e,hl1 hk'])
   | false=>have:=hl2 hk';omega
  refine ⟨λf _=>trivial,?_⟩;rw[Oper.semAt_eq _ _ _ hdf,hrun];rcases hx with rfl|⟨rfl,rfl⟩
  ·exact hn v σ' r ρ' w' (by omega) hK hs' hv' (he.le hn1) hno'
  ·exact hn v σ' undef ρ' w' (by omega) hK hs' hv' (he.le hn1) hno'
 have quiet:∀q,ht4 P o.op=zb q->k=.q q->o.wpIn (fw ro) 0 P a w next Q:=by
  intro q hq hkq;subst hkq;obtain ⟨v,hv,hK⟩:=h;obtain ⟨r,hrun,hvr⟩:=gl2 hq hv hs hf o rfl;refine ⟨λf _=>trivial,?_⟩;rw[Oper.semAt_eq _ _ _ hdf,hrun];exact hn v σ r ρ w (za _) hK hs hvr (Ext.refl _ _ _) (λi _ _ h0=>h0)
 unfold gp9 at hk;split at hk
 ·rename_i t heq;obtain ⟨z,hz,rfl⟩:=map_some hk;obtain ⟨h1,h2,h3⟩:=hid rfl;refine acts (id':=id) (n':=n0) (σ':=σ.put id (.cells z)) rfl ?_ (za _) (λ_=>rfl) (λh=>by cases h) h;rw[heq];exact fr8 hz hs h1 h2 h3
 ·rename_i t x heq;obtain ⟨y,hy,he⟩:=map_some hk
  cases fz with
  | true=>
   simp only[if_true] at he;subst he;refine acts (id':=σ.next) (n':=n0) (σ':=σ) rfl ?_ (za _) (λh=>by cases h) (λ_=>za _) h.2;rw[heq]
   exact gl9 hy h.1 hs hf hn0
  | false=>
   simp only[zl,if_false] at he;subst he;obtain ⟨h1,h2,h3⟩:=hid rfl;refine acts (id':=id) (n':=n0) (σ':=σ.put id (.cells (y.ev E fr).cs)) rfl ?_ (za _) (λ_=>rfl) (λh=>by cases h) h.2;rw[heq];exact fe5 hy h.1 hs hf h1 h2 h3
 ·rename_i t n parts heq;split at hk
  ·rename_i e hu;split at hk
   ·rename_i esz z hsz hz;split at hk
    ·rename_i ps hp;split at hk
     ·rename_i hc
      cases fz with
      | true=>
       simp only[if_true] at hk;by_cases h0:n=0/\ps.isEmpty=true/\pf.contains 4000000=true
       ·rw[if_pos h0] at hk;cases hk;obtain ⟨rfl,he,_⟩:=h0;have he2:ps=[]:=List.isEmpty_iff.1 he;subst he2;obtain ⟨v,hv,h1⟩:=h;cases hv;refine acts (id':=σ.next) (n':=n0) (σ':=σ) rfl ?_ (za _) (λh=>by cases h) (λ_=>za _) h1;rw[heq];exact hu8 (E:=E) (fr:=fr) hu hsz hc.1 hz hc.2.1 hp rfl hs hf hn0
       rw[if_neg h0] at hk;cases hk;obtain ⟨out,ho1,ho2⟩:=h;refine acts (id':=σ.next) (n':=n0) (σ':=σ) rfl ?_ (za _) (λh=>by cases h) (λ_=>za _) ho2;rw[heq]
       exact gm1 hu hsz hc.1 hz hc.2.1 hc.2.2 hp ho1 hs hf hn0
      | false=>
      simp only[zl,if_false] at hk;cases hk;obtain ⟨h1,h2,h3⟩:=hid rfl;obtain ⟨out,ho1,ho2⟩:=h;refine acts (id':=id) (n':=n0) (σ':=σ.put id (.row out)) rfl ?_ (za _) (λ_=>rfl) (λh=>by cases h) ho2;rw[heq];exact fe6 hu hsz hc.1 hz hc.2.1 hc.2.2 hp ho1 hs hf h1 h2 h3
     ·cases hk
    ·cases hk
   ·cases hk
  ·cases hk
 ·rename_i t x y heq;split at hk
  ·rename_i sz ia ib hsz hx hy;cases hk;obtain ⟨σ',ho1,ho2⟩:=h;refine acts (id':=σ.next) (n':=n0) (σ':=σ') (ev3 ho1) ?_ (za _) (λh=>by cases h) (λ_=>za _) ho2;rw[heq];exact fr9 hsz hx hy ho1 hs hf
  ·cases hk
 ·rename_i t x heq;split at hk
  ·rename_i hu;obtain ⟨y,hy,rfl⟩:=map_some hk;obtain ⟨h1,h2,h3⟩:=hid rfl;obtain ⟨s,hs1,hs2⟩:=h;refine acts (id':=id) (n':=n0) (σ':=σ.put id (.bg3 s 0)) rfl ?_ (za _) (λ_=>rfl) (λh=>by cases h) hs2;rw[heq];exact et6 hu hy hs1 hs hf h1 h2 h3
  ·rename_i kt et hu;obtain ⟨y,hy,rfl⟩:=map_some hk;obtain ⟨h1,h2,h3⟩:=hid rfl;obtain ⟨es,hs1,hs2⟩:=h;refine acts (id':=id) (n':=n0) (σ':=σ.put id (.as1 es zc)) rfl ?_ (za _) (λ_=>rfl) (λh=>by cases h) hs2;rw[heq];exact et8 hu hy hs1 hs hf h1 h2 h3
  ·cases hk
 ·rename_i x heq;obtain ⟨y,hy,rfl⟩:=map_some hk;obtain ⟨⟨v,σ'⟩,ho1,ho2⟩:=h;refine acts (id':=σ.next) (n':=n0) (σ':=σ') (et7 ho1) ?_ (za _) (λh=>by cases h) (λ_=>za _) ho2;rw[heq];exact fs3 hy ho1 hs hf
 ·rename_i x heq;obtain ⟨y,hy,rfl⟩:=map_some hk;obtain ⟨i,left,ho1,ho2,ho3⟩:=h;rcases fs4 (n:=n0) (id0:=σ.next) (a:=a) hy ho1 hs hf with ⟨he,hact⟩|⟨j,hj,hact⟩
  ·refine acts (id':=σ.next) (n':=n0) (σ':=σ) rfl ?_ (za _) (λh=>by cases h) (λ_=>za _) (ho2 he);rw[heq];exact hact
  ·refine acts (id':=σ.next) (n':=n0) (σ':=σ.put i (.as1 (left.eraseIdx j) (zb (left.getD j (.undef,.undef))))) rfl ?_ (za _) (λh=>by cases h) (λ_=>za _) (ho3 j hj);rw[heq];exact hact
 ·rename_i x heq;obtain ⟨y,hy,rfl⟩:=map_some hk;obtain ⟨v,ho1,ho2⟩:=h;refine acts (id':=σ.next) (n':=n0) (σ':=σ) rfl ?_ (za _) (λh=>by cases h) (λ_=>za _) ho2;rw[heq];exact gm3 hy ho1 hs hf
 ·rename_i t heq;cases hk;obtain ⟨h1,h2,h3⟩:=hid rfl;refine acts (id':=id) (n':=n0) (σ':=σ.put id (.map [])) rfl ?_ (za _) (λ_=>rfl) (λh=>by cases h) h;rw[heq];exact fs2 hs h1 h2 h3
 ·rename_i t x k v heq;split at hk
  ·rename_i kt et hu;split at hk
   ·rename_i tag ia ib ic ht hx hk' hv;cases hk;obtain ⟨σ',ho1,ho2⟩:=h;refine acts (id':=σ.next) (n':=n0) (σ':=σ') (cu5 ho1) ?_ (za _) (λh=>by cases h) (λ_=>za _) ho2;rw[heq];exact db1 hu ht hx hk' hv ho1 hs hf
   ·cases hk
  ·cases hk
 ·rename_i t x y heq;split at hk
  ·rename_i e hu;split at hk
   ·rename_i i z ia hi hz hx;split at hk
    ·rename_i hc
     have plain:k=.dj2 i.size z ia->o.wpIn (fw ro) 0 P a w next Q:=by
      intro e;subst e;obtain ⟨h1,h2,h3⟩:=hid rfl;obtain ⟨len,ho1,ho2⟩:=h;refine acts (id':=id) (n':=n0) (σ':=σ.put id (.row (rep z len))) rfl ?_ (za _) (λ_=>rfl) (λh=>by cases h) ho2;rw[heq];exact ej2 hu hi hz hc.1 hc.2.1 hc.2.2.1 hx hc.2.2.2 ho1 hs hf h1 h2 h3
     replace hk:=zb.inj hk;split at hk
     ·rename_i m;split at hk
      ·rename_i hm;subst hk;obtain ⟨out,ho1,ho2⟩:=h;have he:out=rep z m.toNat:=by simp only[List.map_nil,at7] at ho1;exact (zb.inj ho1).symm
       subst he;refine acts (id':=σ.next) (n':=n0) (σ':=σ) rfl ?_ (za _) (λh=>by cases h) (λ_=>za _) ho2;rw[heq];exact fs6 hu hi hz hc.1 hc.2.1 hc.2.2.1 hx hc.2.2.2 (by simp only[IX.ev,db2];rw[if_pos (by omega)]) hs hf hn0
      ·exact plain hk.symm
     ·exact plain hk.symm
    ·cases hk
   ·cases hk
  ·cases hk
 ·rename_i t x k v heq;split at hk
  ·rename_i kt et hu;split at hk
   ·rename_i tag ia ib ic ht hx hk' hv;cases hk;obtain ⟨σ',ho1,ho2⟩:=h;refine acts (id':=σ.next) (n':=n0) (σ':=σ') (cu5 ho1) ?_ (za _) (λh=>by cases h) (λ_=>za _) ho2;rw[heq];exact eu1 (db1 hu ht hx hk' hv ho1 hs hf)
   ·cases hk
  ·cases hk
 ·rename_i args argTypes heq;split at hk
  ·rename_i x t ha ht;split at hk
   ·rename_i e hu;split at hk
    ·rename_i sz z ia hsz hz hx;split at hk
     ·rename_i hc;cases hk;obtain ⟨σ',ho1,ho3,ho2⟩:=h;refine acts (id':=σ.next) (n':=n0) (σ':=σ') ho3 ?_ (za _) (λh=>by cases h) (λ_=>za _) ho2;rw[heq];obtain ⟨al⟩:=args;obtain ⟨tl⟩:=argTypes;simp only at ha ht;subst ha;subst ht;exact hu9 hu hsz hz hc.1 hc.2 hx ho1 hs hf
     ·cases hk
    ·cases hk
   ·cases hk
  ·cases hk
 ·rename_i args argTypes heq;split at hk
  ·rename_i s x t xt ha ht;split at hk
   ·rename_i e xe hu hxu;split at hk
    ·rename_i i z ia ib hi hz hsx hxx;split at hk
     ·rename_i hc;replace hk:=zb.inj hk;by_cases hfz:fz=true
      ·rw[if_pos hfz] at hk;subst hk;obtain ⟨h1,h2,h3⟩:=hid rfl;obtain ⟨⟨v,σ'⟩,ho1,ho2⟩:=h;exact nomatch (show (zc:Option (IV×Store))=zb (v,σ') from ho1)
      rw[if_neg hfz] at hk;subst hk;obtain ⟨h1,h2,h3⟩:=hid rfl;obtain ⟨⟨v,σ'⟩,ho1,ho2⟩:=h;exact acts (id':=id) (n':=n0) (σ':=σ') (gq3 ho1) (ia9 heq ha ht hu hxu hi hz hsx hxx hc.1 hc.2 ho1 hs hf h1 h2 h3) (za _) (λ_=>rfl) (λh=>by cases h) ho2
     ·cases hk
    ·cases hk
   ·cases hk
  ·cases hk
 ·rename_i f args argTypes heq;split at hk
  ·rename_i xs hxs;split at hk
   ·rename_i hok;split at hk
    ·cases hk;obtain ⟨v,hpc,hK⟩:=h;exact ev2 hdf (ek2 heq hok) (hpc σ) (λv' σ' ⟨h1,h2⟩=>by subst h1;subst h2;exact ⟨za _,hK⟩) hs (CR.map hxs hs hf) hn0 (λv σ' r ρ' w' h1 h2 h3 h4 h5 h6=>hn v σ' r ρ' w' h1 h2 h3 h4 h5 (λi hi _ h0=>h6 i hi h0))
    cases hk;obtain ⟨Qc,hc,hK⟩:=h;exact ev2 hdf (ek2 heq hok) hc hK hs (CR.map hxs hs hf) hn0 (λv σ' r ρ' w' h1 h2 h3 h4 h5 h6=>hn v σ' r ρ' w' h1 h2 h3 h4 h5 (λi hi _ h0=>h6 i hi h0))
   ·obtain ⟨q,hq,rfl⟩:=map_some hk;exact quiet q hq rfl
  ·cases hk
 ·rename_i t args argTypes heq;split at hk
  ·rename_i xs hxs;cases hk;obtain ⟨Qc,hc,hK⟩:=h;have vt:VR ρ w (fr.get t) (a.eval (.tmp t)):=hf.get t;have hca:=CR.map (a:=a) hxs hs hf;simp only[IX.ev] at hc;generalize hfv:fr.get t=fv at hc vt;generalize hrv:a.eval (.tmp t)=rv at vt
   cases vt with
   | func fn first cap rf rc hy l1 l2 v1 v2=>
    cases fn with
    | func f=>
     obtain ⟨hok,hc⟩:=hc;have hrun:=gq2 (P:=P) (w:=w) heq hrv hok;refine ev2 hdf hrun hc hK hs ?_ hn0 (λv σ' r ρ' w' h1 h2 h3 h4 h5 h6=>hn v σ' r ρ' w' h1 h2 h3 h4 h5 (λi hi _ h0=>h6 i hi h0))
     exact ((CR.append ⟨l1,v1⟩ hca).append ⟨l2,v2⟩)
    | _=>exact hc.elim
   | yield id' B d hid'=>
    obtain ⟨fn,tmps,assign,body,hy,hr⟩:=hc.2 ρ w (args.map a.eval) B d hs hca hid';refine ⟨λf _=>trivial,?_⟩
    have hrun:(execOp a.eval o).run P w=.ok (.round B fn tmps assign body) w:=by
     unfold execOp;rw[heq];simp only[resolve,hrv,Deferred.ofValue,Sem.run_bind,Sem.run_pure,Result.andThen_ok,invoke]
     simpa using hy
    rw[Oper.semAt_eq _ _ _ hdf,hrun,Oper.uponIn_round];refine ⟨(λh=>by cases h),?_⟩;refine RoundIn.mono (F:=fw ro) (n:=0) hr ?_;rintro e w'' ⟨v,r,ρ',σ',rfl,q,hs',hv',hx⟩;obtain ⟨h1,h2⟩:=hK v σ' q
    exact hn v σ' r ρ' w'' h1 h2 hs' hv' ((hx.ext hs.fresh).le hn0) (λi hi _ h0=>hx.no i hi h0)
   | bc4 id' B hid'=>
    have:=hs.dead id' hid';have:=hc.1
    simp_all
   | _=>exact hc.elim
  ·cases hk
 ·rename_i args argTypes heq;split at hk
  ·rename_i x k t ha ht;split at hk
   ·rename_i kt et hu;split at hk
    ·rename_i tag ia ib hkt hx hk';cases hk;obtain ⟨h1,h2,h3⟩:=hid rfl;obtain ⟨⟨v,σ'⟩,ho1,ho2⟩:=h;refine acts (id':=id) (n':=n0) (σ':=σ') (dy1 ho1) ?_ (za _) (λ_=>rfl) (λh=>by cases h) ho2;rw[heq];obtain ⟨al⟩:=args;simp only at ha;subst ha;exact nomatch (show (zc:Option (IV×Store))=zb (v,σ') from ho1)
    ·cases hk
   ·cases hk
  ·cases hk
 ·rename_i args argTypes heq;split at hk
  ·rename_i x y t ha ht;split at hk
   ·rename_i e hu;split at hk
    ·rename_i n ia ib hsz hx hy;cases hk;obtain ⟨h1,h2,h3⟩:=hid rfl;obtain ⟨⟨v,σ'⟩,ho1,ho2⟩:=h;refine acts (id':=id) (n':=n0) (σ':=σ') (dy1 ho1) ?_ (za _) (λ_=>rfl) (λh=>by cases h) ho2;rw[heq];obtain ⟨al⟩:=args;simp only at ha;subst ha;exact nomatch (show (zc:Option (IV×Store))=zb (v,σ') from ho1)
    ·cases hk
   ·cases hk
  ·cases hk
 ·obtain ⟨q,hq,rfl⟩:=map_some hk;exact quiet q hq rfl
 ·rename_i t x lo oh om _ heq;split at hk
  ·rename_i e hu;split at hk
   ·rename_i n ia il ib ic hsz hx hl hh hm;replace hk:=zb.inj hk;by_cases hcl:fz=false
    ·rw[if_pos hcl] at hk;subst hk;obtain ⟨v,hv',ho2⟩:=h;refine acts (id':=σ.next) (n':=n0) (σ':=σ) rfl ?_ (za _) (λh=>by cases h) (λ_=>za _) ho2;rw[heq]
     have hlo:(lo=zc/\il=.c (.int .i64 0))\/∃o,lo=zb o/\ai9 o=zb il:=by
      cases lo with
      | none=>cases hl;exact .inl ⟨rfl,rfl⟩
      | some o=>exact .inr ⟨o,rfl,hl⟩
     exact hv8 hu hsz hx hlo hh hm hv' hs hf
    rw[if_neg hcl] at hk;subst hk;obtain ⟨h1,h2,h3⟩:=hid rfl;obtain ⟨⟨v,σ'⟩,ho1,ho2⟩:=h;refine acts (id':=id) (n':=n0) (σ':=σ') (dy1 ho1) ?_ (za _) (λ_=>rfl) (λh=>by cases h) ho2;rw[heq]
    have hlo:(lo=zc/\il=.c (.int .i64 0))\/∃o,lo=zb o/\ai9 o=zb il:=by
     cases lo with
     | none=>cases hl;exact .inl ⟨rfl,rfl⟩
     | some o=>exact .inr ⟨o,rfl,hl⟩
    exact nomatch (show (zc:Option (IV×Store))=zb (v,σ') from ho1)
   ·cases hk
  ·cases hk
 ·rename_i t x oh heq;split at hk
  ·rename_i e hu;split at hk
   ·rename_i n ia ib hsz hx hh;cases hk;obtain ⟨h1,h2,h3⟩:=hid rfl;obtain ⟨⟨v,σ'⟩,ho1,ho2⟩:=h;exact nomatch (show (zc:Option (IV×Store))=zb (v,σ') from ho1)
   ·cases hk
  ·obtain ⟨q,hq,rfl⟩:=map_some hk;exact quiet q hq rfl
 ·rename_i t x heq;split at hk
  ·rename_i agg ia hq;cases hk;obtain ⟨v,hv,hK⟩:=h
   have hv':evq E fr σ (.load agg ia)=zb v:=by
    cases fz with
    | true=>exact hs9 hv σ
    | false=>exact hv
   obtain ⟨r,hrun,hvr⟩:=gl2 hq hv' hs hf o heq;refine ⟨λf _=>trivial,?_⟩;rw[Oper.semAt_eq _ _ _ hdf,hrun];exact hn v σ r ρ w (za _) hK hs hvr (Ext.refl _ _ _) (λi _ _ h0=>h0)
  ·cases hk
 ·rename_i op heq _ _ _ _ _ _ _;obtain ⟨q,hq,rfl⟩:=map_some hk;exact quiet q hq rfl
theorem ea2 {k:IK}{id n0:Nat}{K:IV->Store->Prop}{o:Oper}{next:Act->World->Prop}{Q:Exit->Act->World->Prop}{ro:Option Nat}
  {fz:Bool} (hk:jp6 P pf fz o.op=zb k) (h:opR P E k id fr σ K) (hs:Sim E ρ w σ) (hf:FR ρ w N fr a.tmps) (hn0:n0<=σ.next) (hid:k.lays=true->ρ id=.no/\id<σ.next/\n0<=id)
  (hn:∀v σ' r ρ' w',σ.next<=σ'.next->K v σ'->Sim E ρ' w' σ'->VR ρ' w' v r->Ext n0 ρ w ρ' w'->(∀i,i<σ.next->(k.lays=true->i≠id)->ρ i=.no->ρ' i=.no)->next (a.put o.dst r) w'):o.wpIn (fw ro) 0 P a w next Q:=by
 unfold jp6 at hk;split at hk
 ·rename_i k' hk';cases hk;exact gq4 hk' h hs hf hn0 hid hn
 ·split at hk
  ·cases hk
  ·cases hk;obtain ⟨r,hr,_⟩:=h;cases hr
end Go.Id
namespace Go.Id
open Go
variable {P:Program} {w w' w'':World} {ρ ρ' ρ'':Rho} {E:Nat->IV} {σ σ':Store} {N n n':Nat} {fr:Frm} {a:Act} {pf:List Nat}
theorem ek3 {ops:Array Oper}{o:Oper}{j s:Nat}{want b:Bool}(hg:o.guard=zb (j,want))(hs:(ops[j]?).bind (·.dst)=zb s)(hf:FR ρ w N fr a.tmps)(hb:fr.get s=.bool b) :
  Region.wanted o (yielded ops a.tmps)=decide (b=want):=by
 have hv:=hf.get s;rw[hb] at hv
 have ht:a.tmps[s]? = zb (.bool b):=by
  generalize hr:a.tmps.getD s undef=r at hv;cases hv;rw[zd] at hr
  cases he:a.tmps[s]? with
  | none=>rw[he] at hr;simp[undef] at hr
  | some v=>rw[he] at hr;simp at hr;rw[hr]
 have hy:yielded ops a.tmps j=zb b:=by
  unfold yielded;rw[hs];simp[ht]
 unfold Region.wanted;rw[hg];simp only[hy];cases b<;>cases want<;>rfl
theorem gq5 {ρ:Rho}{w:World}:VR ρ w skV undef:=.tuple [] #[] rfl λi hi=>absurd hi (Nat.not_lt_zero _)
theorem cd5 {ops:Array Oper}{o:Oper}{j s:Nat}{want act:Bool}(hg:o.guard=zb (j,want))(hs:(ops[j]?).bind (·.dst)=zb s)(hf:FR ρ w N fr a.tmps)(ha:ia8 (fr.get s) want=zb act) :
  Region.wanted o (yielded ops a.tmps)=act:=by
 unfold ia8 at ha;split at ha
 ·rename_i b hb;cases ha;exact ek3 hg hs hf hb
 ·rename_i hb;cases ha;have hv:=hf.get s;rw[hb] at hv
  have hy:yielded ops a.tmps j=zc:=by
   unfold yielded;rw[hs];generalize hr:a.tmps.getD s undef=r at hv
   cases hv with
   | tuple _ rs hl _=>
    rw[zd] at hr
    cases he:a.tmps[s]? with
    | none=>simp[he]
    | some v=>rw[he] at hr;simp at hr;simp[he,hr]
  unfold Region.wanted;rw[hg];simp[hy]
 ·cases ha
theorem put_defers (a:Act)(d:Option Tmp)(v:Value):(a.put d v).defers=a.defers:=by cases d<;>rfl
theorem ck5 (o:ae7)(os:List ae7):cd4 (o::os)=(if o.op.lays then 1 else 0)+cd4 os:=by
 unfold cd4;rw[List.filter_cons];split<;>simp_all;omega
theorem bz6 {ops:Array Oper}{o:Oper}{io:ae7}(h:ck4 P pf N ops o=zb io):(∃fz,jp6 P pf fz o.op=zb io.op)/\io.dst=o.dst/\gq1 N o.dst=true /\
  (o.guard=zc/\io.guard=zc\/∃j want s,o.guard=zb (j,want)/\(ops[j]?).bind (·.dst)=zb s/\io.guard=zb (s,want)):=by
 unfold ck4 at h
 cases hk:jp6 P pf (o.dst.any λt=>pf.contains (1000000+t)) o.op with
 | none=>rw[hk] at h;cases h
 | some k=>
  rw[hk] at h;simp only at h;by_cases hd:gq1 N o.dst=true
  ·rw[if_pos hd] at h
   cases hg:o.guard with
   | none=>rw[hg] at h;cases h;exact ⟨⟨_,hk⟩,rfl,hd,.inl ⟨rfl,rfl⟩⟩
   | some p=>
    obtain ⟨j,want⟩:=p;rw[hg] at h;simp only at h
    cases hs:(ops[j]?).bind (·.dst) with
    | none=>rw[hs] at h;cases h
    | some s=>rw[hs] at h;cases h;exact ⟨⟨_,hk⟩,rfl,hd,.inr ⟨j,want,s,rfl,hs,rfl⟩⟩
  ·rw[if_neg hd] at h;cases h
theorem gq6 {ops:Array Oper}{n0:Nat}{ro:Option Nat}{Qw:Exit->Act->World->Prop}{K:Frm->Store->Prop}{ρ0:Rho}{w0:World}{ds:List Deferred}
  (hfin:∀fr σ ρ w a,n0<=σ.next->K fr σ->Sim E ρ w σ->FR ρ w N fr a.tmps->a.defers=ds->bg5 n0 ρ0 w0 ρ w->Qw .normal a w) :
  ∀(os:List Oper) (ios:List ae7) (i id:Nat) (fr:Frm) (σ:Store) (ρ:Rho) (w:World) (a:Act),ops.toList.drop i=os->bp3 P pf N ops os=zb ios->cd3 P E ios id fr σ K ->
   Sim E ρ w σ->FR ρ w N fr a.tmps->a.defers=ds->bg5 n0 ρ0 w0 ρ w->n0<=id->(∀k,id<=k->k<id+cd4 ios->ρ k=.no)->id+cd4 ios<=σ.next ->
   wpOpsIn (fw ro) 0 P ops Qw (zj i os.length) a w:=by
 intro os
 induction os with
 | nil=>
  intro ios i id fr σ ρ w a _ hc h hs hf hd hx hn0 hres hle;cases hc
  exact hfin fr σ ρ w a (by simp[cd4] at hle;omega) h hs hf hd hx
 | cons o os ih=>
  intro ios i id fr σ ρ w a hdrop hc h hs hf hd hx hn0 hres hle;simp only[bp3] at hc;split at hc
  ·rename_i io ios' hio hios;cases hc;obtain ⟨⟨fz,hk⟩,hdst,hdN,hg⟩:=bz6 hio
   have hi:ops[i]? = zb o:=by
    have:=congrArg (λl=>l[0]?) hdrop
    simpa [List.getElem?_drop] using this
   have hdrop':ops.toList.drop (i+1)=os:=by
    have:=congrArg (List.drop 1) hdrop
    simpa [List.drop_drop] using this
   simp only[List.length_cons,List.range'_succ];rw[wpOpsIn_cons]
   have run:opR P E io.op id fr σ (λv σ'=>cd3 P E ios' (if io.op.lays then id+1 else id) (fr.ap3 io.dst v) σ' K)->o.wpIn (fw ro) 0 P a w (wpOpsIn (fw ro) 0 P ops Qw (zj (i+1) os.length)) Qw:=by
    intro hop;have hlN:=ck5 io ios';refine ea2 hk hop hs hf (by omega) (λhl=>⟨hres id (za _) (by rw[hlN,hl];simp;omega),by rw[hlN,hl] at hle;simp at hle;omega,hn0⟩) ?_;intro v σ' r ρ' w' hnx hK hs' hv' hx' hno;refine ih ios' (i+1) _ _ σ' ρ' w' (a.put o.dst r) hdrop' hios hK hs' ?_ (by rw[put_defers];exact hd) (hx.trans (hx'.weak (za _))) (by split<;>omega) ?_ ?_
    ·rw[hdst];exact FR.ap3 (hf.mono hx') hdN hv'
    ·intro k hk1 hk2;have hk3:id<=k:=by split at hk1<;>omega
     have hk4:k<id+cd4 (io::ios'):=by
      rw[hlN];cases hl:io.op.lays<;>rw[hl] at hk2<;>simp at hk2 ⊢<;>omega
     exact hno k (by omega) (λhl=>by rw[hl] at hk1;simp at hk1;omega) (hres k hk3 hk4)
    ·rw[hlN] at hle;split<;>simp_all<;>omega
   unfold wpOpIn;simp only[hi];simp only[cd3] at h;obtain ⟨act,hact,h⟩:=h
   have skip:cd3 P E ios' (if io.op.lays then id+1 else id) (fr.ap3 io.dst skV) σ K->(∀f,o.about P w a.eval=zb f->(fw ro).fn f)/\wpOpsIn (fw ro) 0 P ops Qw (zj (i+1) os.length) (a.put o.dst undef) w:=by
    intro h;refine ⟨λf _=>trivial,?_⟩;have hlN:=ck5 io ios';refine ih ios' (i+1) _ _ σ ρ w (a.put o.dst undef) hdrop' hios h hs (by rw[hdst];exact FR.ap3 hf hdN gq5) (by rw[put_defers];exact hd) hx (by split<;>omega) ?_ ?_
    ·intro k hk1 hk2;refine hres k (by split at hk1<;>omega) ?_;rw[hlN];cases hl:io.op.lays<;>rw[hl] at hk2<;>simp at hk2 ⊢<;>omega
    ·rw[hlN] at hle;split<;>simp_all<;>omega
   have hw:Region.wanted o (yielded ops a.tmps)=act:=by
    rcases hg with ⟨hg1,hg2⟩|⟨j,want,s,hg1,hgs,hg2⟩
    ·simp only[bh9,hg2,zb.injEq] at hact;unfold Region.wanted;rw[hg1];exact hact
    ·simp only[bh9,hg2] at hact;exact cd5 hg1 hgs hf hact
   rw[hw]
   cases act with
   | true=>exact run h
   | false=>exact skip h
  ·cases hc
end Go.Id
namespace Go.Id
open Go
variable {P:Program} {w w' w'':World} {ρ ρ' ρ'':Rho} {E:Nat->IV} {σ σ':Store} {N n n':Nat} {fr:Frm} {a:Act} {pf:List Nat}
theorem ib5 {n0 id:Nat}{ops:Array Oper}{ios:List ae7}{Q:Exit->Frm->Store->Prop}(hc:bp3 P pf N ops ops.toList=zb ios)
  (h:cd3 P E ios σ.next fr { σ with next:=σ.next+cd4 ios } (λfr' σ'=>Q .normal fr' σ')):R P E N n0 (.region id ops false) fr σ Q:=by
 intro hn ro h0 ρ w a hs hf hd hr;refine wpIn_region ?_;rw[List.range_eq_range'];have e:ops.size=ops.toList.length:=by simp
 rw[e]
 refine gq6 (n0:=n0) (ρ0:=ρ) (w0:=w) (ds:=a.defers) (K:=λfr' σ'=>Q .normal fr' σ') ?_ ops.toList ios 0 σ.next fr _ ρ w a rfl hc h
  (dy9 hs (λi hi=>hs.fresh i (by omega))) hf rfl (bg5.refl _ _ _) hn (λk hk _=>hs.fresh k hk) (za _)
 intro fr' σ' ρ' w' a' hn' hK hs' hf' hd' hx;exact ⟨fr',σ',ρ',hn',hK,hs',hf',by rw[hd'];exact hd.mono hx,hr.mono hx,hx⟩
theorem VR.turn {r:Nat}{v:IV}{x:Value}(hsz:w'.heap.size=w.heap.size)(hb:∀b,b≠r->w'.heap[b]? = w.heap[b]?)(hr:∀rcs el fz,w.heap[r]?≠zb (Obj.cells rcs el fz))(hmp:∀mes c,w.heap[r]?≠zb (Obj.map mes c))(h:VR ρ w v x):VR ρ w' v x:=by
 have hcells:∀(b:Nat) (rcs:Array Value) (el:TypeId) (fz:Nat×Nat),w.heap[b]? = zb (.cells rcs el fz)->w'.heap[b]? = zb (.cells rcs el fz):=λb rcs el fz hh=>by
  have:b≠r:=λe=>by subst e;exact hr _ _ _ hh
  rw[hb b this];exact hh
 have hfb:∀b,FB ρ w b->FB ρ w' b:=λb hh=>⟨by rw[hsz];exact hh.1,hh.2,hh.3⟩
 have hcell:∀(ad:Addr) (q:Value),w.cell? ad=zb q->w'.cell? ad=zb q:=λad q hh=>by
  unfold World.cell? at hh ⊢;split at hh
  ·rename_i c el fz hc;rw[hcells _ _ _ _ hc];exact hh
  ·cases hh
 induction h with
 | undef r=>exact .undef r
 | bool b=>exact .bool b
 | int k n=>exact .int k n
 | str s=>exact .str s
 | ae3=>exact .ae3
 | ptr id off B d hi=>exact .ptr id off B d hi
 | cx8 id off ad hi=>exact .cx8 id off ad hi
 | ab8 cs b o vs hf hc _ ih=>exact .ab8 cs b o vs (hfb _ hf) (λj hj=>hcell _ _ (hc j hj)) ih
 | aa1=>exact .aa1
 | ac6 a=>exact .ac6 a
 | af6 a c=>exact .af6 a c
 | slice id off len esz B d cap rcs el fz hi hbk hs hle=>exact .slice id off len esz B d cap rcs el fz hi (hcells _ _ _ _ hbk) hs hle
 | am6 id off esz B d a hi=>exact .am6 id off esz B d a hi
 | al5 id off len esz cap ad hi hle=>exact .al5 id off len esz cap ad hi hle
 | ag6 id off len esz B d rcs el fz hi hbk hs=>exact .ag6 id off len esz B d rcs el fz hi (hcells _ _ _ _ hbk) hs
 | aq3 id off len esz ad hi=>exact .aq3 id off len esz ad hi
 | ak5 id off len room esz B d cap rcs el fz hi hbk hs hle hr=>exact .ak5 id off len room esz B d cap rcs el fz hi (hcells _ _ _ _ hbk) hs hle hr
 | aw9 id off len room esz cap ad hi hle hr=>exact .aw9 id off len room esz cap ad hi hle hr
 | aa3 es b o cap esz sp vs hf hs hc _ hle ih=>exact .aa3 es b o cap esz sp vs (λhne=>⟨hfb _ (hf hne).1,(hf hne).2⟩) hs (λi hi j hj=>hcell _ _ (hc i hi j hj)) ih hle
 | ci3=>exact .ci3
 | ah7=>exact .ah7
 | map id B d hi=>exact .map id B d hi
 | mapD id B hi=>exact .mapD id B hi
 | al4 es es' b mes clock hp hd hf hh hl _ _ h4 h5 ihk ihv=>exact .al4 es es' b mes clock hp hd (hfb _ hf) (by have:b≠r:=λe=>by { subst e;exact hmp _ _ hh };rw[hb b this];exact hh) hl ihk ihv h4 h5
 | func fn first cap rf rc hy h1 h2 _ _ ihf ihc=>exact .func fn first cap rf rc hy h1 h2 ihf ihc
 | yield id B d hi=>exact .yield id B d hi
 | bc4 id B hi=>exact .bc4 id B hi
 | ad7=>exact .ad7
 | iface t v r _ ih=>exact .iface t v r ih
 | ah2=>exact .ah2
 | agg cs rs h1 _ ih=>exact .agg cs rs h1 ih
 | tuple cs rs h1 _ ih=>exact .tuple cs rs h1 ih
theorem OR.turn {r B d:Nat}{o:aj2}(hsz:w'.heap.size=w.heap.size)(hb:∀b,b≠r->w'.heap[b]? = w.heap[b]?)(hr:∀rcs el fz,w.heap[r]?≠zb (Obj.cells rcs el fz))(hmp:∀mes c,w.heap[r]?≠zb (Obj.map mes c))(hB:B≠r)(h:OR ρ w B d o):OR ρ w' B d o:=by
 have key:∀cs,aq6 ρ w B d cs->aq6 ρ w' B d cs:=λcs ⟨rcs,el,h1,h2,h3⟩=>⟨rcs,el,by rw[hb B hB];exact h1,h2,λi hi=>(h3 i hi).turn hsz hb hr hmp⟩
 cases o with
 | cells cs=>exact key cs h
 | row cs=>exact key cs h
 | map es=>
  obtain ⟨mes,clock,h1,h0,h2,h3,h4,h5⟩:=h
  exact ⟨mes,clock,by rw[hb B hB];exact h1,h0,h2,λi hi=>⟨(h3 i hi).1.turn hsz hb hr hmp,(h3 i hi).2.turn hsz hb hr hmp⟩,h4,h5⟩
 | bg3 s pos=>exact ⟨by rw[hb B hB];exact h.1,h.2⟩
 | loop N tmps params assign body st pend=>
  obtain ⟨hd,l,h1,h2,h3,h4,h5,h6,h7,h8⟩:=h
  exact ⟨hd,l,by rw[hb B hB];exact h1,h2,h3,h4,h5,h6,h7,λt=>(h8 t).turn hsz hb hr hmp⟩
 | as1 left cur=>
  obtain ⟨hd,mb,last,seen,mes,clock,lft,h1,h2,h3,h4,h5,h6,h7,h8,hc,h9⟩:=h;have hm:mb≠r:=λe=>by subst e;exact hmp _ _ h3
  exact ⟨hd,mb,last,seen,mes,clock,lft,by rw[hb B hB];exact h1,⟨by rw[hsz];exact h2.1,h2.2,h2.3⟩,by rw[hb mb hm];exact h3,h4,h5,h6,h7,h8,λc e=>let ⟨i,g1,g2,g3,g4⟩:=hc c e;⟨i,g1,g2,g3.turn hsz hb hr hmp,g4.turn hsz hb hr hmp⟩,λi hi=>⟨(h9 i hi).1.turn hsz hb hr hmp,(h9 i hi).2.turn hsz hb hr hmp⟩⟩
theorem Sim.turn {r:Nat}(hsz:w'.heap.size=w.heap.size)(hb:∀b,b≠r->w'.heap[b]? = w.heap[b]?)(hr:∀rcs el fz,w.heap[r]?≠zb (Obj.cells rcs el fz))(hmp:∀mes c,w.heap[r]?≠zb (Obj.map mes c))(hfb:UB ρ w r)(hs:Sim E ρ w σ):Sim E ρ w' σ :=
 ⟨hs.inj,λi B d h=>by rw[hsz];exact hs.lt i B d h,λi B d h=>let ⟨o,h1,h2⟩:=hs.obj i B d h;⟨o,h1,h2.turn hsz hb hr hmp (λe=>hfb.2 i d (by rw[<- e];exact h))⟩,hs.dead,hs.fresh,hs.av3,λg=>(hs.env g).turn hsz hb hr hmp,hs.nx,λb h=>by rw[hsz];exact hs.xlt b h⟩
def jz9 (P:Program)(σ:Store)(fr:Frm):ResultVar->Option IV
 | .tmp t=>zb (fr.get t)
 | .cell ad t=>match aq2 P t with
  | some agg=>ay7 σ agg (fr.get ad)
  | none=>zc
def ib6 (P:Program)(σ:Store)(fr:Frm):List ResultVar->Option (List IV)
 | []=>zb []
 | r::rs=>match jz9 P σ fr r,ib6 P σ fr rs with
  | some v,zb vs=>zb (v::vs)
  | _,_=>zc
def ft6:List IV->IV
 | [v]=>v
 | vs=>.tuple vs
def fg3 (tmps:Array Value):ResultVar->Sem Value
 | .tmp t=>pure (tmps.getD t undef)
 | .cell a t=>do loadVar t (<- asAddr (tmps.getD a undef))
theorem ft7 (fn:Func)(tmps:Array Value):results fn tmps=(do let vs <- fn.results.mapM (fg3 tmps);pure (if h:vs.size=1 then vs[0] else .tuple vs)):=by
 unfold results;refine congrArg (λm:Sem (Array Value)=>m >>= λvs=>pure (if h:vs.size=1 then vs[0] else .tuple vs)) ?_;refine congrArg (λg=>fn.results.mapM g) ?_;funext x;cases x<;>rfl
theorem ft8 {tmps:Array Value}(hs:Sim E ρ w σ)(hf:FR ρ w N fr tmps):∀(rs:List ResultVar) (vs:List IV),ib6 P σ fr rs=zb vs ->
  ∃rvs:List Value,(rs.mapM (fg3 tmps)).run P w=.ok rvs w/\CR ρ w vs rvs.toArray:=by
 intro rs
 induction rs with
 | nil=>intro vs h;cases h;exact ⟨[],rfl,rfl,λi hi=>by simp at hi⟩
 | cons r rs ih=>
  intro vs h;simp only[ib6] at h;split at h
  ·rename_i v vs' h1 h2;cases h;obtain ⟨rvs,hr,hc⟩:=ih vs' h2
   have one:∃x,(fg3 tmps r).run P w=.ok x w/\VR ρ w v x:=by
    cases r with
    | tmp t=>cases h1;exact ⟨_,rfl,hf.get t⟩
    | cell ad t=>
     simp only[jz9] at h1;split at h1
     ·rename_i agg hk;have hv:=hf.get ad;obtain ⟨x,hx,hvx⟩:=dk6 hs hk h1 hv
      have hp:∃ad',tmps.getD ad undef=.pointer (zb ad'):=by
       unfold ay7 at h1
       cases hc:aq7 σ (fr.get ad) with
       | none=>rw[hc] at h1;cases h1
       | some cs=>obtain ⟨b,o,he,_⟩:=cb7 hs hv hc;exact ⟨_,he⟩
      obtain ⟨ad',he⟩:=hp;rw[he] at hx;refine ⟨x,?_,hvx⟩;show (do loadVar t (<- asAddr (tmps.getD ad undef)):Sem Value).run P w=.ok x w;rw[he]
      simpa [Instr.loadAt,Instr.sureAddr,asAddr] using hx
     ·cases h1
   obtain ⟨x,hx,hvx⟩:=one;refine ⟨x::rvs,?_,by have:=hc.1;simp at this ⊢;exact this,λi hi=>?_⟩
   ·rw[List.mapM_cons];simp only[Sem.run_bind,hx,hr,Result.andThen_ok,Sem.run_pure]
   ·cases i with
    | zero=>simpa using hvx
    | succ i=>simpa [zd] using hc.2 i (by simpa using hi)
  ·cases h
theorem ea3 {fn:Func}{tmps:Array Value}{vs:List IV}(hs:Sim E ρ w σ)(hf:FR ρ w N fr tmps)(h:ib6 P σ fr fn.results.toList=zb vs) :
  ∃x,(results fn tmps).run P w=.ok x w/\VR ρ w (ft6 vs) x:=by
 obtain ⟨rvs,hr,hc⟩:=ft8 (P:=P) hs hf fn.results.toList vs h
 have hm:(fn.results.mapM (fg3 tmps)).run P w=.ok rvs.toArray w:=by
  obtain ⟨l,hl⟩:∃l,fn.results=⟨l⟩:=⟨fn.results.toList,rfl⟩;rw[hl] at hr ⊢;rw[List.mapM_toArray,Sem.run_map,hr];rfl
 rw[ft7];simp only[Sem.run_bind,hm,Result.andThen_ok]
 match vs,rvs,hc with
 | [],[],hc=>exact ⟨_,rfl,.tuple _ _ hc.1 hc.2⟩
 | [v],[x],hc=>exact ⟨x,rfl,by have:=hc.2 0 (by simp);simpa [ft6] using this⟩
 | v::v'::vs,x::x'::rvs,hc=>exact ⟨.tuple (x::x'::rvs).toArray,rfl,.tuple _ _ hc.1 hc.2⟩
 | [],x::rvs,hc=>exact absurd hc.1 (by simp)
 | [v],[],hc=>exact absurd hc.1 (by simp)
 | v::v'::vs,[],hc=>exact absurd hc.1 (by simp)
 | v::v'::vs,[x],hc=>exact absurd hc.1 (by simp)
 | [v],x::x'::rvs,hc=>exact absurd hc.1 (by simp)
def bl9:List IV->Nat->Frm
 | [],_=>[]
 | v::vs,i=>(i,v)::bl9 vs (i+1)
theorem gq7 (vs:List IV):∀(i t:Nat),(bl9 vs i).get t=if i<=t then vs.getD (t-i) .undef else .undef:=by
 induction vs with
 | nil=>intro i t;simp[bl9,Frm.get]
 | cons v vs ih=>
  intro i t;have:bl9 (v::vs) i=(bl9 vs (i+1)).set i v:=rfl;rw[this,Frm.ci8,ih];by_cases h:t=i
  ·subst h;simp
  ·rw[if_neg h];by_cases h1:i<=t
   ·have h2:i+1<=t:=by omega
    rw[if_pos h1,if_pos h2,show t-i=(t-(i+1))+1 from by omega];simp
   ·have h2:¬(i+1<=t):=by omega
    rw[if_neg h1,if_neg h2]
theorem kf7 {args:List IV}{rargs:Array Value}(hc:CR ρ w args rargs)(hl:args.length<=N):FR ρ w N (bl9 args 0) (rargs++zh (N-rargs.size) undef):=by
 refine ⟨by rw[hc.1] at hl;simp;omega,λt=>?_⟩;rw[gq7];simp only[Nat.zero_le,if_true,Nat.sub_zero];by_cases h:t<args.length
 ·have h':t<rargs.size:=by rw[<- hc.1];exact h
  have:=hc.2 t h
  have e:(rargs++zh (N-rargs.size) undef).getD t undef=rargs.getD t undef:=by
   simp[zd,zg,h']
  rw[e];exact this
 ·have:args.getD t .undef=.undef:=by simp[ze,List.getElem?_eq_none (Nat.le_of_not_lt h)]
  rw[this];exact .undef _
theorem ft9 (w:World)(r b:Nat)(o:Obj)(h:b≠r):(w.putObj r o).heap[b]? = w.heap[b]?:=by
 have h':¬r=b:=λe=>h e.symm
 show (w.heap.setIfInBounds r o)[b]? = _;rw[Array.getElem?_setIfInBounds];simp[h']
theorem ek4 {F:Fence}{n0 h0:Nat}{fn:Func}{tmps:Array Value}{Rw:Ending->World->Prop}{v:IV}{ρ0:Rho}{w0:World}{vs:List IV}
  (hfin:∀x w',Sim E ρ w' σ->VR ρ w' (ft6 vs) x->bg5 n0 ρ0 w0 ρ w'->Rw (.returned x) w') (hres:ib6 P σ fr fn.results.toList=zb vs) (hh:w0.heap.size<=h0) :
  ∀(ds:List Deferred) (w:World),Sim E ρ w σ->FR ρ w N fr tmps->DF h0 ρ w ds->bg5 n0 ρ0 w0 ρ w->LeavesInM F n P fn tmps Rw ds .returning w:=by
 intro ds
 induction ds with
 | nil=>
  intro w hs hf _ hx;obtain ⟨x,hx',hv⟩:=ea3 (P:=P) hs hf hres
  exact ⟨x,hx',hfin x w hs hv hx⟩
 | cons d ds ih=>
  intro w hs hf hd hx
  cases hd with
  | cons r _ hr hb hh1 hn hd'=>
   have hsz:(w.putObj r (.deferred zc)).heap.size=w.heap.size:=by show (w.heap.setIfInBounds r _).size=_;simp
   have hne:∀(rcs:Array Value) (el:TypeId) (fz:Nat×Nat),w.heap[r]?≠zb (Obj.cells rcs el fz):=λ_ _ _ h=>by rw[hr] at h;cases h
   have hnm:∀(mes:Array MapEntry) (c:Nat),w.heap[r]?≠zb (Obj.map mes c):=λ_ _ h=>by rw[hr] at h;cases h
   have hg:∀b,b≠r->(w.putObj r (.deferred zc)).heap[b]? = w.heap[b]?:=λb h=>ft9 w r b _ h
   refine ⟨(λh=>by cases h),.inl ⟨r,w.putObj r (.deferred zc),rfl,run_takeDeferred hr,?_⟩⟩;refine ih _ (hs.turn hsz hg hne hnm hb) ⟨hf.size,λt=>(hf.get t).turn hsz hg hne hnm⟩ ?_ ?_
   ·have:∀ds',DF h0 ρ w ds'->(∀d∈ds',d.target=.collected r->False)->DF h0 ρ (w.putObj r (.deferred zc)) ds':=by
     intro ds' hd
     induction hd with
     | nil hz=>intro _;exact .nil (by rw[hsz];exact hz)
     | cons r' ds'' hr' hb' hh' hn' _ ih'=>
      intro hno;have hrr:r'≠r:=λe=>hno { target:=.collected r',args:=#[] } (by simp) (by rw[e])
      exact .cons r' ds'' (by rw[hg r' hrr];exact hr') ⟨by rw[hsz];exact hb'.1,hb'.2⟩ hh' hn' (ih' (λd hd=>hno d (by simp[hd])))
    exact this ds hd' hn
   ·refine ⟨by rw[hsz];exact hx.size,λb hb'=>?_,λb rcs el fz hb'=>?_,hx.img,hx.at_,hx.dead,hx.no,hx.output,hx.os,hx.tape,λl L hl=>?_,hx.X⟩
    ·rw[hg b (by have:=hb'.1;omega)];exact hx.keep b hb'
    ·have hlt:=(zf.1 hb').1;rw[hg b (by omega)];exact hx.shape b rcs el fz hb'
    ·have hlt:=(zf.1 hl).1;rw[hg l (by omega)];exact hx.loops l L hl
def kv4 (P:Program)(rs:List ResultVar)(Qc:IV->Store->Prop):Exit->Frm->Store->Prop
 | .normal,fr,σ|.ret,fr,σ=>∃vs,ib6 P σ fr rs=zb vs/\Qc (ft6 vs) σ
 | _,_,_=>False
theorem jp7 {f:FuncId}{fn:Func}{c:Code}{args:List IV}{Qc:IV->Store->Prop}(hf:P.funcs[f]? = zb fn)(hb:fn.body=zb c)(hN:fn.ntmps=N)(hl:args.length<=N)
  (h:R P E N σ.next c (bl9 args 0) σ (kv4 P fn.results.toList Qc)):C P E f args σ Qc:=by
 intro ρ w rargs hs hc;refine callsIn_of_wp_marks hf hb trivial ?_;have hfr:=kf7 hc hl;rw[<- hN] at hfr;refine wpIn_mono (h (za _) zc w.heap.size ρ w { tmps:=rargs++zh (fn.ntmps-rargs.size) undef,defers:=[] } hs (by rw[hN] at hfr ⊢;exact hfr) (.nil (za _)) (λl e=>by cases e)) ?_;rintro e a' w' ⟨fr',σ',ρ',hn',q,hs',hf',hd',_,hx⟩
 have fin:(∃vs,ib6 P σ' fr' fn.results.toList=zb vs/\Qc (ft6 vs) σ')->LeavesInM Fence.wide 0 P fn a'.tmps (λe w'=>∃v r ρ' σ',e=.returned r/\Qc v σ'/\Sim E ρ' w' σ'/\VR ρ' w' v r/\bg5 σ.next ρ w ρ' w') a'.defers .returning w':=by
  rintro ⟨vs,hr,hq⟩;exact ek4 (v:=.undef) (n0:=σ.next) (ρ0:=ρ) (w0:=w) (h0:=w.heap.size) (λx w'' hs'' hv'' hx''=>⟨ft6 vs,x,ρ',σ',rfl,hq,hs'',hv'',hx''⟩) hr (za _) a'.defers w' hs' hf' hd' hx
 cases e with
 | normal=>exact fin q
 | ret=>exact fin q
 | _=>exact q.elim
end Go.Id
namespace Go.Id
open Go
variable {P:Program} {w w' w'':World} {ρ ρ' ρ'':Rho} {E:Nat->IV} {σ σ':Store} {N n n':Nat} {fr:Frm} {a:Act}
theorem cw6 {l₀:Nat}{r₀:Loop}(h:w.heap[l₀]? = zb (.loop r₀))(fn:FuncId)(tmps:Array Value)(ps:Array Tmp)(assign body:Code) :
  (Instr.enterLoop fn tmps ps assign body (zb l₀)).run P w =
   .ok (w.heap.size,[]) (w.alloc (.loop { state:=.ready,pending:=zc,fn,tmps,params:=ps,assign,body,defers:=r₀.defers })):=by
 unfold Instr.enterLoop;simp only[Sem.run_bind,run_getLoop h,run_newObj_alloc,Result.andThen,Sem.run_pure]
theorem bs6 (n:Nat)(o:Obj):Ext n ρ w ρ (w.alloc o) where
 size:=by show w.heap.size<=(w.heap.push o).size;simp
 keep:=λb hb=>az1 w o b hb.1
 shape:=λb rcs el fz hb=>⟨rcs,by rw[az1 w o b (zf.1 hb).1];exact hb,rfl⟩
 img:=λi B d hi=>.inl ⟨i,d,hi⟩
 at_:=λ_ _ _ h=>.inl h
 dead:=λ_ h=>h
 no:=λ_ _ h=>h
 output:=rfl
 os:=rfl
 tape:=⟨rfl,za _⟩
 loops:=λl L hl=>⟨L,by rw[az1 w o l (zf.1 hl).1];exact hl⟩
 X:=rfl
theorem fu1 (o:Obj)(hs:Sim E ρ w σ):Sim E ρ (w.alloc o) σ :=
 ⟨hs.inj,λi B d h=>by have:=hs.lt i B d h;show B<(w.heap.push o).size;rw[Array.size_push];omega,
  λi B d h=>let ⟨o',h1,h2⟩:=hs.obj i B d h;⟨o',h1,h2.mono (bs6 0 o) (az1 w o B (hs.lt i B d h))⟩,hs.dead,hs.fresh,hs.av3,λg=>(hs.env g).mono (bs6 0 o),hs.nx,λb h=>by have:=hs.xlt b h;show b<(w.heap.push o).size;rw[Array.size_push];omega⟩
theorem cd6 {n l d id:Nat}{L L':Loop}(hid:ρ id=.at l d)(hb:w.heap[l]? = zb (.loop L)):Ext n ρ w ρ (w.putObj l (.loop L')) where
 size:=by rw[World.putObj_size];exact za _
 keep:=λb hfb=>World.putObj_heap_other (λh=>by subst h;exact hfb.2 id d hid)
 shape:=λb rcs el fz hb'=>by
  have h:b≠l:=λh=>by subst h;rw[hb] at hb';cases hb'
  exact ⟨rcs,by rw[World.putObj_heap_other h];exact hb',rfl⟩
 img:=λi B d h=>.inl ⟨i,d,h⟩
 at_:=λ_ _ _ h=>.inl h
 dead:=λ_ h=>h
 no:=λ_ _ h=>h
 output:=rfl
 os:=rfl
 tape:=⟨rfl,za _⟩
 loops:=λk K hk=>by
  by_cases h:k=l
  ·subst h;exact ⟨L',World.putObj_heap_same (zf.1 hb).1⟩
  ·exact ⟨K,by rw[World.putObj_heap_other h];exact hk⟩
 X:=rfl
theorem ea4 {id l d:Nat}{L L':Loop}{o:aj2}(hs:Sim E ρ w σ)(hid:ρ id=.at l d)(hb:w.heap[l]? = zb (.loop L))(ho:OR ρ (w.putObj l (.loop L')) l d o):Sim E ρ (w.putObj l (.loop L')) (σ.put id o) where
 inj:=hs.inj
 lt:=λi B' d' h=>by rw[World.putObj_size];exact hs.lt i B' d' h
 obj:=λi B' d' hi=>by
  simp only[Store.put];by_cases h:i=id
  ·subst h;rw[hid] at hi;cases hi;exact ⟨o,by simp,ho⟩
  ·obtain ⟨o',h1,h2⟩:=hs.obj i B' d' hi;have hne:B'≠l:=λe=>h (hs.inj i id l d' d (by rw[hi,e]) hid)
   exact ⟨o',by simp[h,h1],h2.mono (cd6 (n:=0) hid hb) (World.putObj_heap_other hne)⟩
 dead:=λi hi=>by
  have:i≠id:=λe=>by subst e;rw[hid] at hi;cases hi
  simp[Store.put,this,hs.dead i hi]
 fresh:=λi hi=>hs.fresh i hi
 av3:=λi hi=>by
  have:i≠id:=λe=>by subst e;rw[hid] at hi;cases hi
  simp[Store.put,this,hs.av3 i hi]
 env:=λg=>(hs.env g).mono (cd6 (n:=0) hid hb)
 nx:=hs.nx
 xlt:=λb h=>by rw[World.putObj_size];exact hs.xlt b h
def dj1 (fr:Frm):List Nat->List IV->Frm
 | p::ps,v::vs=>dj1 (fr.set p v) ps vs
 | _,_=>fr
theorem ib7:∀(ps:List Nat) (args:List IV) (rargs:List Value) (fr:Frm) (tmps:Array Value),(∀p∈ps,p<N)->args.length=ps.length->rargs.length=ps.length ->
  (∀i,i<args.length->VR ρ w (args.getD i .undef) (rargs.getD i undef))->FR ρ w N fr tmps->FR ρ w N (dj1 fr ps args) ((ps.zip rargs).foldl (λtmps (t,a)=>tmps.setIfInBounds t a) tmps):=by
 intro ps
 induction ps with
 | nil=>intro args rargs fr tmps _ h1 h2 _ hf;exact hf
 | cons p ps ih=>
  intro args rargs fr tmps hp h1 h2 hv hf
  match args,rargs,h1,h2 with
  | v::vs,r::rs,h1,h2=>
   refine ih vs rs _ _ (λq hq=>hp q (by simp[hq])) (by simpa using h1) (by simpa using h2) (λi hi=>?_) (hf.set (hp p (by simp)) ?_)
   ·have:=hv (i+1) (by simpa using hi)
    simpa [ze] using this
   ·have:=hv 0 (by simp)
    simpa [ze] using this
theorem ek5 (l:Nat):Fence.wide.inRound l=fw (zb l):=rfl
def jp8 (id:Nat)(L:LoopState->Option Code->aj2)(K:IV->Store->Prop):Exit->Frm->Store->Prop
 | .normal,_,σ=>σ.obj id=zb (L .busy zc)/\K (.bool true) (σ.put id (L .ready zc))
 | .ret,_,σ=>σ.obj id=zb (L .busy zc)/\K (.bool false) (σ.put id (L .done (zb .ret)))
 | .exit i,_,σ=>σ.obj id=zb (L .busy zc)/\K (.bool false) (σ.put id (L .done (zb (.exit i))))
 | _,_,_=>False
theorem jp9 {id:Nat}{ps:List Nat}{asg body:Code}{args:List IV}{K:IV->Store->Prop}(hps:∀p∈ps,p<N)(hl:args.length=ps.length)(ho:σ.obj id=zb (.loop N fr ps.toArray asg body .ready zc))
  (h:R P E N σ.next asg (dj1 fr ps args) σ λe f s=>e=.normal/\s.obj id=zb (.loop N fr ps.toArray asg body .ready zc) /\
   R P E N σ.next body f (s.put id (.loop N fr ps.toArray asg body .busy zc)) (jp8 id (λs p=>.loop N fr ps.toArray asg body s p) K)):CYd P E id args σ K:=by
 intro ρ w rargs B d hs hc hid;obtain ⟨o,h1,h2⟩:=hs.obj id B d hid;rw[ho] at h1;cases h1;obtain ⟨hd,L,g1,g2,g3,g4,g5,g6,g7,g8⟩:=h2;subst hd;have hsz:rargs.size=L.params.size:=by rw[g2,<- hc.1];simpa using hl
 have hlt:id<σ.next:=by
  rcases Nat.lt_or_ge id σ.next with h|h
  ·exact h
  ·have:=hs.fresh id h;rw[hid] at this;cases this
 refine ⟨L.fn,_,L.assign,L.body,run_yield g1 hsz,roundIn_of_wpIn trivial ?_⟩;rw[g3,g4,ek5]
 have hfr:FR ρ w N (dj1 fr ps args) (zi (λtmps (x:Tmp×Value)=>tmps.setIfInBounds x.1 x.2) L.tmps (L.params.zip rargs)):=by
  have:=ib7 (ρ:=ρ) (w:=w) ps args rargs.toList fr L.tmps hps hl (by rw[Array.length_toList,<- hc.1];exact hl) (λi hi=>by have:=hc.2 i hi;simpa [zd,ze] using this) ⟨g7,g8⟩
  have e:(zi (λtmps (x:Tmp×Value)=>tmps.setIfInBounds x.1 x.2) L.tmps (L.params.zip rargs))=List.foldl (λtmps (x:Tmp×Value)=>tmps.setIfInBounds x.1 x.2) L.tmps (ps.zip rargs.toList):=by
   rw[<- Array.foldl_toList,Array.toList_zip,g2]
  rw[e];exact this
 refine wpIn_mono (h (za _) (zb B) w.heap.size ρ w { tmps:=zi (λtmps (x:Tmp×Value)=>tmps.setIfInBounds x.1 x.2) L.tmps (L.params.zip rargs),defers:=[] } hs hfr (.nil (za _)) (λl e=>by cases e;exact ⟨_,g1⟩)) ?_;rintro e a1 w1 ⟨f1,σ1,ρ1,hn1,⟨rfl,hob1,hbody⟩,hs1,hf1,hd1,hr1,hx1⟩
 have live:∀ {ρ':Rho} {w':World} {σ':Store} {st:LoopState} {pd:Option Code},bg5 σ.next ρ w ρ' w'->Sim E ρ' w' σ'->σ'.obj id=zb (.loop N fr ps.toArray asg body st pd)->ρ' id=.at B 0:=λhx hs' hob=>by
  rcases hx.at_ id B 0 hlt hid with h|h
  ·exact h
  ·have:=hs'.dead id h;rw[hob] at this;cases this
 have hid1:=live hx1 hs1 hob1;obtain ⟨o1,k1,k2⟩:=hs1.obj id B 0 hid1;rw[hob1] at k1;cases k1;obtain ⟨hd0,L1,e1,e2,e3,e4,e5,e6,e7,e8⟩:=k2;have hB1:=hs1.lt id B 0 hid1;refine ⟨_,run_beginRound e1 e6,?_⟩;have hx2:∀m,Ext m ρ1 w1 ρ1 (w1.putObj B (.loop { L1 with state:=.busy })):=λm=>cd6 hid1 e1
 have hs2:Sim E ρ1 (w1.putObj B (.loop { L1 with state:=.busy })) (σ1.put id (.loop N fr ps.toArray asg body .busy zc)):=
  ea4 hs1 hid1 e1 ⟨rfl,{ L1 with state:=.busy },World.putObj_heap_same hB1,e2,e3,e4,e5,rfl,e7,λt=>(e8 t).mono (hx2 0)⟩
 have hxw:=(hx2 σ.next).weak (za σ.next);refine wpIn_mono (hbody hn1 (zb B) w.heap.size ρ1 _ a1 hs2 (hf1.mono (hx2 0)) (hd1.mono hxw) (hr1.mono hxw)) ?_;rintro e a' w' ⟨fr',σ',ρ',hn',q,hs',hf',hd',hr',hx⟩
 have fin:∀(jump:Option Code) (st:LoopState),st=(if jump.isNone then .ready else .done)->σ'.obj id=zb (.loop N fr ps.toArray asg body .busy zc)->K (.bool jump.isNone) (σ'.put id (.loop N fr ps.toArray asg body st jump)) ->
   ∃v w₂,(Instr.endRound B jump).run P w'=.ok v w₂/\∃v' r ρ'' σ'',Ending.returned v=.returned r/\K v' σ''/\Sim E ρ'' w₂ σ''/\VR ρ'' w₂ v' r/\bg5 σ.next ρ w ρ'' w₂:=by
  intro jump st hst hob hK;have hxT:bg5 σ.next ρ w ρ' w':=(hx1.trans hxw).trans hx;have hid':=live hxT hs' hob;obtain ⟨o',k1,k2⟩:=hs'.obj id B 0 hid';rw[hob] at k1;cases k1;obtain ⟨hd2,L',f1,f2,f3,f4,f5,f6,f7,f8⟩:=k2;have hB':=hs'.lt id B 0 hid';have hx3:∀m,Ext m ρ' w' ρ' (w'.putObj B (.loop { L' with state:=if jump.isNone then .ready else .done,pending:=jump })):=λm=>cd6 hid' f1
  refine ⟨_,_,run_endRound jump f1,_,_,ρ',_,rfl,hK,ea4 hs' hid' f1 ⟨rfl,_,World.putObj_heap_same hB',f2,f3,f4,rfl,hst.symm,f7,λt=>(f8 t).mono (hx3 0)⟩,.bool _,?_⟩;exact hxT.trans ((hx3 σ.next).weak (za _))
 cases e with
 | normal=>exact fin zc .ready rfl q.1 q.2
 | ret=>exact fin (zb .ret) .done rfl q.1 q.2
 | exit i=>exact fin (zb (.exit i)) .done rfl q.1 q.2
 | goto t=>exact q.elim
 | panic c=>exact q.elim
 | outgrown=>exact q.elim
def kf8 (Q:Exit->Frm->Store->Prop)(fr:Frm)(σ:Store):Option Code->Prop
 | none=>Q .normal fr σ
 | some .ret=>Q .ret fr σ
 | some (.exit i)=>Q (.exit i) fr σ
 | _=>False
def CVf (P:Program)(E:Nat->IV)(fv:IV)(args:List IV)(σ:Store)(Q:IV->Store->Prop):Prop :=
 match fv with
 | .func (.func f) first cap=>okF P f=true/\C P E f (first++args++cap) σ Q
 | _=>False
theorem CVf.mono {fv:IV}{args:List IV}{Q Q':IV->Store->Prop}(h:CVf P E fv args σ Q)(hq:∀v s,Q v s->Q' v s):CVf P E fv args σ Q':=by
 unfold CVf at h ⊢;split at h
 ·exact ⟨h.1,h.2.mono hq⟩
 ·exact h.elim
theorem ev4 {n0:Nat}{g:Operand}{gx:IX}{ps:List Nat}{asg body:Code}{Q:Exit->Frm->Store->Prop}(hg:ai9 g=zb gx)
  (h:CVf P E (gx.ev E fr) [.yield σ.next] ⟨σ.next+1,(σ.put σ.next (.loop N fr ps.toArray asg body .ready zc)).obj⟩
   λ_ σ2=>σ.next<=σ2.next/\∃st pend,st≠.busy/\σ2.obj σ.next=zb (.loop N fr ps.toArray asg body st pend)/\kf8 Q fr (σ2.kill σ.next) pend) :
  R P E N n0 (.rangeFunc g ps.toArray asg body) fr σ Q:=by
 intro hn ro h0 ρ w a hs hf hd hr;refine wpIn_rangeFunc λfn hfn=>?_
 have hent:∃(mark:List Deferred) (wa:World) (df:Nat),(Instr.enterLoop fn a.tmps ps.toArray asg body ro).run P w=.ok (wa.heap.size,mark) (wa.alloc (.loop { state:=.ready,pending:=zc,fn,tmps:=a.tmps,params:=ps.toArray,assign:=asg,body,defers:=df })) /\
   Sim E ρ wa σ/\Ext n0 ρ w ρ wa/\DF h0 ρ wa (mark++a.defers)/\RO ro wa:=by
  cases ro with
  | none=>
   refine ⟨[{ target:=.collected w.heap.size,args:=#[] }],w.alloc (.deferred (zb [])),w.heap.size,?_,fu1 _ hs,bs6 _ _,?_,λl e=>by cases e⟩
   ·have:=run_enterLoop_outer (P:=P) (w:=w) fn a.tmps ps.toArray asg body;rw[this];simp
   ·have hd1:=hd.mono ((bs6 (ρ:=ρ) (w:=w) n0 (.deferred (zb []))).weak (za _));refine .cons w.heap.size a.defers (World.alloc_heap_new _ _) ⟨by show w.heap.size<(w.heap.push _).size;simp,λi d h=>?_⟩ hd.size (λd hd' ht=>?_) hd1
    ·have:=hs.lt i _ d h;omega
    ·have:∀ds,DF h0 ρ w ds->∀d∈ds,d.target=.collected w.heap.size->False:=by
      intro ds hds
      induction hds with
      | nil=>intro d hd;cases hd
      | cons r ds hr hb _ _ _ ih=>
       intro d hd ht;rcases List.mem_cons.1 hd with rfl|hd
       ·cases ht;exact absurd hb.1 (Nat.lt_irrefl _)
       ·exact ih d hd ht
     exact this _ hd d hd' ht
  | some l0=>
   obtain ⟨L0,hL0⟩:=hr l0 rfl;exact ⟨[],w,L0.defers,cw6 hL0 fn a.tmps ps.toArray asg body,hs,Ext.refl _ _ _,hd,hr⟩
 obtain ⟨mark,wa,df,he,hsa,hxa,hda,hra⟩:=hent;generalize hL:({ state:=.ready,pending:=zc,fn,tmps:=a.tmps,params:=ps.toArray,assign:=asg,body,defers:=df }:Loop)=L at he;have hno:ρ σ.next=.no:=hsa.fresh _ (za _);have hxn:∀m,m<=σ.next->Ext m ρ wa (ρ.put σ.next (.at wa.heap.size 0)) (wa.alloc (.loop L)):=λm hm=>al6 hno hm
 have hs1:Sim E (ρ.put σ.next (.at wa.heap.size 0)) (wa.alloc (.loop L)) ⟨σ.next+1,(σ.put σ.next (.loop N fr ps.toArray asg body .ready zc)).obj⟩:=by
  have hs0:Sim E ρ wa ⟨σ.next+1,σ.obj⟩:=⟨hsa.inj,hsa.lt,hsa.obj,hsa.dead,λi hi=>hsa.fresh i (Nat.le_of_succ_le hi),hsa.av3,hsa.env,hsa.nx,hsa.xlt⟩;refine bz1 hs0 hno (Nat.lt_succ_self _) ⟨rfl,L,World.alloc_heap_new _ _,?_⟩;subst hL;exact ⟨rfl,rfl,rfl,rfl,rfl,hf.size,λt=>((hf.get t).mono hxa).mono (hxn 0 (Nat.zero_le _))⟩
 have hyv:VR (ρ.put σ.next (.at wa.heap.size 0)) (wa.alloc (.loop L)) (.yield σ.next) (.func (.yield wa.heap.size) #[] #[]):=.yield _ wa.heap.size 0 (by simp[Rho.put]);have hx1:Ext n0 ρ w (ρ.put σ.next (.at wa.heap.size 0)) (wa.alloc (.loop L)):=hxa.trans (hxn n0 hn) (za _);have hgv:=(aa9 (a:=a) hg hs hf).mono hx1;generalize hfv:gx.ev E fr=fv at h hgv;generalize hrv:a.eval g=rv at hgv
 cases hgv with
 | func fnv first cap rf rc hy l1 l2 v1 v2=>
  cases fnv with
  | func f=>
   obtain ⟨hok,hc⟩:=h
   have hres:(resolve a.eval (rangeCall g wa.heap.size) 0).run P (wa.alloc (.loop L))=.ok { target:=.fn (.func f) rc,args:=rf++#[Value.func (.yield wa.heap.size) #[] #[]] } (wa.alloc (.loop L)):=by
    simp only[resolve,hrv,Deferred.ofValue,Sem.run_pure];simp[Act.eval]
   have hinv:(invoke (.fn (.func f) rc) (rf++#[Value.func (.yield wa.heap.size) #[] #[]])).run P (wa.alloc (.loop L))=.ok (.enter f (rf++#[Value.func (.yield wa.heap.size) #[] #[]]++rc)) (wa.alloc (.loop L)):=by
    simp only[invoke];exact ea1 hok
   refine ⟨wa.heap.size,mark,_,_,_,f,_,_,he,hres,λ_ _=>trivial,hinv,(λh=>by cases h),?_⟩
   have hca:CR (ρ.put σ.next (.at wa.heap.size 0)) (wa.alloc (.loop L)) (first++[.yield σ.next]++cap) (rf++#[Value.func (.yield wa.heap.size) #[] #[]]++rc):=
    (CR.append ⟨l1,v1⟩ ⟨rfl,λi hi=>by
     have:i=0:=by simpa using hi
     subst this;exact hyv⟩).append ⟨l2,v2⟩
   have hcall:CallsIn (fw ro) 0 P f (rf++#[Value.func (.yield wa.heap.size) #[] #[]]++rc) (wa.alloc (.loop L)) _:=hc _ _ _ hs1 hca;refine CallsIn.mono (F:=fw ro) (n:=0) hcall ?_;rintro e w3 ⟨v,r,ρ',σ2,rfl,⟨hnx,st,pend,hst,hob,hq⟩,hs',hv',hx⟩
   have hid':ρ' σ.next=.at wa.heap.size 0:=by
    rcases hx.at_ σ.next wa.heap.size 0 (Nat.lt_succ_self _) (by simp[Rho.put]) with h|h
    ·exact h
    ·have:=hs'.dead _ h;rw[hob] at this;cases this
   obtain ⟨o',k1,k2⟩:=hs'.obj _ _ _ hid';rw[hob] at k1;cases k1;obtain ⟨hd2,L',f1,f2,f3,f4,f5,f6,f7,f8⟩:=k2;have hbusy:L'.state≠.busy:=by rw[f6];exact hst
   have hend:=run_endLoop (P:=P) f1 hbusy;refine ⟨pend,_,(by rw[<- f5];exact hend),?_⟩;have hxl:∀m,Ext m ρ' w3 ρ' (w3.putObj wa.heap.size (.loop { L' with state:=.exhausted })):=λm=>cd6 hid' f1
   have hsl:=ea4 (L':={ L' with state:=.exhausted }) (o:=.loop N fr ps.toArray asg body .exhausted pend) hs' hid' f1 ⟨rfl,_,World.putObj_heap_same (hs'.lt _ _ _ hid'),f2,f3,f4,f5,rfl,f7,λt=>(f8 t).mono (hxl 0)⟩;have hsk:=dx7 hsl hid'
   have hkk:((σ2.put σ.next (.loop N fr ps.toArray asg body .exhausted pend)).kill σ.next)=σ2.kill σ.next:=by
    unfold Store.put Store.kill;simp only;congr 1;funext i;by_cases h:i=σ.next<;>simp[h]
   rw[hkk] at hsk;have hxk:∀m,Ext m ρ' (w3.putObj wa.heap.size (.loop { L' with state:=.exhausted })) (ρ'.put σ.next .dead) (w3.putObj wa.heap.size (.loop { L' with state:=.exhausted })):=λm=>cc4 hid'
   have hxE:bg5 n0 ρ w (ρ'.put σ.next .dead) (w3.putObj wa.heap.size (.loop { L' with state:=.exhausted })):=
    ((hx1.weak (za _)).trans (hx.le (Nat.le_trans hn (Nat.le_succ _)))).trans (((hxl n0).weak (za _)).trans ((hxk n0).weak (za _)))
   have hxF:Ext n0 (ρ.put σ.next (.at wa.heap.size 0)) (wa.alloc (.loop L)) ρ' w3:=(hx.ext hs1.fresh).le (Nat.le_trans hn (Nat.le_succ _));have hxA:Ext n0 ρ w (ρ'.put σ.next .dead) (w3.putObj wa.heap.size (.loop { L' with state:=.exhausted })):=(hx1.trans hxF (za _)).trans ((hxl n0).trans (hxk n0) (za _)) (za _);have hxB:Ext n0 ρ wa (ρ'.put σ.next .dead) (w3.putObj wa.heap.size (.loop { L' with state:=.exhausted })):=((hxn n0 hn).trans hxF (za _)).trans ((hxl n0).trans (hxk n0) (za _)) (za _);have hfE:FR (ρ'.put σ.next .dead) (w3.putObj wa.heap.size (.loop { L' with state:=.exhausted })) N fr a.tmps:=hf.mono hxA;have hdE:=hda.mono (hxB.weak (za _));have hrE:=hra.mono (hxB.weak (za _));have hnE:n0<=(σ2.kill σ.next).next:=by show n0<=σ2.next;omega
   cases pend with
   | none=>exact ⟨fr,_,_,hnE,hq,hsk,hfE,hdE,hrE,hxE⟩
   | some c=>
    cases c with
    | ret=>exact wpIn_ret ⟨fr,_,_,hnE,hq,hsk,hfE,hdE,hrE,hxE⟩
    | exit i=>exact wpIn_exit ⟨fr,_,_,hnE,hq,hsk,hfE,hdE,hrE,hxE⟩
    | _=>exact hq.elim
  | _=>exact h.elim
 | _=>exact h.elim
end Go.Id
