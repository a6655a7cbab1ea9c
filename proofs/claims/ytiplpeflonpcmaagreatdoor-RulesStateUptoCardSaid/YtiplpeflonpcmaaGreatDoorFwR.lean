/- Regions: the operations compiled,their ideal semantics,and the proof for a region whose order is the text's. Conditions: none; over any program. -/
import Derived.Test.YtiplpeflonpcmaaGreatDoorFwE
import Derived.RangeFuncRecord
import Derived.RangeFuncIn
open Nat renaming le_refl→za
open Option renaming some→zb,none→zc
open Array renaming getD_eq_getD_getElem?→zd,getElem?_eq_some_iff→zf,getElem?_append→zg,replicate→zh,foldl→zi
open List renaming getD_eq_getElem?_getD→ze,range'→zj,getElem?_append→zk
open Bool renaming false_eq_true→zl
set_option linter.all false
namespace Go.Id
open Go
inductive IK where
 | q (q:IQ)
 | alloc (z:List IV)
 | box (x:IX)
 | bsl (esz n:Nat) (z:List IV) (parts:List (Nat×Nat×IX))
 | store (sz:Nat) (x y:IX)
 | app (esz:Nat) (s x:IX)
 | cj9
 | bn9 (x:IX)
 | dc9 (x:IX)
 | ch7 (tag:Nat) (x k v:IX)
 | call (f:Nat) (args:List IX)
 | bb6 (f:Nat) (args:List IX)
 | cw6 (x:IX) (args:List IX)
 | an5 (esz n:Nat) (z:List IV) (parts:List (Nat×Nat×IX))
 | ck3 (x:IX)
 | bf3 (x:IX)
 | ck4 (x:IX)
 | fs1 (x:IX)
 | dd2 (esz:Nat) (z:List IV) (x:IX)
 | clr (esz:Nat) (z:List IV) (x:IX)
 | st (k:SK) (xs:List IX)
 deriving Inhabited
structure ae4 where
 dst:Option Nat
 guard:Option (Nat×Bool)
 op:IK
 deriving Inhabited
def IK.lays:IK->Bool
 | .alloc _|.box _|.bsl _ _ _ _|.app _ _ _|.cj9|.bn9 _|.bf3 _|.dd2 _ _ _|.st _ _=>true
 | _=>false
def okF (P : Program) (f : FuncId) : Bool := (P.funcs[f]?).any fun fn => fn.name != "runtime.NumGoroutine" && fn.body.isSome
def CYd (P:Program)(E:Nat->IV)(id:Nat)(args:List IV)(σ:Store)(Q:IV->Store->Prop):Prop :=
 ∀ (ρ:Rho) (w:World) (rargs:Array Value) (B d:Nat),Sim E ρ w σ->CR ρ w args rargs->ρ id=.at B d ->
  ∃ (fn:FuncId) (tmps:Array Value) (assign body:Code),(Instr.yield B rargs).run P w=.ok (.round B fn tmps assign body) w/\RoundIn Fence.wide 0 P B fn tmps assign body w fun e w'=>
   ∃ v r ρ' σ',e=.returned r/\Q v σ'/\Sim E ρ' w' σ'/\VR ρ' w' v r/\bg7 σ.next ρ w ρ' w'
def CV (P:Program)(E:Nat->IV)(fv:IV)(args:List IV)(σ:Store)(Q:IV->Store->Prop):Prop :=
 match fv with
 | .func (.func f) first cap=>okF P f=true/\C P E f (first++args++cap) σ Q
 | .yield id=>(σ.obj id).isSome=true/\CYd P E id args σ Q
 | _=>False
def PC (P:Program)(E:Nat->IV)(f:FuncId)(args:List IV)(v:IV):Prop :=
 ∀ σ,C P E f args σ fun v' σ'=>v'=v/\σ'=σ
def opR (P:Program)(E:Nat->IV)(op:IK)(id:Nat)(fr:Frm)(σ:Store)(K:IV->Store->Prop):Prop :=
 match op with
 | .q q=>∃ v,evq E fr σ q=zb v/\K v σ
 | .alloc z=>K (.ptr id 0) (σ.put id (.cells z))
 | .box x=>(x.ev E fr).cs.all IV.leaf=true/\K (.ptr id 0) (σ.put id (.cells (x.ev E fr).cs))
 | .bsl esz n z parts=>∃ out,au4 (rep z n) (parts.map fun p=>(p.1,p.2.1,p.2.2.ev E fr))=zb out/\K (.slice id 0 n esz) (σ.put id (.row out))
 | .store sz x y=>∃ σ',aq5 σ sz (x.ev E fr) (y.ev E fr)=zb σ'/\K .undef σ'
 | .bn9 x=>∃ s,x.ev E fr=.str s/\K (.ptr id 0) (σ.put id (.bg5 s 0))
 | .dc9 x=>∃ r,bp4 σ (x.ev E fr)=zb r/\K r.1 r.2
 | .cj9=>K (.map id) (σ.put id (.map []))
 | .ch7 tag x k v=>∃ σ',ao4 σ tag (x.ev E fr) (k.ev E fr) (v.ev E fr)=zb σ'/\K .undef σ'
 | .app esz s x=>∃ r,be9 σ id esz (s.ev E fr) (x.ev E fr)=zb r/\K r.1 r.2
 | .call f args=>∃ Q,C P E f (args.map (·.ev E fr)) σ Q/\∀ v σ',Q v σ'->σ.next<=σ'.next/\K v σ'
 | .bb6 f args=>∃ v,PC P E f (args.map (·.ev E fr)) v/\K v σ
 | .cw6 x args=>∃ Q,CV P E (x.ev E fr) (args.map (·.ev E fr)) σ Q/\∀ v σ',Q v σ'->σ.next<=σ'.next/\K v σ'
 | .an5 esz n z parts=>∃ out,au4 (rep z n) (parts.map fun p=>(p.1,p.2.1,p.2.2.ev E fr))=zb out/\K (.aa4 (chunk esz n out)) σ
 | .ck3 x=>(x.ev E fr).cs.all IV.leaf=true/\K (.ab9 (x.ev E fr).cs) σ
 | .bf3 x=>∃ es,x.ev E fr=.ak9 es/\K (.ptr id 0) (σ.put id (.as3 es zc))
 | .ck4 x=>∃ i left,bp5 σ (x.ev E fr)=zb (i,left)/\(left=[]->K (.tuple [.bool false]) σ) /\
   ∀ j,j<left.length->K (.tuple [.bool true,(left.getD j (.undef,.undef)).1,(left.getD j (.undef,.undef)).2]) (σ.put i (.as3 (left.eraseIdx j) (zb (left.getD j (.undef,.undef)))))
 | .fs1 x=>∃ v,cw3 σ (x.ev E fr)=zb v/\K v σ
 | .dd2 esz z x=>∃ n,db5 (x.ev E fr)=zb n/\K (.slice id 0 n esz) (σ.put id (.row (rep z n)))
 | .clr esz z x=>∃ σ',gk5 σ esz z (x.ev E fr)=zb σ'/\σ'.next=σ.next/\K .undef σ'
 | .st k xs=>∃ r,stI k id σ (xs.map (·.ev E fr))=zb r/\K r.1 r.2
def Frm.ao5 (fr:Frm)(d:Option Nat)(v:IV):Frm :=
 match d with
 | some t=>fr.set t v
 | none=>fr
abbrev skV:IV:=.tuple []
def hv9 (v:IV)(want:Bool):Option Bool :=
 match v with
 | .bool b=>zb (decide (b=want))
 | .tuple []=>zb false
 | _=>zc
def bi3 (o:ae4)(fr:Frm):Option Bool :=
 match o.guard with
 | none=>zb true
 | some (s,want)=>hv9 (fr.get s) want
def cd5 (P:Program)(E:Nat->IV):List ae4->Nat->Frm->Store->(Frm->Store->Prop)->Prop
 | [],_,fr,σ,K=>K fr σ
 | o::rest,id,fr,σ,K=>∃ act,bi3 o fr=zb act /\
  (if act=true then opR P E o.op id fr σ fun v σ'=>cd5 P E rest (if o.op.lays then id+1 else id) (fr.ao5 o.dst v) σ' K
  else cd5 P E rest (if o.op.lays then id+1 else id) (fr.ao5 o.dst skV) σ K)
def cd6 (ops:List ae4):Nat:=(ops.filter fun o=>o.op.lays).length
def loX:Option Operand->Option IX
 | none=>zb (.c (.int .i64 0))
 | some o=>aj3 o
def gn8 (P:Program) (pf:List Nat) (fz:Bool) (op:Op):Option IK :=
 match op with
 | .alloc t=>(bk9 P t).map .alloc
 | .box _ x=>(aj3 x).map (if fz=true then .ck3 else .box)
 | .buildSlice t n parts=>match P.underlying t with
  | some (.slice e)=>match szT P e,bk9 P e with
   | some esz,zb z=>match ay8 P (fun i=>zb (i*esz,esz)) parts.toList with
    | some ps=>if 0<esz/\z.length=esz/\n*esz<=2^24 then zb (if fz=true then (if n=0/\ps.isEmpty=true/\pf.contains 4000000=true then .q (.mov (.c .ac6)) else .an5 esz n z ps) else .bsl esz n z ps) else zc
    | none=>zc
   | _,_=>zc
  | _=>zc
 | .store t x y=>match szT P t,aj3 x,aj3 y with
  | some sz,zb a,zb b=>zb (.store sz a b)
  | _,_,_=>zc
 | .range t x=>match P.underlying t with
  | some .string=>(aj3 x).map .bn9
  | some (.map _ _)=>(aj3 x).map .bf3
  | _=>zc
 | .next x true=>(aj3 x).map .dc9
 | .next x false=>(aj3 x).map .ck4
 | .entry x=>(aj3 x).map .fs1
 | .makeMap _ zc=>zb .cj9
 | .mapUpdate t x k v=>match P.underlying t with
  | some (.map kt _)=>match hk7 P kt,aj3 x,aj3 k,aj3 v with
   | some tag,zb a,zb b,zb c=>zb (.ch7 tag a b c)
   | _,_,_,_=>zc
  | _=>zc
 | .makeSlice t x y=>match P.underlying t with
  | some (.slice e)=>match P.info? e,bk9 P e,aj3 x with
   | some i,zb z,zb a=>if z.length=i.size/\0<i.size/\i.bytes<=4096/\db6 x y=true then zb (match fz,a with
    | true,.c (.int .i64 m)=>if 0<=m/\m<=2147483647 then .an5 i.size m.toNat z [] else .dd2 i.size z a
    | _,_=>.dd2 i.size z a) else zc
   | _,_,_=>zc
  | _=>zc
 | .insert t x k v=>match P.underlying t with
  | some (.map kt _)=>match hk7 P kt,aj3 x,aj3 k,aj3 v with
   | some tag,zb a,zb b,zb c=>zb (.ch7 tag a b c)
   | _,_,_,_=>zc
  | _=>zc
 | .call { callee:=.builtin .clear,args,argTypes }=>match args.toList,argTypes.toList with
  | [x],[t]=>match P.underlying t with
   | some (.slice e)=>match szT P e,bk9 P e,aj3 x with
    | some sz,zb z,zb a=>if z.length=sz/\0<sz then zb (.clr sz z a) else zc
    | _,_,_=>zc
   | _=>zc
  | _,_=>zc
 | .call { callee:=.builtin .append,args,argTypes }=>match args.toList,argTypes.toList with
  | [s,x],[t,xt]=>match P.underlying t,P.underlying xt with
   | some (.slice e),zb (.slice _)=>match P.info? e,bk9 P e,aj3 s,aj3 x with
    | some i,zb z,zb a,zb b=>if i.bytes<=4096/\z.length=i.size then zb (if fz=true then .st (.apr i.size) [a,b] else .app i.size a b) else zc
    | _,_,_,_=>zc
   | _,_=>zc
  | _,_=>zc
 | .call { callee:=.value (.func f),args,argTypes:=_ }=>match ej4 args.toList with
  | some xs=>if okF P f then (if pf.contains f then zb (.bb6 f xs) else zb (.call f xs)) else (hn7 P op).map .q
  | none=>zc
 | .call { callee:=.value (.tmp t),args,argTypes:=_ }=>match ej4 args.toList with
  | some xs=>zb (.cw6 (.t t) xs)
  | none=>zc
 | .call { callee:=.builtin .delete,args,argTypes }=>match args.toList,argTypes[0]? with
  | [x,k],zb t=>match P.underlying t with
   | some (.map kt _)=>match hk7 P kt,aj3 x,aj3 k with
    | some tag,zb a,zb b=>zb (.st (.kq2 tag) [a,b])
    | _,_,_=>zc
   | _=>zc
  | _,_=>zc
 | .call { callee:=.builtin .copy,args,argTypes }=>match args.toList,argTypes[0]? with
  | [x,y],zb t=>match P.underlying t with
   | some (.slice e)=>match szT P e,aj3 x,aj3 y with
    | some n,zb a,zb b=>zb (.st (.cpy n) [a,b])
    | _,_,_=>zc
   | _=>zc
  | _,_=>zc
 | .slice t x zc (zb (.const (.int _ 0))) (zb (.const (.int _ 0)))=>(hn7 P op).map .q
 | .slice t x lo (zb h) (zb m)=>match P.underlying t with
  | some (.slice e)=>match szT P e,aj3 x,loX lo,aj3 h,aj3 m with
   | some n,zb a,zb l,zb b,zb c=>zb (if fz=false then .q (.clp n a l b c) else .st (.sl3 n fz) [a,l,b,c])
   | _,_,_,_,_=>zc
  | _=>zc
 | .slice t x zc (zb h) zc=>match fz,P.underlying t with
  | true,zb (.slice e)=>match szT P e,aj3 x,aj3 h with
   | some n,zb a,zb b=>zb (.st (.rlp n) [a,b])
   | _,_,_=>zc
  | _,_=>(hn7 P op).map .q
 | .load t x=>match hn7 P (.load t x) with
  | some (.load agg a)=>zb (.q (if fz=true then .ldt agg a else .load agg a))
  | _=>zc
 | op=>(hn7 P op).map .q
def iy6:Op->Bool
 | .defer _=>true
 | _=>false
def jo2 (P:Program)(pf:List Nat)(fz:Bool)(op:Op):Option IK :=
 match gn8 P pf fz op with
 | some k=>zb k
 | none=>if iy6 op then zc else zb (.st .nev [])
def gn9 (N:Nat)(d:Option Nat):Bool :=
 match d with
 | some t=>decide (t<N)
 | none=>true
def cj7 (P:Program) (pf:List Nat) (N:Nat) (ops:Array Oper) (o:Oper):Option ae4 :=
 match jo2 P pf (o.dst.any fun t=>pf.contains (1000000+t)) o.op with
 | none=>zc
 | some k=>
  if gn9 N o.dst=true then
   match o.guard with
   | none=>zb ⟨o.dst,zc,k⟩
   | some (j,want)=>match (ops[j]?).bind (·.dst) with
    | some s=>zb ⟨o.dst,zb (s,want),k⟩
    | none=>zc
  else zc
def bq2 (P:Program)(pf:List Nat)(N:Nat)(ops:Array Oper):List Oper->Option (List ae4)
 | []=>zb []
 | o::os=>match cj7 P pf N ops o,bq2 P pf N ops os with
  | some x,zb xs=>zb (x::xs)
  | _,_=>zc
variable {P:Program} {w w' w'':World} {ρ ρ' ρ'':Rho} {E:Nat->IV} {σ σ':Store} {N n n':Nat} {fr:Frm} {a:Act} {pf:List Nat}
theorem FR.ao5 (hf:FR ρ w N fr a.tmps){d:Option Nat}(hd:gn9 N d=true){v:IV}{r:Value}(hv:VR ρ w v r):FR ρ w N (fr.ao5 d v) (a.put d r).tmps:=by
 cases d with
 | none=>exact hf
 | some d=>exact hf.set (by simpa [gn9] using hd) hv
theorem ev2 {fz:Bool}{op:Op}{k:IK}(h:gn8 P pf fz op=zb k):(∀ c,op≠.defer c):=by
 intro c hc; subst hc; simp[gn8,hn7] at h
theorem ea7 {m:Nat}(hs:Sim E ρ w σ)(h:∀ i,m<=i->ρ i=.no):Sim E ρ w { σ with next:=m } :=
 ⟨hs.inj,hs.lt,hs.obj,hs.dead,h,hs.aw1,hs.env,hs.nx,hs.xlt⟩
theorem ea8 {f:FuncId}{args:Array Value}(h:okF P f=true):(callFunc f args).run P w=.ok (.enter f args) w:=by
 unfold okF at h
 cases hf:P.funcs[f]? with
 | none=>rw[hf] at h; cases h
 | some fn=>
  rw[hf] at h;simp at h;have h2:¬ fn.body=zc:=by intro hb; rw[hb] at h; simp at h
  simp[callFunc,hf,h.1,h2]
theorem Ext.le (h:Ext n ρ w ρ' w')(hn:n'<=n):Ext n' ρ w ρ' w' :=
 ⟨h.size,h.keep,h.shape,h.img,h.at_,h.dead,fun i hi h0=>h.no i (Nat.lt_of_lt_of_le hi hn) h0,h.output,h.os,h.tape,h.loops,h.X⟩
theorem CR.map {xs:List Operand}{ys:List IX}(h:ej4 xs=zb ys)(hs:Sim E ρ w σ)(hf:FR ρ w N fr a.tmps):CR ρ w (ys.map (·.ev E fr)) (xs.toArray.map a.eval):=by
 have:=bz4 (a:=a) h hs hf
 rwa [<- List.map_toArray] at this
theorem CR.append {xs ys:List IV}{rx ry:Array Value}(h1:CR ρ w xs rx)(h2:CR ρ w ys ry):CR ρ w (xs++ys) (rx++ry):=by
 refine ⟨by simp[h1.1,h2.1],fun i hi=>?_⟩;simp only[List.length_append] at hi;by_cases h:i<xs.length
 ·have e1:(xs++ys).getD i .undef=xs.getD i .undef:=by simp[ze,zk,h]
  have e2:(rx++ry).getD i undef=rx.getD i undef:=by
   have:i<rx.size:=by rw[<- h1.1]; exact h
   simp[zd,zg,this]
  rw[e1,e2]; exact h1.2 i h
 ·have e1:(xs++ys).getD i .undef=ys.getD (i-xs.length) .undef:=by simp[ze,zk,h]
  have e2:(rx++ry).getD i undef=ry.getD (i-xs.length) undef:=by
   have:¬ i<rx.size:=by rw[<- h1.1]; exact h
   simp[zd,zg,this,h1.1]
  rw[e1,e2]; exact h2.2 _ (by omega)
theorem ev3 {f:FuncId}{n0:Nat}{K:IV->Store->Prop}{o:Oper}{next:Act->World->Prop}{Q:Exit->Act->World->Prop}{ro:Option Nat}{Qc:IV->Store->Prop}{args:List IV}{rargs:Array Value}
  (hd:∀ c,o.op≠.defer c) (hrun:(execOp a.eval o).run P w=.ok (.enter f rargs) w) (hc:C P E f args σ Qc) (hK:∀ v σ',Qc v σ'->σ.next<=σ'.next/\K v σ') (hs:Sim E ρ w σ) (ha:CR ρ w args rargs) (hn0:n0<=σ.next)
  (hn:∀ v σ' r ρ' w',σ.next<=σ'.next->K v σ'->Sim E ρ' w' σ'->VR ρ' w' v r->Ext n0 ρ w ρ' w'->(∀ i,i<σ.next->ρ i=.no->ρ' i=.no)->next (a.put o.dst r) w'):o.wpIn (fw ro) 0 P a w next Q:=by
 refine ⟨fun f _=>trivial,?_⟩;rw[Oper.semAt_eq _ _ _ hd,hrun,Oper.uponIn_enter];refine ⟨(fun h=>by cases h),?_⟩;have hcall:CallsIn (fw ro) 0 P f rargs w fun e w'=>∃ v r ρ' σ',e=.returned r/\Qc v σ'/\Sim E ρ' w' σ'/\VR ρ' w' v r/\bg7 σ.next ρ w ρ' w':=hc ρ w rargs hs ha
 refine CallsIn.mono hcall ?_;rintro e w'' ⟨v,r,ρ',σ',rfl,q,hs',hv',hx⟩;obtain ⟨h1,h2⟩:=hK v σ' q;exact hn v σ' r ρ' w'' h1 h2 hs' hv' ((hx.ext hs.fresh).le hn0) hx.no
theorem go2 {o:Oper}{t:Tmp}{args:Array Operand}{argTypes:Array TypeId}{f:FuncId}{rf rc:Array Value}(ho:o.op=.call { callee:=.value (.tmp t),args,argTypes })(hv:a.eval (.tmp t)=.func (.func f) rf rc)(hf:okF P f=true) :
  (execOp a.eval o).run P w=.ok (.enter f (rf++args.map a.eval++rc)) w:=by
 unfold execOp;rw[ho];simp only[resolve,hv,Deferred.ofValue,Sem.run_bind,Sem.run_pure,Result.andThen_ok,invoke];exact ea8 hf
theorem el3 {o:Oper}{args:Array Operand}{argTypes:Array TypeId}{f:FuncId}(ho:o.op=.call { callee:=.value (.func f),args,argTypes })(hf:okF P f=true) :
  (execOp a.eval o).run P w=.ok (.enter f (args.map a.eval)) w:=by
 unfold execOp;rw[ho];simp only[resolve,Act.eval,Deferred.ofValue,Sem.run_bind,Sem.run_pure,Result.andThen_ok,invoke];rw[ea8 hf];simp
theorem hw5 {o:Oper}{s x:Operand}{is ix:IX}{t xt e xe:TypeId}{args:Array Operand}{argTypes:Array TypeId}{i:TypeInfo}{z:List IV}{id n0:Nat}{v:IV}(ho:o.op=.call { callee:=.builtin .append,args,argTypes })(ha:args.toList=[s,x])(ht:argTypes.toList=[t,xt])
  (hu:P.underlying t=zb (.slice e)) (hxu:P.underlying xt=zb (.slice xe)) (hi:P.info? e=zb i) (hz:bk9 P e=zb z) (hs':aj3 s=zb is) (hx:aj3 x=zb ix) (hb:i.bytes<=4096) (hzl:z.length=i.size)
  (h:be9 σ id i.size (is.ev E fr) (ix.ev E fr)=zb (v,σ')) (hs:Sim E ρ w σ) (hf:FR ρ w N fr a.tmps) (hno:ρ id=.no) (hlt:id<σ.next) (hn:n0<=id) :
  cu1 P E id n0 ρ w a o.op v σ':=by
 obtain ⟨al⟩:=args;obtain ⟨tl⟩:=argTypes;simp only at ha ht;subst ha; subst ht;intro o' ho'
 have hzero:∃ zr,i.zero=zb zr/\zr.cells.size=i.size:=by
  unfold bk9 at hz;rw[hi] at hz;simp only at hz
  cases hzz:i.zero with
  | none=>rw[hzz] at hz; cases hz
  | some zr=>
   rw[hzz] at hz;have:=(da9 (ρ:=ρ) (w:=w) hz).1;exact ⟨zr,rfl,by rw[<- this]; exact hzl⟩
 obtain ⟨zr,hzr,hzs⟩:=hzero;obtain ⟨r,ρ',w',hrun,hsim,hvr,hx1,hnb⟩:=iv4 (P:=P) (ty:=o'.type) hu ⟨_,hxu,fun k hk=>by cases hk⟩ hi hzr rfl hzs hb h (aa9 (a:=a) hs' hs hf) (aa9 (a:=a) hx hs hf) hs hno hlt hn;refine ⟨.value r,r,ρ',w',?_,.inl rfl,hsim,hvr,hx1,hnb⟩;unfold execOp;rw[ho',ho];simp[resolve,invoke,builtin,hrun]
theorem ev4 {sz:Nat}{x y:IV}(h:aq5 σ sz x y=zb σ'):σ'.next=σ.next:=by
 unfold aq5 at h;split at h
 ·split at h
  ·split at h
   ·cases h; rfl
   ·cases h
  ·split at h
   ·cases h; rfl
   ·cases h
  ·cases h
 ·cases h
theorem cu3 {tag:Nat}{x k v:IV}(h:ao4 σ tag x k v=zb σ'):σ'.next=σ.next:=by
 unfold ao4 at h;split at h
 ·split at h
  ·obtain ⟨es',_,rfl⟩:=map_some h; rfl
  ·cases h
 ·cases h
theorem go3 {id esz:Nat}{s x v:IV}(h:be9 σ id esz s x=zb (v,σ')):σ'.next=σ.next:=by
 unfold be9 at h;split at h
 ·cases h
 ·split at h
  ·cases h
  ·split at h
   ·split at h
    ·cases h; rfl
    ·split at h
     ·cases h; rfl
     ·cases h
   ·split at h
    ·cases h; rfl
    ·split at h
     ·cases h; rfl
     ·cases h
   ·split at h
    ·cases h; rfl
    ·cases h
   ·split at h
    ·split at h
     ·cases h; rfl
     ·split at h
      ·cases h; rfl
      ·cases h
    ·cases h
   ·split at h
    ·split at h
     ·cases h; rfl
     ·split at h
      ·cases h; rfl
      ·cases h
    ·cases h
   ·cases h
theorem go4 {k:IK} {id n0:Nat} {K:IV->Store->Prop} {o:Oper} {next:Act->World->Prop} {Q:Exit->Act->World->Prop} {ro:Option Nat}
  {fz:Bool} (hk:gn8 P pf fz o.op=zb k) (h:opR P E k id fr σ K) (hs:Sim E ρ w σ) (hf:FR ρ w N fr a.tmps) (hn0:n0<=σ.next) (hid:k.lays=true->ρ id=.no/\id<σ.next/\n0<=id)
  (hn:∀ v σ' r ρ' w',σ.next<=σ'.next->K v σ'->Sim E ρ' w' σ'->VR ρ' w' v r->Ext n0 ρ w ρ' w'->(∀ i,i<σ.next->(k.lays=true->i≠id)->ρ i=.no->ρ' i=.no)->next (a.put o.dst r) w'):o.wpIn (fw ro) 0 P a w next Q:=by
 have hdf:=ev2 hk
 have acts:∀ {v:IV} {σ':Store} {id' n':Nat},σ'.next=σ.next->cu1 P E id' n' ρ w a o.op v σ'->n0<=n'->(k.lays=true->id'=id)->(k.lays=false->σ.next<=id')->K v σ'->o.wpIn (fw ro) 0 P a w next Q:=by
  intro v σ' id' n' hnx hact hn1 hl1 hl2 hK;obtain ⟨x,r,ρ',w',hrun,hx,hs',hv',he,hnb⟩:=hact o rfl
  have hno':∀ i,i<σ.next->(k.lays=true->i≠id)->ρ i=.no->ρ' i=.no:=by
   intro i hi hl h0;refine hnb i (fun e=>?_) h0
   cases hk':k.lays with
   | true=>exact hl hk' (by rw[e,hl1 hk'])
   | false=>have:=hl2 hk'; omega
  refine ⟨fun f _=>trivial,?_⟩;rw[Oper.semAt_eq _ _ _ hdf,hrun];rcases hx with rfl|⟨rfl,rfl⟩
  ·exact hn v σ' r ρ' w' (by omega) hK hs' hv' (he.le hn1) hno'
  ·exact hn v σ' undef ρ' w' (by omega) hK hs' hv' (he.le hn1) hno'
 have quiet:∀ q,hn7 P o.op=zb q->k=.q q->o.wpIn (fw ro) 0 P a w next Q:=by
  intro q hq hkq;subst hkq;obtain ⟨v,hv,hK⟩:=h;obtain ⟨r,hrun,hvr⟩:=gj4 hq hv hs hf o rfl;refine ⟨fun f _=>trivial,?_⟩;rw[Oper.semAt_eq _ _ _ hdf,hrun];exact hn v σ r ρ w (za _) hK hs hvr (Ext.refl _ _ _) (fun i _ _ h0=>h0)
 unfold gn8 at hk;split at hk
 ·rename_i t heq;obtain ⟨z,hz,rfl⟩:=map_some hk;obtain ⟨h1,h2,h3⟩:=hid rfl;refine acts (id':=id) (n':=n0) (σ':=σ.put id (.cells z)) rfl ?_ (za _) (fun _=>rfl) (fun h=>by cases h) h;rw[heq];exact fp5 hz hs h1 h2 h3
 ·rename_i t x heq;obtain ⟨y,hy,he⟩:=map_some hk
  cases fz with
  | true=>
   simp only[if_true] at he;subst he;refine acts (id':=σ.next) (n':=n0) (σ':=σ) rfl ?_ (za _) (fun h=>by cases h) (fun _=>za _) h.2;rw[heq]
   exact gk1 hy h.1 hs hf hn0
  | false=>
   simp only[zl,if_false] at he;subst he;obtain ⟨h1,h2,h3⟩:=hid rfl;refine acts (id':=id) (n':=n0) (σ':=σ.put id (.cells (y.ev E fr).cs)) rfl ?_ (za _) (fun _=>rfl) (fun h=>by cases h) h.2;rw[heq];exact fe4 hy h.1 hs hf h1 h2 h3
 ·rename_i t n parts heq;split at hk
  ·rename_i e hu;split at hk
   ·rename_i esz z hsz hz;split at hk
    ·rename_i ps hp;split at hk
     ·rename_i hc
      cases fz with
      | true=>
       simp only[if_true] at hk;by_cases h0:n=0/\ps.isEmpty=true/\pf.contains 4000000=true
       ·rw[if_pos h0] at hk;cases hk;obtain ⟨rfl,he,_⟩:=h0;have he2:ps=[]:=List.isEmpty_iff.1 he;subst he2;obtain ⟨v,hv,h1⟩:=h;cases hv;refine acts (id':=σ.next) (n':=n0) (σ':=σ) rfl ?_ (za _) (fun h=>by cases h) (fun _=>za _) h1;rw[heq];exact hp5 (E:=E) (fr:=fr) hu hsz hc.1 hz hc.2.1 hp rfl hs hf hn0
       rw[if_neg h0] at hk;cases hk;obtain ⟨out,ho1,ho2⟩:=h;refine acts (id':=σ.next) (n':=n0) (σ':=σ) rfl ?_ (za _) (fun h=>by cases h) (fun _=>za _) ho2;rw[heq]
       exact gk2 hu hsz hc.1 hz hc.2.1 hc.2.2 hp ho1 hs hf hn0
      | false=>
      simp only[zl,if_false] at hk;cases hk;obtain ⟨h1,h2,h3⟩:=hid rfl;obtain ⟨out,ho1,ho2⟩:=h;refine acts (id':=id) (n':=n0) (σ':=σ.put id (.row out)) rfl ?_ (za _) (fun _=>rfl) (fun h=>by cases h) ho2;rw[heq];exact fe5 hu hsz hc.1 hz hc.2.1 hc.2.2 hp ho1 hs hf h1 h2 h3
     ·cases hk
    ·cases hk
   ·cases hk
  ·cases hk
 ·rename_i t x y heq;split at hk
  ·rename_i sz ia ib hsz hx hy;cases hk;obtain ⟨σ',ho1,ho2⟩:=h;refine acts (id':=σ.next) (n':=n0) (σ':=σ') (ev4 ho1) ?_ (za _) (fun h=>by cases h) (fun _=>za _) ho2;rw[heq];exact fp6 hsz hx hy ho1 hs hf
  ·cases hk
 ·rename_i t x heq;split at hk
  ·rename_i hu;obtain ⟨y,hy,rfl⟩:=map_some hk;obtain ⟨h1,h2,h3⟩:=hid rfl;obtain ⟨s,hs1,hs2⟩:=h;refine acts (id':=id) (n':=n0) (σ':=σ.put id (.bg5 s 0)) rfl ?_ (za _) (fun _=>rfl) (fun h=>by cases h) hs2;rw[heq];exact et7 hu hy hs1 hs hf h1 h2 h3
  ·rename_i kt et hu;obtain ⟨y,hy,rfl⟩:=map_some hk;obtain ⟨h1,h2,h3⟩:=hid rfl;obtain ⟨es,hs1,hs2⟩:=h;refine acts (id':=id) (n':=n0) (σ':=σ.put id (.as3 es zc)) rfl ?_ (za _) (fun _=>rfl) (fun h=>by cases h) hs2;rw[heq];exact et9 hu hy hs1 hs hf h1 h2 h3
  ·cases hk
 ·rename_i x heq;obtain ⟨y,hy,rfl⟩:=map_some hk;obtain ⟨⟨v,σ'⟩,ho1,ho2⟩:=h;refine acts (id':=σ.next) (n':=n0) (σ':=σ') (et8 ho1) ?_ (za _) (fun h=>by cases h) (fun _=>za _) ho2;rw[heq];exact fp9 hy ho1 hs hf
 ·rename_i x heq;obtain ⟨y,hy,rfl⟩:=map_some hk;obtain ⟨i,left,ho1,ho2,ho3⟩:=h;rcases fq1 (n:=n0) (id0:=σ.next) (a:=a) hy ho1 hs hf with ⟨he,hact⟩|⟨j,hj,hact⟩
  ·refine acts (id':=σ.next) (n':=n0) (σ':=σ) rfl ?_ (za _) (fun h=>by cases h) (fun _=>za _) (ho2 he);rw[heq]; exact hact
  ·refine acts (id':=σ.next) (n':=n0) (σ':=σ.put i (.as3 (left.eraseIdx j) (zb (left.getD j (.undef,.undef))))) rfl ?_ (za _) (fun h=>by cases h) (fun _=>za _) (ho3 j hj);rw[heq]; exact hact
 ·rename_i x heq;obtain ⟨y,hy,rfl⟩:=map_some hk;obtain ⟨v,ho1,ho2⟩:=h;refine acts (id':=σ.next) (n':=n0) (σ':=σ) rfl ?_ (za _) (fun h=>by cases h) (fun _=>za _) ho2;rw[heq];exact gk4 hy ho1 hs hf
 ·rename_i t heq;cases hk;obtain ⟨h1,h2,h3⟩:=hid rfl;refine acts (id':=id) (n':=n0) (σ':=σ.put id (.map [])) rfl ?_ (za _) (fun _=>rfl) (fun h=>by cases h) h;rw[heq];exact fp8 hs h1 h2 h3
 ·rename_i t x k v heq;split at hk
  ·rename_i kt et hu;split at hk
   ·rename_i tag ia ib ic ht hx hk' hv;cases hk;obtain ⟨σ',ho1,ho2⟩:=h;refine acts (id':=σ.next) (n':=n0) (σ':=σ') (cu3 ho1) ?_ (za _) (fun h=>by cases h) (fun _=>za _) ho2;rw[heq];exact db4 hu ht hx hk' hv ho1 hs hf
   ·cases hk
  ·cases hk
 ·rename_i t x y heq;split at hk
  ·rename_i e hu;split at hk
   ·rename_i i z ia hi hz hx;split at hk
    ·rename_i hc
     have plain:k=.dd2 i.size z ia->o.wpIn (fw ro) 0 P a w next Q:=by
      intro e;subst e;obtain ⟨h1,h2,h3⟩:=hid rfl;obtain ⟨len,ho1,ho2⟩:=h;refine acts (id':=id) (n':=n0) (σ':=σ.put id (.row (rep z len))) rfl ?_ (za _) (fun _=>rfl) (fun h=>by cases h) ho2;rw[heq];exact ek3 hu hi hz hc.1 hc.2.1 hc.2.2.1 hx hc.2.2.2 ho1 hs hf h1 h2 h3
     replace hk:=zb.inj hk;split at hk
     ·rename_i m;split at hk
      ·rename_i hm;subst hk;obtain ⟨out,ho1,ho2⟩:=h;have he:out=rep z m.toNat:=by simp only[List.map_nil,au4] at ho1; exact (zb.inj ho1).symm
       subst he;refine acts (id':=σ.next) (n':=n0) (σ':=σ) rfl ?_ (za _) (fun h=>by cases h) (fun _=>za _) ho2;rw[heq];exact fq3 hu hi hz hc.1 hc.2.1 hc.2.2.1 hx hc.2.2.2 (by simp only[IX.ev,db5]; rw[if_pos (by omega)]) hs hf hn0
      ·exact plain hk.symm
     ·exact plain hk.symm
    ·cases hk
   ·cases hk
  ·cases hk
 ·rename_i t x k v heq;split at hk
  ·rename_i kt et hu;split at hk
   ·rename_i tag ia ib ic ht hx hk' hv;cases hk;obtain ⟨σ',ho1,ho2⟩:=h;refine acts (id':=σ.next) (n':=n0) (σ':=σ') (cu3 ho1) ?_ (za _) (fun h=>by cases h) (fun _=>za _) ho2;rw[heq];exact eu2 (db4 hu ht hx hk' hv ho1 hs hf)
   ·cases hk
  ·cases hk
 ·rename_i args argTypes heq;split at hk
  ·rename_i x t ha ht;split at hk
   ·rename_i e hu;split at hk
    ·rename_i sz z ia hsz hz hx;split at hk
     ·rename_i hc;cases hk;obtain ⟨σ',ho1,ho3,ho2⟩:=h;refine acts (id':=σ.next) (n':=n0) (σ':=σ') ho3 ?_ (za _) (fun h=>by cases h) (fun _=>za _) ho2;rw[heq];obtain ⟨al⟩:=args;obtain ⟨tl⟩:=argTypes;simp only at ha ht;subst ha; subst ht;exact hp9 hu hsz hz hc.1 hc.2 hx ho1 hs hf
     ·cases hk
    ·cases hk
   ·cases hk
  ·cases hk
 ·rename_i args argTypes heq;split at hk
  ·rename_i s x t xt ha ht;split at hk
   ·rename_i e xe hu hxu;split at hk
    ·rename_i i z ia ib hi hz hsx hxx;split at hk
     ·rename_i hc;replace hk:=zb.inj hk;by_cases hfz:fz=true
      ·rw[if_pos hfz] at hk;subst hk;obtain ⟨h1,h2,h3⟩:=hid rfl;obtain ⟨⟨v,σ'⟩,ho1,ho2⟩:=h;exact nomatch (show (zc:Option (IV×Store))=zb (v,σ') from ho1)
      rw[if_neg hfz] at hk;subst hk;obtain ⟨h1,h2,h3⟩:=hid rfl;obtain ⟨⟨v,σ'⟩,ho1,ho2⟩:=h;exact acts (id':=id) (n':=n0) (σ':=σ') (go3 ho1) (hw5 heq ha ht hu hxu hi hz hsx hxx hc.1 hc.2 ho1 hs hf h1 h2 h3) (za _) (fun _=>rfl) (fun h=>by cases h) ho2
     ·cases hk
    ·cases hk
   ·cases hk
  ·cases hk
 ·rename_i f args argTypes heq;split at hk
  ·rename_i xs hxs;split at hk
   ·rename_i hok;split at hk
    ·cases hk;obtain ⟨v,hpc,hK⟩:=h;exact ev3 hdf (el3 heq hok) (hpc σ) (fun v' σ' ⟨h1,h2⟩=>by subst h1; subst h2; exact ⟨za _,hK⟩) hs (CR.map hxs hs hf) hn0 (fun v σ' r ρ' w' h1 h2 h3 h4 h5 h6=>hn v σ' r ρ' w' h1 h2 h3 h4 h5 (fun i hi _ h0=>h6 i hi h0))
    cases hk;obtain ⟨Qc,hc,hK⟩:=h;exact ev3 hdf (el3 heq hok) hc hK hs (CR.map hxs hs hf) hn0 (fun v σ' r ρ' w' h1 h2 h3 h4 h5 h6=>hn v σ' r ρ' w' h1 h2 h3 h4 h5 (fun i hi _ h0=>h6 i hi h0))
   ·obtain ⟨q,hq,rfl⟩:=map_some hk;exact quiet q hq rfl
  ·cases hk
 ·rename_i t args argTypes heq;split at hk
  ·rename_i xs hxs;cases hk;obtain ⟨Qc,hc,hK⟩:=h;have vt:VR ρ w (fr.get t) (a.eval (.tmp t)):=hf.get t;have hca:=CR.map (a:=a) hxs hs hf;simp only[IX.ev] at hc;generalize hfv:fr.get t=fv at hc vt;generalize hrv:a.eval (.tmp t)=rv at vt
   cases vt with
   | func fn first cap rf rc hy l1 l2 v1 v2=>
    cases fn with
    | func f=>
     obtain ⟨hok,hc⟩:=hc;have hrun:=go2 (P:=P) (w:=w) heq hrv hok;refine ev3 hdf hrun hc hK hs ?_ hn0 (fun v σ' r ρ' w' h1 h2 h3 h4 h5 h6=>hn v σ' r ρ' w' h1 h2 h3 h4 h5 (fun i hi _ h0=>h6 i hi h0))
     exact ((CR.append ⟨l1,v1⟩ hca).append ⟨l2,v2⟩)
    | _=>exact hc.elim
   | yield id' B d hid'=>
    obtain ⟨fn,tmps,assign,body,hy,hr⟩:=hc.2 ρ w (args.map a.eval) B d hs hca hid';refine ⟨fun f _=>trivial,?_⟩
    have hrun:(execOp a.eval o).run P w=.ok (.round B fn tmps assign body) w:=by
     unfold execOp;rw[heq];simp only[resolve,hrv,Deferred.ofValue,Sem.run_bind,Sem.run_pure,Result.andThen_ok,invoke]
     simpa using hy
    rw[Oper.semAt_eq _ _ _ hdf,hrun,Oper.uponIn_round];refine ⟨(fun h=>by cases h),?_⟩;refine RoundIn.mono (F:=fw ro) (n:=0) hr ?_;rintro e w'' ⟨v,r,ρ',σ',rfl,q,hs',hv',hx⟩;obtain ⟨h1,h2⟩:=hK v σ' q
    exact hn v σ' r ρ' w'' h1 h2 hs' hv' ((hx.ext hs.fresh).le hn0) (fun i hi _ h0=>hx.no i hi h0)
   | bd2 id' B hid'=>
    have:=hs.dead id' hid';have:=hc.1
    simp_all
   | _=>exact hc.elim
  ·cases hk
 ·rename_i args argTypes heq;split at hk
  ·rename_i x k t ha ht;split at hk
   ·rename_i kt et hu;split at hk
    ·rename_i tag ia ib hkt hx hk';cases hk;obtain ⟨h1,h2,h3⟩:=hid rfl;obtain ⟨⟨v,σ'⟩,ho1,ho2⟩:=h;refine acts (id':=id) (n':=n0) (σ':=σ') (dy7 ho1) ?_ (za _) (fun _=>rfl) (fun h=>by cases h) ho2;rw[heq];obtain ⟨al⟩:=args;simp only at ha;subst ha;exact nomatch (show (zc:Option (IV×Store))=zb (v,σ') from ho1)
    ·cases hk
   ·cases hk
  ·cases hk
 ·rename_i args argTypes heq;split at hk
  ·rename_i x y t ha ht;split at hk
   ·rename_i e hu;split at hk
    ·rename_i n ia ib hsz hx hy;cases hk;obtain ⟨h1,h2,h3⟩:=hid rfl;obtain ⟨⟨v,σ'⟩,ho1,ho2⟩:=h;refine acts (id':=id) (n':=n0) (σ':=σ') (dy7 ho1) ?_ (za _) (fun _=>rfl) (fun h=>by cases h) ho2;rw[heq];obtain ⟨al⟩:=args;simp only at ha;subst ha;exact nomatch (show (zc:Option (IV×Store))=zb (v,σ') from ho1)
    ·cases hk
   ·cases hk
  ·cases hk
 ·obtain ⟨q,hq,rfl⟩:=map_some hk;exact quiet q hq rfl
 ·rename_i t x lo oh om _ heq;split at hk
  ·rename_i e hu;split at hk
   ·rename_i n ia il ib ic hsz hx hl hh hm;replace hk:=zb.inj hk;by_cases hcl:fz=false
    ·rw[if_pos hcl] at hk;subst hk;obtain ⟨v,hv',ho2⟩:=h;refine acts (id':=σ.next) (n':=n0) (σ':=σ) rfl ?_ (za _) (fun h=>by cases h) (fun _=>za _) ho2;rw[heq]
     have hlo:(lo=zc/\il=.c (.int .i64 0))\/∃ o,lo=zb o/\aj3 o=zb il:=by
      cases lo with
      | none=>cases hl; exact .inl ⟨rfl,rfl⟩
      | some o=>exact .inr ⟨o,rfl,hl⟩
     exact hq5 hu hsz hx hlo hh hm hv' hs hf
    rw[if_neg hcl] at hk;subst hk;obtain ⟨h1,h2,h3⟩:=hid rfl;obtain ⟨⟨v,σ'⟩,ho1,ho2⟩:=h;refine acts (id':=id) (n':=n0) (σ':=σ') (dy7 ho1) ?_ (za _) (fun _=>rfl) (fun h=>by cases h) ho2;rw[heq]
    have hlo:(lo=zc/\il=.c (.int .i64 0))\/∃ o,lo=zb o/\aj3 o=zb il:=by
     cases lo with
     | none=>cases hl; exact .inl ⟨rfl,rfl⟩
     | some o=>exact .inr ⟨o,rfl,hl⟩
    exact nomatch (show (zc:Option (IV×Store))=zb (v,σ') from ho1)
   ·cases hk
  ·cases hk
 ·rename_i t x oh heq;split at hk
  ·rename_i e hu;split at hk
   ·rename_i n ia ib hsz hx hh;cases hk;obtain ⟨h1,h2,h3⟩:=hid rfl;obtain ⟨⟨v,σ'⟩,ho1,ho2⟩:=h;exact nomatch (show (zc:Option (IV×Store))=zb (v,σ') from ho1)
   ·cases hk
  ·obtain ⟨q,hq,rfl⟩:=map_some hk;exact quiet q hq rfl
 ·rename_i t x heq;split at hk
  ·rename_i agg ia hq;cases hk;obtain ⟨v,hv,hK⟩:=h
   have hv':evq E fr σ (.load agg ia)=zb v:=by
    cases fz with
    | true=>exact hn6 hv σ
    | false=>exact hv
   obtain ⟨r,hrun,hvr⟩:=gj4 hq hv' hs hf o heq;refine ⟨fun f _=>trivial,?_⟩;rw[Oper.semAt_eq _ _ _ hdf,hrun];exact hn v σ r ρ w (za _) hK hs hvr (Ext.refl _ _ _) (fun i _ _ h0=>h0)
  ·cases hk
 ·rename_i op heq _ _ _ _ _ _ _;obtain ⟨q,hq,rfl⟩:=map_some hk;exact quiet q hq rfl
theorem ea9 {k:IK}{id n0:Nat}{K:IV->Store->Prop}{o:Oper}{next:Act->World->Prop}{Q:Exit->Act->World->Prop}{ro:Option Nat}
  {fz:Bool} (hk:jo2 P pf fz o.op=zb k) (h:opR P E k id fr σ K) (hs:Sim E ρ w σ) (hf:FR ρ w N fr a.tmps) (hn0:n0<=σ.next) (hid:k.lays=true->ρ id=.no/\id<σ.next/\n0<=id)
  (hn:∀ v σ' r ρ' w',σ.next<=σ'.next->K v σ'->Sim E ρ' w' σ'->VR ρ' w' v r->Ext n0 ρ w ρ' w'->(∀ i,i<σ.next->(k.lays=true->i≠id)->ρ i=.no->ρ' i=.no)->next (a.put o.dst r) w'):o.wpIn (fw ro) 0 P a w next Q:=by
 unfold jo2 at hk;split at hk
 ·rename_i k' hk';cases hk;exact go4 hk' h hs hf hn0 hid hn
 ·split at hk
  ·cases hk
  ·cases hk;obtain ⟨r,hr,_⟩:=h;cases hr
end Go.Id
namespace Go.Id
open Go
variable {P:Program} {w w' w'':World} {ρ ρ' ρ'':Rho} {E:Nat->IV} {σ σ':Store} {N n n':Nat} {fr:Frm} {a:Act} {pf:List Nat}
theorem el4 {ops:Array Oper}{o:Oper}{j s:Nat}{want b:Bool}(hg:o.guard=zb (j,want))(hs:(ops[j]?).bind (·.dst)=zb s)(hf:FR ρ w N fr a.tmps)(hb:fr.get s=.bool b) :
  Region.wanted o (yielded ops a.tmps)=decide (b=want):=by
 have hv:=hf.get s;rw[hb] at hv
 have ht:a.tmps[s]? = zb (.bool b):=by
  generalize hr:a.tmps.getD s undef=r at hv;cases hv;rw[zd] at hr
  cases he:a.tmps[s]? with
  | none=>rw[he] at hr; simp[undef] at hr
  | some v=>rw[he] at hr; simp at hr; rw[hr]
 have hy:yielded ops a.tmps j=zb b:=by
  unfold yielded;rw[hs];simp[ht]
 unfold Region.wanted;rw[hg];simp only[hy];cases b<;>cases want<;>rfl
theorem go5 {ρ:Rho}{w:World}:VR ρ w skV undef:=.tuple [] #[] rfl fun i hi=>absurd hi (Nat.not_lt_zero _)
theorem cd7 {ops:Array Oper}{o:Oper}{j s:Nat}{want act:Bool}(hg:o.guard=zb (j,want))(hs:(ops[j]?).bind (·.dst)=zb s)(hf:FR ρ w N fr a.tmps)(ha:hv9 (fr.get s) want=zb act) :
  Region.wanted o (yielded ops a.tmps)=act:=by
 unfold hv9 at ha;split at ha
 ·rename_i b hb;cases ha;exact el4 hg hs hf hb
 ·rename_i hb;cases ha;have hv:=hf.get s;rw[hb] at hv
  have hy:yielded ops a.tmps j=zc:=by
   unfold yielded;rw[hs];generalize hr:a.tmps.getD s undef=r at hv
   cases hv with
   | tuple _ rs hl _=>
    rw[zd] at hr
    cases he:a.tmps[s]? with
    | none=>simp[he]
    | some v=>rw[he] at hr; simp at hr; simp[he,hr]
  unfold Region.wanted;rw[hg];simp[hy]
 ·cases ha
theorem put_defers (a:Act)(d:Option Tmp)(v:Value):(a.put d v).defers=a.defers:=by cases d<;>rfl
theorem cj8 (o:ae4)(os:List ae4):cd6 (o::os)=(if o.op.lays then 1 else 0)+cd6 os:=by
 unfold cd6;rw[List.filter_cons];split<;>simp_all;omega
theorem bz9 {ops:Array Oper}{o:Oper}{io:ae4}(h:cj7 P pf N ops o=zb io):(∃ fz,jo2 P pf fz o.op=zb io.op)/\io.dst=o.dst/\gn9 N o.dst=true /\
  (o.guard=zc/\io.guard=zc\/∃ j want s,o.guard=zb (j,want)/\(ops[j]?).bind (·.dst)=zb s/\io.guard=zb (s,want)):=by
 unfold cj7 at h
 cases hk:jo2 P pf (o.dst.any fun t=>pf.contains (1000000+t)) o.op with
 | none=>rw[hk] at h; cases h
 | some k=>
  rw[hk] at h;simp only at h;by_cases hd:gn9 N o.dst=true
  ·rw[if_pos hd] at h
   cases hg:o.guard with
   | none=>rw[hg] at h; cases h; exact ⟨⟨_,hk⟩,rfl,hd,.inl ⟨rfl,rfl⟩⟩
   | some p=>
    obtain ⟨j,want⟩:=p;rw[hg] at h;simp only at h
    cases hs:(ops[j]?).bind (·.dst) with
    | none=>rw[hs] at h; cases h
    | some s=>rw[hs] at h; cases h; exact ⟨⟨_,hk⟩,rfl,hd,.inr ⟨j,want,s,rfl,hs,rfl⟩⟩
  ·rw[if_neg hd] at h; cases h
theorem go6 {ops:Array Oper}{n0:Nat}{ro:Option Nat}{Qw:Exit->Act->World->Prop}{K:Frm->Store->Prop}{ρ0:Rho}{w0:World}{ds:List Deferred}
  (hfin:∀ fr σ ρ w a,n0<=σ.next->K fr σ->Sim E ρ w σ->FR ρ w N fr a.tmps->a.defers=ds->bg7 n0 ρ0 w0 ρ w->Qw .normal a w) :
  ∀ (os:List Oper) (ios:List ae4) (i id:Nat) (fr:Frm) (σ:Store) (ρ:Rho) (w:World) (a:Act),ops.toList.drop i=os->bq2 P pf N ops os=zb ios->cd5 P E ios id fr σ K ->
   Sim E ρ w σ->FR ρ w N fr a.tmps->a.defers=ds->bg7 n0 ρ0 w0 ρ w->n0<=id->(∀ k,id<=k->k<id+cd6 ios->ρ k=.no)->id+cd6 ios<=σ.next ->
   wpOpsIn (fw ro) 0 P ops Qw (zj i os.length) a w:=by
 intro os
 induction os with
 | nil=>
  intro ios i id fr σ ρ w a _ hc h hs hf hd hx hn0 hres hle;cases hc
  exact hfin fr σ ρ w a (by simp[cd6] at hle; omega) h hs hf hd hx
 | cons o os ih=>
  intro ios i id fr σ ρ w a hdrop hc h hs hf hd hx hn0 hres hle;simp only[bq2] at hc;split at hc
  ·rename_i io ios' hio hios;cases hc;obtain ⟨⟨fz,hk⟩,hdst,hdN,hg⟩:=bz9 hio
   have hi:ops[i]? = zb o:=by
    have:=congrArg (fun l=>l[0]?) hdrop
    simpa [List.getElem?_drop] using this
   have hdrop':ops.toList.drop (i+1)=os:=by
    have:=congrArg (List.drop 1) hdrop
    simpa [List.drop_drop] using this
   simp only[List.length_cons,List.range'_succ];rw[wpOpsIn_cons]
   have run:opR P E io.op id fr σ (fun v σ'=>cd5 P E ios' (if io.op.lays then id+1 else id) (fr.ao5 io.dst v) σ' K)->o.wpIn (fw ro) 0 P a w (wpOpsIn (fw ro) 0 P ops Qw (zj (i+1) os.length)) Qw:=by
    intro hop;have hlN:=cj8 io ios';refine ea9 hk hop hs hf (by omega) (fun hl=>⟨hres id (za _) (by rw[hlN,hl]; simp; omega),by rw[hlN,hl] at hle; simp at hle; omega,hn0⟩) ?_;intro v σ' r ρ' w' hnx hK hs' hv' hx' hno;refine ih ios' (i+1) _ _ σ' ρ' w' (a.put o.dst r) hdrop' hios hK hs' ?_ (by rw[put_defers]; exact hd) (hx.trans (hx'.weak (za _))) (by split<;>omega) ?_ ?_
    ·rw[hdst];exact FR.ao5 (hf.mono hx') hdN hv'
    ·intro k hk1 hk2;have hk3:id<=k:=by split at hk1<;>omega
     have hk4:k<id+cd6 (io::ios'):=by
      rw[hlN];cases hl:io.op.lays<;>rw[hl] at hk2<;>simp at hk2 ⊢<;>omega
     exact hno k (by omega) (fun hl=>by rw[hl] at hk1; simp at hk1; omega) (hres k hk3 hk4)
    ·rw[hlN] at hle; split<;>simp_all<;>omega
   unfold wpOpIn;simp only[hi];simp only[cd5] at h;obtain ⟨act,hact,h⟩:=h
   have skip:cd5 P E ios' (if io.op.lays then id+1 else id) (fr.ao5 io.dst skV) σ K->(∀ f,o.about P w a.eval=zb f->(fw ro).fn f)/\wpOpsIn (fw ro) 0 P ops Qw (zj (i+1) os.length) (a.put o.dst undef) w:=by
    intro h;refine ⟨fun f _=>trivial,?_⟩;have hlN:=cj8 io ios';refine ih ios' (i+1) _ _ σ ρ w (a.put o.dst undef) hdrop' hios h hs (by rw[hdst]; exact FR.ao5 hf hdN go5) (by rw[put_defers]; exact hd) hx (by split<;>omega) ?_ ?_
    ·intro k hk1 hk2;refine hres k (by split at hk1<;>omega) ?_;rw[hlN];cases hl:io.op.lays<;>rw[hl] at hk2<;>simp at hk2 ⊢<;>omega
    ·rw[hlN] at hle; split<;>simp_all<;>omega
   have hw:Region.wanted o (yielded ops a.tmps)=act:=by
    rcases hg with ⟨hg1,hg2⟩|⟨j,want,s,hg1,hgs,hg2⟩
    ·simp only[bi3,hg2,zb.injEq] at hact;unfold Region.wanted; rw[hg1]; exact hact
    ·simp only[bi3,hg2] at hact;exact cd7 hg1 hgs hf hact
   rw[hw]
   cases act with
   | true=>exact run h
   | false=>exact skip h
  ·cases hc
end Go.Id
namespace Go.Id
open Go
variable {P:Program} {w w' w'':World} {ρ ρ' ρ'':Rho} {E:Nat->IV} {σ σ':Store} {N n n':Nat} {fr:Frm} {a:Act} {pf:List Nat}
theorem hw6 {n0 id:Nat}{ops:Array Oper}{ios:List ae4}{Q:Exit->Frm->Store->Prop}(hc:bq2 P pf N ops ops.toList=zb ios)
  (h:cd5 P E ios σ.next fr { σ with next:=σ.next+cd6 ios } (fun fr' σ'=>Q .normal fr' σ')):R P E N n0 (.region id ops false) fr σ Q:=by
 intro hn ro h0 ρ w a hs hf hd hr;refine wpIn_region ?_;rw[List.range_eq_range'];have e:ops.size=ops.toList.length:=by simp
 rw[e]
 refine go6 (n0:=n0) (ρ0:=ρ) (w0:=w) (ds:=a.defers) (K:=fun fr' σ'=>Q .normal fr' σ') ?_ ops.toList ios 0 σ.next fr _ ρ w a rfl hc h
  (ea7 hs (fun i hi=>hs.fresh i (by omega))) hf rfl (bg7.refl _ _ _) hn (fun k hk _=>hs.fresh k hk) (za _)
 intro fr' σ' ρ' w' a' hn' hK hs' hf' hd' hx;exact ⟨fr',σ',ρ',hn',hK,hs',hf',by rw[hd']; exact hd.mono hx,hr.mono hx,hx⟩
theorem VR.turn {r:Nat}{v:IV}{x:Value}(hsz:w'.heap.size=w.heap.size)(hb:∀ b,b≠r->w'.heap[b]? = w.heap[b]?)(hr:∀ rcs el fz,w.heap[r]?≠zb (Obj.cells rcs el fz))(hmp:∀ mes c,w.heap[r]?≠zb (Obj.map mes c))(h:VR ρ w v x):VR ρ w' v x:=by
 have hcells:∀ (b:Nat) (rcs:Array Value) (el:TypeId) (fz:Nat×Nat),w.heap[b]? = zb (.cells rcs el fz)->w'.heap[b]? = zb (.cells rcs el fz):=fun b rcs el fz hh=>by
  have:b≠r:=fun e=>by subst e; exact hr _ _ _ hh
  rw[hb b this]; exact hh
 have hfb:∀ b,FB ρ w b->FB ρ w' b:=fun b hh=>⟨by rw[hsz]; exact hh.1,hh.2,hh.3⟩
 have hcell:∀ (ad:Addr) (q:Value),w.cell? ad=zb q->w'.cell? ad=zb q:=fun ad q hh=>by
  unfold World.cell? at hh ⊢;split at hh
  ·rename_i c el fz hc;rw[hcells _ _ _ _ hc]; exact hh
  ·cases hh
 induction h with
 | undef r=>exact .undef r
 | bool b=>exact .bool b
 | int k n=>exact .int k n
 | str s=>exact .str s
 | ad5=>exact .ad5
 | ptr id off B d hi=>exact .ptr id off B d hi
 | cy1 id off ad hi=>exact .cy1 id off ad hi
 | ab9 cs b o vs hf hc _ ih=>exact .ab9 cs b o vs (hfb _ hf) (fun j hj=>hcell _ _ (hc j hj)) ih
 | aa1=>exact .aa1
 | ac6 a=>exact .ac6 a
 | af7 a c=>exact .af7 a c
 | slice id off len esz B d cap rcs el fz hi hbk hs hle=>exact .slice id off len esz B d cap rcs el fz hi (hcells _ _ _ _ hbk) hs hle
 | am3 id off esz B d a hi=>exact .am3 id off esz B d a hi
 | al4 id off len esz cap ad hi hle=>exact .al4 id off len esz cap ad hi hle
 | ag4 id off len esz B d rcs el fz hi hbk hs=>exact .ag4 id off len esz B d rcs el fz hi (hcells _ _ _ _ hbk) hs
 | ap7 id off len esz ad hi=>exact .ap7 id off len esz ad hi
 | ak5 id off len room esz B d cap rcs el fz hi hbk hs hle hr=>exact .ak5 id off len room esz B d cap rcs el fz hi (hcells _ _ _ _ hbk) hs hle hr
 | ax7 id off len room esz cap ad hi hle hr=>exact .ax7 id off len room esz cap ad hi hle hr
 | aa4 es b o cap esz sp vs hf hs hc _ hle ih=>exact .aa4 es b o cap esz sp vs (fun hne=>⟨hfb _ (hf hne).1,(hf hne).2⟩) hs (fun i hi j hj=>hcell _ _ (hc i hi j hj)) ih hle
 | ch5=>exact .ch5
 | ai4=>exact .ai4
 | map id B d hi=>exact .map id B d hi
 | mapD id B hi=>exact .mapD id B hi
 | ak9 es es' b mes clock hp hd hf hh hl _ _ h4 h5 ihk ihv=>exact .ak9 es es' b mes clock hp hd (hfb _ hf) (by have:b≠r:=fun e=>by { subst e; exact hmp _ _ hh }; rw[hb b this]; exact hh) hl ihk ihv h4 h5
 | func fn first cap rf rc hy h1 h2 _ _ ihf ihc=>exact .func fn first cap rf rc hy h1 h2 ihf ihc
 | yield id B d hi=>exact .yield id B d hi
 | bd2 id B hi=>exact .bd2 id B hi
 | ac1=>exact .ac1
 | iface t v r _ ih=>exact .iface t v r ih
 | ah8=>exact .ah8
 | agg cs rs h1 _ ih=>exact .agg cs rs h1 ih
 | tuple cs rs h1 _ ih=>exact .tuple cs rs h1 ih
theorem OR.turn {r B d:Nat}{o:aj5}(hsz:w'.heap.size=w.heap.size)(hb:∀ b,b≠r->w'.heap[b]? = w.heap[b]?)(hr:∀ rcs el fz,w.heap[r]?≠zb (Obj.cells rcs el fz))(hmp:∀ mes c,w.heap[r]?≠zb (Obj.map mes c))(hB:B≠r)(h:OR ρ w B d o):OR ρ w' B d o:=by
 have key:∀ cs,aq1 ρ w B d cs->aq1 ρ w' B d cs:=fun cs ⟨rcs,el,h1,h2,h3⟩=>⟨rcs,el,by rw[hb B hB]; exact h1,h2,fun i hi=>(h3 i hi).turn hsz hb hr hmp⟩
 cases o with
 | cells cs=>exact key cs h
 | row cs=>exact key cs h
 | map es=>
  obtain ⟨mes,clock,h1,h0,h2,h3,h4,h5⟩:=h
  exact ⟨mes,clock,by rw[hb B hB]; exact h1,h0,h2,fun i hi=>⟨(h3 i hi).1.turn hsz hb hr hmp,(h3 i hi).2.turn hsz hb hr hmp⟩,h4,h5⟩
 | bg5 s pos=>exact ⟨by rw[hb B hB]; exact h.1,h.2⟩
 | loop N tmps params assign body st pend=>
  obtain ⟨hd,l,h1,h2,h3,h4,h5,h6,h7,h8⟩:=h
  exact ⟨hd,l,by rw[hb B hB]; exact h1,h2,h3,h4,h5,h6,h7,fun t=>(h8 t).turn hsz hb hr hmp⟩
 | as3 left cur=>
  obtain ⟨hd,mb,last,seen,mes,clock,lft,h1,h2,h3,h4,h5,h6,h7,h8,hc,h9⟩:=h;have hm:mb≠r:=fun e=>by subst e; exact hmp _ _ h3
  exact ⟨hd,mb,last,seen,mes,clock,lft,by rw[hb B hB]; exact h1,⟨by rw[hsz]; exact h2.1,h2.2,h2.3⟩,by rw[hb mb hm]; exact h3,h4,h5,h6,h7,h8,fun c e=>let ⟨i,g1,g2,g3,g4⟩:=hc c e; ⟨i,g1,g2,g3.turn hsz hb hr hmp,g4.turn hsz hb hr hmp⟩,fun i hi=>⟨(h9 i hi).1.turn hsz hb hr hmp,(h9 i hi).2.turn hsz hb hr hmp⟩⟩
theorem Sim.turn {r:Nat}(hsz:w'.heap.size=w.heap.size)(hb:∀ b,b≠r->w'.heap[b]? = w.heap[b]?)(hr:∀ rcs el fz,w.heap[r]?≠zb (Obj.cells rcs el fz))(hmp:∀ mes c,w.heap[r]?≠zb (Obj.map mes c))(hfb:UB ρ w r)(hs:Sim E ρ w σ):Sim E ρ w' σ :=
 ⟨hs.inj,fun i B d h=>by rw[hsz]; exact hs.lt i B d h,fun i B d h=>let ⟨o,h1,h2⟩:=hs.obj i B d h; ⟨o,h1,h2.turn hsz hb hr hmp (fun e=>hfb.2 i d (by rw[<- e]; exact h))⟩,hs.dead,hs.fresh,hs.aw1,fun g=>(hs.env g).turn hsz hb hr hmp,hs.nx,fun b h=>by rw[hsz]; exact hs.xlt b h⟩
def jy8 (P:Program)(σ:Store)(fr:Frm):ResultVar->Option IV
 | .tmp t=>zb (fr.get t)
 | .cell ad t=>match ap6 P t with
  | some agg=>az4 σ agg (fr.get ad)
  | none=>zc
def hw9 (P:Program)(σ:Store)(fr:Frm):List ResultVar->Option (List IV)
 | []=>zb []
 | r::rs=>match jy8 P σ fr r,hw9 P σ fr rs with
  | some v,zb vs=>zb (v::vs)
  | _,_=>zc
def fr5:List IV->IV
 | [v]=>v
 | vs=>.tuple vs
def fg3 (tmps:Array Value):ResultVar->Sem Value
 | .tmp t=>pure (tmps.getD t undef)
 | .cell a t=>do loadVar t (<- asAddr (tmps.getD a undef))
theorem fr6 (fn:Func)(tmps:Array Value):results fn tmps=(do let vs <- fn.results.mapM (fg3 tmps); pure (if h:vs.size=1 then vs[0] else .tuple vs)):=by
 unfold results;refine congrArg (fun m:Sem (Array Value)=>m >>= fun vs=>pure (if h:vs.size=1 then vs[0] else .tuple vs)) ?_;refine congrArg (fun g=>fn.results.mapM g) ?_;funext x;cases x<;>rfl
theorem fr7 {tmps:Array Value}(hs:Sim E ρ w σ)(hf:FR ρ w N fr tmps):∀ (rs:List ResultVar) (vs:List IV),hw9 P σ fr rs=zb vs ->
  ∃ rvs:List Value,(rs.mapM (fg3 tmps)).run P w=.ok rvs w/\CR ρ w vs rvs.toArray:=by
 intro rs
 induction rs with
 | nil=>intro vs h; cases h; exact ⟨[],rfl,rfl,fun i hi=>by simp at hi⟩
 | cons r rs ih=>
  intro vs h;simp only[hw9] at h;split at h
  ·rename_i v vs' h1 h2;cases h;obtain ⟨rvs,hr,hc⟩:=ih vs' h2
   have one:∃ x,(fg3 tmps r).run P w=.ok x w/\VR ρ w v x:=by
    cases r with
    | tmp t=>cases h1; exact ⟨_,rfl,hf.get t⟩
    | cell ad t=>
     simp only[jy8] at h1;split at h1
     ·rename_i agg hk;have hv:=hf.get ad;obtain ⟨x,hx,hvx⟩:=dl5 hs hk h1 hv
      have hp:∃ ad',tmps.getD ad undef=.pointer (zb ad'):=by
       unfold az4 at h1
       cases hc:aq2 σ (fr.get ad) with
       | none=>rw[hc] at h1; cases h1
       | some cs=>obtain ⟨b,o,he,_⟩:=cc2 hs hv hc; exact ⟨_,he⟩
      obtain ⟨ad',he⟩:=hp;rw[he] at hx;refine ⟨x,?_,hvx⟩;show (do loadVar t (<- asAddr (tmps.getD ad undef)):Sem Value).run P w=.ok x w;rw[he]
      simpa [Instr.loadAt,Instr.sureAddr,asAddr] using hx
     ·cases h1
   obtain ⟨x,hx,hvx⟩:=one;refine ⟨x::rvs,?_,by have:=hc.1; simp at this ⊢; exact this,fun i hi=>?_⟩
   ·rw[List.mapM_cons];simp only[Sem.run_bind,hx,hr,Result.andThen_ok,Sem.run_pure]
   ·cases i with
    | zero=>simpa using hvx
    | succ i=>simpa [zd] using hc.2 i (by simpa using hi)
  ·cases h
theorem eb1 {fn:Func}{tmps:Array Value}{vs:List IV}(hs:Sim E ρ w σ)(hf:FR ρ w N fr tmps)(h:hw9 P σ fr fn.results.toList=zb vs) :
  ∃ x,(results fn tmps).run P w=.ok x w/\VR ρ w (fr5 vs) x:=by
 obtain ⟨rvs,hr,hc⟩:=fr7 (P:=P) hs hf fn.results.toList vs h
 have hm:(fn.results.mapM (fg3 tmps)).run P w=.ok rvs.toArray w:=by
  obtain ⟨l,hl⟩:∃ l,fn.results=⟨l⟩:=⟨fn.results.toList,rfl⟩;rw[hl] at hr ⊢;rw[List.mapM_toArray,Sem.run_map,hr];rfl
 rw[fr6];simp only[Sem.run_bind,hm,Result.andThen_ok]
 match vs,rvs,hc with
 | [],[],hc=>exact ⟨_,rfl,.tuple _ _ hc.1 hc.2⟩
 | [v],[x],hc=>exact ⟨x,rfl,by have:=hc.2 0 (by simp); simpa [fr5] using this⟩
 | v::v'::vs,x::x'::rvs,hc=>exact ⟨.tuple (x::x'::rvs).toArray,rfl,.tuple _ _ hc.1 hc.2⟩
 | [],x::rvs,hc=>exact absurd hc.1 (by simp)
 | [v],[],hc=>exact absurd hc.1 (by simp)
 | v::v'::vs,[],hc=>exact absurd hc.1 (by simp)
 | v::v'::vs,[x],hc=>exact absurd hc.1 (by simp)
 | [v],x::x'::rvs,hc=>exact absurd hc.1 (by simp)
def bm1:List IV->Nat->Frm
 | [],_=>[]
 | v::vs,i=>(i,v)::bm1 vs (i+1)
theorem go7 (vs:List IV):∀ (i t:Nat),(bm1 vs i).get t=if i<=t then vs.getD (t-i) .undef else .undef:=by
 induction vs with
 | nil=>intro i t; simp[bm1,Frm.get]
 | cons v vs ih=>
  intro i t;have:bm1 (v::vs) i=(bm1 vs (i+1)).set i v:=rfl;rw[this,Frm.ci3,ih];by_cases h:t=i
  ·subst h; simp
  ·rw[if_neg h];by_cases h1:i<=t
   ·have h2:i+1<=t:=by omega
    rw[if_pos h1,if_pos h2,show t-i=(t-(i+1))+1 from by omega];simp
   ·have h2:¬ (i+1<=t):=by omega
    rw[if_neg h1,if_neg h2]
theorem ke4 {args:List IV}{rargs:Array Value}(hc:CR ρ w args rargs)(hl:args.length<=N):FR ρ w N (bm1 args 0) (rargs++zh (N-rargs.size) undef):=by
 refine ⟨by rw[hc.1] at hl; simp; omega,fun t=>?_⟩;rw[go7];simp only[Nat.zero_le,if_true,Nat.sub_zero];by_cases h:t<args.length
 ·have h':t<rargs.size:=by rw[<- hc.1]; exact h
  have:=hc.2 t h
  have e:(rargs++zh (N-rargs.size) undef).getD t undef=rargs.getD t undef:=by
   simp[zd,zg,h']
  rw[e]; exact this
 ·have:args.getD t .undef=.undef:=by simp[ze,List.getElem?_eq_none (Nat.le_of_not_lt h)]
  rw[this]; exact .undef _
theorem fr8 (w:World)(r b:Nat)(o:Obj)(h:b≠r):(w.putObj r o).heap[b]? = w.heap[b]?:=by
 have h':¬ r=b:=fun e=>h e.symm
 show (w.heap.setIfInBounds r o)[b]? = _;rw[Array.getElem?_setIfInBounds];simp[h']
theorem el5 {F:Fence}{n0 h0:Nat}{fn:Func}{tmps:Array Value}{Rw:Ending->World->Prop}{v:IV}{ρ0:Rho}{w0:World}{vs:List IV}
  (hfin:∀ x w',Sim E ρ w' σ->VR ρ w' (fr5 vs) x->bg7 n0 ρ0 w0 ρ w'->Rw (.returned x) w') (hres:hw9 P σ fr fn.results.toList=zb vs) (hh:w0.heap.size<=h0) :
  ∀ (ds:List Deferred) (w:World),Sim E ρ w σ->FR ρ w N fr tmps->DF h0 ρ w ds->bg7 n0 ρ0 w0 ρ w->LeavesInM F n P fn tmps Rw ds .returning w:=by
 intro ds
 induction ds with
 | nil=>
  intro w hs hf _ hx;obtain ⟨x,hx',hv⟩:=eb1 (P:=P) hs hf hres
  exact ⟨x,hx',hfin x w hs hv hx⟩
 | cons d ds ih=>
  intro w hs hf hd hx
  cases hd with
  | cons r _ hr hb hh1 hn hd'=>
   have hsz:(w.putObj r (.deferred zc)).heap.size=w.heap.size:=by show (w.heap.setIfInBounds r _).size=_; simp
   have hne:∀ (rcs:Array Value) (el:TypeId) (fz:Nat×Nat),w.heap[r]?≠zb (Obj.cells rcs el fz):=fun _ _ _ h=>by rw[hr] at h; cases h
   have hnm:∀ (mes:Array MapEntry) (c:Nat),w.heap[r]?≠zb (Obj.map mes c):=fun _ _ h=>by rw[hr] at h; cases h
   have hg:∀ b,b≠r->(w.putObj r (.deferred zc)).heap[b]? = w.heap[b]?:=fun b h=>fr8 w r b _ h
   refine ⟨(fun h=>by cases h),.inl ⟨r,w.putObj r (.deferred zc),rfl,run_takeDeferred hr,?_⟩⟩;refine ih _ (hs.turn hsz hg hne hnm hb) ⟨hf.size,fun t=>(hf.get t).turn hsz hg hne hnm⟩ ?_ ?_
   ·have:∀ ds',DF h0 ρ w ds'->(∀ d∈ds',d.target=.collected r->False)->DF h0 ρ (w.putObj r (.deferred zc)) ds':=by
     intro ds' hd
     induction hd with
     | nil hz=>intro _; exact .nil (by rw[hsz]; exact hz)
     | cons r' ds'' hr' hb' hh' hn' _ ih'=>
      intro hno;have hrr:r'≠r:=fun e=>hno { target:=.collected r',args:=#[] } (by simp) (by rw[e])
      exact .cons r' ds'' (by rw[hg r' hrr]; exact hr') ⟨by rw[hsz]; exact hb'.1,hb'.2⟩ hh' hn' (ih' (fun d hd=>hno d (by simp[hd])))
    exact this ds hd' hn
   ·refine ⟨by rw[hsz]; exact hx.size,fun b hb'=>?_,fun b rcs el fz hb'=>?_,hx.img,hx.at_,hx.dead,hx.no,hx.output,hx.os,hx.tape,fun l L hl=>?_,hx.X⟩
    ·rw[hg b (by have:=hb'.1; omega)]; exact hx.keep b hb'
    ·have hlt:=(zf.1 hb').1;rw[hg b (by omega)]; exact hx.shape b rcs el fz hb'
    ·have hlt:=(zf.1 hl).1;rw[hg l (by omega)]; exact hx.loops l L hl
def kt3 (P:Program)(rs:List ResultVar)(Qc:IV->Store->Prop):Exit->Frm->Store->Prop
 | .normal,fr,σ|.ret,fr,σ=>∃ vs,hw9 P σ fr rs=zb vs/\Qc (fr5 vs) σ
 | _,_,_=>False
theorem jo3 {f:FuncId}{fn:Func}{c:Code}{args:List IV}{Qc:IV->Store->Prop}(hf:P.funcs[f]? = zb fn)(hb:fn.body=zb c)(hN:fn.ntmps=N)(hl:args.length<=N)
  (h:R P E N σ.next c (bm1 args 0) σ (kt3 P fn.results.toList Qc)):C P E f args σ Qc:=by
 intro ρ w rargs hs hc;refine callsIn_of_wp_marks hf hb trivial ?_;have hfr:=ke4 hc hl;rw[<- hN] at hfr;refine wpIn_mono (h (za _) zc w.heap.size ρ w { tmps:=rargs++zh (fn.ntmps-rargs.size) undef,defers:=[] } hs (by rw[hN] at hfr ⊢; exact hfr) (.nil (za _)) (fun l e=>by cases e)) ?_;rintro e a' w' ⟨fr',σ',ρ',hn',q,hs',hf',hd',_,hx⟩
 have fin:(∃ vs,hw9 P σ' fr' fn.results.toList=zb vs/\Qc (fr5 vs) σ')->LeavesInM Fence.wide 0 P fn a'.tmps (fun e w'=>∃ v r ρ' σ',e=.returned r/\Qc v σ'/\Sim E ρ' w' σ'/\VR ρ' w' v r/\bg7 σ.next ρ w ρ' w') a'.defers .returning w':=by
  rintro ⟨vs,hr,hq⟩;exact el5 (v:=.undef) (n0:=σ.next) (ρ0:=ρ) (w0:=w) (h0:=w.heap.size) (fun x w'' hs'' hv'' hx''=>⟨fr5 vs,x,ρ',σ',rfl,hq,hs'',hv'',hx''⟩) hr (za _) a'.defers w' hs' hf' hd' hx
 cases e with
 | normal=>exact fin q
 | ret=>exact fin q
 | _=>exact q.elim
end Go.Id
namespace Go.Id
open Go
variable {P:Program} {w w' w'':World} {ρ ρ' ρ'':Rho} {E:Nat->IV} {σ σ':Store} {N n n':Nat} {fr:Frm} {a:Act}
theorem cw5 {l₀:Nat}{r₀:Loop}(h:w.heap[l₀]? = zb (.loop r₀))(fn:FuncId)(tmps:Array Value)(ps:Array Tmp)(assign body:Code) :
  (Instr.enterLoop fn tmps ps assign body (zb l₀)).run P w =
   .ok (w.heap.size,[]) (w.alloc (.loop { state:=.ready,pending:=zc,fn,tmps,params:=ps,assign,body,defers:=r₀.defers })):=by
 unfold Instr.enterLoop;simp only[Sem.run_bind,run_getLoop h,run_newObj_alloc,Result.andThen,Sem.run_pure]
theorem bt2 (n:Nat)(o:Obj):Ext n ρ w ρ (w.alloc o) where
 size:=by show w.heap.size<=(w.heap.push o).size; simp
 keep:=fun b hb=>az6 w o b hb.1
 shape:=fun b rcs el fz hb=>⟨rcs,by rw[az6 w o b (zf.1 hb).1]; exact hb,rfl⟩
 img:=fun i B d hi=>.inl ⟨i,d,hi⟩
 at_:=fun _ _ _ h=>.inl h
 dead:=fun _ h=>h
 no:=fun _ _ h=>h
 output:=rfl
 os:=rfl
 tape:=⟨rfl,za _⟩
 loops:=fun l L hl=>⟨L,by rw[az6 w o l (zf.1 hl).1]; exact hl⟩
 X:=rfl
theorem fr9 (o:Obj)(hs:Sim E ρ w σ):Sim E ρ (w.alloc o) σ :=
 ⟨hs.inj,fun i B d h=>by have:=hs.lt i B d h; show B<(w.heap.push o).size; rw[Array.size_push]; omega,
  fun i B d h=>let ⟨o',h1,h2⟩:=hs.obj i B d h; ⟨o',h1,h2.mono (bt2 0 o) (az6 w o B (hs.lt i B d h))⟩,hs.dead,hs.fresh,hs.aw1,fun g=>(hs.env g).mono (bt2 0 o),hs.nx,fun b h=>by have:=hs.xlt b h; show b<(w.heap.push o).size; rw[Array.size_push]; omega⟩
theorem cd8 {n l d id:Nat}{L L':Loop}(hid:ρ id=.at l d)(hb:w.heap[l]? = zb (.loop L)):Ext n ρ w ρ (w.putObj l (.loop L')) where
 size:=by rw[World.putObj_size]; exact za _
 keep:=fun b hfb=>World.putObj_heap_other (fun h=>by subst h; exact hfb.2 id d hid)
 shape:=fun b rcs el fz hb'=>by
  have h:b≠l:=fun h=>by subst h; rw[hb] at hb'; cases hb'
  exact ⟨rcs,by rw[World.putObj_heap_other h]; exact hb',rfl⟩
 img:=fun i B d h=>.inl ⟨i,d,h⟩
 at_:=fun _ _ _ h=>.inl h
 dead:=fun _ h=>h
 no:=fun _ _ h=>h
 output:=rfl
 os:=rfl
 tape:=⟨rfl,za _⟩
 loops:=fun k K hk=>by
  by_cases h:k=l
  ·subst h; exact ⟨L',World.putObj_heap_same (zf.1 hb).1⟩
  ·exact ⟨K,by rw[World.putObj_heap_other h]; exact hk⟩
 X:=rfl
theorem eb2 {id l d:Nat}{L L':Loop}{o:aj5}(hs:Sim E ρ w σ)(hid:ρ id=.at l d)(hb:w.heap[l]? = zb (.loop L))(ho:OR ρ (w.putObj l (.loop L')) l d o):Sim E ρ (w.putObj l (.loop L')) (σ.put id o) where
 inj:=hs.inj
 lt:=fun i B' d' h=>by rw[World.putObj_size]; exact hs.lt i B' d' h
 obj:=fun i B' d' hi=>by
  simp only[Store.put];by_cases h:i=id
  ·subst h; rw[hid] at hi; cases hi; exact ⟨o,by simp,ho⟩
  ·obtain ⟨o',h1,h2⟩:=hs.obj i B' d' hi;have hne:B'≠l:=fun e=>h (hs.inj i id l d' d (by rw[hi,e]) hid)
   exact ⟨o',by simp[h,h1],h2.mono (cd8 (n:=0) hid hb) (World.putObj_heap_other hne)⟩
 dead:=fun i hi=>by
  have:i≠id:=fun e=>by subst e; rw[hid] at hi; cases hi
  simp[Store.put,this,hs.dead i hi]
 fresh:=fun i hi=>hs.fresh i hi
 aw1:=fun i hi=>by
  have:i≠id:=fun e=>by subst e; rw[hid] at hi; cases hi
  simp[Store.put,this,hs.aw1 i hi]
 env:=fun g=>(hs.env g).mono (cd8 (n:=0) hid hb)
 nx:=hs.nx
 xlt:=fun b h=>by rw[World.putObj_size]; exact hs.xlt b h
def dk6 (fr:Frm):List Nat->List IV->Frm
 | p::ps,v::vs=>dk6 (fr.set p v) ps vs
 | _,_=>fr
theorem hx8:∀ (ps:List Nat) (args:List IV) (rargs:List Value) (fr:Frm) (tmps:Array Value),(∀ p∈ps,p<N)->args.length=ps.length->rargs.length=ps.length ->
  (∀ i,i<args.length->VR ρ w (args.getD i .undef) (rargs.getD i undef))->FR ρ w N fr tmps->FR ρ w N (dk6 fr ps args) ((ps.zip rargs).foldl (fun tmps (t,a)=>tmps.setIfInBounds t a) tmps):=by
 intro ps
 induction ps with
 | nil=>intro args rargs fr tmps _ h1 h2 _ hf; exact hf
 | cons p ps ih=>
  intro args rargs fr tmps hp h1 h2 hv hf
  match args,rargs,h1,h2 with
  | v::vs,r::rs,h1,h2=>
   refine ih vs rs _ _ (fun q hq=>hp q (by simp[hq])) (by simpa using h1) (by simpa using h2) (fun i hi=>?_) (hf.set (hp p (by simp)) ?_)
   ·have:=hv (i+1) (by simpa using hi)
    simpa [ze] using this
   ·have:=hv 0 (by simp)
    simpa [ze] using this
theorem el6 (l:Nat):Fence.wide.inRound l=fw (zb l):=rfl
def jo4 (id:Nat)(L:LoopState->Option Code->aj5)(K:IV->Store->Prop):Exit->Frm->Store->Prop
 | .normal,_,σ=>σ.obj id=zb (L .busy zc)/\K (.bool true) (σ.put id (L .ready zc))
 | .ret,_,σ=>σ.obj id=zb (L .busy zc)/\K (.bool false) (σ.put id (L .done (zb .ret)))
 | .exit i,_,σ=>σ.obj id=zb (L .busy zc)/\K (.bool false) (σ.put id (L .done (zb (.exit i))))
 | _,_,_=>False
theorem jo5 {id:Nat}{ps:List Nat}{asg body:Code}{args:List IV}{K:IV->Store->Prop}(hps:∀ p∈ps,p<N)(hl:args.length=ps.length)(ho:σ.obj id=zb (.loop N fr ps.toArray asg body .ready zc))
  (h:R P E N σ.next asg (dk6 fr ps args) σ fun e f s=>e=.normal/\s.obj id=zb (.loop N fr ps.toArray asg body .ready zc) /\
   R P E N σ.next body f (s.put id (.loop N fr ps.toArray asg body .busy zc)) (jo4 id (fun s p=>.loop N fr ps.toArray asg body s p) K)):CYd P E id args σ K:=by
 intro ρ w rargs B d hs hc hid;obtain ⟨o,h1,h2⟩:=hs.obj id B d hid;rw[ho] at h1;cases h1;obtain ⟨hd,L,g1,g2,g3,g4,g5,g6,g7,g8⟩:=h2;subst hd;have hsz:rargs.size=L.params.size:=by rw[g2,<- hc.1]; simpa using hl
 have hlt:id<σ.next:=by
  rcases Nat.lt_or_ge id σ.next with h|h
  ·exact h
  ·have:=hs.fresh id h; rw[hid] at this; cases this
 refine ⟨L.fn,_,L.assign,L.body,run_yield g1 hsz,roundIn_of_wpIn trivial ?_⟩;rw[g3,g4,el6]
 have hfr:FR ρ w N (dk6 fr ps args) (zi (fun tmps (x:Tmp×Value)=>tmps.setIfInBounds x.1 x.2) L.tmps (L.params.zip rargs)):=by
  have:=hx8 (ρ:=ρ) (w:=w) ps args rargs.toList fr L.tmps hps hl (by rw[Array.length_toList,<- hc.1]; exact hl) (fun i hi=>by have:=hc.2 i hi; simpa [zd,ze] using this) ⟨g7,g8⟩
  have e:(zi (fun tmps (x:Tmp×Value)=>tmps.setIfInBounds x.1 x.2) L.tmps (L.params.zip rargs))=List.foldl (fun tmps (x:Tmp×Value)=>tmps.setIfInBounds x.1 x.2) L.tmps (ps.zip rargs.toList):=by
   rw[<- Array.foldl_toList,Array.toList_zip,g2]
  rw[e]; exact this
 refine wpIn_mono (h (za _) (zb B) w.heap.size ρ w { tmps:=zi (fun tmps (x:Tmp×Value)=>tmps.setIfInBounds x.1 x.2) L.tmps (L.params.zip rargs),defers:=[] } hs hfr (.nil (za _)) (fun l e=>by cases e; exact ⟨_,g1⟩)) ?_;rintro e a1 w1 ⟨f1,σ1,ρ1,hn1,⟨rfl,hob1,hbody⟩,hs1,hf1,hd1,hr1,hx1⟩
 have live:∀ {ρ':Rho} {w':World} {σ':Store} {st:LoopState} {pd:Option Code},bg7 σ.next ρ w ρ' w'->Sim E ρ' w' σ'->σ'.obj id=zb (.loop N fr ps.toArray asg body st pd)->ρ' id=.at B 0:=fun hx hs' hob=>by
  rcases hx.at_ id B 0 hlt hid with h|h
  ·exact h
  ·have:=hs'.dead id h; rw[hob] at this; cases this
 have hid1:=live hx1 hs1 hob1;obtain ⟨o1,k1,k2⟩:=hs1.obj id B 0 hid1;rw[hob1] at k1;cases k1;obtain ⟨hd0,L1,e1,e2,e3,e4,e5,e6,e7,e8⟩:=k2;have hB1:=hs1.lt id B 0 hid1;refine ⟨_,run_beginRound e1 e6,?_⟩;have hx2:∀ m,Ext m ρ1 w1 ρ1 (w1.putObj B (.loop { L1 with state:=.busy })):=fun m=>cd8 hid1 e1
 have hs2:Sim E ρ1 (w1.putObj B (.loop { L1 with state:=.busy })) (σ1.put id (.loop N fr ps.toArray asg body .busy zc)):=
  eb2 hs1 hid1 e1 ⟨rfl,{ L1 with state:=.busy },World.putObj_heap_same hB1,e2,e3,e4,e5,rfl,e7,fun t=>(e8 t).mono (hx2 0)⟩
 have hxw:=(hx2 σ.next).weak (za σ.next);refine wpIn_mono (hbody hn1 (zb B) w.heap.size ρ1 _ a1 hs2 (hf1.mono (hx2 0)) (hd1.mono hxw) (hr1.mono hxw)) ?_;rintro e a' w' ⟨fr',σ',ρ',hn',q,hs',hf',hd',hr',hx⟩
 have fin:∀ (jump:Option Code) (st:LoopState),st=(if jump.isNone then .ready else .done)->σ'.obj id=zb (.loop N fr ps.toArray asg body .busy zc)->K (.bool jump.isNone) (σ'.put id (.loop N fr ps.toArray asg body st jump)) ->
   ∃ v w₂,(Instr.endRound B jump).run P w'=.ok v w₂/\∃ v' r ρ'' σ'',Ending.returned v=.returned r/\K v' σ''/\Sim E ρ'' w₂ σ''/\VR ρ'' w₂ v' r/\bg7 σ.next ρ w ρ'' w₂:=by
  intro jump st hst hob hK;have hxT:bg7 σ.next ρ w ρ' w':=(hx1.trans hxw).trans hx;have hid':=live hxT hs' hob;obtain ⟨o',k1,k2⟩:=hs'.obj id B 0 hid';rw[hob] at k1;cases k1;obtain ⟨hd2,L',f1,f2,f3,f4,f5,f6,f7,f8⟩:=k2;have hB':=hs'.lt id B 0 hid';have hx3:∀ m,Ext m ρ' w' ρ' (w'.putObj B (.loop { L' with state:=if jump.isNone then .ready else .done,pending:=jump })):=fun m=>cd8 hid' f1
  refine ⟨_,_,run_endRound jump f1,_,_,ρ',_,rfl,hK,eb2 hs' hid' f1 ⟨rfl,_,World.putObj_heap_same hB',f2,f3,f4,rfl,hst.symm,f7,fun t=>(f8 t).mono (hx3 0)⟩,.bool _,?_⟩;exact hxT.trans ((hx3 σ.next).weak (za _))
 cases e with
 | normal=>exact fin zc .ready rfl q.1 q.2
 | ret=>exact fin (zb .ret) .done rfl q.1 q.2
 | exit i=>exact fin (zb (.exit i)) .done rfl q.1 q.2
 | goto t=>exact q.elim
 | panic c=>exact q.elim
 | outgrown=>exact q.elim
def ke5 (Q:Exit->Frm->Store->Prop)(fr:Frm)(σ:Store):Option Code->Prop
 | none=>Q .normal fr σ
 | some .ret=>Q .ret fr σ
 | some (.exit i)=>Q (.exit i) fr σ
 | _=>False
def CVf (P:Program)(E:Nat->IV)(fv:IV)(args:List IV)(σ:Store)(Q:IV->Store->Prop):Prop :=
 match fv with
 | .func (.func f) first cap=>okF P f=true/\C P E f (first++args++cap) σ Q
 | _=>False
theorem CVf.mono {fv:IV}{args:List IV}{Q Q':IV->Store->Prop}(h:CVf P E fv args σ Q)(hq:∀ v s,Q v s->Q' v s):CVf P E fv args σ Q':=by
 unfold CVf at h ⊢;split at h
 ·exact ⟨h.1,h.2.mono hq⟩
 ·exact h.elim
theorem ev5 {n0:Nat}{g:Operand}{gx:IX}{ps:List Nat}{asg body:Code}{Q:Exit->Frm->Store->Prop}(hg:aj3 g=zb gx)
  (h:CVf P E (gx.ev E fr) [.yield σ.next] ⟨σ.next+1,(σ.put σ.next (.loop N fr ps.toArray asg body .ready zc)).obj⟩
   fun _ σ2=>σ.next<=σ2.next/\∃ st pend,st≠.busy/\σ2.obj σ.next=zb (.loop N fr ps.toArray asg body st pend)/\ke5 Q fr (σ2.kill σ.next) pend) :
  R P E N n0 (.rangeFunc g ps.toArray asg body) fr σ Q:=by
 intro hn ro h0 ρ w a hs hf hd hr;refine wpIn_rangeFunc fun fn hfn=>?_
 have hent:∃ (mark:List Deferred) (wa:World) (df:Nat),(Instr.enterLoop fn a.tmps ps.toArray asg body ro).run P w=.ok (wa.heap.size,mark) (wa.alloc (.loop { state:=.ready,pending:=zc,fn,tmps:=a.tmps,params:=ps.toArray,assign:=asg,body,defers:=df })) /\
   Sim E ρ wa σ/\Ext n0 ρ w ρ wa/\DF h0 ρ wa (mark++a.defers)/\RO ro wa:=by
  cases ro with
  | none=>
   refine ⟨[{ target:=.collected w.heap.size,args:=#[] }],w.alloc (.deferred (zb [])),w.heap.size,?_,fr9 _ hs,bt2 _ _,?_,fun l e=>by cases e⟩
   ·have:=run_enterLoop_outer (P:=P) (w:=w) fn a.tmps ps.toArray asg body;rw[this];simp
   ·have hd1:=hd.mono ((bt2 (ρ:=ρ) (w:=w) n0 (.deferred (zb []))).weak (za _));refine .cons w.heap.size a.defers (World.alloc_heap_new _ _) ⟨by show w.heap.size<(w.heap.push _).size; simp,fun i d h=>?_⟩ hd.size (fun d hd' ht=>?_) hd1
    ·have:=hs.lt i _ d h; omega
    ·have:∀ ds,DF h0 ρ w ds->∀ d∈ds,d.target=.collected w.heap.size->False:=by
      intro ds hds
      induction hds with
      | nil=>intro d hd; cases hd
      | cons r ds hr hb _ _ _ ih=>
       intro d hd ht;rcases List.mem_cons.1 hd with rfl|hd
       ·cases ht; exact absurd hb.1 (Nat.lt_irrefl _)
       ·exact ih d hd ht
     exact this _ hd d hd' ht
  | some l0=>
   obtain ⟨L0,hL0⟩:=hr l0 rfl;exact ⟨[],w,L0.defers,cw5 hL0 fn a.tmps ps.toArray asg body,hs,Ext.refl _ _ _,hd,hr⟩
 obtain ⟨mark,wa,df,he,hsa,hxa,hda,hra⟩:=hent;generalize hL:({ state:=.ready,pending:=zc,fn,tmps:=a.tmps,params:=ps.toArray,assign:=asg,body,defers:=df }:Loop)=L at he;have hno:ρ σ.next=.no:=hsa.fresh _ (za _);have hxn:∀ m,m<=σ.next->Ext m ρ wa (ρ.put σ.next (.at wa.heap.size 0)) (wa.alloc (.loop L)):=fun m hm=>al5 hno hm
 have hs1:Sim E (ρ.put σ.next (.at wa.heap.size 0)) (wa.alloc (.loop L)) ⟨σ.next+1,(σ.put σ.next (.loop N fr ps.toArray asg body .ready zc)).obj⟩:=by
  have hs0:Sim E ρ wa ⟨σ.next+1,σ.obj⟩:=⟨hsa.inj,hsa.lt,hsa.obj,hsa.dead,fun i hi=>hsa.fresh i (Nat.le_of_succ_le hi),hsa.aw1,hsa.env,hsa.nx,hsa.xlt⟩;refine bz5 hs0 hno (Nat.lt_succ_self _) ⟨rfl,L,World.alloc_heap_new _ _,?_⟩;subst hL;exact ⟨rfl,rfl,rfl,rfl,rfl,hf.size,fun t=>((hf.get t).mono hxa).mono (hxn 0 (Nat.zero_le _))⟩
 have hyv:VR (ρ.put σ.next (.at wa.heap.size 0)) (wa.alloc (.loop L)) (.yield σ.next) (.func (.yield wa.heap.size) #[] #[]):=.yield _ wa.heap.size 0 (by simp[Rho.put]);have hx1:Ext n0 ρ w (ρ.put σ.next (.at wa.heap.size 0)) (wa.alloc (.loop L)):=hxa.trans (hxn n0 hn) (za _);have hgv:=(aa9 (a:=a) hg hs hf).mono hx1;generalize hfv:gx.ev E fr=fv at h hgv;generalize hrv:a.eval g=rv at hgv
 cases hgv with
 | func fnv first cap rf rc hy l1 l2 v1 v2=>
  cases fnv with
  | func f=>
   obtain ⟨hok,hc⟩:=h
   have hres:(resolve a.eval (rangeCall g wa.heap.size) 0).run P (wa.alloc (.loop L))=.ok { target:=.fn (.func f) rc,args:=rf++#[Value.func (.yield wa.heap.size) #[] #[]] } (wa.alloc (.loop L)):=by
    simp only[resolve,hrv,Deferred.ofValue,Sem.run_pure];simp[Act.eval]
   have hinv:(invoke (.fn (.func f) rc) (rf++#[Value.func (.yield wa.heap.size) #[] #[]])).run P (wa.alloc (.loop L))=.ok (.enter f (rf++#[Value.func (.yield wa.heap.size) #[] #[]]++rc)) (wa.alloc (.loop L)):=by
    simp only[invoke];exact ea8 hok
   refine ⟨wa.heap.size,mark,_,_,_,f,_,_,he,hres,fun _ _=>trivial,hinv,(fun h=>by cases h),?_⟩
   have hca:CR (ρ.put σ.next (.at wa.heap.size 0)) (wa.alloc (.loop L)) (first++[.yield σ.next]++cap) (rf++#[Value.func (.yield wa.heap.size) #[] #[]]++rc):=
    (CR.append ⟨l1,v1⟩ ⟨rfl,fun i hi=>by
     have:i=0:=by simpa using hi
     subst this; exact hyv⟩).append ⟨l2,v2⟩
   have hcall:CallsIn (fw ro) 0 P f (rf++#[Value.func (.yield wa.heap.size) #[] #[]]++rc) (wa.alloc (.loop L)) _:=hc _ _ _ hs1 hca;refine CallsIn.mono (F:=fw ro) (n:=0) hcall ?_;rintro e w3 ⟨v,r,ρ',σ2,rfl,⟨hnx,st,pend,hst,hob,hq⟩,hs',hv',hx⟩
   have hid':ρ' σ.next=.at wa.heap.size 0:=by
    rcases hx.at_ σ.next wa.heap.size 0 (Nat.lt_succ_self _) (by simp[Rho.put]) with h|h
    ·exact h
    ·have:=hs'.dead _ h; rw[hob] at this; cases this
   obtain ⟨o',k1,k2⟩:=hs'.obj _ _ _ hid';rw[hob] at k1;cases k1;obtain ⟨hd2,L',f1,f2,f3,f4,f5,f6,f7,f8⟩:=k2;have hbusy:L'.state≠.busy:=by rw[f6]; exact hst
   have hend:=run_endLoop (P:=P) f1 hbusy;refine ⟨pend,_,(by rw[<- f5]; exact hend),?_⟩;have hxl:∀ m,Ext m ρ' w3 ρ' (w3.putObj wa.heap.size (.loop { L' with state:=.exhausted })):=fun m=>cd8 hid' f1
   have hsl:=eb2 (L':={ L' with state:=.exhausted }) (o:=.loop N fr ps.toArray asg body .exhausted pend) hs' hid' f1 ⟨rfl,_,World.putObj_heap_same (hs'.lt _ _ _ hid'),f2,f3,f4,f5,rfl,f7,fun t=>(f8 t).mono (hxl 0)⟩;have hsk:=dy4 hsl hid'
   have hkk:((σ2.put σ.next (.loop N fr ps.toArray asg body .exhausted pend)).kill σ.next)=σ2.kill σ.next:=by
    unfold Store.put Store.kill;simp only;congr 1;funext i;by_cases h:i=σ.next<;>simp[h]
   rw[hkk] at hsk;have hxk:∀ m,Ext m ρ' (w3.putObj wa.heap.size (.loop { L' with state:=.exhausted })) (ρ'.put σ.next .dead) (w3.putObj wa.heap.size (.loop { L' with state:=.exhausted })):=fun m=>cc7 hid'
   have hxE:bg7 n0 ρ w (ρ'.put σ.next .dead) (w3.putObj wa.heap.size (.loop { L' with state:=.exhausted })):=
    ((hx1.weak (za _)).trans (hx.le (Nat.le_trans hn (Nat.le_succ _)))).trans (((hxl n0).weak (za _)).trans ((hxk n0).weak (za _)))
   have hxF:Ext n0 (ρ.put σ.next (.at wa.heap.size 0)) (wa.alloc (.loop L)) ρ' w3:=(hx.ext hs1.fresh).le (Nat.le_trans hn (Nat.le_succ _));have hxA:Ext n0 ρ w (ρ'.put σ.next .dead) (w3.putObj wa.heap.size (.loop { L' with state:=.exhausted })):=(hx1.trans hxF (za _)).trans ((hxl n0).trans (hxk n0) (za _)) (za _);have hxB:Ext n0 ρ wa (ρ'.put σ.next .dead) (w3.putObj wa.heap.size (.loop { L' with state:=.exhausted })):=((hxn n0 hn).trans hxF (za _)).trans ((hxl n0).trans (hxk n0) (za _)) (za _);have hfE:FR (ρ'.put σ.next .dead) (w3.putObj wa.heap.size (.loop { L' with state:=.exhausted })) N fr a.tmps:=hf.mono hxA;have hdE:=hda.mono (hxB.weak (za _));have hrE:=hra.mono (hxB.weak (za _));have hnE:n0<=(σ2.kill σ.next).next:=by show n0<=σ2.next; omega
   cases pend with
   | none=>exact ⟨fr,_,_,hnE,hq,hsk,hfE,hdE,hrE,hxE⟩
   | some c=>
    cases c with
    | ret=>exact wpIn_ret ⟨fr,_,_,hnE,hq,hsk,hfE,hdE,hrE,hxE⟩
    | exit i=>exact wpIn_exit ⟨fr,_,_,hnE,hq,hsk,hfE,hdE,hrE,hxE⟩
    | _=>exact hq.elim
  | _=>exact h.elim
 | _=>exact h.elim
end Go.Id
