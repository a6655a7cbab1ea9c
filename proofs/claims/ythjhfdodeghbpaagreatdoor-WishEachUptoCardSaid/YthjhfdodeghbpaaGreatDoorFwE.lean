/- Maps,made and written. Conditions: none; over any program. -/
import Derived.Test.YthjhfdodeghbpaaGreatDoorFwD3
import Derived.RangeFuncRecord
open Array renaming getD_eq_getD_getElem?→za,range→zh,getElem?_push→zk,getElem?_eq_getElem→zm,getElem?_eq_none→z0,toList_filter→z4,size_modify→z6
open List renaming getD_eq_getElem?_getD→zb,length_eq_zero_iff→zf,getElem?_eq_getElem→zn,mem_iff_getElem→zp,length_eraseIdx→zq,getD_cons_succ→zt,mem_filter→zy,eraseIdx_cons_succ→zz,filter_eq_self→z5
open Option renaming some→zc,none→ze,map_some→zu
open Nat renaming le_refl→zd,lt_of_lt_of_le→zg,lt_succ_self→zi,mul_le_mul_right→zj,add_zero→zo,one_mul→zw,add_mul→zx,zero_mul→z1,zero_add→z2,le_trans→z3
open Bool renaming false_eq_true→zl
open Classical renaming byContradiction→zv
open ByteArray renaming mk→z7
set_option linter.all false
private theorem sm{P:Prop}(h:P:=by simp):P:=h
namespace Go.Id
open Go
variable {P:Program} {w w':World} {ρ ρ':Rho} {E:Nat->IV} {σ:Store} {N:Nat} {fr:Frm} {a:Act}
def cd2 (w:World)(r b:Nat)(o:Obj)(h:b≠r):(w.putObj r o).heap[b]? = w.heap[b]?:=World.putObj_heap_other h
def bi8 {n id B d:Nat}{old o:Obj}(f:ρ id=.at B d)(j:w.heap[B]? = zc old)(hc:∀c el q,old≠.cells c el q)(m:∀L,old≠.loop L):Ext n ρ w ρ (w.putObj B o) where
 size:=by rw[World.putObj_size];exact zd _
 keep:=λb g=>cd2 w B b o (λh=>by subst h;exact g.2 id d f)
 shape:=λb c r p e=>by
  by_cases h:b=B
  .subst h;rw[j] at e;exact absurd (zc.inj e) (hc _ _ _)
  .exact ⟨c,by rw[cd2 w B b o h];exact e,rfl⟩
 img:=λi t s h=>.inl ⟨i,s,h⟩
 at_:=λ_ _ _ h=>.inl h
 dead:=λ_ h=>h
 no:=λ_ _ h=>h
 output:=rfl
 os:=rfl
 tape:=rfl
 loops:=λl L h=>by
  by_cases k:l=B
  .subst k;rw[j] at h;exact absurd (zc.inj h) (m L)
  .exact ⟨L,by rw[cd2 w B l o k];exact h⟩
 X:=rfl
def cj7 {id B d:Nat}{old k:Obj}{o:aj8}(hs:Sim E ρ w σ)(c:ρ id=.at B d)(r:w.heap[B]? = zc old)(hc:∀m el z,old≠.cells m el z)(q:∀L,old≠.loop L)
  (t:OR ρ (w.putObj B k) B d o):Sim E ρ (w.putObj B k) (σ.put id o) where
 inj:=hs.inj
 lt:=λi f j h=>by rw[World.putObj_size];exact hs.lt i f j h
 obj:=λi f j hi=>by
  simp only[Store.put];by_cases h:i=id
  .subst h;rw[c] at hi;cases hi;exact ⟨o,by simp,t⟩
  .have⟨s,y,x⟩:=hs.obj i f j hi;have p:f≠B:=λe=>h (hs.inj i id B j d (by rw[hi,e]) c)
   exact ⟨s,by simp[h,y],x.mono (bi8 (n:=0) c r hc q) (cd2 w B f k p)⟩
 dead:=λi hi=>by
  have:i≠id:=λe=>by subst e;rw[c] at hi;cases hi
  simp[Store.put,this,hs.dead i hi]
 fresh:=λi hi=>hs.fresh i hi
 aw6:=λi hi=>by
  have:i≠id:=λe=>by subst e;rw[c] at hi;cases hi
  simp[Store.put,this,hs.aw6 i hi]
 env:=λg=>(hs.env g).mono (bi8 (n:=0) c r hc q)
 nx:=hs.nx
 xlt:=λb u=>by rw[World.putObj_size];exact hs.xlt b u
def fv4 {t:TypeId}{id n:Nat}(hs:Sim E ρ w σ)(b:ρ id=.no)(c:id<σ.next)(e:n<=id) :
  cu2 P E id n ρ w a (.makeMap t ze) (.map id) (σ.put id (.map [])):=by
 intro o d;refine ⟨.value (.map (zc w.heap.size)),.map (zc w.heap.size),ρ.put id (.at w.heap.size 0),w.alloc (.map #[] 0),?_,.inl rfl,bz3 hs b c ?_,.map id w.heap.size 0 (by simp[Rho.put]),am4 b e,aj1.put _ _ _⟩
 .unfold execOp;rw[d];simp[Instr.makeMap]
 .exact ⟨#[],0,by show (w.heap.push _)[w.heap.size]? = _;simp,rfl,rfl,λi hi=>by simp at hi,λi hi=>by simp at hi,λi j _ f=>by simp at f⟩
def eh5 (tag:Nat)(k v:IV):List (IV×IV)->Option (List (IV×IV))
 | []=>match kOK tag k with
  | true=>zc [(k,v)]
  | false=>ze
 | e::es=>match ao9 tag k e.1 with
  | some true=>zc ((k,v)::es)
  | some false=>(eh5 tag k v es).map (e::·)
  | none=>ze
def ap3 (σ:Store)(tag:Nat)(x k v:IV):Option Store :=
 match x with
 | .map id=>match σ.obj id with
  | some (.map es)=>(eh5 tag k v es).map λes'=>σ.put id (.map es')
  | _=>ze
 | _=>ze
def je9 {c:Nat}{k v:IV}{es d:List (IV×IV)}(h:eh5 c k v es=zc d):kOK c k=true:=by
 cases es with
 | nil=>
  simp only[eh5] at h;split at h
  .assumption
  .cases h
 | cons e es=>
  simp only[eh5] at h
  cases f:ao9 c k e.1 with
  | none=>rw[f] at h;cases h
  | some b=>exact ix9 f
def jf1 {c:Nat}{k v:IV}:∀(es d:List (IV×IV)),eh5 c k v es=zc d->∃q:Option Nat,(q=ze->∀e∈es,ao9 c k e.1=zc false)/\(∀j,q=zc j->j<es.length/\ao9 c k (es.getD j (.undef,.undef)).1=zc true/\∀i,i<j->ao9 c k (es.getD i (.undef,.undef)).1=zc false) /\
  d=(match q with|none=>es++[(k,v)]|some j=>es.set j (k,v)):=by
 intro es
 induction es with
 | nil=>
  intro d h;refine ⟨ze,(λ_ e p=>by cases p),(λj f=>by cases f),?_⟩;simp only[eh5] at h;split at h<;>cases h
  rfl
 | cons e es ih=>
  intro d h;simp only[eh5] at h
  cases g:ao9 c k e.1 with
  | none=>rw[g] at h;cases h
  | some b=>
   rw[g] at h
   cases b with
   | true=>cases h;exact ⟨zc 0,(λh=>by cases h),(λj f=>by cases f;exact ⟨by simp,by simpa using g,λi hi=>absurd hi (Nat.not_lt_zero _)⟩),rfl⟩
   | false=>
    have⟨o,n,r⟩:=map_some h;subst r;have⟨q,t,s,n⟩:=ih o n;refine ⟨q.map (·+1),λh=>?_,λj f=>?_,?_⟩
    .cases q with
     | none=>intro x m;rcases List.mem_cons.1 m with rfl|m;exact g;exact t rfl x m
     | some j=>cases h
    .cases q with
     | none=>cases f
     | some j0=>
      cases f;have⟨z,y,u⟩:=s j0 rfl;refine ⟨by simpa using z,by simpa using y,λi hi=>?_⟩;have hi:i<j0+1:=hi
      cases i with
      | zero=>simpa using g
      | succ i=>have:=u i (by omega);simpa using this
    .rw[n];cases q<;>simp
def gq3 {b:Nat}{k e:IV}{c d:Value}(m:Nat)(h:al1 b k e=zc true)(g:VR ρ w k c)(i:VR ρ w e d):d=c/\Instr.sameBits m d c=true:=by
 unfold al1 at h;split at h
 .cases g;cases i;simp at h;subst h;exact ⟨rfl,by simp[Instr.sameBits]⟩
 .cases g;cases i;split at h
  .rename_i f;simp at h;subst h;subst f;exact ⟨rfl,by simp[Instr.sameBits]⟩
  .cases h
 .cases g;cases i;simp at h;subst h;exact ⟨rfl,by simp[Instr.sameBits,iy1]⟩
 .cases h
def if4 {b:Nat}{k e:IV}{o q:Value}(h:ao9 b k e=zc true)(u:VR ρ w k o)(A:VR ρ w e q):q=o/\Instr.sameBits 10000 q o=true:=by
 by_cases I:b<3
 .rw[cc8 I] at h;exact gq3 _ h u A
 .obtain ⟨n,rfl⟩:∃n,b=n+3:=⟨b-3,by omega⟩;obtain ⟨xs,L,rfl,rfl,f⟩:=bp4 h;obtain ⟨ks,F,K,S,Q,M,rfl,rfl,H⟩:=bs5 f;have B:F=K:=by simpa using H
  subst B;generalize r:(ks.zip F).map (λp=>IV.int p.1 p.2)=xs at u A
  have g:∀x∈xs,∃k n,x=.int k n:=by
   subst r;intro x D;obtain ⟨p,_,rfl⟩:=List.mem_map.1 D;exact ⟨_,_,rfl⟩
  cases u with
  | agg _ rxs D vx=>
   cases A with
   | agg _ rys hy vy=>
    have d:∀i,i<rxs.size->∃k n,rxs[i]? = zc (.int k n)/\rys[i]? = zc (.int k n):=by
     intro i hi;have c:i<xs.length:=by omega
     have⟨k,n,t⟩:=g (xs.getD i .undef) (by rw[zb,zn c];exact List.getElem_mem c);have m:=vx i c;have j:=vy i c;rw[t] at m j
     have e1:rxs.getD i undef=.int k n:=by
      generalize rxs.getD i undef=z at m;cases m;rfl
     have e2:rys.getD i undef=.int k n:=by
      generalize rys.getD i undef=z at j;cases j;rfl
     refine ⟨k,n,?_,?_⟩
     .rw[ae3 _ _ _ hi] at e1;rw[zm hi,e1]
     .rw[ae3 _ _ _ (by omega)] at e2;rw[zm (by omega),e2]
    have y:rys=rxs:=by
     apply Array.ext_getElem?;intro i;by_cases hi:i<rxs.size
     .have⟨k,n,f,J⟩:=d i hi;rw[f,J]
     .rw[z0 (by omega),z0 (by omega)]
    subst y;refine ⟨rfl,?_⟩;rw[show (10000:Nat)=9999+1 from rfl,Instr.sameBits];simp only[beq_self_eq_true,Bool.true_and,List.all_eq_true];intro p hp;have⟨i,hi,s⟩:=zp.1 hp;simp only[List.length_zip,Array.length_toList,Nat.min_self] at hi;have⟨k,n,f,_⟩:=d i hi;have e1:rys[i]=.int k n:=by rw[zm hi] at f;exact zc.inj f
    have:p=(rys[i],rys[i]):=by rw[<- s];simp
    rw[this,e1];simp[Instr.sameBits]
def db3 {t kt et:TypeId}{F:Nat}{x k v:Operand}{ix ik iv:IX}{n id0:Nat}{σ':Store}(hu:P.underlying t=zc (.map kt et))(ht:ib7 P kt=zc F)
  (H:ak1 x=zc ix) (hk:ak1 k=zc ik) (hv:ak1 v=zc iv) (h:ap3 σ F (ix.ev E fr) (ik.ev E fr) (iv.ev E fr)=zc σ')
  (hs:Sim E ρ w σ) (hf:FR ρ w N fr a.tmps):cu2 P E id0 n ρ w a (.mapUpdate t x k v) .undef σ':=by
 intro o ho;have vx:=ab1 H hs hf;have z:=ab1 hk hs hf;have T:=ab1 hv hs hf;generalize ix.ev E fr=ax at vx h;generalize ik.ev E fr=ak at z h;generalize iv.ev E fr=av at T h;generalize ac:a.eval x=rx at vx;generalize ae:a.eval k=rk at z;generalize ad:a.eval v=rv at T
 cases vx with
 | map id B dd hid=>
  simp only[ap3] at h;have⟨ob,ag,af⟩:=hs.obj id B dd hid;rw[ag] at h
  cases ob with
  | map es=>
   simp only at h;obtain ⟨s,y,rfl⟩:=map_some h;have⟨c,d,Y,g0,X,W,g4,g5⟩:=af;have aa:∀(i:Nat),c.toList.getD i default=c.getD i default:=λi=>by simp[zb,za]
   have hE:EsR ρ w es c.toList:=⟨by simpa using X,λi hi=>by rw[aa];exact W i hi⟩;have⟨r',q1,U,V⟩:=jf1 es s y;have S:∀b,(Instr.checkKey b 10000 kt rk).run P w=.ok () w:=λb=>ct9 ht (je9 y) z
   have h1:=dz2 ht z es c.toList hE r' q1 U;have hg:(getObj B).run P w=.ok (.map c d) w:=by simp[getObj,Sem.run,Y]
   have u:∀o,(setObj B o).run P w=.ok () (w.putObj B o):=λo=>by simp[setObj,Sem.run,Y,World.putObj]
   have ah:=hs.lt id B dd hid;have nc:∀(ab:Array Value) (el:TypeId) (fz:Nat×Nat),Obj.map c d≠.cells ab el fz:=λ_ _ _ h=>by cases h
   have nl:∀L,Obj.map c d≠.loop L:=λ_ h=>by cases h
   have H:∀(n:Nat) (o:Obj),Ext n ρ w ρ (w.putObj B o):=λn o=>bi8 hid Y nc nl
   have fin:∀(f:Array MapEntry) (m:Nat),(Instr.mapUpdate t (.map (zc B)) rk rv).run P w=.ok () (w.putObj B (.map f m))->s.length=f.size ->
     (∀i,i<s.length->VR ρ w (s.getD i (.undef,.undef)).1 (f.getD i default).key/\VR ρ w (s.getD i (.undef,.undef)).2 (f.getD i default).val) ->
     (∀i,i<f.size->(f.getD i default).born<m)->(∀i j,i<j->j<f.size->(f.getD i default).born≠(f.getD j default).born) ->
     ∃(x:Next) (r:Value) (ρ':Rho) (w':World),(execOp a.eval o).run P w=.ok x w'/\((x=.value r)\/(x=.skip/\r=undef))/\Sim E ρ' w' (σ.put id (.map s))/\VR ρ' w' .undef r/\Ext n ρ w ρ' w'/\aj1 id0 ρ ρ':=by
    intro f m J hl I ao an;refine ⟨.skip,undef,ρ,w.putObj B (.map f m),?_,.inr ⟨rfl,rfl⟩,cj7 hs hid Y nc nl ?_,.undef _,H n _,aj1.refl _ _⟩
    .unfold execOp;rw[ho];simp only[ac,ae,ad,Sem.run_bind,J,Result.andThen_ok];rfl
    .exact ⟨f,m,World.putObj_heap_same ah,g0,hl,λi hi=>⟨(I i hi).1.mono (H 0 _),(I i hi).2.mono (H 0 _)⟩,ao,an⟩
   cases r' with
   | none=>
    simp only at V;subst V;refine fin (c.push { key:=rk,val:=rv,born:=d }) (d+1) ?_ (by simp[X]) ?_ ?_ ?_
    .simp[Instr.mapUpdate,run_underlying hu,hg,S,h1,u]
    .intro i hi;by_cases q:i<es.length
     .have e1:(es++[(ak,av)]).getD i (.undef,.undef)=es.getD i (.undef,.undef):=by simp[zb,List.getElem?_append,q]
      have e2:(c.push { key:=rk,val:=rv,born:=d }).getD i default=c.getD i default:=by
       have:i<c.size:=by omega
       have D:i≠c.size:=by omega
       simp[za,zk,D]
      rw[e1,e2];exact W i q
     .have A:i=es.length:=by simp at hi;omega
      subst A;have e1:(es++[(ak,av)]).getD es.length (.undef,.undef)=(ak,av):=by simp[zb]
      have e2:(c.push { key:=rk,val:=rv,born:=d }).getD es.length default={ key:=rk,val:=rv,born:=d }:=by
       rw[X];simp[za]
      rw[e1,e2];exact ⟨z,T⟩
    .intro i hi;by_cases q:i<c.size
     .have e2:(c.push { key:=rk,val:=rv,born:=d }).getD i default=c.getD i default:=by
       have D:i≠c.size:=by omega
       simp[za,zk,D]
      rw[e2];have:=g4 i q;omega
     .have A:i=c.size:=by simp at hi;omega
      subst A;simp[za]
    .intro i j g M;have q:i<c.size:=by simp at M;omega
     have e2:(c.push { key:=rk,val:=rv,born:=d }).getD i default=c.getD i default:=by
      have D:i≠c.size:=by omega
      simp[za,zk,D]
     rw[e2];by_cases am:j<c.size
     .have e3:(c.push { key:=rk,val:=rv,born:=d }).getD j default=c.getD j default:=by
       have D:j≠c.size:=by omega
       simp[za,zk,D]
      rw[e3];exact g5 i j g am
     .have al:j=c.size:=by simp at M;omega
      subst al;have e3:(c.push { key:=rk,val:=rv,born:=d }).getD c.size default={ key:=rk,val:=rv,born:=d }:=by simp[za]
      rw[e3];have:=g4 i q;show (c.getD i default).born≠d;omega
   | some j=>
    have⟨U,q4,_⟩:=U j rfl;simp only at V;subst V;have⟨k1,k2⟩:=if4 q4 z (W j U).1;have K:j<c.size:=by omega
    have Q:∀(i:Nat),(c.modify j λe=>{ e with key:=rk,val:=rv }).getD i default=if i=j then { c.getD j default with key:=rk,val:=rv } else c.getD i default:=by
     intro i;by_cases g:i=j
     .subst g;simp[za,Array.getElem_modify,K]
     .have:¬j=i:=λe=>g e.symm
      simp[za,Array.getElem?_modify,g,this]
    have p:∀(i:Nat),((c.modify j λe=>{ e with key:=rk,val:=rv }).getD i default).born=(c.getD i default).born:=by
     intro i;rw[Q i];by_cases g:i=j
     .subst g;rw[if_pos rfl]
     .rw[if_neg g]
    refine fin (c.modify j λe=>{ e with key:=rk,val:=rv }) d ?_ (by simp[X]) ?_ ?_ ?_
    .have ai:((c[j]?).map (·.key)).getD rk=rk:=by
      have:(c[j]?).map (·.key)=zc (c.getD j default).key:=by simp[za,K]
      rw[this,k1];rfl
     have aj:Instr.sameBits 10000 rk rk=true:=by rw[k1] at k2;exact k2
     simp[Instr.mapUpdate,run_underlying hu,hg,S,h1,u,Instr.keyThatStays,ai,aj]
    .intro i hi;simp only[List.length_set] at hi;rw[Q i];by_cases g:i=j
     .subst g;have e1:(es.set i (ak,av)).getD i (.undef,.undef)=(ak,av):=by simp[zb,hi]
      rw[e1,if_pos rfl];exact ⟨z,T⟩
     .have:¬j=i:=λe=>g e.symm
      have e1:(es.set j (ak,av)).getD i (.undef,.undef)=es.getD i (.undef,.undef):=by simp[zb,List.getElem?_set,this]
      rw[e1,if_neg g];exact W i hi
    .intro i hi;rw[p i];simp only[z6] at hi;exact g4 i hi
    .intro i i2 g M;simp only[z6] at M;rw[p i,p i2]
     exact g5 i i2 g M
  | _=>simp at h
 | mapD id B hid=>simp[ap3,hs.dead id hid] at h
 | _=>simp[ap3] at h
def ev6 {t:TypeId}{x:Operand}{ix:IX}{s:List UInt8}{id n:Nat}(g:P.underlying t=zc .string)(f:ak1 x=zc ix)(j:ix.ev E fr=.str s)(hs:Sim E ρ w σ)(hf:FR ρ w N fr a.tmps)(b:ρ id=.no)(e:id<σ.next)(i:n<=id) :
  cu2 P E id n ρ w a (.range t x) (.ptr id 0) (σ.put id (.bh7 s 0)):=by
 intro o h;have c:=ab1 f hs hf;rw[j] at c;generalize d:a.eval x=rx at c
 cases c with
 | str _=>
  refine ⟨.value (.pointer (zc ⟨w.heap.size,0,ze⟩)),.pointer (zc ⟨w.heap.size,0,ze⟩),ρ.put id (.at w.heap.size 0),w.alloc (.stringIter ⟨s.toArray⟩ 0),?_,.inl rfl,bz3 hs b e ?_,.ptr id 0 w.heap.size 0 (by simp[Rho.put]),am4 b i,aj1.put _ _ _⟩
  .unfold execOp;rw[h];simp[Instr.range,run_underlying g,d]
  .exact ⟨by show (w.heap.push _)[w.heap.size]? = _;simp,rfl⟩
def bp5 (σ:Store):IV->Option (IV×Store)
 | .ptr id off=>if off=0 then match σ.obj id with
  | some (.bh7 s pos)=>if pos<s.length then zc (.tuple [.bool true,.int .i64 pos,.int .i32 (Utf8.decode ⟨s.toArray⟩ pos).1],σ.put id (.bh7 s (pos+(Utf8.decode ⟨s.toArray⟩ pos).2))) else zc (.tuple [.bool false],σ)
  | _=>ze
  else ze
 | _=>ze
def ev7 {x v:IV}{σ':Store}(h:bp5 σ x=zc (v,σ')):σ'.next=σ.next:=by
 unfold bp5 at h;split at h
 .split at h
  .split at h
   .split at h<;>cases h<;>rfl
   .cases h
  .cases h
 .cases h
def fv5 {x:Operand}{ix:IX}{id0 n:Nat}{v:IV}{σ':Store}(z:ak1 x=zc ix)(h:bp5 σ (ix.ev E fr)=zc (v,σ'))(hs:Sim E ρ w σ)(hf:FR ρ w N fr a.tmps) :
  cu2 P E id0 n ρ w a (.next x true) v σ':=by
 intro o t;have j:=ab1 z hs hf;generalize ix.ev E fr=ax at j h;generalize f:a.eval x=rx at j
 cases j with
 | ptr id off B d hid=>
  simp only[bp5] at h;by_cases h0:off=0
  .subst h0;rw[if_pos rfl] at h;have⟨y,p,m⟩:=hs.obj id B d hid;rw[p] at h
   cases y with
   | bh7 s pos=>
    obtain ⟨g,rfl⟩:=m;have u:(getObj B).run P w=.ok (.stringIter ⟨s.toArray⟩ pos) w:=by simp[getObj,Sem.run,g]
    have e:∀o,(setObj B o).run P w=.ok () (w.putObj B o):=λo=>by simp[setObj,Sem.run,g,World.putObj]
    have r:∀(k:Array Value) (el:TypeId) (A:Nat×Nat),Obj.stringIter ⟨s.toArray⟩ pos≠.cells k el A:=λ_ _ _ h=>by cases h
    have q:∀L,Obj.stringIter ⟨s.toArray⟩ pos≠.loop L:=λ_ h=>by cases h
    simp only at h;split at h
    .rename_i c;cases h
     refine ⟨.value (.tuple #[.bool true,.int .i64 pos,.int .i32 (Utf8.decode ⟨s.toArray⟩ pos).1]),.tuple #[.bool true,.int .i64 pos,.int .i32 (Utf8.decode ⟨s.toArray⟩ pos).1],ρ,w.putObj B (.stringIter ⟨s.toArray⟩ (pos+(Utf8.decode ⟨s.toArray⟩ pos).2)),?_,.inl rfl,
      cj7 hs hid g r q ⟨World.putObj_heap_same (hs.lt id B 0 hid),rfl⟩,?_,bi8 hid g r q,aj1.refl _ _⟩
     .unfold execOp;rw[t];have b:pos<(z7 s.toArray).size:=by rw[size_mk];exact c
      simp[Instr.next,f,u,b,e,goInt]
     .refine .tuple _ _ rfl λi hi=>?_
      match i,hi with
      | 0,_=>exact .bool true
      | 1,_=>exact .int _ _
      | 2,_=>exact .int _ _
    .rename_i c;cases h;refine ⟨.value (.tuple #[.bool false]),.tuple #[.bool false],ρ,w,?_,.inl rfl,hs,?_,Ext.refl _ _ _,aj1.refl _ _⟩
     .unfold execOp;rw[t];have b:¬pos<(z7 s.toArray).size:=by rw[size_mk];exact c
      simp[Instr.next,f,u,b]
     .refine .tuple _ _ rfl λi hi=>?_
      match i,hi with
      | 0,_=>exact .bool false
   | _=>cases h
  .rw[if_neg h0] at h;cases h
 | cx4 id off ad hid=>
  simp only[bp5,hs.dead id hid] at h
  split at h<;>cases h
 | _=>cases h
end Go.Id
namespace Go.Id
open Go
variable {P:Program} {w w' w'':World} {ρ ρ' ρ'':Rho} {E:Nat->IV} {σ σ':Store} {N n n':Nat} {S:Nat->Prop}
inductive Nm (S:Nat->Prop):IV->Prop
 | undef:Nm S .undef
 | bool (b:Bool):Nm S (.bool b)
 | int (k:IntKind) (x:Int):Nm S (.int k x)
 | str (s:List UInt8):Nm S (.str s)
 | ag2:Nm S .ag2
 | ptr (id off:Nat) (h:S id):Nm S (.ptr id off)
 | ab5 (cs:List IV) (h:∀c∈cs,Nm S c):Nm S (.ab5 cs)
 | aa5:Nm S .aa5
 | ad2:Nm S .ad2
 | af7:Nm S .af7
 | slice (id off len esz:Nat) (h:S id):Nm S (.slice id off len esz)
 | aa2 (es:List (List IV)) (h:∀e∈es,∀c∈e,Nm S c):Nm S (.aa2 es)
 | am1:Nm S .am1
 | map (id:Nat) (h:S id):Nm S (.map id)
 | am2 (es:List (IV×IV)) (h1:∀e∈es,Nm S e.1) (h2:∀e∈es,Nm S e.2):Nm S (.am2 es)
 | func (fn:Fn) (first cap:List IV) (h1:∀c∈first,Nm S c) (h2:∀c∈cap,Nm S c):Nm S (.func fn first cap)
 | yield (id:Nat) (h:S id):Nm S (.yield id)
 | ai8:Nm S .ai8
 | iface (t:Nat) (v:IV) (h:Nm S v):Nm S (.iface t v)
 | ah6:Nm S .ah6
 | agg (cs:List IV) (h:∀c∈cs,Nm S c):Nm S (.agg cs)
 | tuple (cs:List IV) (h:∀c∈cs,Nm S c):Nm S (.tuple cs)
 | ag6 (id off len esz:Nat) (h:S id):Nm S (.ag6 id off len esz)
 | al2 (id off len room esz:Nat) (h:S id):Nm S (.al2 id off len room esz)
def aj3 {b:Type}{l:List b}{c d:b}(h:c∈l):∃i,i<l.length/\l.getD i d=c:=by
 have⟨i,hi,e⟩:=zp.1 h;exact ⟨i,hi,by rw[zb,zn hi];exact e⟩
def ad5 {b:Type}{l:List b}{i:Nat}(d:b)(h:i<l.length):l.getD i d∈l:=by
 rw[zb,zn h];exact List.getElem_mem h
def VR.nm {v:IV}{r:Value}(hf:∀i,ρ i≠.no->S i)(h:VR ρ w v r):Nm S v:=by
 induction h with
 | undef r=>exact .undef
 | bool b=>exact .bool b
 | int k n=>exact .int k n
 | str s=>exact .str s
 | ag2=>exact .ag2
 | ptr id off B d hi=>exact .ptr id off (hf _ (by rw[hi];intro h;cases h))
 | cx4 id off ad hi=>exact .ptr id off (hf _ (by rw[hi];intro h;cases h))
 | ab5 cs b o vs _ _ _ ih=>exact .ab5 cs λc hc=>let ⟨i,hi,f⟩:=aj3 (d:=.undef) hc;f▸ih i hi
 | aa5=>exact .aa5
 | ad2 a=>exact .ad2
 | af7 a c=>exact .af7
 | slice id off len esz B d cap rcs el fz hi _ _ _=>exact .slice id off len esz (hf _ (by rw[hi];intro h;cases h))
 | am9 id off esz B d a hi=>exact .slice id off 0 esz (hf _ (by rw[hi];intro h;cases h))
 | am3 id off len esz cap ad hi _=>exact .slice id off len esz (hf _ (by rw[hi];intro h;cases h))
 | ag6 id off len esz B d rcs el fz hi _ _=>exact .ag6 id off len esz (hf _ (by rw[hi];intro h;cases h))
 | aq6 id off len esz ad hi=>exact .ag6 id off len esz (hf _ (by rw[hi];intro h;cases h))
 | al2 id off len room esz B d cap rcs el fz hi _ _ _ _=>exact .al2 id off len room esz (hf _ (by rw[hi];intro h;cases h))
 | az1 id off len room esz cap ad hi _ _=>exact .al2 id off len room esz (hf _ (by rw[hi];intro h;cases h))
 | aa2 es b o cap esz sp vs _ hs _ _ _ ih=>
  refine .aa2 es λe f c hc=>?_
  have⟨i,hi,g⟩:=aj3 (d:=[]) f;subst g;have⟨j,q,p⟩:=aj3 (d:=.undef) hc;rw[<- p]
  exact ih i hi j (by rw[<- hs i hi];exact q)
 | ci6=>exact .aa2 [] (λe f=>by cases f)
 | am1=>exact .am1
 | map id B d hi=>exact .map id (hf _ (by rw[hi];intro h;cases h))
 | mapD id B hi=>exact .map id (hf _ (by rw[hi];intro h;cases h))
 | am2 es es' b mes clock hp _ _ _ _ _ _ _ _ ihk ihv=>
  have m:∀e∈es,e∈es':=λe f=>hp.symm.subset f
  exact .am2 es (λe f=>let ⟨i,hi,g⟩:=aj3 (d:=(.undef,.undef)) (m e f);g▸ihk i hi) (λe f=>let ⟨i,hi,g⟩:=aj3 (d:=(.undef,.undef)) (m e f);g▸ihv i hi)
 | func fn first cap rf rc _ _ _ _ _ ihf ihc=>
  exact .func fn first cap (λc hc=>let ⟨i,hi,f⟩:=aj3 (d:=.undef) hc;f▸ihf i hi) (λc hc=>let ⟨i,hi,f⟩:=aj3 (d:=.undef) hc;f▸ihc i hi)
 | yield id B d hi=>exact .yield id (hf _ (by rw[hi];intro h;cases h))
 | bd9 id B hi=>exact .yield id (hf _ (by rw[hi];intro h;cases h))
 | ai8=>exact .ai8
 | iface t v r _ ih=>exact .iface t v ih
 | ah6=>exact .ah6
 | agg cs rs _ _ ih=>exact .agg cs λc hc=>let ⟨i,hi,f⟩:=aj3 (d:=.undef) hc;f▸ih i hi
 | tuple cs rs _ _ ih=>exact .tuple cs λc hc=>let ⟨i,hi,f⟩:=aj3 (d:=.undef) hc;f▸ih i hi
structure cj8 (S:Nat->Prop) (ρ ρ':Rho):Prop where
 on:∀i,S i->ρ' i=ρ i
 off:∀i,¬S i->ρ' i=.no
 X:∀b,ρ'.X b->ρ.X b\/∃i d,¬S i/\ρ i=.at b d
def cj8.at {i B d:Nat}(b:cj8 S ρ ρ')(h:ρ' i=.at B d):S i/\ρ i=.at B d:=by
 by_cases hs:S i
 .exact ⟨hs,by rw[<- b.on i hs];exact h⟩
 .rw[b.off i hs] at h;cases h
def FB.cut {b:Nat}(hk:cj8 S ρ ρ')(h:FB ρ w b):FB ρ' w b:=⟨h.1,λi d hi=>h.2 i d (hk.at hi).2,λhx=>(hk.X b hx).elim h.3 λ⟨i,d,_,hi⟩=>h.2 i d hi⟩
def VR.cut {v:IV}{r:Value}(hk:cj8 S ρ ρ')(h:VR ρ w v r):Nm S v->VR ρ' w v r:=by
 induction h with
 | undef r=>exact λ_=>.undef r
 | bool b=>exact λ_=>.bool b
 | int k n=>exact λ_=>.int k n
 | str s=>exact λ_=>.str s
 | ag2=>exact λ_=>.ag2
 | ptr id off B d hi=>intro hb;cases hb with|ptr _ _ h=>exact .ptr id off B d (by rw[hk.on _ h];exact hi)
 | cx4 id off ad hi=>intro hb;cases hb with|ptr _ _ h=>exact .cx4 id off ad (by rw[hk.on _ h];exact hi)
 | ab5 cs b o vs hf hc _ ih=>intro hb;cases hb with|ab5 _ h=>exact .ab5 cs b o vs (hf.cut hk) hc λj hj=>ih j hj (h _ (ad5 _ hj))
 | aa5=>exact λ_=>.aa5
 | ad2 a=>exact λ_=>.ad2 a
 | af7 a c=>exact λ_=>.af7 a c
 | slice id off len esz B d cap rcs el fz hi h1 h2 h3=>intro hb;cases hb with|slice _ _ _ _ h=>exact .slice id off len esz B d cap rcs el fz (by rw[hk.on _ h];exact hi) h1 h2 h3
 | am9 id off esz B d a hi=>intro hb;cases hb with|slice _ _ _ _ h=>exact .am9 id off esz B d a (by rw[hk.on _ h];exact hi)
 | am3 id off len esz cap ad hi hl=>intro hb;cases hb with|slice _ _ _ _ h=>exact .am3 id off len esz cap ad (by rw[hk.on _ h];exact hi) hl
 | ag6 id off len esz B d rcs el fz hi h1 h2=>intro hb;cases hb with|ag6 _ _ _ _ h=>exact .ag6 id off len esz B d rcs el fz (by rw[hk.on _ h];exact hi) h1 h2
 | aq6 id off len esz ad hi=>intro hb;cases hb with|ag6 _ _ _ _ h=>exact .aq6 id off len esz ad (by rw[hk.on _ h];exact hi)
 | al2 id off len room esz B d cap rcs el fz hi h1 h2 h3 h4=>intro hb;cases hb with|al2 _ _ _ _ _ h=>exact .al2 id off len room esz B d cap rcs el fz (by rw[hk.on _ h];exact hi) h1 h2 h3 h4
 | az1 id off len room esz cap ad hi hl hr=>intro hb;cases hb with|al2 _ _ _ _ _ h=>exact .az1 id off len room esz cap ad (by rw[hk.on _ h];exact hi) hl hr
 | aa2 es b o cap esz sp vs hf hs hc _ hle ih=>
  intro hb
  cases hb with
  | aa2 _ h=>exact .aa2 es b o cap esz sp vs (λhne=>⟨((hf hne).1.cut hk),(hf hne).2⟩) hs hc (λi hi j hj=>ih i hi j hj (h _ (ad5 _ hi) _ (ad5 _ (by rw[hs i hi];exact hj)))) hle
 | ci6=>exact λ_=>.ci6
 | am1=>exact λ_=>.am1
 | map id B d hi=>intro hb;cases hb with|map _ h=>exact .map id B d (by rw[hk.on _ h];exact hi)
 | mapD id B hi=>intro hb;cases hb with|map _ h=>exact .mapD id B (by rw[hk.on _ h];exact hi)
 | am2 es es' b mes clock hp hd hf hh hl _ _ h4 h5 ihk ihv=>
  intro hb
  cases hb with
  | am2 _ h1 h2=>exact .am2 es es' b mes clock hp hd (hf.cut hk) hh hl (λi hi=>ihk i hi (h1 _ (hp.subset (ad5 _ hi)))) (λi hi=>ihv i hi (h2 _ (hp.subset (ad5 _ hi)))) h4 h5
 | func fn first cap rf rc hy h1 h2 _ _ ihf ihc=>
  intro hb
  cases hb with
  | func _ _ _ b1 b2=>exact .func fn first cap rf rc hy h1 h2 (λi hi=>ihf i hi (b1 _ (ad5 _ hi))) (λi hi=>ihc i hi (b2 _ (ad5 _ hi)))
 | yield id B d hi=>intro hb;cases hb with|yield _ h=>exact .yield id B d (by rw[hk.on _ h];exact hi)
 | bd9 id B hi=>intro hb;cases hb with|yield _ h=>exact .bd9 id B (by rw[hk.on _ h];exact hi)
 | ai8=>exact λ_=>.ai8
 | iface t v r _ ih=>intro hb;cases hb with|iface _ _ h=>exact .iface t v r (ih h)
 | ah6=>exact λ_=>.ah6
 | agg cs rs h1 _ ih=>intro hb;cases hb with|agg _ h=>exact .agg cs rs h1 λi hi=>ih i hi (h _ (ad5 _ hi))
 | tuple cs rs h1 _ ih=>intro hb;cases hb with|tuple _ h=>exact .tuple cs rs h1 λi hi=>ih i hi (h _ (ad5 _ hi))
def isCells (σ:Store)(id:Nat)(cs:List IV):Prop:=σ.obj id=zc (.cells cs)\/σ.obj id=zc (.row cs)
inductive Frz (σ:Store) (S:Nat->Prop):IV->IV->Prop
 | keep (v:IV) (h:Nm S v):Frz σ S v v
 | zs:Frz σ S .ad2 (.aa2 [])
 | es:Frz σ S .af7 (.aa2 [])
 | by1:Frz σ S .aa5 (.aa2 [])
 | ptr (id off:Nat) (cs cs':List IV) (hid:¬S id) (ho:isCells σ id cs) (hl:off+cs'.length<=cs.length)
   (h:∀j,j<cs'.length->Frz σ S (cs.getD (off+j) .undef) (cs'.getD j .undef)):Frz σ S (.ptr id off) (.ab5 cs')
 | dm8 (id off esz:Nat) (h:σ.obj id≠ze):Frz σ S (.slice id off 0 esz) (.aa2 [])
 | jf2 (id off esz:Nat) (h:σ.obj id≠ze):Frz σ S (.slice id off 0 esz) .af7
 | slice (id off len esz:Nat) (cs:List IV) (es:List (List IV)) (hid:¬S id) (ho:isCells σ id cs) (hlen:es.length=len) (hle:off+len*esz<=cs.length) (hsz:∀i,i<len->(es.getD i []).length=esz)
   (h:∀i,i<len->∀j,j<esz->Frz σ S (cs.getD (off+(i*esz+j)) .undef) ((es.getD i []).getD j .undef)):Frz σ S (.slice id off len esz) (.aa2 es)
 | aa2 (es es':List (List IV)) (hl:es'.length=es.length) (hs:∀i,i<es.length->(es'.getD i []).length=(es.getD i []).length)
   (h:∀i,i<es.length->∀j,j<(es.getD i []).length->Frz σ S ((es.getD i []).getD j .undef) ((es'.getD i []).getD j .undef)):Frz σ S (.aa2 es) (.aa2 es')
 | ab5 (cs cs':List IV) (hl:cs'.length=cs.length) (h:∀j,j<cs.length->Frz σ S (cs.getD j .undef) (cs'.getD j .undef)):Frz σ S (.ab5 cs) (.ab5 cs')
 | map (id:Nat) (es es' et:List (IV×IV)) (hid:¬S id) (ho:σ.obj id=zc (.map es)) (hl:es'.length=es.length) (hp:es'.Perm et) (hd:da5 et)
   (h1:∀i,i<es.length->Frz σ S (es.getD i (.undef,.undef)).1 (es'.getD i (.undef,.undef)).1) (h2:∀i,i<es.length->Frz σ S (es.getD i (.undef,.undef)).2 (es'.getD i (.undef,.undef)).2):Frz σ S (.map id) (.am2 et)
 | func (fn:Fn) (first first' cap cap':List IV) (hl1:first'.length=first.length) (hl2:cap'.length=cap.length) (h1:∀i,i<first.length->Frz σ S (first.getD i .undef) (first'.getD i .undef)) (h2:∀i,i<cap.length->Frz σ S (cap.getD i .undef) (cap'.getD i .undef)):Frz σ S (.func fn first cap) (.func fn first' cap')
 | iface (t:Nat) (v v':IV) (h:Frz σ S v v'):Frz σ S (.iface t v) (.iface t v')
 | agg (cs cs':List IV) (hl:cs'.length=cs.length) (h:∀i,i<cs.length->Frz σ S (cs.getD i .undef) (cs'.getD i .undef)):Frz σ S (.agg cs) (.agg cs')
 | tuple (cs cs':List IV) (hl:cs'.length=cs.length) (h:∀i,i<cs.length->Frz σ S (cs.getD i .undef) (cs'.getD i .undef)):Frz σ S (.tuple cs) (.tuple cs')
def fh4 {id B d:Nat}{cs:List IV}(hs:Sim E ρ w σ)(hi:ρ id=.at B d)(b:isCells σ id cs):ar2 ρ w B d cs:=by
 have⟨o,c,e⟩:=hs.obj id B d hi;rcases b with b|b<;>rw[b] at c<;>cases c<;>exact e
def fh5 {id:Nat}{cs:List IV}(h:σ.obj id=ze)(b:isCells σ id cs):False:=by
 rcases b with b|b<;>rw[b] at h<;>cases h
def gq4 {id B d:Nat}(c:cj8 S ρ ρ')(e:ρ'.X=ρ.X)(hs:Sim E ρ w σ)(hi:ρ id=.at B d)(b:¬S id):FB ρ' w B:=by
 refine ⟨hs.lt id B d hi,λi j h=>?_,by rw[e];exact hs.nx id B d hi⟩;have⟨g,f⟩:=c.at h;have:=hs.inj i id B j d f hi;exact b (this▸g)
def iy2 {B o:Nat}{b:Array Value}{el:TypeId}{d:Nat×Nat}(h:w.heap[B]? = zc (.cells b el d))(c:o<b.size):w.cell? ⟨B,o,ze⟩=zc (b.getD o undef):=by
 unfold World.cell?;simp[h,c]
def Frz.vr {v v':IV}(hk:cj8 S ρ ρ')(hX:ρ'.X=ρ.X)(hs:Sim E ρ w σ)(h:Frz σ S v v'):∀r,VR ρ w v r->VR ρ' w v' r:=by
 induction h with
 | keep v hb=>exact λr hv=>hv.cut hk hb
 | by1=>
  intro r hv
  cases hv with
  | aa5=>exact .ci6
 | zs=>
  intro r hv
  cases hv with
  | ad2 a=>have⟨b,o,sp⟩:=a;exact .aa2 [] b o 0 0 sp (λ_ _=>undef) (λh=>absurd rfl h) (λi hi=>by simp at hi) (λi hi=>by simp at hi) (λi hi=>by simp at hi) sm
 | es=>
  intro r hv
  cases hv with
  | af7 a cp=>have⟨b,o,sp⟩:=a;exact .aa2 [] b o cp 0 sp (λ_ _=>undef) (λh=>absurd rfl h) (λi hi=>by simp at hi) (λi hi=>by simp at hi) (λi hi=>by simp at hi) sm
 | ptr id off cs cs' hid ho hl _ ih=>
  intro r hv
  cases hv with
  | ptr _ _ B d hi=>
   have⟨rcs,el,h1,h2,h3⟩:=fh4 hs hi ho;refine .ab5 cs' B (d+off) (λj=>rcs.getD (d+off+j) undef) (gq4 hk hX hs hi hid) (λj hj=>iy2 h1 (by omega)) (λj hj=>ih j hj _ ?_);have:=h3 (off+j) (by omega)
   rwa [<- Nat.add_assoc] at this
  | cx4 _ _ ad hi=>exact (fh5 (hs.dead _ hi) ho).elim
 | dm8 id off esz hob=>
  intro r hv
  cases hv with
  | slice _ _ _ _ B d cap rcs el fz hi h1 h2 h3=>exact .aa2 [] B (d+off) cap 0 ze (λ_ _=>undef) (λh=>absurd rfl h) (λi hi=>by simp at hi) (λi hi=>by simp at hi) (λi hi=>by simp at hi) sm
  | am9 _ _ _ B d a hi=>have⟨b,o,sp⟩:=a;exact .aa2 [] b o 0 0 sp (λ_ _=>undef) (λh=>absurd rfl h) (λi hi=>by simp at hi) (λi hi=>by simp at hi) (λi hi=>by simp at hi) sm
  | am3 _ _ _ _ cap ad hi hl=>exact absurd (hs.dead _ hi) hob
 | jf2 id off esz hob=>
  intro r hv
  cases hv with
  | slice _ _ _ _ B d cap rcs el fz hi h1 h2 h3=>exact .af7 _ cap
  | am9 _ _ _ B d a hi=>exact .af7 a 0
  | am3 _ _ _ _ cap ad hi hl=>exact .af7 ad cap
 | slice id off len esz cs es hid ho hlen hle hsz _ ih=>
  intro r hv
  cases hv with
  | slice _ _ _ _ B d cap rcs el fz hi g1 g2 g3=>
   have⟨rcs',el',h1,h2,h3⟩:=fh4 hs hi ho;rw[<- hlen]
   have key:∀i,i<es.length->∀j,j<esz->off+(i*esz+j)<cs.length:=by
    intro i hi j hj;have:(i+1)*esz<=len*esz:=zj _ (by omega);rw[zx,zw] at this;omega
   refine .aa2 es B (d+off) cap esz ze (λi j=>rcs'.getD (d+off+(i*esz+j)) undef) (λ_=>⟨gq4 hk hX hs hi hid,rfl⟩) (λi hi=>hsz i (by omega)) (λi hi j hj=>iy2 h1 (by have:=key i hi j hj;omega)) (λi hi j hj=>ih i (by omega) j hj _ ?_) (by omega);show VR ρ w _ (rcs'.getD (d+off+(i*esz+j)) undef);rw[Nat.add_assoc d off _]
   exact h3 (off+(i*esz+j)) (key i hi j hj)
  | am9 _ _ _ B d a hi=>
   have:es=[]:=zf.1 hlen;subst this;have⟨b,o,sp⟩:=a
   exact .aa2 [] b o 0 0 sp (λ_ _=>undef) (λh=>absurd rfl h) (λi hi=>by simp at hi) (λi hi=>by simp at hi) (λi hi=>by simp at hi) sm
  | am3 _ _ _ _ cap ad hi hl=>exact (fh5 (hs.dead _ hi) ho).elim
 | aa2 es es' hl hsz _ ih=>
  intro r hv
  cases hv with
  | ci6=>
   have:es'=[]:=zf.1 hl;subst this
   exact .ci6
  | aa2 _ b o cap esz sp vs hf hs' hc hv hle=>
   rw[<- hl]
   refine .aa2 es' b o cap esz sp vs (λhne=>⟨((hf (λe=>hne (by subst e;exact zf.1 hl))).1.cut hk),(hf (λe=>hne (by subst e;exact zf.1 hl))).2⟩) (λi hi=>by rw[hsz i (by omega),hs' i (by omega)]) (λi hi=>hc i (by omega)) (λi hi j hj=>ih i (by omega) j (by rw[hs' i (by omega)];exact hj) _ (hv i (by omega) j hj)) (by omega)
 | ab5 cs cs' hl _ ih=>
  intro r hv
  cases hv with
  | ab5 _ b o vs hf hc hv=>exact .ab5 cs' b o vs (hf.cut hk) (λj hj=>hc j (by omega)) (λj hj=>ih j (by omega) _ (hv j (by omega)))
 | map id es es' et hid ho hl hp hd _ _ ihk ihv=>
  intro r hv
  cases hv with
  | map _ B d hi=>
   have⟨o,h1,h2⟩:=hs.obj id B d hi;rw[ho] at h1;cases h1;have⟨mes,clock,g1,g0,g2,g3,g4,g5⟩:=h2
   exact .am2 et es' B mes clock hp hd (gq4 hk hX hs hi hid) g1 (by omega) (λi hi=>ihk i (by omega) _ (g3 i (by omega)).1) (λi hi=>ihv i (by omega) _ (g3 i (by omega)).2) g4 g5
  | mapD _ B hi=>rw[hs.dead _ hi] at ho;cases ho
 | func fn first first' cap cap' hl1 hl2 _ _ ih1 ih2=>
  intro r hv
  cases hv with
  | func _ _ _ rf rc hy g1 g2 v1 v2=>exact .func fn first' cap' rf rc hy (by omega) (by omega) (λi hi=>ih1 i (by omega) _ (v1 i (by omega))) (λi hi=>ih2 i (by omega) _ (v2 i (by omega)))
 | iface t v v' _ ih=>intro r hv;cases hv with|iface _ _ r' h=>exact .iface t v' r' (ih _ h)
 | agg cs cs' hl _ ih=>intro r hv;cases hv with|agg _ rs h1 h2=>exact .agg cs' rs (by omega) λi hi=>ih i (by omega) _ (h2 i (by omega))
 | tuple cs cs' hl _ ih=>intro r hv;cases hv with|tuple _ rs h1 h2=>exact .tuple cs' rs (by omega) λi hi=>ih i (by omega) _ (h2 i (by omega))
def NmO (S:Nat->Prop):aj8->Prop
 | .cells cs|.row cs=>∀c∈cs,Nm S c
 | .map es=>(∀e∈es,Nm S e.1)/\∀e∈es,Nm S e.2
 | .bh7 _ _=>True
 | .loop _ tmps _ _ _ _ _=>∀t,Nm S ((tmps.lookup t).getD .undef)
 | .as9 left cur=>(∀e∈left,Nm S e.1)/\(∀e∈left,Nm S e.2)/\∀c,cur=zc c->Nm S c.1/\Nm S c.2
def OR.nm {B d:Nat}{o:aj8}(hf:∀i,ρ i≠.no->S i)(h:OR ρ w B d o):NmO S o:=by
 have j:∀cs,ar2 ρ w B d cs->∀c∈cs,Nm S c:=λcs ⟨z,el,_,_,g⟩ c hc=>let ⟨i,hi,b⟩:=aj3 (d:=.undef) hc;b▸(g i hi).nm hf
 cases o with
 | cells cs=>exact j cs h
 | row cs=>exact j cs h
 | map es=>
  have⟨m,f,y,h0,x,g,u,r⟩:=h
  exact ⟨λe b=>let ⟨i,hi,hie⟩:=aj3 (d:=(.undef,.undef)) b;hie▸(g i hi).1.nm hf,λe b=>let ⟨i,hi,hie⟩:=aj3 (d:=(.undef,.undef)) b;hie▸(g i hi).2.nm hf⟩
 | bh7 s pos=>trivial
 | loop N tmps params assign body st pend=>
  have⟨D,l,y,x,g,u,r,H,F,k⟩:=h
  exact λt=>(k t).nm hf
 | as9 left cur=>
  have⟨D,I,last,p,m,f,A,y,x,g,u,r,H,F,k,hc,q⟩:=h;exact ⟨λe b=>let ⟨i,hi,hie⟩:=aj3 (d:=(.undef,.undef)) (k.symm.subset b);hie▸(q i hi).1.nm hf,λe b=>let ⟨i,hi,hie⟩:=aj3 (d:=(.undef,.undef)) (k.symm.subset b);hie▸(q i hi).2.nm hf,λc e=>let ⟨i,g1,g2,g3,g4⟩:=hc c e;⟨g3.nm hf,g4.nm hf⟩⟩
def OR.cut {B d:Nat}{o:aj8}(g:cj8 S ρ ρ')(f:NmO S o)(h:OR ρ w B d o):OR ρ' w B d o:=by
 have r:∀cs,(∀c∈cs,Nm S c)->ar2 ρ w B d cs->ar2 ρ' w B d cs:=λcs f ⟨z,el,p,m,j⟩=>⟨z,el,p,m,λi hi=>(j i hi).cut g (f _ (ad5 _ hi))⟩
 cases o with
 | cells cs=>exact r cs f h
 | row cs=>exact r cs f h
 | map es=>
  have⟨k,b,p,h0,m,j,y,x⟩:=h
  exact ⟨k,b,p,h0,m,λi hi=>⟨(j i hi).1.cut g (f.1 _ (ad5 _ hi)),(j i hi).2.cut g (f.2 _ (ad5 _ hi))⟩,y,x⟩
 | bh7 s pos=>exact h
 | loop N tmps params assign body st pend=>
  have⟨D,l,p,m,j,y,x,H,F,u⟩:=h
  exact ⟨D,l,p,m,j,y,x,H,F,λt=>(u t).cut g (f t)⟩
 | as9 left cur=>
  have⟨D,J,last,q,k,b,A,p,m,j,y,x,H,F,u,hc,I⟩:=h;exact ⟨D,J,last,q,k,b,A,p,m.cut g,j,y,x,H,F,u,λc e=>let ⟨i,g1,g2,g3,g4⟩:=hc c e;⟨i,g1,g2,g3.cut g (f.2.2 c e).1,g4.cut g (f.2.2 c e).2⟩,λi hi=>⟨(I i hi).1.cut g (f.1 _ (u.subset (ad5 _ hi))),(I i hi).2.cut g (f.2.1 _ (u.subset (ad5 _ hi)))⟩⟩
def Sim.kl2 (c:cj8 S ρ ρ')(hs:Sim E ρ w σ')(e:∀i,S i->σ'.obj i=σ.obj i)(r:∀i,¬S i->σ.obj i=ze)(y:∀i o,S i->σ.obj i=zc o->NmO S o)(q:∀i,σ.next<=i->ρ' i=.no)(x:∀g,Nm S (E g)):Sim E ρ' w σ:=by
 refine ⟨?_,?_,?_,?_,q,?_,λg=>(hs.env g).cut c (x g),λi B d h p=>(c.X B p).elim (hs.nx i B d (c.at h).2) λ⟨j,k,u,f⟩=>u (hs.inj i j B d k (c.at h).2 f▸(c.at h).1),
  λb p=>(c.X b p).elim (hs.xlt b) λ⟨j,k,_,f⟩=>hs.lt j b k f⟩
 .intro i j B d k m t;exact hs.inj i j B d k (c.at m).2 (c.at t).2
 .intro i B d h;exact hs.lt i B d (c.at h).2
 .intro i B d h;have⟨m,t⟩:=c.at h;have⟨o,s,z⟩:=hs.obj i B d t;rw[e i m] at s;exact ⟨o,s,z.cut c (y i o m s)⟩
 .intro i h;by_cases hi:S i
  .rw[<- e i hi];rw[c.on i hi] at h;exact hs.dead i h
  .rw[c.off i hi] at h;cases h
 .intro i h;by_cases hi:S i
  .rw[<- e i hi];rw[c.on i hi] at h;exact hs.aw6 i h
  .exact r i hi
def Sim.nmO (hs:Sim E ρ w σ)(hf:∀i,ρ i≠.no->S i)(i:Nat)(o:aj8)(b:σ.obj i=zc o):NmO S o:=by
 rcases hr:ρ i with _|_|⟨B,d⟩
 .rw[hs.aw6 i hr] at b;cases b
 .rw[hs.dead i hr] at b;cases b
 .have⟨f,c,e⟩:=hs.obj i B d hr;rw[b] at c;cases c;exact e.nm hf
def VR.refs {v:IV}{r:Value}(hr:∀i,ρ i≠.no->ρ' i=ρ i)(hfb:∀b,FB ρ w b->FB ρ' w b)(h:VR ρ w v r):VR ρ' w v r:=by
 have at_:∀ {i B d},ρ i=.at B d->ρ' i=.at B d:=λ{i B d} h=>by rw[hr i (by rw[h];intro h;cases h)];exact h
 have dd:∀ {i},ρ i=.dead->ρ' i=.dead:=λ{i} h=>by rw[hr i (by rw[h];intro h;cases h)];exact h
 induction h with
 | undef r=>exact .undef r
 | bool b=>exact .bool b
 | int k n=>exact .int k n
 | str s=>exact .str s
 | ag2=>exact .ag2
 | ptr id off B d hi=>exact .ptr id off B d (at_ hi)
 | cx4 id off ad hi=>exact .cx4 id off ad (dd hi)
 | ab5 cs b o vs hf hc _ ih=>exact .ab5 cs b o vs (hfb _ hf) hc ih
 | aa5=>exact .aa5
 | ad2 a=>exact .ad2 a
 | af7 a c=>exact .af7 a c
 | slice id off len esz B d cap rcs el fz hi hb hsz hle=>exact .slice id off len esz B d cap rcs el fz (at_ hi) hb hsz hle
 | am9 id off esz B d a hi=>exact .am9 id off esz B d a (at_ hi)
 | am3 id off len esz cap ad hi hle=>exact .am3 id off len esz cap ad (dd hi) hle
 | ag6 id off len esz B d rcs el fz hi hb hsz=>exact .ag6 id off len esz B d rcs el fz (at_ hi) hb hsz
 | aq6 id off len esz ad hi=>exact .aq6 id off len esz ad (dd hi)
 | al2 id off len room esz B d cap rcs el fz hi hb hsz hle hr'=>exact .al2 id off len room esz B d cap rcs el fz (at_ hi) hb hsz hle hr'
 | az1 id off len room esz cap ad hi hle hr'=>exact .az1 id off len room esz cap ad (dd hi) hle hr'
 | aa2 es b o cap esz sp vs hf hsz hc _ hle ih=>exact .aa2 es b o cap esz sp vs (λhne=>⟨hfb _ (hf hne).1,(hf hne).2⟩) hsz hc ih hle
 | ci6=>exact .ci6
 | am1=>exact .am1
 | map id B d hi=>exact .map id B d (at_ hi)
 | mapD id B hi=>exact .mapD id B (dd hi)
 | am2 es es' b mes clock hp hd hf hb hl _ _ h4 h5 ihk ihv=>exact .am2 es es' b mes clock hp hd (hfb _ hf) hb hl ihk ihv h4 h5
 | func fn first cap rf rc hy h1 h2 _ _ ihf ihc=>exact .func fn first cap rf rc hy h1 h2 ihf ihc
 | yield id B d hi=>exact .yield id B d (at_ hi)
 | bd9 id B hi=>exact .bd9 id B (dd hi)
 | ai8=>exact .ai8
 | iface t v r _ ih=>exact .iface t v r ih
 | ah6=>exact .ah6
 | agg cs rs h1 _ ih=>exact .agg cs rs h1 ih
 | tuple cs rs h1 _ ih=>exact .tuple cs rs h1 ih
def OR.refs {B d:Nat}{o:aj8}(hr:∀i,ρ i≠.no->ρ' i=ρ i)(f:∀b,FB ρ w b->FB ρ' w b)(h:OR ρ w B d o):OR ρ' w B d o:=by
 have r:∀cs,ar2 ρ w B d cs->ar2 ρ' w B d cs:=λcs ⟨y,el,p,m,j⟩=>⟨y,el,p,m,λi hi=>(j i hi).refs hr f⟩
 cases o with
 | cells cs=>exact r cs h
 | row cs=>exact r cs h
 | map es=>
  have⟨k,g,p,h0,m,j,x,u⟩:=h
  exact ⟨k,g,p,h0,m,λi hi=>⟨(j i hi).1.refs hr f,(j i hi).2.refs hr f⟩,x,u⟩
 | bh7 s pos=>exact h
 | loop N tmps params assign body st pend=>
  have⟨A,l,p,m,j,x,u,H,F,D⟩:=h
  exact ⟨A,l,p,m,j,x,u,H,F,λt=>(D t).refs hr f⟩
 | as9 left cur=>
  have⟨A,J,last,q,k,g,z,p,m,j,x,u,H,F,D,hc,I⟩:=h;exact ⟨A,J,last,q,k,g,z,p,f _ m,j,x,u,H,F,D,λc e=>let ⟨i,g1,g2,g3,g4⟩:=hc c e;⟨i,g1,g2,g3.refs hr f,g4.refs hr f⟩,λi hi=>⟨(I i hi).1.refs hr f,(I i hi).2.refs hr f⟩⟩
def Nm.weak {S d:Nat->Prop}{v:IV}(h:Nm S v)(c:∀i,S i->d i):Nm d v:=by
 induction h with
 | undef=>exact .undef
 | bool b=>exact .bool b
 | int k x=>exact .int k x
 | str s=>exact .str s
 | ag2=>exact .ag2
 | ptr id off h=>exact .ptr id off (c _ h)
 | ab5 cs _ ih=>exact .ab5 cs ih
 | aa5=>exact .aa5
 | ad2=>exact .ad2
 | af7=>exact .af7
 | slice id off len esz h=>exact .slice id off len esz (c _ h)
 | ag6 id off len esz h=>exact .ag6 id off len esz (c _ h)
 | al2 id off len room esz h=>exact .al2 id off len room esz (c _ h)
 | aa2 es _ ih=>exact .aa2 es ih
 | am1=>exact .am1
 | map id h=>exact .map id (c _ h)
 | am2 es _ _ ih1 ih2=>exact .am2 es ih1 ih2
 | func fn first cap _ _ ih1 ih2=>exact .func fn first cap ih1 ih2
 | yield id h=>exact .yield id (c _ h)
 | ai8=>exact .ai8
 | iface t v _ ih=>exact .iface t v ih
 | ah6=>exact .ah6
 | agg cs _ ih=>exact .agg cs ih
 | tuple cs _ ih=>exact .tuple cs ih
end Go.Id
namespace Go.Id
open Go
variable {P:Program} {w w':World} {ρ ρ':Rho} {E:Nat->IV} {σ σ':Store} {N:Nat} {fr:Frm} {a:Act}
def chunk (esz:Nat):Nat->List IV->List (List IV)
 | 0,_=>[]
 | n+1,l=>l.take esz::chunk esz n (l.drop esz)
def cu3 (esz:Nat):∀(n:Nat) (l:List IV),(chunk esz n l).length=n:=by
 intro n
 induction n with
 | zero=>intro l;rfl
 | succ n ih=>intro l;simp[chunk,ih]
def bs8 (esz:Nat):∀(n:Nat) (l:List IV) (i:Nat),i<n->(chunk esz n l).getD i []=(l.drop (i*esz)).take esz:=by
 intro n
 induction n with
 | zero=>intro l i h;omega
 | succ n ih=>
  intro l i h
  cases i with
  | zero=>simp[chunk]
  | succ i=>
   have:=ih (l.drop esz) i (by omega);simp only[chunk,zt,this,List.drop_drop];rw[zx,zw,Nat.add_comm]
def cx7 {op:Op}{v u:IV}{y:aj8}{n:Nat}(hs:Sim E ρ w σ)(F:n<=σ.next)
  (h:Sim E ρ w ⟨σ.next+1,σ.obj⟩->cu2 P E σ.next n ρ w a op v (Store.put ⟨σ.next+1,σ.obj⟩ σ.next y))
  (hf:Frz (Store.put ⟨σ.next+1,σ.obj⟩ σ.next y) (λi=>i≠σ.next) v u):cu2 P E σ.next n ρ w a op u σ:=by
 have p:Sim E ρ w ⟨σ.next+1,σ.obj⟩:=⟨hs.inj,hs.lt,hs.obj,hs.dead,λi hi=>hs.fresh i (Nat.le_of_succ_le hi),hs.aw6,hs.env,hs.nx,hs.xlt⟩;have k:ρ σ.next=.no:=hs.fresh _ (zd _);intro o D;have⟨x,r,ρ',w',j,A,f,m,b,s⟩:=h p o D
 have t:cj8 (λi=>i≠σ.next) ρ' ⟨λi=>if i=σ.next then .no else ρ' i,ρ'.X⟩:=⟨λi h=>by show (if i=σ.next then eh4.no else ρ' i)=_;rw[if_neg h],λi h=>by
  have:i=σ.next:=zv λe=>h e
  show (if i=σ.next then eh4.no else ρ' i)=_;rw[if_pos this],λ_ h=>.inl h⟩
 have c:∀i,ρ i≠.no->i≠σ.next:=λi h e=>h (by rw[e];exact k)
 refine ⟨x,r,_,w',j,A,f.kl2 t (λi hi=>by simp[Store.put,hi]) (λi hi=>?_) (λi z _ q=>hs.nmO c i z q) (λi hi=>?_) (λg=>(hs.env g).nm c),hf.vr t rfl f r m,?_,?_⟩
 .have:i=σ.next:=zv λe=>hi e
  rw[this];exact hs.aw6 _ k
 .show (if i=σ.next then eh4.no else ρ' i)=_;split
  .rfl
  .exact f.fresh i (by have:σ.next<=i:=hi;show σ.next+1<=i;omega)
 .refine ⟨b.size,b.keep,b.shape,λi B d hi=>b.img i B d (t.at hi).2,λi B d hi=>?_,λi hi=>?_,λi hi h0=>?_,b.output,b.os,b.tape,b.loops,b.X⟩
  .show (if i=σ.next then eh4.no else ρ' i)=_\/(if i=σ.next then eh4.no else ρ' i)=_;have:i≠σ.next:=c i (by rw[hi];intro h;cases h);rw[if_neg this];exact b.at_ i B d hi
  .show (if i=σ.next then eh4.no else ρ' i)=_;have:i≠σ.next:=c i (by rw[hi];intro h;cases h);rw[if_neg this];exact b.dead i hi
  .show (if i=σ.next then eh4.no else ρ' i)=_;split
   .rfl
   .exact b.no i hi h0
 .intro i hi h0;show (if i=σ.next then eh4.no else ρ' i)=_;split
  .rfl
  .exact s i hi h0
def Nm.cs {S:Nat->Prop}{v:IV}(h:Nm S v):∀c∈v.cs,Nm S c:=by
 by_cases b:∃zs,v=.agg zs
 .obtain ⟨zs,rfl⟩:=b;cases h with|agg _ h=>exact h
 .rw[IV.bx9 λzs e=>b ⟨zs,e⟩];intro c hc;rw[List.mem_singleton.1 hc];exact h
def if5 {S:Nat->Prop}:∀(ps:List (Nat×Nat×IV)) (z b:List IV),au8 z ps=zc b->(∀c∈z,Nm S c)->(∀p∈ps,Nm S p.2.2)->∀c∈b,Nm S c:=by
 intro ps
 induction ps with
 | nil=>intro z b h d _;cases h;exact d
 | cons p ps ih=>
  intro z b h d hp;have⟨off,size,v⟩:=p;simp only[au8] at h;split at h
  .refine ih _ _ h (λc hc=>?_) (λq e=>hp q (List.mem_cons_of_mem _ e));unfold ay4 at hc;simp only[List.mem_append] at hc;rcases hc with (hc|hc)|hc
   .exact d c (List.mem_of_mem_take hc)
   .exact (hp _ (List.mem_cons_self ..)).cs c hc
   .exact d c (List.mem_of_mem_drop hc)
  .cases h
def iy3 {S:Nat->Prop}{z:List IV}(h:∀c∈z,Nm S c):∀n,∀c∈rep z n,Nm S c:=by
 intro n
 induction n with
 | zero=>intro c hc;cases hc
 | succ n ih=>
  intro c hc;simp only[rep,List.mem_append] at hc;rcases hc with hc|hc
  .exact h c hc
  .exact ih c hc
def ej3:∀(ps:List (Nat×Nat×IV)) (z b:List IV),au8 z ps=zc b->b.length=z.length:=by
 intro ps
 induction ps with
 | nil=>intro z b h;cases h;rfl
 | cons p ps ih=>
  intro z b h;have⟨off,size,v⟩:=p;simp only[au8] at h;split at h
  .rename_i hc;rw[ih _ _ h,af8 (by omega)]
  .cases h
def gq5 {t:TypeId}{x:Operand}{y:IX}{n:Nat}(hx:ak1 x=zc y)(hl:(y.ev E fr).cs.all IV.leaf=true)(hs:Sim E ρ w σ)(hf:FR ρ w N fr a.tmps)(hn:n<=σ.next) :
  cu2 P E σ.next n ρ w a (.box t x) (.ab5 (y.ev E fr).cs) σ:=by
 have hno:ρ σ.next=.no:=hs.fresh _ (zd _);have hlv:∀i,ρ i≠.no->i≠σ.next:=λi h e=>h (by rw[e];exact hno)
 have hv:=(ab1 (a:=a) hx hs hf).nm hlv;refine cx7 hs hn (λhs0=>fh2 hx hl hs0 hf hno (zi _) hn) ?_;refine .ptr σ.next 0 (y.ev E fr).cs (y.ev E fr).cs (λh=>h rfl) (.inl (by simp[Store.put])) (by omega) (λj hj=>?_);rw[z2];exact .keep _ (hv.cs _ (ad5 _ hj))
def gq6 {t el:TypeId}{len:Nat}{parts:Array (Nat×Operand)}{z out:List IV}{ps:List (Nat×Nat×IX)}{esz n:Nat}(hu:P.underlying t=zc (.slice el))(hsz:szT P el=zc esz)(hpos:0<esz)(hz:bl9 P el=zc z)(hzl:z.length=esz)
  (hbig:len*esz<=2^24) (hp:ba1 P (λi=>zc (i*esz,esz)) parts.toList=zc ps) (hv:au8 (rep z len) (ps.map λp=>(p.1,p.2.1,p.2.2.ev E fr))=zc out)
  (hs:Sim E ρ w σ) (hf:FR ρ w N fr a.tmps) (hn:n<=σ.next) :
  cu2 P E σ.next n ρ w a (.buildSlice t len parts) (.aa2 (chunk esz len out)) σ:=by
 have hno:ρ σ.next=.no:=hs.fresh _ (zd _);have hlv:∀i,ρ i≠.no->i≠σ.next:=λi h e=>h (by rw[e];exact hno)
 have⟨zr,hzr,hcr⟩:=ar4 (w:=w) (ρ:=ρ) hz;have⟨hl,hpl⟩:=bm1 (a:=a) parts.toList ps hp hs hf;have hol:out.length=len*esz:=by rw[ej3 _ _ _ hv,ar9,hzl]
 have hnm:∀c∈out,Nm (λi=>i≠σ.next) c:=if5 _ _ _ hv (iy3 (λc hc=>by
   obtain ⟨i,hi,rfl⟩:=aj3 (d:=.undef) hc;exact (hcr.2 i hi).nm hlv) _) (λp hp'=>by
   obtain ⟨i,hi,rfl⟩:=aj3 (d:=(0,0,.undef)) hp';exact (hpl i (by simpa using hi)).2.nm hlv)
 refine cx7 hs hn (λhs0=>fh3 hu hsz hpos hz hzl hbig hp hv hs0 hf hno (zi _) hn) ?_
 have key:∀i,i<len->i*esz+esz<=out.length:=λi hi=>by
  have:(i+1)*esz<=len*esz:=zj _ (by omega);rw[zx,zw] at this;omega
 refine .slice σ.next 0 len esz out _ (λh=>h rfl) (.inr (by simp[Store.put])) (cu3 _ _ _) (by omega) (λi hi=>?_) (λi hi j hj=>?_)
 .rw[bs8 _ _ _ _ hi];have:=key i hi;simp;omega
 .rw[bs8 _ _ _ _ hi,getD_take' _ _ _ _ hj,an9,z2];exact .keep _ (hnm _ (ad5 _ (by have:=key i hi;omega)))
def gq7 {t el:TypeId}{parts:Array (Nat×Operand)}{z d:List IV}{ps:List (Nat×Nat×IX)}{esz id n:Nat}(H:P.underlying t=zc (.slice el))(g:szT P el=zc esz)(I:0<esz)(L:bl9 P el=zc z)(e:z.length=esz)
  (hp:ba1 P (λi=>zc (i*esz,esz)) parts.toList=zc ps) (F:au8 (rep z 0) (ps.map λp=>(p.1,p.2.1,p.2.2.ev E fr))=zc d)
  (hs:Sim E ρ w σ) (hf:FR ρ w N fr a.tmps) (q:ρ id=.no) (B:id<σ.next) (T:n<=id) :
  cu2 P E id n ρ w a (.buildSlice t 0 parts) .ad2 (σ.put id (.row d)):=by
 intro o Q;have⟨zr,u,D⟩:=ar4 (w:=w) (ρ:=ρ) L;have r:=cc9 D 0 (.inl (by omega));rw[e] at r;have⟨U,A⟩:=bm1 parts.toList ps hp hs hf;have⟨c,hr,y⟩:=cj1 (place:=λi=>zc (i*esz,esz)) _ (parts.toList.map λp=>(p.1,a.eval p.2)) _ d _ r (by simp[U]) (λj V=>A j (by simpa using V)) F;have m:(parts.map λ(i,x)=>(i,a.eval x)).toList=parts.toList.map λp=>(p.1,a.eval p.2):=sm
 have M:d.length=0*esz:=by
  have:∀(ps:List (Nat×Nat×IV)) (l o:List IV),au8 l ps=zc o->o.length=l.length:=by
   intro ps
   induction ps with
   | nil=>intro l o h;cases h;rfl
   | cons p ps ih=>
    intro l o h;have⟨off,s,v⟩:=p;simp only[au8] at h;split at h
    .rename_i W;rw[ih _ _ h,af8 (by omega)]
    .cases h
  rw[this _ _ _ F,ar9,e]
 have k:=cj6 (el:=el) hs q B y;refine ⟨.value (.slice (zc ⟨w.heap.size,0,ze⟩) 0 0),.slice (zc ⟨w.heap.size,0,ze⟩) 0 0,ρ.put id (.at w.heap.size 0),w.alloc (.cells c el),?_,.inl rfl,k,?_,am4 q T,aj1.put _ _ _⟩
 .unfold execOp;rw[Q];have J:¬(0*esz>2^24):=by rw[z1];decide
  have K:∀f:Nat->Value,(zh 0).map f=#[]:=λf=>by simp[zh]
  by_cases h0:0*esz=0
  .have b:Instr.fill (λi=>zc (i*esz,esz)) #[] ((parts.map λ(i,x)=>(i,a.eval x)).toList)=zc c:=by
    rw[m,<- hr,h0,K]
   simp only[Instr.buildSlice,Sem.run_bind,run_underlying H,Result.andThen_ok,run_sizeOf g,if_neg J,if_pos h0,Sem.run_pure,h0,K,b];simp[newRow]
  .have b:Instr.fill (λi=>zc (i*esz,esz)) ((zh (0*esz)).map (zr.cells[· % zr.cells.size]!)) ((parts.map λ(i,x)=>(i,a.eval x)).toList)=zc c:=by
    rw[m,<- hr]
   simp only[Instr.buildSlice,Sem.run_bind,run_underlying H,Result.andThen_ok,run_sizeOf g,if_neg J,if_neg h0,u,Sem.run_pure,b];simp[newRow]
 .exact .ad2 _
def if6 {t el:TypeId}{parts:Array (Nat×Operand)}{z out:List IV}{ps:List (Nat×Nat×IX)}{esz n:Nat}(hu:P.underlying t=zc (.slice el))(hsz:szT P el=zc esz)(hpos:0<esz)(hz:bl9 P el=zc z)(hzl:z.length=esz)
  (hp:ba1 P (λi=>zc (i*esz,esz)) parts.toList=zc ps) (hv:au8 (rep z 0) (ps.map λp=>(p.1,p.2.1,p.2.2.ev E fr))=zc out)
  (hs:Sim E ρ w σ) (hf:FR ρ w N fr a.tmps) (hn:n<=σ.next) :
  cu2 P E σ.next n ρ w a (.buildSlice t 0 parts) .ad2 σ :=
 cx7 hs hn (λhs0=>gq7 hu hsz hpos hz hzl hp hv hs0 hf (hs.fresh _ (zd _)) (zi _) hn) (.keep _ .ad2)
def ev8 {t k y:TypeId}{x:Operand}{ix:IX}{es:List (IV×IV)}{id n:Nat}(p:P.underlying t=zc (.map k y))(m:ak1 x=zc ix)(u:ix.ev E fr=.am2 es)(hs:Sim E ρ w σ)(hf:FR ρ w N fr a.tmps)(f:ρ id=.no)(j:id<σ.next)(r:n<=id) :
  cu2 P E id n ρ w a (.range t x) (.ptr id 0) (σ.put id (.as9 es ze)):=by
 intro o q;have g:=ab1 (a:=a) m hs hf;rw[u] at g;generalize h:a.eval x=rx at g
 cases g with
 | am2 _ es' b mes clock hp hd hfb hb hl hk hv h4 h5=>
  have s:(getObj b).run P w=.ok (.map mes clock) w:=by simp[getObj,Sem.run,hb]
  have c:Ext 0 ρ w (ρ.put id (.at w.heap.size 0)) (w.alloc (.mapIter (zc b) clock #[] clock)):=am4 f (Nat.zero_le _);refine ⟨.value (.pointer (zc ⟨w.heap.size,0,ze⟩)),.pointer (zc ⟨w.heap.size,0,ze⟩),ρ.put id (.at w.heap.size 0),w.alloc (.mapIter (zc b) clock #[] clock),?_,.inl rfl,bz3 hs f j ?_,.ptr id 0 w.heap.size 0 (by simp[Rho.put]),am4 f r,aj1.put _ _ _⟩
  .unfold execOp;rw[q];simp[Instr.range,run_underlying p,h,s]
  .have d:(mes.toList.filter λe=>!(#[]:Array Nat).contains e.born)=mes.toList:=sm
   refine ⟨rfl,b,clock,#[],mes,clock,es',by show (w.heap.push _)[w.heap.size]? = _;simp,c.fb hfb,by rw[c.keep b hfb.ub];exact hb,h4,h5,rfl,by rw[d];simpa using hl,hp,(λc e=>by cases e),λi hi=>?_⟩;rw[d];have e:mes.toList.getD i default=mes.getD i default:=by simp[zb,za]
   rw[e];exact ⟨(hk i hi).mono c,(hv i hi).mono c⟩
def bp6 (σ:Store):IV->Option (Nat×List (IV×IV))
 | .ptr id 0=>match σ.obj id with
  | some (.as9 left _)=>zc (id,left)
  | _=>ze
 | _=>ze
def ej4:∀(b:List MapEntry) (j:Nat),j<b.length->b.Pairwise (λx y=>x.born≠y.born)->(b.filter λe=>!(e.born==(b.getD j default).born))=b.eraseIdx j:=by
 intro b
 induction b with
 | nil=>intro j h;simp at h
 | cons x xs ih=>
  intro j i hp;have⟨f,k⟩:=List.pairwise_cons.1 hp
  cases j with
  | zero=>
   simp only[List.getD_cons_zero,List.eraseIdx_cons_zero];rw[List.filter_cons_of_neg sm];refine z5.2 λy g=>?_
   have:=f y g
   simp;omega
  | succ j=>
   simp only[zt,zz];have c:j<xs.length:=by simpa using i
   have m:=f _ (ad5 default c);have d:x.born≠(xs.getD j default).born:=by omega
   rw[List.filter_cons_of_pos (by simpa using d),ih j c k]
def dz7 {b:Array MapEntry}(e:∀i j,i<j->j<b.size->(b.getD i default).born≠(b.getD j default).born):b.toList.Pairwise (λx y=>x.born≠y.born):=by
 rw[List.pairwise_iff_getElem];intro i j hi d c;have:=e i j c (by simpa using d);rw[ae3 _ _ _ (by simpa using hi),ae3 _ _ _ (by simpa using d)] at this
 simpa using this
def ev9 {n:Nat}(b:0<n):∃k,k<n/\((choose (.mapNext n)).run P w=.ok k w\/(choose (.mapNext n)).run P w=.ok k w.drew):=by
 by_cases c:n<=1
 .exact ⟨0,b,.inl (by simp[choose,Sem.run,Question.forced,c])⟩
 .have hf:(Question.mapNext n).forced=false:=by simp only[Question.forced];simpa using c
  refine ⟨w.tape w.drawn (.mapNext n)%n,Nat.mod_lt _ b,.inr ?_⟩;show Sem.run P (.choose (.mapNext n) .pure) w=_;unfold Sem.run;rw[hf];rfl
def Ext.le0 {n:Nat}(h:Ext n ρ w ρ' w'):Ext 0 ρ w ρ' w' :=
 ⟨h.size,h.keep,h.shape,h.img,h.at_,h.dead,λi hi=>absurd hi (Nat.not_lt_zero _),h.output,h.os,h.tape,h.loops,h.X⟩
def dm7 {b:Type}(d:b):∀(l:List b) (k:Nat),k<l.length->(l.getD k d::l.eraseIdx k).Perm l:=by
 intro l
 induction l with
 | nil=>intro k h;simp at h
 | cons a l ih=>
  intro k h
  cases k with
  | zero=>simp
  | succ k=>
   simp only[zt,zz];exact (List.Perm.swap _ _ _).trans ((ih k (by simpa using h)).cons a)
def fv6 {x:Operand} {ix:IX} {id n id0:Nat} {left:List (IV×IV)} (hx:ak1 x=zc ix) (h:bp6 σ (ix.ev E fr)=zc (id,left)) (hs:Sim E ρ w σ) (hf:FR ρ w N fr a.tmps) :
  (left=[]/\cu2 P E id0 n ρ w a (.next x false) (.tuple [.bool false]) σ) \/
  ∃j,j<left.length/\cu2 P E id0 n ρ w a (.next x false) (.tuple [.bool true,(left.getD j (.undef,.undef)).1,(left.getD j (.undef,.undef)).2]) (σ.put id (.as9 (left.eraseIdx j) (zc (left.getD j (.undef,.undef))))):=by
 have vx:=ab1 (a:=a) hx hs hf;generalize ix.ev E fr=ax at vx h;generalize ai:a.eval x=rx at vx
 cases vx with
 | ptr id' off B d hid=>
  unfold bp6 at h;split at h
  .rename_i ao V;cases V;split at h
   .rename_i af ar;cases h;have⟨X,J,aq⟩:=hs.obj _ B d hid;rw[ar] at J;cases J;have⟨hd,H,b,f,g,ck,q,h1,h2,h3,h4,h5,h6,h7,h8,aB,Y⟩:=aq;subst hd;subst h6;have ak:∀w',w'.heap=w.heap->(getObj H).run P w'=.ok (.map g b) w':=λw' e=>by simp[getObj,Sem.run,e,h3]
    have al:(getObj B).run P w=.ok (.mapIter (zc H) b f b) w:=by simp[getObj,Sem.run,h1]
    have F:∀e∈g.toList,e.born<b:=λe D=>by
     obtain ⟨i,hi,rfl⟩:=aj3 (d:=default) D;have:=h4 i (by simpa using hi)
     simpa [zb,za] using this
    have K:(!f.isEmpty&&!g.isEmpty&&g.all (·.born≥b))=false:=by
     by_cases hm:g.isEmpty=true
     .simp[hm]
     .have:0<g.size:=by
       rcases Nat.eq_zero_or_pos g.size with h|h
       .exact absurd (by simpa [Array.isEmpty] using h) hm
       .exact h
      have h0:=h4 0 this
      have:g.all (·.born≥b)=false:=by
       rw[Bool.eq_false_iff];intro Q;rw[Array.all_eq_true] at Q;have:=Q 0 this;rw[ae3 _ _ _ (by assumption)] at h0;simp at this;omega
      simp[this]
    generalize A:(g.toList.filter λe=>!f.contains e.born)=ls at h7 Y;have z:(g.filter λe=>!f.contains e.born).toList=ls:=by rw[<- A];simp
    have ac:((g.filter λe=>!f.contains e.born).filter (·.born<b)).toList=ls:=by
     rw[z4,z]
     exact z5.2 λe D=>by
      have:e∈g.toList:=by rw[<- A] at D;exact (zy.1 D).1
      simpa using F e this
    have ae:((g.filter λe=>!f.contains e.born).filter (·.born≥b)).toList=[]:=by
     rw[z4,z]
     exact List.filter_eq_nil_iff.2 λe D=>by
      have:e∈g.toList:=by rw[<- A] at D;exact (zy.1 D).1
      have:=F e this;simp;omega
    have hO:((g.filter λe=>!f.contains e.born).filter (·.born<b))=ls.toArray:=by rw[<- ac]
    have hN:((g.filter λe=>!f.contains e.born).filter (·.born≥b))=#[]:=by
     apply Array.toList_inj.1;rw[ae]
    by_cases D:ls=[]
    .left;have av:left=[]:=zf.1 (by rw[<- h8.length_eq,h7,D];rfl);refine ⟨av,?_⟩;intro o ho;have p:(choose (.mapNext 1)).run P w=.ok 0 w:=by simp[choose,Sem.run,Question.forced]
     refine ⟨.value (.tuple #[.bool false]),.tuple #[.bool false],ρ,w,?_,.inl rfl,hs,?_,Ext.refl _ _ _,aj1.refl _ _⟩
     .unfold execOp;rw[ho];simp only[ai,Instr.next,Sem.run_bind,zo,al,Result.andThen_ok,ak w rfl,K,zl,if_false,hO,hN];have W:((if ls.toArray.isEmpty=true then #[ze] else #[])++(ls.toArray++#[]).map zc:Array (Option MapEntry))=#[ze]:=by rw[D];simp
      simp only[W];have hc:(choose (.mapNext (#[ze]:Array (Option MapEntry)).size)).run P w=.ok 0 w:=p;simp only[hc,Sem.run_pure,Result.andThen_ok];simp
     .refine .tuple _ _ rfl λi hi=>?_
      match i,hi with
      | 0,_=>exact .bool false
    .right;have ab:0<ls.length:=by cases ls with|nil=>exact absurd rfl D|cons _ _=>simp
     have as:ls.toArray.isEmpty=false:=by cases ls with|nil=>exact absurd rfl D|cons _ _=>simp
     have⟨k,hk,p⟩:=ev9 (P:=P) (w:=w) (n:=ls.length) ab;have u:k<q.length:=by omega
     have⟨j,hj,aj⟩:=aj3 (d:=((.undef,.undef):IV×IV)) (h8.subset (ad5 (.undef,.undef) u))
     have ap:(q.eraseIdx k).Perm (left.eraseIdx j):=by
      have p1:=dm7 ((.undef,.undef):IV×IV) q k u;have p2:=dm7 ((.undef,.undef):IV×IV) left j hj;rw[aj] at p2;exact List.Perm.cons_inv ((p1.trans h8).trans p2.symm)
     refine ⟨j,hj,?_⟩;rw[aj];intro o ho;have hp:ls.Pairwise (λx y=>x.born≠y.born):=by rw[<- A];exact (dz7 h5).sublist List.filter_sublist
     have W:((if ls.toArray.isEmpty=true then #[ze] else #[])++(ls.toArray++#[]).map zc:Array (Option MapEntry))=(ls.map zc).toArray:=by
      rw[as];simp
     have ay:((ls.map zc).toArray)[k]? = zc (zc (ls.getD k default)):=by
      simp[zb,hk]
     have nc:∀(an:Array Value) (el:TypeId) (fz:Nat×Nat),Obj.mapIter (zc H) b f b≠.cells an el fz:=λ_ _ _ h=>by cases h
     have nl:∀L,Obj.mapIter (zc H) b f b≠.loop L:=λ_ h=>by cases h
     have fin:∀t:World,t.heap=w.heap->Sim E ρ t σ->Ext n ρ w ρ t->(choose (.mapNext ls.length)).run P w=.ok k t ->
       ∃(x:Next) (r:Value) (ρ':Rho) (w':World),(execOp a.eval o).run P w=.ok x w'/\((x=.value r)\/(x=.skip/\r=undef))/\Sim E ρ' w' (σ.put id (.as9 (left.eraseIdx j) (zc (q.getD k (.undef,.undef))))) /\
        VR ρ' w' (.tuple [.bool true,(q.getD k (.undef,.undef)).1,(q.getD k (.undef,.undef)).2]) r/\Ext n ρ w ρ' w'/\aj1 id0 ρ ρ':=by
      intro t U ah ag p;have aa:∀X,(setObj B X).run P t=.ok () (t.putObj B X):=λob=>by simp[setObj,Sem.run,U,h1,World.putObj]
      have am:t.heap[B]? = zc (.mapIter (zc H) b f b):=by rw[U];exact h1
      have au:H≠B:=λe=>by rw[e,h1] at h3;cases h3
      have T:∀m (X:Obj),Ext m ρ t ρ (t.putObj B X):=λm X=>bi8 hid am nc nl
      have I:Ext 0 ρ w ρ t:=ag.le0;refine ⟨.value (.tuple #[.bool true,(ls.getD k default).key,(ls.getD k default).val]),.tuple #[.bool true,(ls.getD k default).key,(ls.getD k default).val],ρ,t.putObj B (.mapIter (zc H) b (f.push (ls.getD k default).born) b),?_,.inl rfl,cj7 ah hid am nc nl ?_,?_,ag.trans (T n _) (zd _),aj1.refl _ _⟩
      .unfold execOp;rw[ho];simp only[ai,Instr.next,Sem.run_bind,zo,al,Result.andThen_ok,ak w rfl,K,zl,if_false,hO,hN,W];have hc:(choose (.mapNext (ls.map zc).toArray.size)).run P w=.ok k t:=by simpa using p
       simp only[hc,Result.andThen_ok,ay,aa,Sem.run_pure,Sem.run_bind]
      .have s:Ext 0 ρ w ρ (t.putObj B (.mapIter (zc H) b (f.push (ls.getD k default).born) b)):=I.trans (T 0 _) (zd _)
       have M:(g.toList.filter λe=>!(f.push (ls.getD k default).born).contains e.born)=ls.eraseIdx k:=by
        rw[<- ej4 ls k hk hp];generalize (ls.getD k default).born=bb;rw[<- A,List.filter_filter];congr 1;funext e;rw[Bool.eq_iff_iff];simp[and_comm,not_or]
       refine ⟨rfl,H,b,_,g,b,q.eraseIdx k,World.putObj_heap_same (ah.lt _ _ _ hid),s.fb h2,?_,h4,h5,rfl,?_,ap,?_,λi hi=>?_⟩
       .rw[World.putObj_heap_other au,U];exact h3
       .rw[M,zq,zq,h7]
       .intro c az;obtain rfl:=zc.inj az
        have hm:ls.getD k default∈g.toList:=by
         have:=ad5 (default:MapEntry) hk;rw[<- A] at this ⊢;exact (zy.1 this).1
        have⟨i,hi,aw⟩:=aj3 (d:=(default:MapEntry)) hm;have e:g.getD i default=ls.getD k default:=by rw[<- aw];simp[zb,za]
        refine ⟨i,by simpa using hi,?_,?_,?_⟩
        .rw[e];simp
        .rw[e];exact (Y k u).1.mono s
        .rw[e];exact (Y k u).2.mono s
       .rw[M]
        have e1:∀ {α:Type} (l:List α) (d:α),(l.eraseIdx k).getD i d=l.getD (if i<k then i else i+1) d:=λl d=>by
         simp only[zb,List.getElem?_eraseIdx];split<;>simp
        rw[e1,e1]
        have aA:i<q.length-1:=by
         rw[zq,if_pos u] at hi;exact hi
        have:=Y (if i<k then i else i+1) (by split<;>omega);exact ⟨this.1.mono s,this.2.mono s⟩
      .have s:Ext 0 ρ w ρ (t.putObj B (.mapIter (zc H) b (f.push (ls.getD k default).born) b)):=I.trans (T 0 _) (zd _);refine .tuple _ _ rfl λi hi=>?_
       match i,hi with
       | 0,_=>exact .bool true
       | 1,_=>exact (Y k u).1.mono s
       | 2,_=>exact (Y k u).2.mono s
     rcases p with p|p
     .exact fin w rfl hs (Ext.refl _ _ _) p
     .exact fin w.drew rfl (dz3 hs) (bm2 n) p
   .cases h
  .cases h
 | cx4 id' off ad hid=>
  unfold bp6 at h;split at h
  .rename_i ao V;cases V;rw[hs.dead _ hid] at h;cases h
  .cases h
 | _=>simp[bp6] at h
def cw4 (σ:Store):IV->Option IV
 | .ptr id 0=>match σ.obj id with
  | some (.as9 _ (zc c))=>zc (.tuple [c.1,c.2])
  | _=>ze
 | _=>ze
def gq8 {x:Operand}{ix:IX}{n id0:Nat}{v:IV}(Q:ak1 x=zc ix)(h:cw4 σ (ix.ev E fr)=zc v)(hs:Sim E ρ w σ)(hf:FR ρ w N fr a.tmps):cu2 P E id0 n ρ w a (.entry x) v σ:=by
 have r:=ab1 (a:=a) Q hs hf;generalize ix.ev E fr=ax at r h;generalize t:a.eval x=rx at r
 cases r with
 | ptr id' off B d hid=>
  unfold cw4 at h;split at h
  .rename_i s m;cases m;split at h
   .rename_i left c z;cases h;have⟨ob,g,y⟩:=hs.obj _ B d hid;rw[z] at g;cases g;have⟨W,J,f,p,b,ck,M,h1,h2,h3,h4,K,Y,h7,h8,hc,h9⟩:=y;subst W;subst Y;have⟨i,L,g2,g3,g4⟩:=hc c rfl;intro o T;refine ⟨.value (.tuple #[(b.getD i default).key,(b.getD i default).val]),.tuple #[(b.getD i default).key,(b.getD i default).val],ρ,w,?_,.inl rfl,hs,?_,Ext.refl _ _ _,aj1.refl _ _⟩
    .have H:(getObj J).run P w=.ok (.map b f) w:=by simp[getObj,Sem.run,h3]
     have I:(getObj B).run P w=.ok (.mapIter (zc J) f p f) w:=by simp[getObj,Sem.run,h1]
     have k:b.find? (λe=>e.born==(b.getD i default).born)=zc (b.getD i default):=by
      rw[<- Array.find?_toList];have F:i<b.toList.length:=by simpa using L
      have q:b.getD i default∈b.toList:=by
       have:=ad5 (default:MapEntry) F
       simpa [zb,za] using this
      cases u:b.toList.find? (λe=>e.born==(b.getD i default).born) with
      | none=>exact absurd (List.find?_eq_none.1 u _ q) sm
      | some e=>
       have V:=List.mem_of_find?_eq_some u;have X:e.born=(b.getD i default).born:=by simpa using List.find?_some u
       have⟨j,U,A⟩:=aj3 (d:=(default:MapEntry)) V;have ej:b.getD j default=e:=by rw[<- A];simp[zb,za]
       have D:j<b.size:=by simpa using U
       rw[<- ej] at X ⊢;congr 1;rcases Nat.lt_trichotomy j i with h|h|h
       .have:=K j i h L;omega
       .rw[h]
       .have:=K i j h D;omega
     unfold execOp;rw[T];simp only[t,Instr.entry,Sem.run_bind,zo,I,Result.andThen_ok,g2,H,bne_self_eq_false,zl,if_false,k,Sem.run_pure]
    .refine .tuple _ _ rfl λi hi=>?_
     match i,hi with
     | 0,_=>exact g3
     | 1,_=>exact g4
   .cases h
  .cases h
 | cx4 id' off ad hid=>
  unfold cw4 at h;split at h
  .rename_i s m;cases m;rw[hs.dead _ hid] at h;cases h
  .cases h
 | _=>simp[cw4] at h
end Go.Id
namespace Go.Id
open Go
variable {P:Program} {w w':World} {ρ ρ':Rho} {E:Nat->IV} {σ σ':Store} {N:Nat} {fr:Frm} {a:Act}
def ew1 {t:TypeId}{m k v:Operand}{x:IV}{id n:Nat}(h:cu2 P E id n ρ w a (.mapUpdate t m k v) x σ'):cu2 P E id n ρ w a (.insert t m k v) x σ':=by
 intro o d;have⟨y,r,ρ',w',c,b⟩:=h { o with op:=.mapUpdate t m k v } rfl;refine ⟨y,r,ρ',w',?_,b⟩;rw[<- c];unfold execOp;rw[d]
def db4:IV->Option Nat
 | .int _ n=>if 0<=n/\n<=2147483648 then zc n.toNat else ze
 | _=>ze
def db5:Operand->Operand->Bool
 | .tmp a,.tmp b=>a==b
 | .const (.int k n),.const (.int k' n')=>decide (k=k')&&decide (n=n')
 | _,_=>false
def fv7 {x y:Operand}(h:db5 x y=true):y=x:=by
 unfold db5 at h;split at h
 .simp at h;rw[h]
 .simp at h;rw[h.1,h.2]
 .cases h
def ej5 {t el:TypeId}{x y:Operand}{ix:IX}{i:TypeInfo}{z:List IV}{len id n:Nat}(Q:P.underlying t=zc (.slice el))(hi:P.info? el=zc i)(K:bl9 P el=zc z)(p:z.length=i.size)(D:0<i.size)(W:i.bytes<=4096)
  (M:ak1 x=zc ix) (L:db5 x y=true) (h:db4 (ix.ev E fr)=zc len) (hs:Sim E ρ w σ) (hf:FR ρ w N fr a.tmps) (c:ρ id=.no) (A:id<σ.next) (T:n<=id) :
  cu2 P E id n ρ w a (.makeSlice t x y) (.slice id 0 len i.size) (σ.put id (.row (rep z len))):=by
 intro o F;rw[fv7 L] at F;have g:=ab1 (a:=a) M hs hf;generalize ix.ev E fr=ax at g h;generalize u:a.eval x=rx at g;unfold db4 at h;split at h
 .rename_i k m;split at h
  .rename_i H;cases h;cases g;obtain ⟨zr,j,B⟩:=ar4 (w:=w) (ρ:=ρ) K;have d:=cc9 B m.toNat (.inl (by omega));rw[p] at d
   have q:IntKind.i64.wrap m=m:=by
    simp[IntKind.wrap,IntKind.bits,IntKind.signed];omega
   have b:=cj6 (el:=el) hs c A d;have s:szT P el=zc i.size:=by simp[szT,hi]
   have e:¬((i.bytes:Int)*m>2^48):=by
    have J:(i.bytes:Int)*m<=4096*2147483648:=Int.mul_le_mul (by omega) H.2 H.1 (by omega);omega
   refine ⟨.value (.slice (zc ⟨w.heap.size,0,ze⟩) m.toNat m.toNat),.slice (zc ⟨w.heap.size,0,ze⟩) m.toNat m.toNat,ρ.put id (.at w.heap.size 0),w.alloc (.cells ((zh (m.toNat*i.size)).map (zr.cells[· % zr.cells.size]!)) el),?_,.inl rfl,b,?_,am4 c T,aj1.put _ _ _⟩
   .unfold execOp;rw[F];have r:(typeInfo el).run P w=.ok i w:=by simp[typeInfo,hi]
    have h0:decide (m<0)=false:=by simp;omega
    have J:decide ((i.bytes:Int)*m>2^48)=false:=by simpa using e
    simp only[u,Instr.makeSlice,Sem.run_bind,run_underlying Q,Result.andThen_ok,asInt,asIntOf,Sem.run_pure,r,q,h0,J,Bool.or_false,Bool.false_or];have U:decide (m>m)=false:=by simp
    simp only[U,zl,if_false,Sem.run_bind,run_askRoom,Result.andThen_ok,run_sizeOf s,Sem.run_pure];by_cases I:m.toNat*i.size=0
    .have V:∀f:Nat->Value,(zh 0).map f=#[]:=λf=>by simp[zh]
     simp only[I,if_true,Sem.run_pure,Result.andThen_ok,V];simp[newRow]
    .simp only[I,if_false,Sem.run_bind,j,Result.andThen_ok,Sem.run_pure];simp[newRow]
   .exact .slice id 0 m.toNat i.size w.heap.size 0 m.toNat ((zh (m.toNat*i.size)).map (zr.cells[· % zr.cells.size]!)) el (0,0) (by simp[Rho.put]) (by show (w.heap.push _)[w.heap.size]? = _;simp) (by simp) (zd _)
  .cases h
 .cases h
def fv8 {t el:TypeId}{x y:Operand}{ix:IX}{i:TypeInfo}{z:List IV}{len n:Nat}(hu:P.underlying t=zc (.slice el))(hi:P.info? el=zc i)(hz:bl9 P el=zc z)(hzl:z.length=i.size)(hpos:0<i.size)(hb:i.bytes<=4096)
  (hx:ak1 x=zc ix) (hy:db5 x y=true) (h:db4 (ix.ev E fr)=zc len) (hs:Sim E ρ w σ) (hf:FR ρ w N fr a.tmps) (hn:n<=σ.next) :
  cu2 P E σ.next n ρ w a (.makeSlice t x y) (.aa2 (chunk i.size len (rep z len))) σ:=by
 have hno:ρ σ.next=.no:=hs.fresh _ (zd _);have hlv:∀i,ρ i≠.no->i≠σ.next:=λi h e=>h (by rw[e];exact hno)
 have⟨zr,hzr,hcr⟩:=ar4 (w:=w) (ρ:=ρ) hz;have hol:(rep z len).length=len*i.size:=by rw[ar9,hzl]
 have hnm:∀c∈rep z len,Nm (λi=>i≠σ.next) c:=iy3 (λc hc=>by
   obtain ⟨i,hi,rfl⟩:=aj3 (d:=.undef) hc;exact (hcr.2 i hi).nm hlv) _
 refine cx7 hs hn (λhs0=>ej5 hu hi hz hzl hpos hb hx hy h hs0 hf hno (zi _) hn) ?_
 have key:∀j,j<len->j*i.size+i.size<=(rep z len).length:=λj hj=>by
  have:(j+1)*i.size<=len*i.size:=zj _ (by omega);rw[zx,zw] at this;omega
 refine .slice σ.next 0 len i.size (rep z len) _ (λh=>h rfl) (.inr (by simp[Store.put])) (cu3 _ _ _) (by omega) (λj hj=>?_) (λj hj k hk=>?_)
 .rw[bs8 _ _ _ _ hj];have:=key j hj;simp;omega
 .rw[bs8 _ _ _ _ hj,getD_take' _ _ _ _ hk,an9,z2];exact .keep _ (hnm _ (ad5 _ (by have:=key j hj;omega)))
def gq9 (σ:Store)(esz:Nat)(z:List IV):IV->Option Store
 | .aa5|.ad2=>zc σ
 | .aa2 []=>zc σ
 | .slice id off len e=>if len=0 then zc σ else match σ.obj id with
  | some (.row cs)=>if e=esz/\off+len*esz<=cs.length/\z.all IV.leaf=true then zc (σ.put id (.row (ay4 cs off (rep z len)))) else ze
  | _=>ze
 | _=>ze
def jf3 {z:List IV}(h:z.all IV.leaf=true):∀n,(rep z n).all IV.leaf=true:=by
 intro n
 induction n with
 | zero=>rfl
 | succ n ih=>simp only[rep,List.all_append,h,ih,Bool.and_self]
def if7 {t el:TypeId} {x:Operand} {ix:IX} {z:List IV} {esz n id0:Nat} (s:P.underlying t=zc (.slice el)) (ac:szT P el=zc esz) (hz:bl9 P el=zc z) (y:z.length=esz) (aa:0<esz)
  (Q:ak1 x=zc ix) (h:gq9 σ esz z (ix.ev E fr)=zc σ') (hs:Sim E ρ w σ) (hf:FR ρ w N fr a.tmps):cu2 P E id0 n ρ w a (.call { callee:=.builtin .clear,args:=#[x],argTypes:=#[t] }) .undef σ':=by
 intro o ho;have U:=ab1 (a:=a) Q hs hf;generalize ix.ev E fr=ax at U h;generalize I:a.eval x=rx at U
 have f:σ'=σ->(Builtin.clear_ #[t] o.type #[rx]).run P w=.ok (.tuple #[]) w ->
   ∃(x:Next) (r:Value) (ρ':Rho) (w':World),(execOp a.eval o).run P w=.ok x w'/\((x=.value r)\/(x=.skip/\r=undef))/\Sim E ρ' w' σ'/\VR ρ' w' .undef r/\Ext n ρ w ρ' w'/\aj1 id0 ρ ρ':=by
  rintro rfl hr;refine ⟨.value (.tuple #[]),.tuple #[],ρ,w,?_,.inl rfl,hs,.undef _,Ext.refl _ _ _,aj1.refl _ _⟩;unfold execOp;rw[ho];simp[resolve,invoke,builtin,I,hr]
 cases U with
 | aa5=>cases h;exact f rfl (by simp[Builtin.clear_,run_underlying s])
 | ad2 ad=>cases h;exact f rfl (by simp[Builtin.clear_,run_underlying s])
 | ci6=>cases h;exact f rfl (by simp[Builtin.clear_,run_underlying s])
 | aa2 es b o' cap esz' sp vs hfb j hc hv hle=>
  unfold gq9 at h;split at h<;>first|(cases h;done)|skip
  .rename_i g;cases g
  .rename_i g;cases g
  .rename_i g;cases g;cases h;exact f rfl (by simp[Builtin.clear_,run_underlying s])
  .rename_i g;cases g
 | slice id off len e B d cap rcs el' fz hid hbk hszk hle=>
  simp only[gq9] at h;split at h
  .rename_i h0;subst h0;cases h;exact f rfl (by simp[Builtin.clear_,run_underlying s])
  .rename_i h0;have⟨ob,ab,Y⟩:=hs.obj id B d hid;rw[ab] at h
   cases ob with
   | row cs=>
    simp only at h;split at h
    .rename_i hc;obtain ⟨rfl,h2,h3⟩:=hc;cases h;have⟨c,F,T,j,X⟩:=Y;have⟨zr,W,M⟩:=ar4 (w:=w) (ρ:=ρ) hz;have q:=cc9 M len (.inl (by omega));have V:zr.cells.size=e:=by rw[<- M.1,y]
     have H:Builtin.zeroCells zr.cells len=(zh (len*z.length)).map (zr.cells[· % zr.cells.size]!):=by
      unfold Builtin.zeroCells;rw[V,y]
     generalize (zh (len*z.length)).map (zr.cells[· % zr.cells.size]!)=news at q H;have J:(rep z len).length=len*e:=by rw[ar9,y]
     have D:news.size=len*e:=by rw[<- q.1,J]
     have K:∀v∈news.toList,v.oneCell'=true:=λq hq=>by
      obtain ⟨k,hk,rfl⟩:=zp.1 hq;have L:k<(rep z len).length:=by rw[q.1];simpa using hk
      have hl:((rep z len).getD k .undef).leaf=true:=List.all_eq_true.1 (jf3 h3 len) _ (ad5 _ L);have:=(cx5 hl (q.2 k L)).1;rw[ae3 _ _ _ (by simpa using hk)] at this
      simpa using this
     have A:=run_storeCells_at (P:=P) B (d+off) F news.toList 0 c w T (by simp[D];omega) K;simp only[zo] at A;generalize u:(c.toList.take (d+off)++news.toList++c.toList.drop (d+off+news.toList.length)).toArray=new at A
     have p:new.size=c.size:=by
      rw[<- u];simp[D];omega
     have Q:∀n,Ext n ρ w ρ (w.setRow B new):=λn=>az2 (n:=n) (new:=new) hid T p
     refine ⟨.value (.tuple #[]),.tuple #[],ρ,w.setRow B new,?_,.inl rfl,bs7 hs hid T p ?_,.undef _,Q n,aj1.refl _ _⟩
     .unfold execOp;rw[ho]
      cases len with
      | zero=>exact absurd rfl h0
      | succ m=>
       have hr:(Builtin.clear_ #[t] o.type #[Value.slice (zc ⟨B,d+off,ze⟩) (m+1) cap]).run P w=.ok (.tuple #[]) (w.setRow B new):=by
        simp[Builtin.clear_,run_underlying s,W,H,A]
       simp[resolve,invoke,builtin,I,hr]
     .refine ⟨new,F,setRow_heap w B c new F (0,0) T,?_,?_⟩
      .rw[p,af8 (by omega)];exact j
      .intro i hi;rw[af8 (by omega)] at hi
       have:=jw1 (w:=w) (ρ:=ρ) (cs:=cs) (vs:=rep z len) (old:=c) (news:=news.toList) (d:=d) (k:=off) X j (by simp[J,D])
        (λi hi=>by have:=q.2 i hi;simpa [za,zb] using this) (by omega) i hi
       rw[u] at this;exact this.mono (Q 0)
    .cases h
   | _=>cases h
 | am9 id off e B d ad hid=>
  simp only[gq9] at h
  cases h;exact f rfl (by simp[Builtin.clear_,run_underlying s])
 | am3 id off len e cap ad hid hle=>
  simp only[gq9] at h;split at h
  .rename_i h0;subst h0;cases h;exact f rfl (by simp[Builtin.clear_,run_underlying s])
  .rw[hs.dead id hid] at h;cases h
 | _=>simp[gq9] at h
end Go.Id
namespace Go.Id
open Go
variable {P:Program} {w w' w'':World} {ρ ρ' ρ'':Rho} {E:Nat->IV} {σ σ':Store} {N:Nat} {fr:Frm} {a:Act}
inductive SK where
 | ky4 (tag:Nat)
 | nev
 | cpy (esz:Nat)
 | sl3 (esz:Nat) (chk:Bool)
 | rlp (esz:Nat)
 | apr (esz:Nat)
 deriving Inhabited
def stI (_:SK)(_:Nat)(_:Store)(_:List IV):Option (IV×Store):=ze
def dz8 {k:SK}{id:Nat}{vs:List IV}{v:IV}(h:stI k id σ vs=zc (v,σ')):σ'.next=σ.next :=
 nomatch (show (ze:Option (IV×Store))=zc (v,σ') from h)
def ew2 {len cap l h m:Nat}{b:Option Value}{d c:Value}(g:(b=ze/\l=0)\/∃k,b=zc (.int k (l:Int)))(i:∃k,d=.int k (h:Int))(f:∃k,c=.int k (m:Int))(j:l<=h)(e:h<=m)(q:m<=cap) :
  (Instr.sliceBounds true len cap b (zc d) (zc c)).run P w=.ok (l,h,m) w:=by
 obtain ⟨p,rfl⟩:=i;obtain ⟨o,rfl⟩:=f;have a1:(h:Int)<=(m:Int):=by omega
 have a2:(m:Int)<=(cap:Int):=by omega
 have r:(l:Int)<=(h:Int):=by omega
 rcases g with ⟨rfl,rfl⟩|⟨k,rfl⟩
 .have:¬m<h:=by omega
  simp[Instr.sliceBounds,Instr.sliceBound,asIntOf,a2,e,this]
 .simp[Instr.sliceBounds,Instr.sliceBound,asIntOf,a2,j,e]
def if8 {t el:TypeId}{x F om:Operand}{g:Option Operand}{ix i I H:IX}{esz id n:Nat}{v:IV}(M:P.underlying t=zc (.slice el))(r:szT P el=zc esz)
  (L:ak1 x=zc ix) (y:(g=ze/\i=.c (.int .i64 0))\/∃o,g=zc o/\ak1 o=zc i) (V:ak1 F=zc I) (T:ak1 om=zc H)
  (h:km7 esz (ix.ev E fr) (i.ev E fr) (I.ev E fr) (H.ev E fr)=zc v) (hs:Sim E ρ w σ) (hf:FR ρ w N fr a.tmps) :
  cu2 P E id n ρ w a (.slice t x g (zc F) (zc om)) v σ:=by
 intro o Q;have q:=ab1 (a:=a) L hs hf;have K:=ab1 (a:=a) V hs hf;have J:=ab1 (a:=a) T hs hf;unfold km7 at h;split at h
 .rename_i j m e1 e2 e3
  have X:(g.map a.eval=ze/\0=0)\/∃k,g.map a.eval=zc (.int k ((0:Nat):Int)):=by
   rcases y with ⟨rfl,rfl⟩|⟨o2,rfl,u⟩
   .exact .inl ⟨rfl,rfl⟩
   .have⟨k,U⟩:=bs4 e1 (ab1 (a:=a) u hs hf);exact .inr ⟨k,by simp[U]⟩
  have Y:=bs4 e2 K;have W:=bs4 e3 J;generalize ix.ev E fr=ax at q h;generalize s:a.eval x=rx at q
  have f:∀(b:Option Addr) (len cap:Nat),rx=.slice b len cap->j<=m->m<=cap->(execOp a.eval o).run P w=.ok (.value (.slice (if m=0 then b else b.map (·.add (0*esz))) (j-0) (m-0))) w:=by
   intro b len cap hr a2 a3;have A:=ew2 (P:=P) (w:=w) (len:=len) X Y W (Nat.zero_le _) a2 a3;unfold execOp;rw[Q];simp only[s,hr,zu];simp[Instr.sliceAt,Instr.slice,run_underlying M,A,run_sizeOf r]
  split at h
  .rename_i z;subst z
   cases q with
   | aa5=>
    simp only at h;split at h
    .rename_i h0;cases h;subst h0;exact ⟨_,_,ρ,w,f ze 0 0 rfl (zd _) (zd _),.inl rfl,hs,.aa5,Ext.refl _ _ _,aj1.refl _ _⟩
    .cases h
   | ad2 b=>
    simp only at h;split at h
    .rename_i h0;cases h;subst h0;exact ⟨_,_,ρ,w,f (zc b) 0 0 rfl (zd _) (zd _),.inl rfl,hs,.ad2 b,Ext.refl _ _ _,aj1.refl _ _⟩
    .cases h
   | slice did off len e B d cap rcs elt fz hid hbk hsz' hle=>
    simp only at h;split at h
    .rename_i hc;obtain ⟨rfl,p⟩:=hc;have hr:=f (zc ⟨B,d+off,ze⟩) len cap rfl (zd _) (by omega);split at h
     .rename_i h0;cases h;subst h0;exact ⟨_,_,ρ,w,hr,.inl rfl,hs,.ad2 _,Ext.refl _ _ _,aj1.refl _ _⟩
     .rename_i h0;cases h;refine ⟨_,_,ρ,w,hr,.inl rfl,hs,?_,Ext.refl _ _ _,aj1.refl _ _⟩;rw[if_neg h0,zu,ba6,z1,zo,Nat.sub_zero];have h2:j*e<=cap*e:=zj _ (by omega);exact .ag6 did off j e B d rcs elt fz hid hbk (by omega)
    .cases h
   | am9 did off e B d b hid=>
    simp only at h;split at h
    .rename_i hc;obtain ⟨rfl,p⟩:=hc;have D:j=0:=by omega
     subst D;simp only[if_true] at h;cases h;exact ⟨_,_,ρ,w,f (zc b) 0 0 rfl (zd _) (zd _),.inl rfl,hs,.ad2 b,Ext.refl _ _ _,aj1.refl _ _⟩
    .cases h
   | am3 did off len e cap b hid hle=>
    simp only at h;split at h
    .rename_i hc;obtain ⟨rfl,p⟩:=hc;have hr:=f (zc b) len cap rfl (zd _) (by omega);split at h
     .rename_i h0;cases h;subst h0;exact ⟨_,_,ρ,w,hr,.inl rfl,hs,.ad2 _,Ext.refl _ _ _,aj1.refl _ _⟩
     .rename_i h0;cases h;refine ⟨_,_,ρ,w,hr,.inl rfl,hs,?_,Ext.refl _ _ _,aj1.refl _ _⟩;rw[if_neg h0,zu,z1,Nat.sub_zero];exact .aq6 did off j e _ hid
    .cases h
   | _=>simp at h
  .cases h
 .cases h
end Go.Id
namespace Go.Id
open Go
structure bh8 (n:Nat) (ρ:Rho) (w:World) (ρ':Rho) (w':World):Prop where
 size:w.heap.size<=w'.heap.size
 keep:∀b,UB ρ w b->w'.heap[b]? = w.heap[b]?
 shape:∀(b:Nat) (rcs:Array Value) (el:TypeId) (fz:Nat×Nat),w.heap[b]? = zc (.cells rcs el fz)->∃rcs':Array Value,w'.heap[b]? = zc (.cells rcs' el fz)/\rcs'.size=rcs.size
 img:∀i B d,ρ' i=.at B d->(∃j d',ρ j=.at B d')\/w.heap.size<=B
 at_:∀i B d,i<n->ρ i=.at B d->ρ' i=.at B d\/ρ' i=.dead
 dead:∀i,i<n->ρ i=.dead->ρ' i=.dead
 no:∀i,i<n->ρ i=.no->ρ' i=.no
 output:w'.output=w.output
 os:w'.os=w.os
 tape:w'.tape=w.tape
 loops:∀(l:Nat) (L:Loop),w.heap[l]? = zc (Obj.loop L)->∃L':Loop,w'.heap[l]? = zc (Obj.loop L')
 X:ρ'.X=ρ.X
variable {P:Program} {w w' w'':World} {ρ ρ' ρ'':Rho} {E:Nat->IV} {σ σ':Store} {N n n':Nat} {fr:Frm} {a:Act}
def Ext.weak (h:Ext n ρ w ρ' w')(b:n'<=n):bh8 n' ρ w ρ' w' :=
 ⟨h.size,h.keep,h.shape,h.img,λi B d _ hi=>h.at_ i B d hi,λi _ hi=>h.dead i hi,λi hi h0=>h.no i (zg hi b) h0,h.output,h.os,h.tape,h.loops,h.X⟩
def bh8.refl (n:Nat)(ρ:Rho)(w:World):bh8 n ρ w ρ w:=(Ext.refl n ρ w).weak (zd _)
def bh8.le (h:bh8 n ρ w ρ' w')(b:n'<=n):bh8 n' ρ w ρ' w' :=
 ⟨h.size,h.keep,h.shape,h.img,λi B d hi=>h.at_ i B d (zg hi b),λi hi=>h.dead i (zg hi b),λi hi=>h.no i (zg hi b),h.output,h.os,h.tape,h.loops,h.X⟩
def bh8.ub (h:bh8 n ρ w ρ' w'){b:Nat}(e:UB ρ w b):UB ρ' w' b:=by
 refine ⟨zg e.1 h.size,λi d hi=>?_⟩;rcases h.img i b d hi with ⟨j,g,f⟩|c
 .exact e.2 j g f
 .exact absurd e.1 (Nat.not_lt.2 c)
def bh8.trans (h:bh8 n ρ w ρ' w')(c:bh8 n ρ' w' ρ'' w''):bh8 n ρ w ρ'' w'' where
 size:=z3 h.size c.size
 keep:=λb g=>by rw[c.keep b (h.ub g),h.keep b g]
 shape:=λb k el o g=>by
  have⟨s,e,q⟩:=h.shape b k el o g;have⟨r,x,p⟩:=c.shape b s el o e;exact ⟨r,x,by rw[p,q]⟩
 img:=λi B d hi=>by
  rcases c.img i B d hi with ⟨j,y,u⟩|m
  .exact h.img j B y u
  .exact .inr (z3 h.size m)
 at_:=λi B d f hi=>by
  rcases h.at_ i B d f hi with e|e
  .exact c.at_ i B d f e
  .exact .inr (c.dead i f e)
 dead:=λi f hi=>c.dead i f (h.dead i f hi)
 no:=λi hi h0=>c.no i hi (h.no i hi h0)
 output:=by rw[c.output,h.output]
 os:=by rw[c.os,h.os]
 tape:=by rw[c.tape,h.tape]
 loops:=λl L t=>let ⟨L',e⟩:=h.loops l L t;c.loops l L' e
 X:=by rw[c.X,h.X]
def bh8.ext (h:bh8 n ρ w ρ' w')(hf:∀i,n<=i->ρ i=.no):Ext n ρ w ρ' w' :=
 ⟨h.size,h.keep,h.shape,h.img,
  λi B d hi=>h.at_ i B d (Nat.lt_of_not_le λhle=>by rw[hf i hle] at hi;cases hi) hi,
  λi hi=>h.dead i (Nat.lt_of_not_le λhle=>by rw[hf i hle] at hi;cases hi) hi,
  h.no,h.output,h.os,h.tape,h.loops,h.X⟩
def fw (ro:Option Nat):Fence:={ Fence.wide with round:=ro }
def RO (ro:Option Nat)(w:World):Prop:=∀l,ro=zc l->∃L:Loop,w.heap[l]? = zc (.loop L)
inductive DF (h0:Nat×List Deferred) (ρ:Rho) (w:World):List Deferred->Prop
 | nil (hz:h0.1<=w.heap.size) (hb:∀d∈h0.2,∀r,d.target=.collected r->r<w.heap.size):DF h0 ρ w h0.2
 | cons (r:Nat) (ds:List Deferred) (hr:w.heap[r]? = zc (.deferred (zc []))) (hb:UB ρ w r) (hh:h0.1<=r) (hn:∀d∈ds,d.target=.collected r->False) (h:DF h0 ρ w ds):DF h0 ρ w ({ target:=.collected r,args:=#[] }::ds)
def DF.mono {h0:Nat×List Deferred}{ds:List Deferred}(b:bh8 n ρ w ρ' w')(h:DF h0 ρ w ds):DF h0 ρ' w' ds:=by
 induction h with
 | nil hz hb=>exact .nil (z3 hz b.size) λd c r e=>zg (hb d c r e) b.size
 | cons r ds hr hb hh hn _ ih=>exact .cons r ds (by rw[b.keep r hb];exact hr) (b.ub hb) hh hn ih
def DF.size {h0:Nat×List Deferred}{ds:List Deferred}(h:DF h0 ρ w ds):h0.1<=w.heap.size:=by
 induction h with
 | nil hz _=>exact hz
 | cons r ds _ _ _ _ _ ih=>exact ih
def RO.mono {b:Option Nat}(h:RO b w)(c:bh8 n ρ w ρ' w'):RO b w':=λl e=>let ⟨L,h1⟩:=h l e;c.loops l L h1
def C (P:Program)(E:Nat->IV)(f:FuncId)(args:List IV)(σ:Store)(Q:IV->Store->Prop):Prop :=
 ∀(ρ:Rho) (w:World) (rargs:Array Value),Sim E ρ w σ->CR ρ w args rargs->CallsIn Fence.wide 0 P f rargs w λe w'=>
  ∃v r ρ' σ',e=.returned r/\Q v σ'/\Sim E ρ' w' σ'/\VR ρ' w' v r/\bh8 σ.next ρ w ρ' w'
def R (P:Program)(E:Nat->IV)(N n0:Nat)(c:Code)(fr:Frm)(σ:Store)(Q:Exit->Frm->Store->Prop):Prop :=
 n0<=σ.next->∀(ro:Option Nat) (h0:Nat×List Deferred) (ρ:Rho) (w:World) (a:Act),Sim E ρ w σ->FR ρ w N fr a.tmps->DF h0 ρ w a.defers->RO ro w ->
  c.wpIn (fw ro) 0 P (λe a' w'=>∃fr' σ' ρ',n0<=σ'.next/\Q e fr' σ'/\Sim E ρ' w' σ'/\FR ρ' w' N fr' a'.tmps/\DF h0 ρ' w' a'.defers/\RO ro w'/\bh8 n0 ρ w ρ' w') a w
def C.mono {f:FuncId}{args:List IV}{Q Q':IV->Store->Prop}(h:C P E f args σ Q)(d:∀v σ',Q v σ'->Q' v σ'):C P E f args σ Q' :=
 λρ w b hs hc=>(h ρ w b hs hc).mono λ_ _ ⟨v,r,ρ',σ',e,q,c⟩=>⟨v,r,ρ',σ',e,d v σ' q,c⟩
def R.mono {n0:Nat}{c:Code}{Q Q':Exit->Frm->Store->Prop}(h:R P E N n0 c fr σ Q)(hq:∀e fr σ,Q e fr σ->Q' e fr σ):R P E N n0 c fr σ Q' :=
 λhn ro h0 ρ w a hs hf hd hr=>wpIn_mono (h hn ro h0 ρ w a hs hf hd hr) λ_ _ _ ⟨fr',σ',ρ',hn',q,rest⟩=>⟨fr',σ',ρ',hn',hq _ _ _ q,rest⟩
def km9 (P:Program)(E:Nat->IV)(N n0:Nat)(y:Code)(Q:Exit->Frm->Store->Prop):Exit->Frm->Store->Prop
 | .normal,fr,σ=>R P E N n0 y fr σ Q
 | e,fr,σ=>Q e fr σ
def jw2 {n0:Nat}{x y:Code}{Q:Exit->Frm->Store->Prop}(h:R P E N n0 x fr σ (km9 P E N n0 y Q)):R P E N n0 (.seq x y) fr σ Q:=by
 intro A t h0 ρ w a hs hf B hr;refine wpIn_seq (wpIn_mono (h A t h0 ρ w a hs hf B hr) ?_);rintro e F w' ⟨fr',σ',ρ',j,q,d,m,p,g,u⟩
 cases e with
 | normal=>
  refine wpIn_mono (q j t h0 ρ' w' F d m p g) ?_;rintro e D w'' ⟨r,b,ρ'',i,z,c,k,o,f,s⟩
  exact ⟨r,b,ρ'',i,z,c,k,o,f,u.trans s⟩
 | _=>exact ⟨fr',σ',ρ',j,q,d,m,p,g,u⟩
def jw3 {n0:Nat}{Q:Exit->Frm->Store->Prop}(h:Q .normal fr σ):R P E N n0 .skip fr σ Q :=
 λhn _ _ ρ w _ hs hf hd hr=>wpIn_skip ⟨fr,σ,ρ,hn,h,hs,hf,hd,hr,bh8.refl _ _ _⟩
def jf4 {n0 l:Nat}{Q:Exit->Frm->Store->Prop}(h:Q .normal fr σ):R P E N n0 (.label l) fr σ Q :=
 λhn _ _ ρ w _ hs hf hd hr=>wpIn_label ⟨fr,σ,ρ,hn,h,hs,hf,hd,hr,bh8.refl _ _ _⟩
def jw4 {n0 id:Nat}{Q:Exit->Frm->Store->Prop}(h:Q (.exit id) fr σ):R P E N n0 (.exit id) fr σ Q :=
 λhn _ _ ρ w _ hs hf hd hr=>wpIn_exit ⟨fr,σ,ρ,hn,h,hs,hf,hd,hr,bh8.refl _ _ _⟩
def kn1 {n0:Nat}{Q:Exit->Frm->Store->Prop}(h:Q .ret fr σ):R P E N n0 .ret fr σ Q :=
 λhn _ _ ρ w _ hs hf hd hr=>wpIn_ret ⟨fr,σ,ρ,hn,h,hs,hf,hd,hr,bh8.refl _ _ _⟩
def jw5 {n0:Nat}{c:Operand}{f:IX}{x y:Code}{b:Bool}{Q:Exit->Frm->Store->Prop}(hc:ak1 c=zc f)(k:f.ev E fr=.bool b)(h:R P E N n0 (if b then x else y) fr σ Q):R P E N n0 (.cond c x y) fr σ Q:=by
 intro i g h0 ρ w a hs hf j hr;have d:=ab1 (a:=a) hc hs hf;rw[k] at d;generalize e:a.eval c=r at d;cases d;exact wpIn_cond e (h i g h0 ρ w a hs hf j hr)
def by2 (id:Nat)(Q:Exit->Frm->Store->Prop):Exit->Frm->Store->Prop
 | .exit id',fr,σ=>if id'=id then Q .normal fr σ else Q (.exit id') fr σ
 | e,fr,σ=>Q e fr σ
def gr1 {n0 id:Nat}{c:Code}{Q:Exit->Frm->Store->Prop}(h:R P E N n0 c fr σ (by2 id Q)):R P E N n0 (.block id c) fr σ Q:=by
 intro i g h0 ρ w a hs hf j hr;refine wpIn_block (wpIn_mono (h i g h0 ρ w a hs hf j hr) ?_);rintro e k w' ⟨fr',σ',ρ',d,q,b⟩
 cases e with
 | exit id'=>
  simp only[Exit.inBlock];simp only[by2] at q;split
  .rename_i f;rw[if_pos f] at q;exact ⟨fr',σ',ρ',d,q,b⟩
  .rename_i f;rw[if_neg f] at q;exact ⟨fr',σ',ρ',d,q,b⟩
 | _=>exact ⟨fr',σ',ρ',d,q,b⟩
def ew3 (I:Nat->Frm->Store->Prop)(m:Nat)(Q:Exit->Frm->Store->Prop):Exit->Frm->Store->Prop
 | .normal,fr,σ=>∃m',m'<m/\I m' fr σ
 | e,fr,σ=>Q e fr σ
def iy4 {n0:Nat}{c:Code}{Q:Exit->Frm->Store->Prop}(I:Nat->Frm->Store->Prop)(m:Nat)(h:I m fr σ)(T:∀m fr σ,I m fr σ->R P E N n0 c fr σ (ew3 I m Q)):R P E N n0 (.loop c) fr σ Q:=by
 intro J r h0 ρ w a hs hf M hr
 have t:∀(k m:Nat),m<k->∀(fr:Frm) (σ:Store) (b:Rho) (d:World) (a:Act),n0<=σ.next->I m fr σ->Sim E b d σ->FR b d N fr a.tmps->DF h0 b d a.defers->RO r d->bh8 n0 ρ w b d ->
   Code.roundsIn (fw r) 0 P c (λe s w'=>∃fr' σ' ρ',n0<=σ'.next/\Q e fr' σ'/\Sim E ρ' w' σ'/\FR ρ' w' N fr' s.tmps/\DF h0 ρ' w' s.defers/\RO r w'/\bh8 n0 ρ w ρ' w') k a d:=by
  intro k
  induction k with
  | zero=>intro m L;omega
  | succ k ih=>
   intro m L fr σ b d a y B u z A x f;refine wpIn_mono (T m fr σ B y r h0 b d a u z A x) ?_;rintro e s w' ⟨fr',σ',ρ',j,q,g,o,p,i,F⟩
   cases e with
   | normal=>
    have⟨H,K,D⟩:=q
    exact ih H (by omega) fr' σ' ρ' w' s j D g o p i (f.trans F)
   | _=>exact ⟨fr',σ',ρ',j,q,g,o,p,i,f.trans F⟩
 exact wpIn_loop_rounds (m+1) (t (m+1) m (zi m) fr σ ρ w a J h hs hf M hr (bh8.refl _ _ _))
def az3 {P:Program}{b:Frame}{a:Act}{k:List Go.Item}{cs:List Frame}{w:World}{c:Code}:step P (lone (b.atR a (.code (.scope c)::k)) cs w)=.next (lone (b.atR a (.code c::.inScope c::k)) cs w):=
 step_lone_go (by simp[stepG,stepG.exec,Frame.atR])
def dz9 {P:Program}{b:Frame}{a:Act}{k:List Go.Item}{cs:List Frame}{w:World}{c:Code}:step P (lone (b.atR a (.inScope c::k)) cs w)=.next (lone (b.atR a k) cs w):=
 step_lone_go (by simp[stepG,stepG.exec,Frame.atR])
def ky3 (Q:Exit->Act->World->Prop):Exit->Act->World->Prop
 | .goto _,_,_=>False
 | e,a,w=>Q e a w
def fv9 {F:Fence}{n:Nat}{Q:Exit->Act->World->Prop}{c:Code}(h:c.wpIn F n P (ky3 Q) a w):(Code.scope c).wpIn F n P Q a w:=by
 intro b k cs hro hb hr;have h0:(lone (b.atR a (.code (.scope c)::k)) cs w).fenced P F:=fenced_calm hb hr rfl;have⟨e,a₁,w₁,hq,harr⟩:=h b (.inScope c::k) cs hro hb hr
 cases e with
 | normal=>exact ⟨.normal,a₁,w₁,hq,.head h0 az3 (StepsIn.trans harr (.one (fenced_calm hb hr rfl) dz9))⟩
 | exit id=>
  have hx:exitTo id (.inScope c::k)=exitTo id k:=by simp[exitTo]
  exact ⟨.exit id,a₁,w₁,hq,λk' hk=>.head h0 az3 (harr.1 k' (by rw[hx];exact hk)),
   λhr' hk=>let ⟨k₁,h1,h2⟩:=harr.2 hr' (by rw[hx];exact hk);⟨k₁,h1,.head h0 az3 h2⟩⟩
 | goto l=>exact hq.elim
 | ret=>exact ⟨_,a₁,w₁,hq,.of_steps (.one h0 az3) harr⟩
 | panic ch=>exact ⟨_,a₁,w₁,hq,.of_steps (.one h0 az3) harr⟩
 | outgrown=>exact ⟨_,a₁,w₁,hq,.of_steps (.one h0 az3) harr⟩
def gr2 (Q:Exit->Frm->Store->Prop):Exit->Frm->Store->Prop
 | .goto _,_,_=>False
 | e,fr,σ=>Q e fr σ
def jf5 {n0:Nat}{c:Code}{Q:Exit->Frm->Store->Prop}(h:R P E N n0 c fr σ (gr2 Q)):R P E N n0 (.scope c) fr σ Q:=by
 intro g f h0 ρ w a hs hf i hr;refine fv9 (wpIn_mono (h g f h0 ρ w a hs hf i hr) ?_);rintro e j w' ⟨fr',σ',ρ',d,q,b⟩
 cases e with
 | goto l=>exact q.elim
 | _=>exact ⟨fr',σ',ρ',d,q,b⟩
end Go.Id
