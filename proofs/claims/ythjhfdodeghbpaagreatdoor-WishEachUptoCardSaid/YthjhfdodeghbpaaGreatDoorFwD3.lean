/- The quiet operations against the model: the one theorem. Conditions: none; over any program. -/
import Derived.Test.YthjhfdodeghbpaaGreatDoorFwC
import Derived.KernelRfl
open List renaming getD_eq_getElem?_getD→za,getElem?_append→ze,length_append→zg,range→zm,getElem?_toArray→zv,getElem?_take→zw,getElem?_drop→zx,flatten_cons→zy
open Option renaming some→zb,none→zd,isSome_none→zl,isSome_iff_exists→zs
open Array renaming getD_eq_getD_getElem?→zc,getElem?_eq_getElem→zj,range→zp,getElem?_eq_some_iff→zq,getElem?_toList→zt,getElem?_append→zu
open Nat renaming le_refl→zf,add_mul→zk,zero_le→zn,eq_zero_or_pos→zo
open Bool renaming false_eq_true→zh
set_option linter.all false
private theorem om{P:Prop}(h:P:=by omega):P:=h
private theorem sm{P:Prop}(h:P:=by simp):P:=h
namespace Go.Id
open Go
variable {P:Program} {w:World} {ρ:Rho} {E:Nat->IV} {σ:Store} {N:Nat} {fr:Frm} {a:Act}
def cb8 (P:Program)(ρ:Rho)(w:World)(a:Act)(op:Op)(v:IV):Prop :=
 ∀o:Oper,o.op=op->∃r,(execOp a.eval o).run P w=.ok (.value r) w/\VR ρ w v r
def cb8.of {op:Op}{v:IV}{s:Sem Value}(b:∀o:Oper,o.op=op->execOp a.eval o=(do pure (.value (<- s))))(h:∃r,s.run P w=.ok r w/\VR ρ w v r):cb8 P ρ w a op v:=by
 intro o d;have⟨r,hr,c⟩:=h;exact ⟨r,by rw[b o d];simp[hr],c⟩
def ie8 {op:BinOp}{t U:TypeId}{x y:Operand}{q:IQ}{v:IV}(h:gp3 P op t x y=zb q)(i:evq E fr σ q=zb v)(hs:Sim E ρ w σ)(hf:FR ρ w N fr a.tmps) :
  cb8 P ρ w a (.binOp op t x y U) v:=by
 refine cb8.of (s:=do eqGuard op t x y (a.eval x) (a.eval y);binOp op t (a.eval x) (a.eval y)) (λo X=>by unfold execOp;rw[X]) ?_;unfold gp3 at h
 cases I:P.underlying t with
 | none=>rw[I] at h;cases h
 | some d=>
  rw[I] at h
  have u:∀L,(match ak1 x,ak1 y with|some a,zb b=>zb (IQ.bin op a b)|_,_=>zd)=zb L->L=q ->
    ∃r,(do eqGuard op t x y (a.eval x) (a.eval y);binOp op t (a.eval x) (a.eval y):Sem Value).run P w=.ok r w/\VR ρ w v r:=by
   intro L z h2;subst h2;split at z
   .rename_i D J o j;cases z;exact gm8 i (ab1 o hs hf) (ab1 j hs hf)
   .cases z
  have f:∀K,ft6 d=zb K->(cu1 y d=true->a.eval y=K) ->
    (if (op=.eql\/op=.neq)/\cu1 y d=true then (ak1 x).map (λa=>IQ.fu6 d (decide (op=.neq)) a) else zd)=zb q ->
    ∃r,(do eqGuard op t x y (a.eval x) (a.eval y);binOp op t (a.eval x) (a.eval y):Sem Value).run P w=.ok r w/\VR ρ w v r:=by
   intro K Y V z;split at z
   .rename_i hc;obtain ⟨D,o,rfl⟩:=map_some z;simp only[evq] at i;obtain ⟨b,j,rfl⟩:=map_some i;have:=gn7 (P:=P) (op:=op) (x:=x) (y:=y) I Y hc.1 j (ab1 (a:=a) o hs hf);rw[V hc.2];refine ⟨_,this,?_⟩;rcases hc.1 with rfl|rfl
    .simpa using VR.bool b
    .simpa using VR.bool (!b)
   .cases z
  cases d with
  | int k=>exact u q h rfl
  | string=>exact u q h rfl
  | bool=>
   simp only at h;split at h
   .rename_i D J g o j A;split at h
    .rename_i c;cases h;simp only[evq] at i;have H:=ab1 o hs hf;have F:=ab1 j hs hf;obtain ⟨T,S,b,e1,e2,W,rfl⟩:=fu5 i;rw[e1] at H;rw[e2] at F;generalize a.eval x=ra at H ⊢;generalize a.eval y=rb at F ⊢
     have he:=by9 30 t g A ρ w (10000-30) _ _ _ _ b H F (by
      rw[show aq5 P t=zb zd from by simp[aq5,fg6,I]];exact ⟨λ_ h=>IV.noConfusion h,λ_ h=>IV.noConfusion h⟩) W
     cases H;cases F;have B:(Op.equal t (.bool T) (.bool S)).run P w=.ok b w:=he
     have Q:(eqGuard op t x y (.bool T) (.bool S)).run P w=.ok () w:=by
      unfold eqGuard;rcases c with rfl|rfl<;>rfl
     rcases c with rfl|rfl
     .exact ⟨.bool b,by simp[Q,binOp,B],by simpa using VR.bool b⟩
     .exact ⟨.bool (!b),by simp[Q,binOp,B],by simpa using VR.bool (!b)⟩
    .cases h
   .cases h
  | struct fs=>
   simp only at h;split at h
   .rename_i D J g n o j A M;split at h
    .rename_i c;cases h;simp only[evq] at i;exact ei1 (d:=30) om A M c.2 c.1 (ei6 i) (ab1 o hs hf) (ab1 j hs hf)
    .cases h
   .cases h
  | array m e=>
   simp only at h;split at h
   .rename_i D J g n o j A M;split at h
    .rename_i c;cases h;simp only[evq] at i;exact ei1 (d:=30) om A M c.2 c.1 (ei6 i) (ab1 o hs hf) (ab1 j hs hf)
    .cases h
   .cases h
  | pointer e=>exact f (.pointer zd) rfl (λhc=>by unfold cu1 at hc;split at hc<;>simp_all [Act.eval]) h
  | slice e=>exact f (.slice zd 0 0) rfl (λhc=>by unfold cu1 at hc;split at hc<;>simp_all [Act.eval]) h
  | map k e=>exact f (.map zd) rfl (λhc=>by unfold cu1 at hc;split at hc<;>simp_all [Act.eval]) h
  | func p r v'=>exact f .nilFunc rfl (λhc=>by unfold cu1 at hc;split at hc<;>simp_all [Act.eval]) h
  | _=>
   simp only at h;split at h
   .rename_i hc;have:=hc.2;unfold cu1 at this;split at this<;>simp_all
   .cases h
def bm1 {place:Nat->Option (Nat×Nat)}:∀(ps:List (Nat×Operand)) (b:List (Nat×Nat×IX)),ba1 P place ps=zb b->Sim E ρ w σ->FR ρ w N fr a.tmps ->
  b.length=ps.length/\∀j,j<b.length ->
   place ((ps.map λp=>(p.1,a.eval p.2)).getD j (0,undef)).1=zb (((b.map λp=>(p.1,p.2.1,p.2.2.ev E fr)).getD j (0,0,.undef)).1,((b.map λp=>(p.1,p.2.1,p.2.2.ev E fr)).getD j (0,0,.undef)).2.1) /\
   VR ρ w ((b.map λp=>(p.1,p.2.1,p.2.2.ev E fr)).getD j (0,0,.undef)).2.2 ((ps.map λp=>(p.1,a.eval p.2)).getD j (0,undef)).2:=by
 intro ps
 induction ps with
 | nil=>intro b h hs hf;cases h;exact ⟨rfl,λj c=>by simp at c⟩
 | cons p ps ih=>
  intro b h hs hf;have⟨i,x⟩:=p;simp only[ba1] at h;split at h
  .rename_i off n y d m k g;cases h;have⟨f,e⟩:=ih d g hs hf;refine ⟨by simpa using f,λj c=>?_⟩
   cases j with
   | zero=>exact ⟨by simpa using m,by simpa using ab1 k hs hf⟩
   | succ j=>simpa using e j (by simpa using c)
  .cases h
def ar4 {t:TypeId}{z:List IV}(h:bl9 P t=zb z):∃zr,(zeroValue t).run P w=.ok zr w/\CR ρ w z zr.cells:=by
 unfold bl9 at h
 cases hi:P.info? t with
 | none=>rw[hi] at h;cases h
 | some i=>
  rw[hi] at h;simp only at h
  cases b:i.zero with
  | none=>rw[b] at h;cases h
  | some zr=>
   rw[b] at h;exact ⟨zr,by simp[zeroValue,typeInfo,hi,b],da8 h⟩
def ev3 (P:Program)(f:Field):Option (Nat×Nat):=(szT P f.type).map λn=>(f.offset,n)
def ei8:∀l:List Field,l.all (λf=>(szT P f.type).isSome)=true->∃ps:List (Nat×Nat),(l.mapM (λf=>do pure (f.offset,<- sizeOf f.type):Field->Sem (Nat×Nat))).run P w=.ok ps w /\
  ∀i:Nat,ps[i]? = (l[i]?).bind (ev3 P):=by
 intro l
 induction l with
 | nil=>intro _;exact ⟨[],by simp,λi=>by simp⟩
 | cons f l ih=>
  intro h;simp only[List.all_cons,Bool.and_eq_true] at h;have⟨n,b⟩:=zs.1 h.1;have⟨ps,d,c⟩:=ih h.2;refine ⟨(f.offset,n)::ps,by rw[List.mapM_cons];simp only[Sem.run_bind,run_sizeOf b,Result.andThen_ok,Sem.run_pure,d],λi=>?_⟩
  cases i with
  | zero=>simp[ev3,b]
  | succ i=>simpa using c i
def ev4 {b:Array Field}(h:b.toList.all (λf=>(szT P f.type).isSome)=true) :
  ∃ps:Array (Nat×Nat),(b.mapM (λf=>do pure (f.offset,<- sizeOf f.type):Field->Sem (Nat×Nat))).run P w=.ok ps w /\
   ∀i:Nat,ps[i]? = (b[i]?).bind (ev3 P):=by
 have⟨l⟩:=b;have⟨ps,d,c⟩:=ei8 (w:=w) l h;exact ⟨ps.toArray,by rw[List.mapM_toArray,Sem.run_map,d];rfl,λi=>by simpa using c i⟩
def ie9 {t:TypeId}{parts:Array (Nat×Operand)}{z:List IV}{ps:List (Nat×Nat×IX)}{v:IV}(H:bl9 P t=zb z)(hp:ba1 P (da9 P t) parts.toList=zb ps)(b:sized P t=true)
  (F:evq E fr σ (.bld z ps)=zb v) (hs:Sim E ρ w σ) (hf:FR ρ w N fr a.tmps):cb8 P ρ w a (.build t parts) v:=by
 refine cb8.of (s:=Instr.build t (parts.map λ(i,x)=>(i,a.eval x))) (λo u=>by unfold execOp;rw[u]) ?_;simp only[evq] at F;obtain ⟨A,h,rfl⟩:=map_some F;have⟨zr,o,D⟩:=ar4 (w:=w) (ρ:=ρ) H;have⟨I,B⟩:=bm1 parts.toList ps hp hs hf;have⟨f,hr,u⟩:=cj1 (place:=da9 P t) _ (parts.toList.map λp=>(p.1,a.eval p.2)) z A zr.cells D (by simp[I]) (λj J=>B j (by simpa using J)) h;have q:(parts.map λ(i,x)=>(i,a.eval x)).toList=parts.toList.map λp=>(p.1,a.eval p.2):=sm
 refine ⟨.agg f,?_,.agg _ _ u.1 u.2⟩;unfold sized at b
 cases k:P.underlying t with
 | none=>rw[k] at b;cases b
 | some d=>
  rw[k] at b
  cases d with
  | struct fs=>
   have⟨c,y,r⟩:=ev4 (P:=P) (w:=w) b;have e:(λi=>c[i]?)=da9 P t:=by funext i;rw[r i];simp only[da9,k];cases fs[i]?<;>rfl
   have g:Instr.fill (λi=>c[i]?) zr.cells ((parts.map λ(i,x)=>(i,a.eval x)).toList)=zb f:=by rw[q,e];exact hr
   simp only[Instr.build,Sem.run_bind,o,Result.andThen_ok,run_underlying k,y,g]
   rfl
  | array n el=>
   have⟨m,y⟩:=zs.1 b;have e:(λi=>zb (i*m,m))=da9 P t:=by funext i;simp[da9,k,y]
   have g:Instr.fill (λi=>zb (i*m,m)) zr.cells ((parts.map λ(i,x)=>(i,a.eval x)).toList)=zb f:=by rw[q,e];exact hr
   simp only[Instr.build,Sem.run_bind,o,Result.andThen_ok,run_underlying k,run_sizeOf y,g]
   rfl
  | _=>cases b
def cj5 {op:Op}{t:TypeId}{x:Operand}{y:IX}{kind:Nat}{v:IV}{args:Array Operand}{argTypes:Array TypeId}(hop:op=.call { callee:=.builtin .len,args,argTypes })(ha:args.toList=[x])(ht:argTypes.toList=[t])
  (hk:match P.underlying t with|some (.slice _)=>kind=0|some .string=>kind=1|some (.map _ _)=>kind=2|_=>False) (hx:ak1 x=zb y)
  (hv:evq E fr σ (.len kind y)=zb v) (hs:Sim E ρ w σ) (hf:FR ρ w N fr a.tmps):cb8 P ρ w a op v:=by
 subst hop;have⟨al⟩:=args;have⟨tl⟩:=argTypes;simp only at ha ht;subst ha;subst ht;refine λo ho=>?_
 simp only[evq] at hv
 have key:∃r,(Builtin.len_ #[t] o.type #[a.eval x]).run P w=.ok r w/\VR ρ w v r:=by
  have hl:ib5 σ (y.ev E fr)=zb v:=by unfold cx6 at hv;split at hv<;>first|exact hv|cases hv
  refine gn3 hs ?_ ?_ hl (ab1 hx hs hf)
  .unfold km4
   cases hu:P.underlying t with
   | none=>rw[hu] at hk;exact hk.elim
   | some d=>rw[hu] at hk;cases d<;>first|rfl|exact hk.elim
  .intro u hu;rw[hu] at hk;unfold cx6 at hv;cases u<;>simp only at hk<;>first|exact hk.elim|(subst hk;split at hv<;>simp_all)
 have⟨r,hr,hvr⟩:=key;refine ⟨r,?_,hvr⟩;unfold execOp;rw[ho];simp[resolve,invoke,builtin,hr]
def fu8 {s:TypeId}{x:Operand}{y:IX}{i m:Nat}{e:Array Field}{f:Field}{v:IV}(j:P.underlying s=zb (.struct e))(c:e[i]? = zb f)(g:szT P f.type=zb (m+1))
  (h:ak1 x=zb y) (d:evq E fr σ (.ev1 f.offset y)=zb v) (hs:Sim E ρ w σ) (hf:FR ρ w N fr a.tmps):cb8 P ρ w a (.fieldAddr s x i) v:=by
 refine cb8.of (s:=Instr.fieldAt s (a.eval x) i) (λo k=>by unfold execOp;rw[k]) ?_;simp only[evq] at d;have⟨n,hr,b⟩:=dm2 d (ab1 h hs hf);rw[hr];exact ⟨_,eu3 j c g,b⟩
def ev5 {t:TypeId}{x:IV}(h:zeroV P t=zb x):∃z,(zeroValue t).run P w=.ok z w/\VR ρ w x z:=by
 unfold zeroV at h
 cases hi:P.info? t with
 | none=>rw[hi] at h;cases h
 | some i=>
  rw[hi] at h;simp only at h
  cases b:i.zero with
  | none=>rw[b] at h;cases h
  | some z=>rw[b] at h;exact ⟨z,by simp[zeroValue,typeInfo,hi,b],fg9 h⟩
def if1 : Extern.allRows.lookup "internal/bytealg.IndexByteString" = zb Extern.BytealgIndexByte.indexByte := by kernel_rfl
def gp5 : Extern.allTypedRows.lookup "internal/bytealg.IndexByteString" = zd := by kernel_rfl
def gp6 : Extern.allGenericRows.lookup "internal/bytealg.IndexByteString" = zd := by kernel_rfl
def gp7 : Extern.allNextRows.lookup "internal/bytealg.IndexByteString" = zd := by kernel_rfl
def fu9 : Extern.allNextRows.lookup "" = zd := by kernel_rfl
def je7 (c:UInt8):∀(l:List UInt8) (i:Nat),et9 c.toNat l i=if Lib.indexByte l c=-1 then -1 else Lib.indexByte l c+i:=by
 intro l
 induction l with
 | nil=>intro i;rfl
 | cons b l ih=>
  intro i;have f:=Lib.indexByte_ge l c;simp only[et9,Lib.indexByte,ih];by_cases h:b=c
  .subst h;simp
  .have m:¬b.toNat=c.toNat:=λe=>h (UInt8.toNat_inj.1 e)
   have k:(b==c)=false:=by simpa using h
   simp only[m,if_false,k,zh];by_cases d:Lib.indexByte l c=-1
   .simp[d]
   .have j:(Lib.indexByte l c == -1)=false:=by simpa using d
    have g:¬Lib.indexByte l c+1=-1:=om;simp only[d,j,g,if_false,zh];omega
def if2 {f:FuncId}{x y:Operand}{argTypes:Array TypeId}{xa ya:IX}{v:IV}(hok:je5 P f=true)(hx:ak1 x=zb xa)(hy:ak1 y=zb ya)(hv:jv8 (xa.ev E fr) (ya.ev E fr)=zb v)(hs:Sim E ρ w σ)(hf:FR ρ w N fr a.tmps) :
  cb8 P ρ w a (.call { callee:=.value (.func f),args:=#[x,y],argTypes }) v:=by
 have vx:=ab1 (a:=a) hx hs hf;have vy:=ab1 (a:=a) hy hs hf;generalize xa.ev E fr=ax at vx hv;generalize ya.ev E fr=ay at vy hv;unfold jv8 at hv;split at hv
 .rename_i s n;split at hv
  .rename_i hn;cases hv;generalize hrx:a.eval x=rx at vx;generalize hry:a.eval y=ry at vy;cases vx;cases vy;intro o ho;unfold je5 at hok
   cases hfn:P.funcs[f]? with
   | none=>rw[hfn] at hok;cases hok
   | some fn=>
    rw[hfn] at hok;simp only[Option.any_some,Bool.and_eq_true,beq_iff_eq] at hok;have⟨⟨h1,h2⟩,h3⟩:=hok;refine ⟨.int .i64 (et9 n.toNat s 0),?_,.int _ _⟩
    have hres:(resolve a.eval { callee:=.value (.func f),args:=#[x,y],argTypes } o.type).run P w=.ok { target:=.fn (.func f) #[],args:=#[.string ⟨s.toArray⟩,.int .u8 n] } w:=by
     simp[resolve,Act.eval,Deferred.ofValue] at hrx hry ⊢;simp[hrx,hry]
    have hfind:Extern.find fn=zb Extern.BytealgIndexByte.indexByte:=by
     unfold Extern.find;simp only[h1,h3,if1,gp5,gp6];rfl
    have hfn2:Extern.findNext fn=zd:=by
     unfold Extern.findNext;simp only[h1,h3,gp7,fu9];rfl
    have hinv:(invoke (.fn (.func f) #[]) #[.string ⟨s.toArray⟩,.int .u8 n]).run P w=.ok (.value (.int .i64 (et9 n.toNat s 0))) w:=by
     have hb:fn.body=zd:=by simpa using h2
     have hnm : ¬ fn.name = "runtime.NumGoroutine" := by rw [h1]; decide
     have hr:=Lib.run_indexByteString (P:=P) ⟨s.toArray⟩ n w
     have hc:(n.toNat.toUInt8).toNat=n.toNat:=by
      have:n.toNat<256:=om;simp[Nat.mod_eq_of_lt this]
     have hid:=je7 n.toNat.toUInt8 s 0;rw[hc] at hid;have hge:=Lib.indexByte_ge s n.toNat.toUInt8
     have hidx:et9 n.toNat s 0=Lib.indexByte s n.toNat.toUInt8:=by
      rw[hid];split
      .rename_i h;rw[h]
      .simp
     simp only[invoke,Array.append_empty];simp only[callFunc];simp only[Sem.run_bind,program,Sem.run,Result.andThen_ok,hfn,h1];simp[hb,hfind,hfn2,mark,Sem.run,Sem.run_bind,hr,hidx]
    unfold execOp;rw[ho];simp only[Sem.run_bind,hres,Result.andThen_ok,hinv]
  .cases hv
 .cases hv
def gp8 {op:Op}{q:IQ}{v:IV}(h:ie7 P op=zb q)(i:evq E fr σ q=zb v)(hs:Sim E ρ w σ)(hf:FR ρ w N fr a.tmps):cb8 P ρ w a op v:=by
 unfold ie7 at h;split at h
 .obtain ⟨y,j,rfl⟩:=map_some h;cases i;exact cb8.of (s:=pure _) (λo d=>by unfold execOp;rw[d];rfl) ⟨_,rfl,ab1 j hs hf⟩
 .obtain ⟨y,j,rfl⟩:=map_some h;cases i;exact cb8.of (s:=pure _) (λo d=>by unfold execOp;rw[d];rfl) ⟨_,rfl,ab1 j hs hf⟩
 .rename_i c x y;split at h
  .rename_i c' x' y' hc p j;cases h;have S:=ab1 hc hs hf;have vx:=ab1 p hs hf;have vy:=ab1 j hs hf;simp only[evq] at i;generalize c'.ev E fr=ic at S i;unfold be1 at i;split at i
   .cases i;generalize W:a.eval c=rc at S;cases S;rename_i b;refine λo d=>⟨if b then a.eval x else a.eval y,?_,?_⟩
    .unfold execOp;rw[d];simp[W,asBool]
    .cases b
     .exact vy
     .exact vx
   .cases i
  .cases h
 .obtain ⟨y,j,rfl⟩:=map_some h;exact cb8.of (s:=Op.unary .not _) (λo d=>by unfold execOp;rw[d]) (gn9 i (ab1 j hs hf))
 .obtain ⟨y,j,rfl⟩:=map_some h;exact cb8.of (s:=Op.unary .neg _) (λo d=>by unfold execOp;rw[d]) (go2 i (ab1 j hs hf))
 .exact ie8 h i hs hf
 .split at h
  .rename_i k1 k2 F D;obtain ⟨y,j,rfl⟩:=map_some h;exact cb8.of (s:=convert _ _ _) (λo d=>by unfold execOp;rw[d]) (ft9 F D i (ab1 j hs hf))
  .rename_i F D;obtain ⟨y,j,rfl⟩:=map_some h;exact cb8.of (s:=convert _ _ _) (λo d=>by unfold execOp;rw[d]) (eu8 F D i (ab1 j hs hf))
  .cases h
 .split at h
  .rename_i args g x t F D;split at h
   .rename_i e u;obtain ⟨y,j,rfl⟩:=map_some h;exact cj5 rfl F D (by rw[u]) j i hs hf
   .rename_i u;obtain ⟨y,j,rfl⟩:=map_some h;exact cj5 rfl F D (by rw[u]) j i hs hf
   .rename_i k e u;obtain ⟨y,j,rfl⟩:=map_some h;exact cj5 rfl F D (by rw[u]) j i hs hf
   .cases h
  .cases h
 .split at h
  .rename_i fs u;split at h
   .rename_i f L;split at h
    .rename_i m A;obtain ⟨y,j,rfl⟩:=map_some h;exact fu8 u L A j i hs hf
    .cases h
   .cases h
  .cases h
 .split at h
  .rename_i fs u;split at h
   .rename_i f L;split at h
    .rename_i M J;obtain ⟨y,j,rfl⟩:=map_some h;exact cb8.of (s:=Instr.field _ _ _) (λo d=>by unfold execOp;rw[d]) (gm9 u L J i (ab1 j hs hf))
    .cases h
   .cases h
  .cases h
 .split at h
  .rename_i e u;split at h
   .rename_i n B Q A p hi;cases h;exact cb8.of (s:=Instr.indexAt _ _ _) (λo d=>by unfold execOp;rw[d]) (eu4 u A i (ab1 p hs hf) (ab1 hi hs hf))
   .cases h
  .rename_i m e u;split at h
   .rename_i n B Q A p hi;cases h;exact cb8.of (s:=Instr.indexAt _ _ _) (λo d=>by unfold execOp;rw[d]) (eu5 u A i (ab1 p hs hf) (ab1 hi hs hf))
   .cases h
  .cases h
 .split at h
  .rename_i u;split at h
   .rename_i B Q p hi;cases h;exact cb8.of (s:=Instr.index _ _ _) (λo d=>by unfold execOp;rw[d]) (ft3 u i (ab1 p hs hf) (ab1 hi hs hf))
   .cases h
  .rename_i m e u;split at h
   .rename_i n M B Q A J p hi;cases h;exact cb8.of (s:=Instr.index _ _ _) (λo d=>by unfold execOp;rw[d]) (gn1 u A J i (ab1 p hs hf) (ab1 hi hs hf))
   .cases h
  .cases h
 .split at h
  .rename_i e u;split at h
   .rename_i n B l hh A p Y K;cases h;exact cb8.of (s:=Instr.sliceAt _ _ _ _ zd) (λo d=>by unfold execOp;rw[d];rfl) (gn4 u A i (ab1 p hs hf) (bs6 Y hs hf) (bs6 K hs hf))
   .cases h
  .rename_i u;split at h
   .rename_i B l hh p Y K;cases h;exact cb8.of (s:=Instr.sliceAt _ _ _ _ zd) (λo d=>by unfold execOp;rw[d];rfl) (ft4 u i (ab1 p hs hf) (bs6 Y hs hf) (bs6 K hs hf))
   .cases h
  .cases h
 .split at h
  .rename_i e u;split at h
   .rename_i n B A p;cases h;exact cb8.of (s:=Instr.sliceAt _ _ zd _ _) (λo d=>by unfold execOp;rw[d];rfl) (gn5 u A i (ab1 p hs hf))
   .cases h
  .cases h
 .obtain ⟨y,j,rfl⟩:=map_some h;exact cb8.of (s:=Instr.extract _ _) (λo d=>by unfold execOp;rw[d]) (gn2 i (ab1 j hs hf))
 .rename_i fn first cap
  split at h
  .rename_i ia ib F D;cases h;cases i;have⟨l1,v1⟩:=bz2 (a:=a) F hs hf;have⟨l2,v2⟩:=bz2 (a:=a) D hs hf;refine cb8.of (s:=Instr.makeFunc _ _ _) (λo d=>by unfold execOp;rw[d]) ⟨_,rfl,?_⟩;have e1:first.map a.eval=(first.toList.map a.eval).toArray:=by cases first;rw[List.map_toArray]
   have e2:cap.map a.eval=(cap.toList.map a.eval).toArray:=by cases cap;rw[List.map_toArray]
   rw[e1,e2];exact .func _ _ _ _ _ (λl h=>by cases h) l1 l2 v1 v2
  .cases h
 .split at h
  .rename_i z ps A hp;split at h
   .rename_i V;cases h;exact ie9 A hp V i hs hf
   .cases h
  .cases h
 .split at h
  .rename_i M B J p;cases h;exact cb8.of (s:=Instr.loadAt _ _) (λo d=>by unfold execOp;rw[d]) (dm1 hs J i (ab1 p hs hf))
  .cases h
 .obtain ⟨y,j,rfl⟩:=map_some h;exact λo d=>fu1 d i (ab1 j hs hf)
 .rename_i args g;split at h
  .rename_i x y H;split at h
   .rename_i B ya p j;cases h;have⟨al⟩:=args;simp only at H;subst H;intro o d;have⟨r,hr,I⟩:=gp1 (P:=P) (w:=w) (ts:=g) (t:=o.type) i (ab1 p hs hf) (ab1 j hs hf);refine ⟨r,?_,I⟩;unfold execOp;rw[d];simp[resolve,invoke,builtin,hr]
   .cases h
  .cases h
 .rename_i args g;split at h
  .rename_i x y H;split at h
   .rename_i B ya p j;cases h;have⟨al⟩:=args;simp only at H;subst H;intro o d;have⟨r,hr,I⟩:=gp2 (P:=P) (w:=w) (ts:=g) (t:=o.type) i (ab1 p hs hf) (ab1 j hs hf);refine ⟨r,?_,I⟩;unfold execOp;rw[d];simp[resolve,invoke,builtin,hr]
   .cases h
  .cases h
 .rename_i xt x k ok;split at h
  .rename_i kt et u;split at h
   .rename_i aa zi B Q ht A p J;cases h;have⟨z,U,T⟩:=ev5 (ρ:=ρ) (w:=w) A;exact cb8.of (s:=Instr.lookup _ _ _ _) (λo d=>by unfold execOp;rw[d]) (go9 u ht U T hs i (ab1 p hs hf) (ab1 J hs hf))
   .cases h
  .cases h
 .rename_i f args g;split at h
  .rename_i X;split at h
   .rename_i x y H;split at h
    .rename_i B ya p j;cases h;have⟨al⟩:=args;simp only at H;subst H;exact if2 X p j i hs hf
    .cases h
   .cases h
  .cases h
 .cases h
end Go.Id
namespace Go.Id
open Go
variable {P:Program} {w w':World} {ρ ρ':Rho} {E:Nat->IV} {σ:Store} {N:Nat} {fr:Frm} {a:Act}
def Store.put (σ:Store)(id:Nat)(o:aj8):Store:={ σ with obj:=λi=>if i=id then zb o else σ.obj i }
def Store.kill (σ:Store)(id:Nat):Store:={ σ with obj:=λi=>if i=id then zd else σ.obj i }
def Rho.put (ρ:Rho)(id:Nat)(r:eh4):Rho:=⟨λi=>if i=id then r else ρ i,ρ.X⟩
def ai9 (ρ:Rho)(id:Nat)(r:eh4)(i:Nat):(ρ.put id r) i=if i=id then r else ρ i:=rfl
def aj1 (id:Nat)(ρ ρ':Rho):Prop:=∀i,i≠id->ρ i=.no->ρ' i=.no
def aj1.refl (id:Nat)(ρ:Rho):aj1 id ρ ρ:=λ_ _ h=>h
def aj1.put (id:Nat)(ρ:Rho)(r:eh4):aj1 id ρ (ρ.put id r):=λi hi h=>by simp[Rho.put,hi,h]
def aj1.kill {id b B d:Nat}{ρ:Rho}(c:ρ b=.at B d)(r:eh4):aj1 id ρ (ρ.put b r):=λi _ h=>by
 have:i≠b:=λe=>by subst e;rw[c] at h;cases h
 simp[Rho.put,this,h]
def aj1.trans {id:Nat}{ρ ρ' b:Rho}(h:aj1 id ρ ρ')(c:aj1 id ρ' b):aj1 id ρ b:=λi hi h0=>c i hi (h i hi h0)
def OR.mono {n:Nat}{B d:Nat}{o:aj8}(f:Ext n ρ w ρ' w')(r:w'.heap[B]? = w.heap[B]?)(h:OR ρ w B d o):OR ρ' w' B d o:=by
 have q:∀cs,ar2 ρ w B d cs->ar2 ρ' w' B d cs:=λcs ⟨y,el,m,j,g⟩=>⟨y,el,by rw[r];exact m,j,λi hi=>(g i hi).mono f⟩
 cases o with
 | cells cs=>exact q cs h
 | row cs=>exact q cs h
 | map es=>
  have⟨k,b,m,h0,j,g,x,u⟩:=h
  exact ⟨k,b,by rw[r];exact m,h0,j,λi hi=>⟨(g i hi).1.mono f,(g i hi).2.mono f⟩,x,u⟩
 | bh7 s pos=>exact ⟨by rw[r];exact h.1,h.2⟩
 | loop N tmps params assign body st pend=>
  have⟨A,l,m,j,g,x,u,H,F,D⟩:=h
  exact ⟨A,l,by rw[r];exact m,j,g,x,u,H,F,λt=>(D t).mono f⟩
 | as9 left cur=>
  have⟨A,I,last,p,k,b,z,m,j,g,x,u,H,F,D,hc,J⟩:=h;exact ⟨A,I,last,p,k,b,z,by rw[r];exact m,f.fb j,by rw[f.keep I j.ub];exact g,x,u,H,F,D,λc e=>let ⟨i,g1,g2,g3,g4⟩:=hc c e;⟨i,g1,g2,g3.mono f,g4.mono f⟩,λi hi=>⟨(J i hi).1.mono f,(J i hi).2.mono f⟩⟩
def ba8 (w:World)(o:Obj)(b:Nat)(c:b<w.heap.size):(w.alloc o).heap[b]? = w.heap[b]?:=by
 show (w.heap.push o)[b]? = w.heap[b]?;simp[Array.getElem?_push,Nat.ne_of_lt c]
def am4 {n id d:Nat}{o:Obj}(c:ρ id=.no)(k:n<=id):Ext n ρ w (ρ.put id (.at w.heap.size d)) (w.alloc o) where
 size:=by show w.heap.size<=(w.heap.push o).size;simp
 keep:=λb e=>ba8 w o b e.1
 shape:=λb f el m e=>⟨f,by rw[ba8 w o b (zq.1 e).1];exact e,rfl⟩
 img:=λi B j hi=>by
  rw[ai9] at hi;split at hi
  .cases hi;exact .inr (zf _)
  .exact .inl ⟨i,j,hi⟩
 at_:=λi B j hi=>by
  rw[ai9];split
  .rename_i h;subst h;rw[c] at hi;cases hi
  .exact .inl hi
 dead:=λi hi=>by
  rw[ai9];split
  .rename_i h;subst h;rw[c] at hi;cases hi
  .exact hi
 no:=λi hi h0=>by
  rw[ai9];split
  .rename_i h;omega
  .exact h0
 output:=rfl
 os:=rfl
 tape:=rfl
 loops:=λl L g=>⟨L,by rw[ba8 w o l (zq.1 g).1];exact g⟩
 X:=rfl
def bz3 {id d:Nat}{e:Obj}{o:aj8}(hs:Sim E ρ w σ)(f:ρ id=.no)(t:id<σ.next)
  (s:OR (ρ.put id (.at w.heap.size d)) (w.alloc e) w.heap.size d o):Sim E (ρ.put id (.at w.heap.size d)) (w.alloc e) (σ.put id o) where
 inj:=λi j B c u hi k=>by
  rw[ai9] at hi k;split at hi<;>split at k
  .rename_i q p;rw[q,p]
  .cases hi;have:=hs.lt j _ _ k;omega
  .cases k;have:=hs.lt i _ _ hi;omega
  .exact hs.inj i j B c u hi k
 lt:=λi B c hi=>by
  rw[ai9] at hi;show B<(w.heap.push e).size;rw[Array.size_push];split at hi
  .cases hi;omega
  .have:=hs.lt i _ _ hi;omega
 obj:=λi B c hi=>by
  rw[ai9] at hi;simp only[Store.put];split at hi
  .rename_i h;cases hi;exact ⟨o,by simp[h],s⟩
  .rename_i h;have⟨r,q,p⟩:=hs.obj i B c hi;exact ⟨r,by simp[h,q],p.mono (am4 (n:=0) f (zn _)) (ba8 w e B (hs.lt i B c hi))⟩
 dead:=λi hi=>by
  rw[ai9] at hi;simp only[Store.put];split at hi
  .cases hi
  .rename_i h;simp[h,hs.dead i hi]
 fresh:=λi hi=>by
  have:i≠id:=by have:σ.next<=i:=hi;omega
  simp[Rho.put,this,hs.fresh i hi]
 aw6:=λi hi=>by
  rw[ai9] at hi;split at hi
  .cases hi
  .rename_i h;simp[Store.put,h,hs.aw6 i hi]
 env:=λg=>(hs.env g).mono (am4 (n:=0) f (zn _))
 nx:=λi B c hi m=>by
  rw[ai9] at hi;split at hi
  .cases hi;exact absurd (hs.xlt _ m) (Nat.lt_irrefl _)
  .exact hs.nx i B c hi m
 xlt:=λb m=>by
  show b<(w.heap.push e).size;rw[Array.size_push];have:=hs.xlt b m;omega
def ei9 {id:Nat}{cs:List IV}{b:Array Value}{el:TypeId}(c:ρ id=.no)(hc:CR ρ w cs b) :
  ar2 (ρ.put id (.at w.heap.size 0)) (w.alloc (.cells b el)) w.heap.size 0 cs:=by
 refine ⟨b,el,by show (w.heap.push _)[w.heap.size]? = _;simp,by rw[hc.1];omega,λi hi=>?_⟩;rw[Nat.zero_add];exact (hc.2 i hi).mono (am4 (n:=0) c (zn _))
def ej1 {id:Nat}{cs:List IV}{b:Array Value}{el:TypeId}(hs:Sim E ρ w σ)(c:ρ id=.no)(d:id<σ.next)(hc:CR ρ w cs b) :
  Sim E (ρ.put id (.at w.heap.size 0)) (w.alloc (.cells b el)) (σ.put id (.cells cs)):=
 bz3 hs c d (ei9 c hc)
def cj6 {id:Nat}{cs:List IV}{b:Array Value}{el:TypeId}(hs:Sim E ρ w σ)(c:ρ id=.no)(d:id<σ.next)(hc:CR ρ w cs b) :
  Sim E (ρ.put id (.at w.heap.size 0)) (w.alloc (.cells b el)) (σ.put id (.row cs)):=
 bz3 hs c d (ei9 c hc)
def bm2 (n:Nat):Ext n ρ w ρ w.drew:=⟨zf _,λ_ _=>rfl,λ_ r _ _ h=>⟨r,h,rfl⟩,λi B d h=>.inl ⟨i,d,h⟩,λ_ _ _ h=>.inl h,λ_ h=>h,λ_ _ h=>h,rfl,rfl,rfl,λ_ L h=>⟨L,h⟩,rfl⟩
def dz3 (hs:Sim E ρ w σ):Sim E ρ w.drew σ :=
 ⟨hs.inj,hs.lt,λi B d h=>let ⟨o,h1,h2⟩:=hs.obj i B d h;⟨o,h1,h2.mono (bm2 0) rfl⟩,hs.dead,hs.fresh,hs.aw6,λg=>(hs.env g).mono (bm2 0),hs.nx,hs.xlt⟩
def setRow_other (w:World)(g b:Nat)(cs:Array Value)(h:b≠g):(w.setRow g cs).heap[b]? = w.heap[b]?:=by
 have c:¬g=b:=λe=>h e.symm
 simp[World.setRow,Array.getElem?_modify,c]
def bz4 (w:World)(g:Nat)(cs:Array Value):(w.setRow g cs).heap.size=w.heap.size:=by simp[World.setRow]
def az2 {n id B d:Nat}{old new:Array Value}{el:TypeId}{o:Nat×Nat}(j:ρ id=.at B d)(m:w.heap[B]? = zb (.cells old el o))(f:new.size=old.size) :
  Ext n ρ w ρ (w.setRow B new) where
 size:=by rw[bz4];exact zf _
 keep:=λb k=>setRow_other w B b new (λh=>by subst h;exact k.2 id d j)
 shape:=λb e q p c=>by
  by_cases h:b=B
  .subst h;rw[m] at c;cases c;exact ⟨new,setRow_heap w b old new el o m,f⟩
  .exact ⟨e,by rw[setRow_other w B b new h];exact c,rfl⟩
 img:=λi s r h=>.inl ⟨i,r,h⟩
 at_:=λ_ _ _ h=>.inl h
 dead:=λ_ h=>h
 no:=λ_ _ h=>h
 output:=rfl
 os:=rfl
 tape:=rfl
 loops:=λl L g=>⟨L,by rw[setRow_other w B l new (λh=>by subst h;rw[m] at g;cases g)];exact g⟩
 X:=rfl
def bs7 {id B d:Nat}{old new:Array Value}{el:TypeId}{x:Nat×Nat}{o:aj8}(hs:Sim E ρ w σ)(c:ρ id=.at B d)(p:w.heap[B]? = zb (.cells old el x))(f:new.size=old.size)
  (r:OR ρ (w.setRow B new) B d o):Sim E ρ (w.setRow B new) (σ.put id o) where
 inj:=hs.inj
 lt:=λi j k h=>by rw[bz4];exact hs.lt i j k h
 obj:=λi j k hi=>by
  simp only[Store.put];by_cases h:i=id
  .subst h;rw[c] at hi;cases hi;exact ⟨o,by simp,r⟩
  .have⟨q,u,t⟩:=hs.obj i j k hi;have m:j≠B:=λe=>h (hs.inj i id B k d (by rw[hi,e]) c)
   exact ⟨q,by simp[h,u],t.mono (az2 (n:=0) c p f) (setRow_other w B j new m)⟩
 dead:=λi hi=>by
  have:i≠id:=λe=>by subst e;rw[c] at hi;cases hi
  simp[Store.put,this,hs.dead i hi]
 fresh:=λi hi=>hs.fresh i hi
 aw6:=λi hi=>by
  have:i≠id:=λe=>by subst e;rw[c] at hi;cases hi
  simp[Store.put,this,hs.aw6 i hi]
 env:=λg=>(hs.env g).mono (az2 (n:=0) c p f)
 nx:=hs.nx
 xlt:=λb s=>by rw[bz4];exact hs.xlt b s
def jw1 {cs:List IV}{vs:List IV}{old:Array Value}{news:List Value}{d k:Nat}(b:∀i,i<cs.length->VR ρ w (cs.getD i .undef) (old.getD (d+i) undef))(o:d+cs.length<=old.size)
  (n:vs.length=news.length) (h:∀i,i<vs.length->VR ρ w (vs.getD i .undef) (news.getD i undef)) (j:k+vs.length<=cs.length) :
  ∀i,i<cs.length->VR ρ w ((ay4 cs k vs).getD i .undef) ((old.toList.take (d+k)++news++old.toList.drop (d+k+news.length)).toArray.getD (d+i) undef):=by
 intro i hi;rw[ei4 j]
 have e:(old.toList.take (d+k)++news++old.toList.drop (d+k+news.length)).toArray.getD (d+i) undef =
   if d+k<=d+i/\d+i<d+k+news.length then news.getD (d+i-(d+k)) undef else old.getD (d+i) undef:=by
  have m:min (d+k) old.toList.length=d+k:=by simp;omega
  simp only[zc,zv,ze,zg,List.length_take,m,zw,zx,za,zt];by_cases g:d+i<d+k+news.length
  .by_cases f:d+i<d+k
   .have:¬(d+k<=d+i):=om;simp[g,f,this]
   .have:d+k<=d+i:=om;simp[g,f,this]
  .have f:¬(d+i<d+k):=om;simp only[g,if_false,and_false];congr 2;omega
 rw[e];by_cases c:k<=i/\i<k+vs.length
 .have c':d+k<=d+i/\d+i<d+k+news.length:=om;rw[if_pos c,if_pos c'];have:=h (i-k) om
  rwa [show d+i-(d+k)=i-k from by omega]
 .have c':¬(d+k<=d+i/\d+i<d+k+news.length):=om;rw[if_neg c,if_neg c'];exact b i hi
end Go.Id
namespace Go.Id
open Go
variable {P:Program} {w w':World} {ρ ρ':Rho} {E:Nat->IV} {σ:Store} {N:Nat} {fr:Frm} {a:Act}
def cu2 (P:Program)(E:Nat->IV)(id n:Nat)(ρ:Rho)(w:World)(a:Act)(op:Op)(v:IV)(σ':Store):Prop :=
 ∀o:Oper,o.op=op->∃(x:Next) (r:Value) (ρ':Rho) (w':World),(execOp a.eval o).run P w=.ok x w'/\((x=.value r)\/(x=.skip/\r=undef))/\Sim E ρ' w' σ'/\VR ρ' w' v r/\Ext n ρ w ρ' w'/\aj1 id ρ ρ'
def fv1 {t:TypeId}{z:List IV}{id n:Nat}(f:bl9 P t=zb z)(hs:Sim E ρ w σ)(b:ρ id=.no)(d:id<σ.next)(h:n<=id) :
  cu2 P E id n ρ w a (.alloc t) (.ptr id 0) (σ.put id (.cells z)):=by
 intro o g;have⟨zr,c,e⟩:=ar4 (w:=w) (ρ:=ρ) f;refine ⟨.value (.pointer (zb ⟨w.heap.size,0,zd⟩)),.pointer (zb ⟨w.heap.size,0,zd⟩),ρ.put id (.at w.heap.size 0),w.alloc (.cells zr.cells t),?_,.inl rfl,ej1 hs b d e,?_,am4 b h,aj1.put _ _ _⟩
 .unfold execOp;rw[g];simp[Instr.alloc,c,newVar,newRow]
 .exact .ptr id 0 w.heap.size 0 (by simp[Rho.put])
def fh2 {t:TypeId}{x:Operand}{y:IX}{id n:Nat}(e:ak1 x=zb y)(h:(y.ev E fr).cs.all IV.leaf=true)(hs:Sim E ρ w σ)(hf:FR ρ w N fr a.tmps)(b:ρ id=.no)(c:id<σ.next)(g:n<=id) :
  cu2 P E id n ρ w a (.box t x) (.ptr id 0) (σ.put id (.cells (y.ev E fr).cs)):=by
 intro o f;have⟨d,_⟩:=bz1 (ab1 e hs hf) h;refine ⟨.value (.pointer (zb ⟨w.heap.size,0,zd⟩)),.pointer (zb ⟨w.heap.size,0,zd⟩),ρ.put id (.at w.heap.size 0),w.alloc (.cells (a.eval x).cells t),?_,.inl rfl,ej1 hs b c d,?_,am4 b g,aj1.put _ _ _⟩
 .unfold execOp;rw[f];simp[Instr.box,newVar,newRow]
 .exact .ptr id 0 w.heap.size 0 (by simp[Rho.put])
def rep (z:List IV):Nat->List IV
 | 0=>[]
 | n+1=>z++rep z n
def ar9 (z:List IV)(n:Nat):(rep z n).length=n*z.length:=by
 induction n with
 | zero=>simp[rep]
 | succ n ih=>simp[rep,ih,zk,Nat.add_comm]
def if3 (z:List IV)(c:0<z.length)(d:IV):∀(n i:Nat),i<n*z.length->(rep z n).getD i d=z.getD (i%z.length) d:=by
 intro n
 induction n with
 | zero=>intro i hi;simp at hi
 | succ n ih=>
  intro i hi;simp only[rep,za,ze];by_cases h:i<z.length
  .simp[h,Nat.mod_eq_of_lt h]
  .rw[if_neg h];have:=ih (i-z.length) (by rw[zk,Nat.one_mul] at hi;omega);simp only[za] at this;have e:=Nat.mod_eq_sub_mod (a:=i) (b:=z.length) om;rw[e];exact this
def cc9 {z:List IV}{b:Array Value}(h:CR ρ w z b)(n:Nat)(hp:0<z.length\/n=0) :
  CR ρ w (rep z n) ((zp (n*z.length)).map (b[· % b.size]!)):=by
 refine ⟨by simp[ar9],λi hi=>?_⟩;rw[ar9] at hi;rcases hp with hp|hp
 .rw[if3 z hp _ n i hi];have d:i%z.length<z.length:=Nat.mod_lt _ hp;have c:i%b.size<b.size:=by rw[<- h.1];exact d
  have:=h.2 (i%z.length) d;rw[h.1] at this;rw[ae3 _ _ _ c] at this;rw[ae3 _ _ _ (by simpa using hi)];simp only[Array.getElem_map,Array.getElem_range];rw[getElem!_pos b (i%b.size) c,h.1];exact this
 .subst hp;simp at hi
def fh3 {t el:TypeId}{len:Nat}{parts:Array (Nat×Operand)}{z d:List IV}{ps:List (Nat×Nat×IX)}{esz id n:Nat}(I:P.underlying t=zb (.slice el))(g:szT P el=zb esz)(J:0<esz)(Q:bl9 P el=zb z)(e:z.length=esz)
  (K:len*esz<=2^24) (hp:ba1 P (λi=>zb (i*esz,esz)) parts.toList=zb ps) (H:au8 (rep z len) (ps.map λp=>(p.1,p.2.1,p.2.2.ev E fr))=zb d)
  (hs:Sim E ρ w σ) (hf:FR ρ w N fr a.tmps) (r:ρ id=.no) (D:id<σ.next) (T:n<=id) :
  cu2 P E id n ρ w a (.buildSlice t len parts) (.slice id 0 len esz) (σ.put id (.row d)):=by
 intro o S;have⟨zr,y,F⟩:=ar4 (w:=w) (ρ:=ρ) Q;have u:=cc9 F len (.inl om);rw[e] at u;have⟨U,A⟩:=bm1 parts.toList ps hp hs hf;have⟨c,hr,m⟩:=cj1 (place:=λi=>zb (i*esz,esz)) _ (parts.toList.map λp=>(p.1,a.eval p.2)) _ d _ u (by simp[U]) (λj V=>A j (by simpa using V)) H;have q:(parts.map λ(i,x)=>(i,a.eval x)).toList=parts.toList.map λp=>(p.1,a.eval p.2):=sm
 have B:d.length=len*esz:=by
  have:∀(ps:List (Nat×Nat×IV)) (l o:List IV),au8 l ps=zb o->o.length=l.length:=by
   intro ps
   induction ps with
   | nil=>intro l o h;cases h;rfl
   | cons p ps ih=>
    intro l o h;have⟨off,s,v⟩:=p;simp only[au8] at h;split at h
    .rename_i W;rw[ih _ _ h,af8 om]
    .cases h
  rw[this _ _ _ H,ar9,e]
 have k:=cj6 (el:=el) hs r D m;refine ⟨.value (.slice (zb ⟨w.heap.size,0,zd⟩) len len),.slice (zb ⟨w.heap.size,0,zd⟩) len len,ρ.put id (.at w.heap.size 0),w.alloc (.cells c el),?_,.inl rfl,k,?_,am4 r T,aj1.put _ _ _⟩
 .unfold execOp;rw[S];have L:¬(len*esz>2^24):=om;have M:∀f:Nat->Value,(zp 0).map f=#[]:=λf=>by simp[zp]
  by_cases h0:len*esz=0
  .have b:Instr.fill (λi=>zb (i*esz,esz)) #[] ((parts.map λ(i,x)=>(i,a.eval x)).toList)=zb c:=by
    rw[q,<- hr,h0,M]
   simp only[Instr.buildSlice,Sem.run_bind,run_underlying I,Result.andThen_ok,run_sizeOf g,if_neg L,if_pos h0,Sem.run_pure,h0,M,b];simp[newRow]
  .have b:Instr.fill (λi=>zb (i*esz,esz)) ((zp (len*esz)).map (zr.cells[· % zr.cells.size]!)) ((parts.map λ(i,x)=>(i,a.eval x)).toList)=zb c:=by
    rw[q,<- hr]
   simp only[Instr.buildSlice,Sem.run_bind,run_underlying I,Result.andThen_ok,run_sizeOf g,if_neg L,if_neg h0,y,Sem.run_pure,b];simp[newRow]
 .exact .slice id 0 len esz w.heap.size 0 len c el (0,0) (by simp[Rho.put]) (by show (w.heap.push _)[w.heap.size]? = _;simp) (by rw[<- m.1,B];omega) (zf _)
def ar5 (σ:Store)(n:Nat)(addr v:IV):Option Store :=
 match addr with
 | .ptr id off=>match σ.obj id with
  | some (.cells cs)=>if v.cs.length=n/\off+n<=cs.length/\v.cs.all IV.leaf=true then zb (σ.put id (.cells (ay4 cs off v.cs))) else zd
  | some (.row cs)=>if v.cs.length=n/\off+n<=cs.length/\v.cs.all IV.leaf=true then zb (σ.put id (.row (ay4 cs off v.cs))) else zd
  | _=>zd
 | _=>zd
def gp9 {t:TypeId}{m id B d off:Nat}{cs:List IV}{v:IV}{g:Value}{x:aj8}(q:szT P t=zb m)(j:ρ id=.at B d)(r:ar2 ρ w B d cs)(J:v.cs.length=m)(I:off+m<=cs.length)(A:v.cs.all IV.leaf=true)
  (z:VR ρ w v g) (hs:Sim E ρ w σ) (s:∀w',OR ρ w' B d x=ar2 ρ w' B d (ay4 cs off v.cs)) :
  ∃w',(Instr.storeAt t (.pointer (zb ⟨B,d+off,zd⟩)) g).run P w=.ok () w'/\Sim E ρ w' (σ.put id x)/\∀n,Ext n ρ w ρ w':=by
 obtain ⟨b,el,o,e,p⟩:=r;obtain ⟨⟨H,F⟩,D⟩:=bz1 z A;have h:=run_storeCells_at (P:=P) B (d+off) el g.cells.toList 0 b w o (by simp;omega) D;simp only[Nat.add_zero] at h;generalize f:(b.toList.take (d+off)++g.cells.toList++b.toList.drop (d+off+g.cells.toList.length)).toArray=new at h
 have c:new.size=b.size:=by
  rw[<- f];simp;omega
 have y:∀n,Ext n ρ w ρ (w.setRow B new):=λn=>az2 (n:=n) (new:=new) j o c
 refine ⟨w.setRow B new,?_,bs7 hs j o c ?_,y⟩
 .have u:¬(g.cells.size≠m):=by simp;omega
  simp only[Instr.storeAt,Instr.sureAddr,Sem.run_bind,Sem.run_pure,Result.andThen_ok,storeVar,run_sizeOf q,if_neg u,h]
 .rw[s];refine ⟨new,el,setRow_heap w B b new el (0,0) o,?_,?_⟩
  .rw[c,af8 om];exact e
  .intro i hi;rw[af8 om] at hi
   have:=jw1 (w:=w) (ρ:=ρ) (cs:=cs) (vs:=v.cs) (old:=b) (news:=g.cells.toList) (d:=d) (k:=off) p e (by simpa using H)
    (λi hi=>by simpa [zc,za] using F i hi) om i hi
   rw[f] at this;exact this.mono (y 0)
def fv2 {t:TypeId}{x y:Operand}{ix m:IX}{i n id0:Nat}{σ':Store}(s:szT P t=zb i)(q:ak1 x=zb ix)(H:ak1 y=zb m)(h:ar5 σ i (ix.ev E fr) (m.ev E fr)=zb σ')
  (hs:Sim E ρ w σ) (hf:FR ρ w N fr a.tmps):cu2 P E id0 n ρ w a (.store t x y) .undef σ':=by
 intro o I;have k:=ab1 q hs hf;have j:=ab1 H hs hf;generalize ix.ev E fr=p at k h;generalize m.ev E fr=v at j h;generalize z:a.eval x=rx at k;generalize u:a.eval y=ry at j
 cases k with
 | ptr id off B d hid=>
  simp only[ar5] at h;have⟨F,A,b⟩:=hs.obj id B d hid;rw[A] at h
  have fin:∀(cs:List IV) (c:aj8),ar2 ρ w B d cs->(∀w',OR ρ w' B d c=ar2 ρ w' B d (ay4 cs off v.cs)) ->
    (if v.cs.length=i/\off+i<=cs.length/\v.cs.all IV.leaf=true then zb (σ.put id c) else zd)=zb σ' ->
    ∃(x:Next) (r:Value) (ρ':Rho) (w':World),(execOp a.eval o).run P w=.ok x w'/\((x=.value r)\/(x=.skip/\r=undef))/\Sim E ρ' w' σ'/\VR ρ' w' .undef r/\Ext n ρ w ρ' w'/\aj1 id0 ρ ρ':=by
   intro cs c b g h;split at h
   .rename_i D;cases h;have⟨w',f,e,q⟩:=gp9 (P:=P) s hid b D.1 D.2.1 D.2.2 j hs g;refine ⟨.skip,undef,ρ,w',?_,.inr ⟨rfl,rfl⟩,e,.undef _,q n,aj1.refl _ _⟩;unfold execOp;rw[I];simp only[z,u,Sem.run_bind,f,Result.andThen_ok];rfl
   .cases h
  cases F with
  | cells cs=>exact fin cs _ b (λ_=>rfl) h
  | row cs=>exact fin cs _ b (λ_=>rfl) h
  | _=>simp at h
 | cx4 id off ad hid=>simp[ar5,hs.dead id hid] at h
 | _=>simp[ar5] at h
end Go.Id
namespace Go.Id
open Go
variable {P:Program} {w w':World} {ρ ρ':Rho} {E:Nat->IV} {σ:Store} {N:Nat} {fr:Frm} {a:Act} {ty:TypeId}
def bz5 (σ:Store)(esz:Nat):IV->Option (Nat×List IV)
 | .aa5|.ad2|.af7=>zb (0,[])
 | .aa2 es=>if es.all (λe=>e.length==esz) then zb (es.length,es.flatten) else zd
 | .slice id off len e=>match σ.obj id with
  | some (.row cs)=>if e=esz/\off+len*esz<=cs.length then zb (len,(cs.drop off).take (len*esz)) else zd
  | _=>zd
 | .ag6 id off len e=>match σ.obj id with
  | some (.row cs)=>if e=esz/\off+len*esz<=cs.length then zb (len,(cs.drop off).take (len*esz)) else zd
  | _=>zd
 | _=>zd
def ej2 {es:List (List IV)}{esz:Nat}(h:∀e∈es,e.length=esz)(d:IV):es.flatten.length=es.length*esz /\
  ∀i j,i<es.length->j<esz->es.flatten.getD (i*esz+j) d=(es.getD i []).getD j d:=by
 induction es with
 | nil=>exact ⟨by simp,λi j hi=>by simp at hi⟩
 | cons e es ih=>
  have c:e.length=esz:=h e sm;have⟨k,g⟩:=ih (λx f=>h x (by simp[f]));refine ⟨by simp only[zy,zg,k,c,List.length_cons,zk];omega,λi j hi b=>?_⟩;simp only[zy,za,ze]
  cases i with
  | zero=>simp[c,b]
  | succ i=>
   have:¬((i+1)*esz+j<e.length):=by rw[zk];omega
   rw[if_neg this];have:=g i j (by simpa using hi) b;simp only[za] at this;have e1:(i+1)*esz+j-e.length=i*esz+j:=by rw[zk];omega
   rw[e1,this];simp
def gq1 {esz n:Nat}{v:IV}{r:Value}{m:List IV}(hs:Sim E ρ w σ)(h:bz5 σ esz v=zb (n,m))(M:VR ρ w v r) :
  m.length=n*esz/\(Builtin.lenOf r).run P w=.ok n w/\∃f:Array Value,CR ρ w m f/\(Builtin.firstCells esz n r).run P w=.ok f w/\(Builtin.firstCells esz n r).run P w.drew=.ok f w.drew:=by
 cases M with
 | aa5=>
  cases h
  exact ⟨by simp,by simp[Builtin.lenOf],#[],⟨rfl,λi hi=>by simp at hi⟩,by simp[Builtin.firstCells],by simp[Builtin.firstCells]⟩
 | ad2 ad=>
  cases h
  exact ⟨by simp,by simp[Builtin.lenOf],#[],⟨rfl,λi hi=>by simp at hi⟩,by simp[Builtin.firstCells,loadCells,loadCellsFrom],by simp[Builtin.firstCells,loadCells,loadCellsFrom]⟩
 | af7 ad cap=>
  cases h
  exact ⟨by simp,by simp[Builtin.lenOf],#[],⟨rfl,λi hi=>by simp at hi⟩,by simp[Builtin.firstCells,loadCells,loadCellsFrom],by simp[Builtin.firstCells,loadCells,loadCellsFrom]⟩
 | ci6=>
  simp only[bz5] at h;cases h
  exact ⟨by simp,by simp[Builtin.lenOf],#[],⟨rfl,λi hi=>by simp at hi⟩,by simp[Builtin.firstCells],by simp[Builtin.firstCells]⟩
 | aa2 es b o cap esz' sp vs hf hsz hc M hle=>
  simp only[bz5] at h;split at h
  .rename_i K;cases h;have t:∀e∈es,e.length=esz:=λe T=>by have:=List.all_eq_true.1 K e T;simpa using this
   obtain ⟨L,W⟩:=ej2 t .undef;refine ⟨L,by simp[Builtin.lenOf],?_⟩;by_cases h0:es.length*esz=0
   .refine ⟨#[],⟨by rw[L,h0];rfl,λi hi=>by rw[L,h0] at hi;omega⟩,?_,?_⟩<;>simp[Builtin.firstCells,loadCells,loadCellsFrom,h0]
   .have H:0<esz:=by
     rcases zo esz with h|h
     .subst h;simp at h0
     .exact h
    have I:es≠[]:=by intro T;subst T;simp at h0
    have x:0<es.length:=by cases es with|nil=>exact absurd rfl I|cons _ _=>simp
    have S:esz'=esz:=by
     rw[<- hsz 0 x];exact t _ (by rw[za,List.getElem?_eq_getElem x];exact List.getElem_mem _)
    subst S;obtain ⟨_,rfl⟩:=hf I;have i:∀k,k<es.length*esz'->k/esz'<es.length/\k%esz'<esz':=λk g=>⟨Nat.div_lt_of_lt_mul (by rw[Nat.mul_comm];exact g),Nat.mod_lt _ H⟩
    have J:∀k,k/esz'*esz'+k%esz'=k:=λk=>by rw[Nat.mul_comm];exact Nat.div_add_mod k esz'
    have c:∀k,k<es.length*esz'->w.cell? ((⟨b,o,zd⟩:Addr).add k)=zb (vs (k/esz') (k%esz')):=λk g=>by
     rw[ba6];have:=hc _ (i k g).1 _ (i k g).2
     rwa [J] at this
    have x:=run_loadCells (P:=P) (w:=w) ⟨b,o,zd⟩ (es.length*esz') (λk=>vs (k/esz') (k%esz')) c;have q:=run_loadCells (P:=P) (w:=w.drew) ⟨b,o,zd⟩ (es.length*esz') (λk=>vs (k/esz') (k%esz')) c;refine ⟨((zm (es.length*esz')).map λk=>vs (k/esz') (k%esz')).toArray,⟨by simp[L],λk g=>?_⟩,by simpa [Builtin.firstCells] using x,by simpa [Builtin.firstCells] using q⟩;rw[L] at g;have:=M _ (i k g).1 _ (i k g).2;rw[<- W _ _ (i k g).1 (i k g).2,J] at this
    simpa [zc,g] using this
  .cases h
 | slice id off len e B d cap f el fz hid hb hsz hle=>
  simp only[bz5] at h;obtain ⟨D,p,u⟩:=hs.obj id B d hid;rw[p] at h
  cases D with
  | row cs=>
   simp only at h;split at h
   .rename_i Q;obtain ⟨rfl,V⟩:=Q;cases h;obtain ⟨A,U,s,F,y⟩:=u;rw[hb] at s;cases s;have j:((cs.drop off).take (n*e)).length=n*e:=by simp;omega
    have c:∀k,k<n*e->w.cell? ((⟨B,d+off,zd⟩:Addr).add k)=zb (f.getD (d+(off+k)) undef):=λk g=>by
     rw[ba6];have z:d+off+k<f.size:=om;simp only[World.cell?,hb,zl,zh,if_false];rw[ae3 _ _ _ om,zj z];congr 2;omega
    have x:=run_loadCells (P:=P) (w:=w) ⟨B,d+off,zd⟩ (n*e) (λk=>f.getD (d+(off+k)) undef) c;have q:=run_loadCells (P:=P) (w:=w.drew) ⟨B,d+off,zd⟩ (n*e) (λk=>f.getD (d+(off+k)) undef) c;refine ⟨j,by simp[Builtin.lenOf],((zm (n*e)).map λk=>f.getD (d+(off+k)) undef).toArray,⟨by simp;omega,λk g=>?_⟩,by simpa [Builtin.firstCells] using x,by simpa [Builtin.firstCells] using q⟩;rw[j] at g;rw[getD_take' _ _ _ _ g,an9];have:=y (off+k) om;rw[ae3 _ _ _ (by simpa using g)]
    simpa using this
   .cases h
  | _=>simp at h
 | am9 id off e B d ad hid=>
  simp only[bz5] at h;obtain ⟨D,p,u⟩:=hs.obj id B d hid;rw[p] at h
  cases D with
  | row cs=>
   simp only at h;split at h
   .cases h;exact ⟨by simp,by simp[Builtin.lenOf],#[],⟨by simp,λi hi=>by simp at hi⟩,by simp[Builtin.firstCells,loadCells,loadCellsFrom],by simp[Builtin.firstCells,loadCells,loadCellsFrom]⟩
   .cases h
  | _=>simp at h
 | am3 id off len e cap ad hid hle=>simp[bz5,hs.dead id hid] at h
 | aq6 id off len e ad hid=>simp[bz5,hs.dead id hid] at h
 | ag6 id off len e B d f el fz hid hb hsz=>
  simp only[bz5] at h;obtain ⟨D,p,u⟩:=hs.obj id B d hid;rw[p] at h
  cases D with
  | row cs=>
   simp only at h;split at h
   .rename_i Q;obtain ⟨rfl,V⟩:=Q;cases h;obtain ⟨A,U,s,F,y⟩:=u;rw[hb] at s;cases s;have j:((cs.drop off).take (n*e)).length=n*e:=by simp;omega
    have c:∀k,k<n*e->w.cell? ((⟨B,d+off,zd⟩:Addr).add k)=zb (f.getD (d+(off+k)) undef):=λk g=>by
     rw[ba6];have z:d+off+k<f.size:=om;simp only[World.cell?,hb,zl,zh,if_false];rw[ae3 _ _ _ om,zj z];congr 2;omega
    have x:=run_loadCells (P:=P) (w:=w) ⟨B,d+off,zd⟩ (n*e) (λk=>f.getD (d+(off+k)) undef) c;have q:=run_loadCells (P:=P) (w:=w.drew) ⟨B,d+off,zd⟩ (n*e) (λk=>f.getD (d+(off+k)) undef) c;refine ⟨j,by simp[Builtin.lenOf],((zm (n*e)).map λk=>f.getD (d+(off+k)) undef).toArray,⟨by simp;omega,λk g=>?_⟩,by simpa [Builtin.firstCells] using x,by simpa [Builtin.firstCells] using q⟩;rw[j] at g;rw[getD_take' _ _ _ _ g,an9];have:=y (off+k) om;rw[ae3 _ _ _ (by simpa using g)]
    simpa using this
   .cases h
  | _=>simp at h
 | _=>simp[bz5] at h
def bb4 (σ:Store) (id esz:Nat) (s x:IV):Option (IV×Store):=
 match bz5 σ esz x with
 | none=>zd
 | some (n,xs)=>
  if xs.all IV.leaf=false then zd else
  match s with
  | .aa5=>if n=0 then zb (.aa5,σ) else if n<=2147483648 then zb (.slice id 0 n esz,σ.put id (.row xs)) else zd
  | .ad2=>if n=0 then zb (.ad2,σ) else if n<=2147483648 then zb (.slice id 0 n esz,σ.put id (.row xs)) else zd
  | .aa2 es=>if n=0 then zb (.aa2 es,σ) else zd
  | .slice did off len e=>match σ.obj did with
   | some (.row cs)=>
    if e=esz/\n=0 then zb (s,σ)
    else if e=esz/\off+len*esz=cs.length/\len+n<=2147483648/\(cs.drop off).all IV.leaf=true then zb (.slice id 0 (len+n) esz,(σ.kill did).put id (.row (cs.drop off++xs)))
    else zd
   | _=>zd
  | .ag6 did off len e=>match σ.obj did with
   | some (.row cs)=>
    if e=esz/\n=0 then zb (.slice did off len e,σ)
    else if e=esz/\off+len*esz<=cs.length/\len+n<=2147483648/\n≠0 then zb (.slice id 0 (len+n) esz,σ.put id (.row ((cs.drop off).take (len*esz)++xs)))
    else zd
   | _=>zd
  | _=>zd
def gq2 (n:Nat):∀(r c:Nat),c<n->Builtin.growBy n r c<=n+(n+768)/4:=by
 intro r
 induction r with
 | zero=>intro c hc;simp only[Builtin.growBy];omega
 | succ r ih=>
  intro c hc;simp only[Builtin.growBy];rw[if_neg om];by_cases h:c+(c+768)/4<n
  .exact ih _ h
  .cases r with
   | zero=>simp only[Builtin.growBy];omega
   | succ r=>simp only[Builtin.growBy];rw[if_pos om];omega
def db1 {n old:Nat}(h:old<n):Builtin.nextslicecap n old<=2*n+192:=by
 unfold Builtin.nextslicecap;split
 .omega
 .split
  .omega
  .have:=gq2 n 4 old h;omega
def dj6 {t s ty el:TypeId}{i:TypeInfo}{z:Value}{base:Option Addr}{b sCap n:Nat}{j:Value}{e news:Array Value}(A:P.underlying t=zb (.slice el))(o:∃u,P.underlying s=zb u/\∀k,u≠.int k)
  (hi:P.info? el=zb i) (x:i.zero=zb z) (H:i.bytes<=4096) (B:(Builtin.lenOf j).run P w=.ok n w) (f:(Builtin.firstCells i.size b (.slice base b sCap)).run P w.drew=.ok e w.drew)
  (h:(Builtin.firstCells i.size n j).run P w.drew=.ok news w.drew) (F:sCap<b+n) (D:b+n<=2147483648) :
  ∃cap d,b+n<=cap/\d.size=(cap-(b+n))*z.cells.size /\
  (Builtin.append_ #[t,s] ty #[.slice base b sCap,j]).run P w=.ok (.slice (zb ⟨w.heap.size,0,zd⟩) (b+n) cap) (w.drew.alloc (.cells (e++news++d) el)):=by
 have⟨u,y,g⟩:=o;have c:b+n<=grownCap w (b+n) sCap el:=Nat.le_add_right _ _;refine ⟨grownCap w (b+n) sCap el,Builtin.zeroCells z.cells (grownCap w (b+n) sCap el-(b+n)),c,by simp[Builtin.zeroCells],?_⟩;have h0:¬(b+n<=sCap):=om;have q:¬(9223372036854775807<((b:Int)+(n:Int))):=om;have p:=db1 F
 have r:¬(281474976710656<Builtin.nextslicecap (b+n) sCap*i.bytes):=by
  have:Builtin.nextslicecap (b+n) sCap*i.bytes<=(2*(b+n)+192)*4096:=Nat.mul_le_mul p H;omega
 have m:(match u with|.int _=>true|_=>false)=false:=by cases u<;>first|rfl|exact absurd rfl (g _)
 simp[Builtin.append_,run_underlying A,run_underlying y,sizeOf,typeInfo,zeroValue,hi,x,m,B,h0,q,r,Question.forced,f,h,newRow,grownCap]
def dz4 {n:Nat}(f:∀i B d,ρ i=.at B d->ρ' i=.at B d\/ρ' i=.dead)(b:∀i,ρ i=.dead->ρ' i=.dead)(e:∀i,i<n->ρ i=.no->ρ' i=.no)
  (c:∀i B d,ρ' i=.at B d->∃j k,ρ j=.at B k) (g:ρ'.X=ρ.X):Ext n ρ w ρ' w :=
 ⟨zf _,λ_ _=>rfl,λ_ r _ _ h=>⟨r,h,rfl⟩,λi B d h=>.inl (c i B d h),f,b,e,rfl,rfl,rfl,λ_ L h=>⟨L,h⟩,g⟩
def cd1 {n b B d:Nat}(f:ρ b=.at B d):Ext n ρ w (ρ.put b .dead) w :=
 dz4 (λi e c h=>by rw[ai9];split<;>simp_all) (λi h=>by rw[ai9];split<;>simp_all)
  (λi _ h=>by rw[ai9];split<;>simp_all) (λi e c h=>by rw[ai9] at h;split at h;cases h;exact ⟨i,c,h⟩) rfl
def dz5 {b B d:Nat}(hs:Sim E ρ w σ)(m:ρ b=.at B d):Sim E (ρ.put b .dead) w (σ.kill b) where
 inj:=λi j f c r hi k=>by
  rw[ai9] at hi k;split at hi<;>split at k<;>first|(cases hi;done)|(cases k;done)|exact hs.inj i j f c r hi k
 lt:=λi f c hi=>by rw[ai9] at hi;split at hi;cases hi;exact hs.lt i f c hi
 obj:=λi f c hi=>by
  rw[ai9] at hi;split at hi
  .cases hi
  .rename_i h;have⟨o,q,p⟩:=hs.obj i f c hi;exact ⟨o,by simp[Store.kill,h,q],p.mono (cd1 (n:=0) m) rfl⟩
 dead:=λi hi=>by
  rw[ai9] at hi;simp only[Store.kill];split at hi
  .rename_i h;simp[h]
  .rename_i h;simp[h,hs.dead i hi]
 fresh:=λi hi=>by
  have h0:ρ i=.no:=hs.fresh i hi;have:i≠b:=λe=>by subst e;rw[m] at h0;cases h0
  simp[Rho.put,this,h0]
 aw6:=λi hi=>by
  rw[ai9] at hi;split at hi
  .cases hi
  .rename_i h;simp[Store.kill,h,hs.aw6 i hi]
 env:=λg=>(hs.env g).mono (cd1 (n:=0) m)
 nx:=λi f c hi=>by rw[ai9] at hi;split at hi;cases hi;exact hs.nx i f c hi
 xlt:=hs.xlt
def dm6 {n c id B d off:Nat}(f:ρ c=.at B d)(b:ρ id=.no)(m:n<=id):Ext n ρ w ((ρ.put c .dead).put id (.at B (d+off))) w:=by
 have j:c≠id:=λe=>by subst e;rw[f] at b;cases b
 refine dz4 (λi k g h=>?_) (λi h=>?_) (λi hi h=>?_) (λi k g h=>?_) rfl
 .rw[ai9,ai9];split
  .rename_i e;subst e;rw[b] at h;cases h
  .split
   .exact .inr rfl
   .exact .inl h
 .rw[ai9,ai9];split
  .rename_i e;subst e;rw[b] at h;cases h
  .split
   .rfl
   .exact h
 .rw[ai9,ai9];split
  .omega
  .split
   .rename_i e;subst e;rw[f] at h;cases h
   .exact h
 .rw[ai9,ai9] at h;split at h
  .cases h;exact ⟨c,d,f⟩
  .split at h
   .cases h
   .exact ⟨i,g,h⟩
def fv3 {b id B d off:Nat}{cs:List IV}(hs:Sim E ρ w σ)(m:ρ b=.at B d)(hc:σ.obj b=zb (.row cs))(q:ρ id=.no)(H:id<σ.next)(y:off<=cs.length) :
  Sim E ((ρ.put b .dead).put id (.at B (d+off))) w ((σ.kill b).put id (.row (cs.drop off))):=by
 have F:b≠id:=λe=>by subst e;rw[m] at q;cases q
 have x:Ext 0 ρ w ((ρ.put b .dead).put id (.at B (d+off))) w:=dm6 m q (zn _);have c:∀i,((ρ.put b .dead).put id (.at B (d+off))) i=if i=id then .at B (d+off) else if i=b then .dead else ρ i:=λi=>rfl
 refine ⟨λi j t p z hi f=>?_,λi t p hi=>?_,λi t p hi=>?_,λi hi=>?_,λi hi=>?_,λi hi=>?_,λg=>(hs.env g).mono x,λi t p hi=>?_,hs.xlt⟩
 .rw[c] at hi f;split at hi<;>split at f
  .rename_i n r;rw[n,r]
  .split at f
   .cases f
   .rename_i h;cases hi;exact absurd (hs.inj j b B z d f m) h
  .split at hi
   .cases hi
   .rename_i h _;cases f;exact absurd (hs.inj i b B p d hi m) (by assumption)
  .split at hi
   .cases hi
   .split at f
    .cases f
    .exact hs.inj i j t p z hi f
 .rw[c] at hi;split at hi
  .cases hi;exact hs.lt b B d m
  .split at hi
   .cases hi
   .exact hs.lt i t p hi
 .rw[c] at hi;split at hi
  .rename_i h;cases hi;refine ⟨.row (cs.drop off),by simp[Store.put,h],?_⟩;have⟨o,n,r⟩:=hs.obj b B d m;rw[hc] at n;cases n;have⟨u,el,J,D,A⟩:=r;refine ⟨u,el,J,by simp;omega,λk I=>?_⟩;simp at I;rw[an9];have:=(A (off+k) om).mono x
   rwa [show d+off+k=d+(off+k) from by omega]
  .rename_i h;split at hi
   .cases hi
   .rename_i s;have⟨o,n,r⟩:=hs.obj i t p hi;exact ⟨o,by simp[Store.put,Store.kill,h,s,n],r.mono x rfl⟩
 .rw[c] at hi;split at hi
  .cases hi
  .rename_i h;split at hi
   .rename_i s;subst s;simp[Store.put,Store.kill,h]
   .rename_i s;simp[Store.put,Store.kill,h,s,hs.dead i hi]
 .have h0:ρ i=.no:=hs.fresh i hi;have n:i≠b:=λe=>by subst e;rw[m] at h0;cases h0
  have r:i≠id:=by have:σ.next<=i:=hi;omega
  rw[c];simp[n,r,h0]
 .rw[c] at hi;split at hi
  .cases hi
  .rename_i h;split at hi
   .cases hi
   .rename_i s;simp[Store.put,Store.kill,h,s,hs.aw6 i hi]
 .rw[c] at hi;split at hi
  .cases hi;exact hs.nx b B d m
  .split at hi
   .cases hi
   .exact hs.nx i t p hi
def db2 (old:Array Value)(news:List Value)(p k:Nat)(h:p+news.length<=old.size) :
  (old.toList.take p++news++old.toList.drop (p+news.length)).toArray.getD k undef=if p<=k/\k<p+news.length then news.getD (k-p) undef else old.getD k undef:=by
 have d:min p old.size=p:=om;simp only[zc,zv,ze,zg,List.length_take,Array.length_toList,d,zw,zx,za,zt];by_cases c:k<p+news.length
 .by_cases b:k<p
  .have:¬(p<=k):=om;simp[c,b,this]
  .have:p<=k:=om;simp[c,b,this]
 .have b:¬(k<p):=om;simp only[c,if_false,and_false];congr 2;omega
def dz6 {t p el:TypeId}{i:TypeInfo}{B o b sCap n:Nat}{j:Value}{news old:Array Value}{e:TypeId}(s:P.underlying t=zb (.slice el))(m:∃u,P.underlying p=zb u/\∀k,u≠.int k)
  (hi:P.info? el=zb i) (x:(Builtin.lenOf j).run P w=.ok n w) (g:(Builtin.firstCells i.size n j).run P w=.ok news w) (y:b+n<=sCap)
  (z:w.heap[B]? = zb (.cells old e (0,0))) (h:o+b*i.size+news.size<=old.size) (d:∀v∈news.toList,v.oneCell'=true) :
  (Builtin.append_ #[t,p] ty #[.slice (zb ⟨B,o,zd⟩) b sCap,j]).run P w=.ok (.slice (zb ⟨B,o,zd⟩) (b+n) sCap)
   (w.setRow B (old.toList.take (o+b*i.size)++news.toList++old.toList.drop (o+b*i.size+news.toList.length)).toArray):=by
 have⟨u,r,f⟩:=m;have c:=run_storeCells_at (P:=P) B (o+b*i.size) e news.toList 0 old w z (by simpa using h) d;simp only[Nat.add_zero] at c;have q:(match u with|.int _=>true|_=>false)=false:=by cases u<;>first|rfl|exact absurd rfl (f _)
 simp[Builtin.append_,run_underlying s,run_underlying r,sizeOf,typeInfo,hi,x,y,g,ba6,c]
def am5 {t m el:TypeId}{i:TypeInfo}{base:Option Addr}{b sCap:Nat}{f:Value}{c:Array Value}(p:P.underlying t=zb (.slice el))(g:∃u,P.underlying m=zb u/\∀k,u≠.int k)
  (hi:P.info? el=zb i) (q:(Builtin.lenOf f).run P w=.ok 0 w) (e:(Builtin.firstCells i.size 0 f).run P w=.ok c w) (h:c.size=0) (j:b<=sCap) :
  (Builtin.append_ #[t,m] ty #[.slice base b sCap,f]).run P w=.ok (.slice base b sCap) w:=by
 have⟨u,o,d⟩:=g;have n:(match u with|.int _=>true|_=>false)=false:=by cases u<;>first|rfl|exact absurd rfl (d _)
 have:c=#[]:=Array.eq_empty_of_size_eq_zero h;subst this;cases base<;>simp[Builtin.append_,run_underlying p,run_underlying o,sizeOf,typeInfo,hi,q,j,e,storeCells]
def je8 {t xt el:TypeId} {i:TypeInfo} {z:Value} {esz id n0:Nat} {s x v:IV} {rs rx:Value} {σ':Store} (ht:P.underlying t=zb (.slice el)) (K:∃u,P.underlying xt=zb u/\∀k,u≠.int k)
  (hi:P.info? el=zb i) (hz:i.zero=zb z) (U:i.size=esz) (aC:z.cells.size=esz) (hb:i.bytes<=4096) (h:bb4 σ id esz s x=zb (v,σ')) (vs:VR ρ w s rs) (vx:VR ρ w x rx)
  (hs:Sim E ρ w σ) (A:ρ id=.no) (H:id<σ.next) (az:n0<=id) :
  ∃r ρ' w',(Builtin.append_ #[t,xt] ty #[rs,rx]).run P w=.ok r w'/\Sim E ρ' w' σ'/\VR ρ' w' v r/\Ext n0 ρ w ρ' w'/\aj1 id ρ ρ':=by
 unfold bb4 at h
 cases aa:bz5 σ esz x with
 | none=>rw[aa] at h;cases h
 | some p =>
  have⟨n,xs⟩:=p;rw[aa] at h;simp only at h;split at h
  .cases h
  rename_i V;have V:xs.all IV.leaf=true:=by simpa using V
  have⟨ax,j,g,D,Q,aA⟩:=gq1 (P:=P) hs aa vx;rw[<- U] at Q aA;have L:g.size=n*esz:=by rw[<- D.1,ax]
  have ar:∀v∈g.toList,v.oneCell'=true:=λq hq=>by
   obtain ⟨k,hk,rfl⟩:=List.mem_iff_getElem.1 hq;simp at hk;have I:k<xs.length:=by rw[D.1];exact hk
   have hl:(xs.getD k .undef).leaf=true:=by
    have:=List.all_eq_true.1 V xs[k] (List.getElem_mem _)
    simpa [za,I] using this
   have:=(cx5 hl (D.2 k I)).1;rw[ae3 _ _ _ hk] at this
   simpa using this
  -- a new row whose first cells are those of 'cells'
  have F:∀(base:Option Addr) (f sCap:Nat) (c:Array Value) (m:List IV) (q:Rho) (al:Store),Sim E q w al->Ext n0 ρ w q w->aj1 id ρ q->q id=.no->id<al.next->CR q w m c->CR q w xs g->m.length=f*esz ->
    (Builtin.firstCells i.size f (.slice base f sCap)).run P w.drew=.ok c w.drew->sCap<f+n->f+n<=2147483648 ->
    ∃r ρ' w',(Builtin.append_ #[t,xt] ty #[.slice base f sCap,rx]).run P w=.ok r w'/\Sim E ρ' w' (al.put id (.row (m++xs)))/\VR ρ' w' (.slice id 0 (f+n) esz) r/\Ext n0 ρ w ρ' w'/\aj1 id ρ ρ':=by
   intro base f sCap c m q al aG aF aI ab au y aw aH aj hg T;have⟨cap,J,af,ah,aq⟩:=dj6 (ty:=ty) (base:=base) ht K hi hz hb j aj aA hg T;have hd:=dz3 aG;have aE:=bm2 (ρ:=q) (w:=w) 0
   have X:OR (q.put id (.at w.heap.size 0)) (w.drew.alloc (.cells (c++g++J) el)) w.heap.size 0 (.row (m++xs)):=by
    refine ⟨c++g++J,el,by show (w.heap.push _)[w.heap.size]? = _;simp,by simp[y.1,aw.1],λk hk=>?_⟩;have ay:Ext 0 q w (q.put id (.at w.heap.size 0)) (w.drew.alloc (.cells (c++g++J) el)):=aE.trans (am4 (n:=0) ab (zn _)) (zf _);rw[Nat.zero_add];simp only[zg] at hk;by_cases M:k<m.length
    .have:=(y.2 k M).mono ay;have e1:(m++xs).getD k .undef=m.getD k .undef:=by simp[za,ze,M]
     have an:k<c.size:=by rw[<- y.1];exact M
     have e2:(c++g++J).getD k undef=c.getD k undef:=by
      simp[zc,zu,an,Nat.lt_add_right _ an]
     rw[e1,e2];exact this
    .have aL:k-m.length<xs.length:=om;have:=(aw.2 (k-m.length) aL).mono ay;have e1:(m++xs).getD k .undef=xs.getD (k-m.length) .undef:=by simp[za,ze,M]
     have an:¬(k<c.size):=by rw[<- y.1];exact M
     have aO:k<c.size+g.size:=by rw[<- y.1,<- aw.1];omega
     have e2:(c++g++J).getD k undef=g.getD (k-m.length) undef:=by
      have aK:k-c.size<g.size:=by rw[<- y.1];omega
      simp[zc,zu,an,aK,y.1]
     rw[e1,e2];exact this
   refine ⟨_,q.put id (.at w.heap.size 0),_,aq,bz3 (w:=w.drew) (d:=0) hd ab au X,?_,aF.trans ((bm2 n0).trans (am4 (w:=w.drew) ab az) (zf _)) (zf _),aI.trans (aj1.put _ _ _)⟩;refine .slice id 0 (f+n) esz w.heap.size 0 cap (c++g++J) el (0,0) (by simp[Rho.put]) (by show (w.heap.push _)[w.heap.size]? = _;simp) ?_ af;have h1:c.size=f*esz:=by rw[<- y.1,aH]
   have h2:(cap-(f+n))*esz+(f+n)*esz=cap*esz:=by rw[<- zk];congr 1;omega
   rw[zk] at h2;simp only[Array.size_append,ah,aC,h1,L];omega
  cases vs with
  | aa5=>
   simp only at h;split at h
   .rename_i h0;cases h;subst h0;exact ⟨_,ρ,w,am5 ht K hi j Q (by simpa using L) (zf _),hs,.aa5,Ext.refl _ _ _,aj1.refl _ _⟩
   .split at h
    .rename_i h0 h1;cases h;have:=F zd 0 0 #[] [] ρ σ hs (Ext.refl _ _ _) (aj1.refl _ _) A H ⟨rfl,λi hi=>by simp at hi⟩ D sm (by simp[Builtin.firstCells]) om om
     simpa using this
    .cases h
  | ad2 ad=>
   simp only at h;split at h
   .rename_i h0;cases h;subst h0;exact ⟨_,ρ,w,am5 ht K hi j Q (by simpa using L) (zf _),hs,.ad2 ad,Ext.refl _ _ _,aj1.refl _ _⟩
   .split at h
    .rename_i h0 h1;cases h;have:=F (zb ad) 0 0 #[] [] ρ σ hs (Ext.refl _ _ _) (aj1.refl _ _) A H ⟨rfl,λi hi=>by simp at hi⟩ D sm (by simp[Builtin.firstCells,loadCells,loadCellsFrom]) om om
     simpa using this
    .cases h
  | ci6=>
   simp only at h;split at h
   .rename_i h0;cases h;subst h0;exact ⟨_,ρ,w,am5 ht K hi j Q (by simpa using L) (zf _),hs,.ci6,Ext.refl _ _ _,aj1.refl _ _⟩
   .cases h
  | aa2 es b o cap esz' sp vs hf hsz hc hv T=>
   simp only at h;split at h
   .rename_i h0;cases h;subst h0;exact ⟨_,ρ,w,am5 ht K hi j Q (by simpa using L) T,hs,.aa2 es b o cap esz' sp vs hf hsz hc hv T,Ext.refl _ _ _,aj1.refl _ _⟩
   .cases h
  | slice did off len e B d cap rc el' fz hid hbk hsz T=>
   simp only at h;have⟨ob,ai,X⟩:=hs.obj did B d hid;rw[ai] at h
   cases ob with
   | row cs=>
    simp only at h;split at h
    .rename_i h0;obtain ⟨rfl,h0⟩:=h0;cases h;subst h0;exact ⟨_,ρ,w,am5 ht K hi j Q (by simpa using L) T,hs,.slice did off len e B d cap rc el' fz hid hbk hsz T,Ext.refl _ _ _,aj1.refl _ _⟩
    .split at h
     .rename_i h0 h1;obtain ⟨rfl,h2,h3,h4⟩:=h1
      have aJ:0<n:=by
       rcases zo n with hh|hh
       .exact absurd ⟨rfl,hh⟩ h0
       .exact hh
      cases h;have⟨aB,aN,ak,ao,am⟩:=X;rw[hbk] at ak;cases ak;by_cases ae:len+n<=cap
      ·-- in place
       have af:(len+n)*e<=cap*e:=Nat.mul_le_mul_right e ae;rw[zk] at af;have av:=dz6 (ty:=ty) (B:=B) (o:=d+off) (sCap:=cap) ht K hi j Q ae hbk (by rw[L,U];omega) ar;rw[U] at av;generalize ac:(rc.toList.take (d+off+len*e)++g.toList++rc.toList.drop (d+off+len*e+g.toList.length)).toArray=new at av;have S:new.size=rc.size:=by rw[<- ac];simp;omega
       have hx:=az2 (n:=0) (new:=new) hid hbk S
       have ap:Sim E ρ (w.setRow B new) (σ.put did (.row (cs++xs))):=by
        refine bs7 hs hid hbk S ⟨new,el',setRow_heap w B rc new el' (0,0) hbk,?_,λk hk=>?_⟩
        .rw[S];simp[ax];omega
        .simp only[zg] at hk;by_cases M:k<cs.length
         .have e1:(cs++xs).getD k .undef=cs.getD k .undef:=by simp[za,ze,M]
          have e2:new.getD (d+k) undef=rc.getD (d+k) undef:=by
           rw[<- ac,db2 _ _ _ _ (by simp;omega),if_neg om]
          rw[e1,e2];exact (am k M).mono hx
         .have e1:(cs++xs).getD k .undef=xs.getD (k-cs.length) .undef:=by simp[za,ze,M]
          have e2:new.getD (d+k) undef=g.getD (k-cs.length) undef:=by
           rw[<- ac,db2 _ _ _ _ (by simp;omega),if_pos (by simp;omega),show d+k-(d+off+len*e)=k-cs.length from by omega];simp[zc,za]
          rw[e1,e2];exact (D.2 (k-cs.length) om).mono hx
       have ag:=fv3 (off:=off) (cs:=cs++xs) ap hid (by simp[Store.put]) A H (by rw[zg];omega);have aD:=dm6 (n:=n0) (w:=w.setRow B new) (off:=off) hid A az;refine ⟨_,_,_,av,?_,?_,(az2 (n:=n0) (new:=new) hid hbk S).trans aD (zf _),(aj1.kill hid _).trans (aj1.put _ _ _)⟩
       .have e1:((σ.put did (.row (cs++xs))).kill did).put id (.row ((cs++xs).drop off))=(σ.kill did).put id (.row (cs.drop off++xs)):=by
         rw[List.drop_append_of_le_length om];unfold Store.put Store.kill;congr 1;funext k;simp only;split
         .rfl
         .split
          .rfl
          .rename_i h5;simp[h5]
        rw[<- e1];exact ag
       .rw[show d+off=d+off+0 from rfl];exact .slice id 0 (len+n) e B (d+off) cap new el' (0,0) (by simp[Rho.put]) (setRow_heap w B rc new el' (0,0) hbk) (by rw[S];omega) ae
      ·-- a new row
       have hk:=dz5 hs hid;have Y:=cd1 (n:=n0) (w:=w) hid;have as:id≠did:=λe=>by subst e;rw[hid] at A;cases A
       have y:CR (ρ.put did .dead) w (cs.drop off) ((zm (len*e)).map λk=>rc.getD (d+(off+k)) undef).toArray:=by
        refine ⟨by simp;omega,λk I=>?_⟩;simp at I;rw[an9,ae3 _ _ _ (by simp;omega)];have:=(am (off+k) om).mono Y
        simpa using this
       have aj:(Builtin.firstCells i.size len (.slice (zb ⟨B,d+off,zd⟩) len cap)).run P w.drew=.ok ((zm (len*e)).map λk=>rc.getD (d+(off+k)) undef).toArray w.drew:=by
        have W:∀k,k<len*e->w.drew.cell? ((⟨B,d+off,zd⟩:Addr).add k)=zb (rc.getD (d+(off+k)) undef):=λk hk=>by
         rw[ba6];show w.cell? _=_;have H:d+off+k<rc.size:=om;simp only[World.cell?,hbk,zl,zh,if_false];rw[ae3 _ _ _ om,zj H];congr 2;omega
        have hl:=run_loadCells (P:=P) (w:=w.drew) ⟨B,d+off,zd⟩ (len*e) (λk=>rc.getD (d+(off+k)) undef) W;rw[U]
        simpa [Builtin.firstCells] using hl
       exact F (zb ⟨B,d+off,zd⟩) len cap _ _ _ _ hk Y (aj1.kill hid _) (by simp[Rho.put,as,A]) H y ⟨D.1,λk I=>(D.2 k I).mono Y⟩ (by simp;omega) aj om h3
     .cases h
   | _=>simp at h
  | am9 did off e B d ad hid=>
   simp only at h;have⟨ob,ai,X⟩:=hs.obj did B d hid;rw[ai] at h
   cases ob with
   | row cs=>
    simp only at h;split at h
    .rename_i h0;obtain ⟨rfl,h0⟩:=h0;cases h;subst h0;exact ⟨_,ρ,w,am5 ht K hi j Q (by simpa using L) (zf _),hs,.am9 did off e B d ad hid,Ext.refl _ _ _,aj1.refl _ _⟩
    .split at h
     .rename_i h0 h1;obtain ⟨rfl,h2,h3,h4⟩:=h1
      have aJ:0<n:=by
       rcases zo n with hh|hh
       .exact absurd ⟨rfl,hh⟩ h0
       .exact hh
      cases h;have hk:=dz5 hs hid;have Y:=cd1 (n:=n0) (w:=w) hid;have as:id≠did:=λe=>by subst e;rw[hid] at A;cases A
      have aM:cs.drop off=[]:=List.drop_of_length_le om;rw[aM];have:=F (zb ad) 0 0 #[] [] _ _ hk Y (aj1.kill hid _) (by simp[Rho.put,as,A]) H ⟨rfl,λi hi=>by simp at hi⟩ ⟨D.1,λk I=>(D.2 k I).mono Y⟩ sm (by simp[Builtin.firstCells,loadCells,loadCellsFrom]) om om
      simpa using this
     .cases h
   | _=>simp at h
  | am3 did off len e cap ad hid T=>simp[hs.dead did hid] at h
  | aq6 did off len e ad hid=>simp[hs.dead did hid] at h
  | ag6 did off len e B d rc el' fz hid hbk hsz=>
   simp only at h;have⟨ob,ai,X⟩:=hs.obj did B d hid;rw[ai] at h
   cases ob with
   | row cs=>
    simp only at h;split at h
    .rename_i h0;obtain ⟨rfl,h0⟩:=h0;cases h;subst h0;exact ⟨_,ρ,w,am5 ht K hi j Q (by simpa using L) (zf _),hs,.slice did off len e B d len rc el' fz hid hbk hsz (zf _),Ext.refl _ _ _,aj1.refl _ _⟩
    .split at h
     .rename_i h0 h1;obtain ⟨rfl,h2,h3,h4⟩:=h1;cases h;have⟨aB,aN,ak,ao,am⟩:=X;rw[hbk] at ak;cases ak
      have y:CR ρ w ((cs.drop off).take (len*e)) ((zm (len*e)).map λk=>rc.getD (d+(off+k)) undef).toArray:=by
       refine ⟨by simp;omega,λk I=>?_⟩;simp at I;rw[getD_take' _ _ _ _ om,an9,ae3 _ _ _ (by simp;omega)];have:=am (off+k) om
       simpa using this
      have aj:(Builtin.firstCells i.size len (.slice (zb ⟨B,d+off,zd⟩) len len)).run P w.drew=.ok ((zm (len*e)).map λk=>rc.getD (d+(off+k)) undef).toArray w.drew:=by
       have W:∀k,k<len*e->w.drew.cell? ((⟨B,d+off,zd⟩:Addr).add k)=zb (rc.getD (d+(off+k)) undef):=λk hk=>by
        rw[ba6];show w.cell? _=_;have H:d+off+k<rc.size:=om;simp only[World.cell?,hbk,zl,zh,if_false];rw[ae3 _ _ _ om,zj H];congr 2;omega
       have hl:=run_loadCells (P:=P) (w:=w.drew) ⟨B,d+off,zd⟩ (len*e) (λk=>rc.getD (d+(off+k)) undef) W;rw[U]
       simpa [Builtin.firstCells] using hl
      exact F (zb ⟨B,d+off,zd⟩) len len _ _ ρ σ hs (Ext.refl _ _ _) (aj1.refl _ _) A H y D (by simp;omega) aj om h3
     .cases h
   | _=>simp at h
  | _=>simp at h
end Go.Id
