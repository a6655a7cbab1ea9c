/- More operations that write: entries struck from a map; slices with a bound on their room. Conditions: none; over any program. -/
import Derived.Test.YtjpdjifjokldlaaDoorFwD7
set_option linter.all false
namespace Go.Id
open Go
variable {P:Program} {w w' w'':World} {ρ ρ' ρ'':Rho} {E:Nat→IV} {σ σ':Store} {N:Nat} {fr:Frm} {a:Act}
/-! ### An entry struck -/
def fl8 (tag:Nat)(k:IV):List (IV×IV)→Option (List (IV×IV))
 | []=>match kOK tag k with
  | true=>some []
  | false=>none
 | e::es=>match ai7 tag k e.1 with
  | some true=>some es
  | some false=>(fl8 tag k es).map (e::·)
  | none=>none
theorem gf1 {tag:Nat}{k:IV}{es es':List (IV×IV)}(h:fl8 tag k es=some es'):kOK tag k=true:=by
 cases es with
 | nil=>
  simp only[fl8] at h;split at h
  ·assumption
  ·cases h
 | cons e es=>
  simp only[fl8] at h
  cases hq:ai7 tag k e.1 with
  | none=>rw[hq] at h; cases h
  | some b=>exact eq5 hq
theorem gf2 {tag:Nat}{k:IV}:∀ (es es':List (IV×IV)),fl8 tag k es=some es'→∃ q:Option Nat,(q=none→∀ e∈es,ai7 tag k e.1=some false)∧(∀ j,q=some j→j<es.length∧ai7 tag k (es.getD j (.undef,.undef)).1=some true∧∀ i,i<j→ai7 tag k (es.getD i (.undef,.undef)).1=some false) ∧
  es'=(match q with|none=>es|some j=>es.eraseIdx j):=by
 intro es
 induction es with
 | nil=>
  intro es' h;refine ⟨none,(fun _ e he=>by cases he),(fun j hj=>by cases hj),?_⟩;simp only[fl8] at h;split at h<;>cases h
  rfl
 | cons e es ih=>
  intro es' h;simp only[fl8] at h
  cases hq:ai7 tag k e.1 with
  | none=>rw[hq] at h; cases h
  | some b=>
   rw[hq] at h
   cases b with
   | true=>cases h; exact ⟨some 0,(fun h=>by cases h),(fun j hj=>by cases hj; exact ⟨by simp,by simpa using hq,fun i hi=>absurd hi (Nat.not_lt_zero _)⟩),rfl⟩
   | false=>
    obtain ⟨es2,h3,h4⟩:=map_some h;subst h4;obtain ⟨q,h1,h2,h3⟩:=ih es2 h3;refine ⟨q.map (·+1),fun h=>?_,fun j hj=>?_,?_⟩
    ·cases q with
     | none=>intro x hx; rcases List.mem_cons.1 hx with rfl|hx; exact hq; exact h1 rfl x hx
     | some j=>cases h
    ·cases q with
     | none=>cases hj
     | some j0=>
      cases hj;obtain ⟨g1,g2,g3⟩:=h2 j0 rfl;refine ⟨by simpa using g1,by simpa using g2,fun i hi=>?_⟩;have hi:i<j0+1:=hi
      cases i with
      | zero=>simpa using hq
      | succ i=>have:=g3 i (by omega); simpa using this
    ·rw[h3]; cases q<;>simp
theorem ci7 {α:Type}(l:List α)(j i:Nat)(d:α):(l.eraseIdx j).getD i d=if i<j then l.getD i d else l.getD (i+1) d:=by
 simp only[List.getD_eq_getElem?_getD,List.getElem?_eraseIdx];split<;>rfl
theorem ay5 {α:Type}(l:Array α)(j i:Nat)(d:α)(h:j<l.size):(l.eraseIdxIfInBounds j).getD i d=if i<j then l.getD i d else l.getD (i+1) d:=by
 have e:(l.eraseIdxIfInBounds j).toList=l.toList.eraseIdx j:=by simp[Array.eraseIdxIfInBounds,h]
 have g:∀ (a:Array α) (i:Nat),a.getD i d=a.toList.getD i d:=fun a i=>by simp[List.getD_eq_getElem?_getD,Array.getD_eq_getD_getElem?]
 rw[g,e,ci7,← g,← g]
inductive SK where
 | hq6 (tag:Nat)
 | nev
 | cpy (esz:Nat)
 | sl3 (esz:Nat) (chk:Bool)
 | rlp (esz:Nat)
 | apr (esz:Nat)
 deriving Inhabited
def hp5:IV→Option Nat
 | .aa1|.ab4|.ad4=>some 0
 | .slice _ _ len _=>some len
 | .aa4 es=>some es.length
 | .ad7 _ _ len _ _=>some len
 | _=>none
def et4 (σ:Store)(id esz l h:Nat):IV→Option (IV×Store)
 | .aa1=>if h=0 then some (.aa1,σ) else none
 | .ab4=>if h=0 then some (.ab4,σ) else none
 | .slice did off len e=>if e=esz∧l≤h∧h≤len then match σ.obj did with
  | some (.row cs)=>if off+len*esz≤cs.length then some (.slice id 0 (h-l) esz,(σ.kill did).put id (.row ((cs.drop (off+l*esz)).take ((h-l)*esz)))) else none
  | _=>none
  else none
 | _=>none
def fl9 (σ:Store)(tag:Nat)(k:IV):IV→Option (IV×Store)
 | .map id=>match σ.obj id with
  | some (.map es)=>match fl8 tag k es with
   | some es'=>some (.undef,σ.put id (.map es'))
   | none=>none
  | _=>none
 | .af9=>match kOK tag k with
  | true=>some (.undef,σ)
  | false=>none
 | _=>none
def gs6 (σ:Store)(id esz:Nat)(chk:Bool)(x lo hi mx:IV):Option (IV×Store):=
 match di6 lo,di6 hi,di6 mx with
 | some l,some h,some m=>match chk with
  | true=>match hp5 x with
   | some n=>if l≤h∧h≤m∧m≤n then some (.undef,σ) else none
   | none=>none
  | false=>if l≤h∧h=m then et4 σ id esz l h x else none
 | _,_,_=>none
def ci8 (m:Nat):IV→IV
 | .slice id off l e=>.slice id off (min l m) e
 | v=>v
def gs7 (σ:Store)(esz:Nat)(d s:IV):Option (IV×Store):=
 match d with
 | .slice id off len e=>match av9 σ esz (ci8 len s) with
  | some (n,cells)=>match σ.obj id with
   | some (.row cs)=>if e=esz∧n≤len∧off+n*esz≤cs.length∧cells.all IV.leaf=true then some (.int .i64 n,σ.put id (.row (ao8 cs off cells))) else none
   | _=>none
  | none=>none
 | _=>none
def gs8 (σ:Store)(esz:Nat)(s x:IV):Option (IV×Store):=
 match s with
 | .ad7 id off len room e=>match av9 σ esz x with
  | some (n,cells)=>match σ.obj id with
   | some (.row cs)=>if e=esz∧len+n≤room∧off+len*esz+n*esz≤cs.length∧cells.all IV.leaf=true then some (.ad7 id off (len+n) room e,σ.put id (.row (ao8 cs (off+len*esz) cells))) else none
   | _=>none
  | none=>none
 | _=>none
def stI (k:SK)(id:Nat)(σ:Store)(vs:List IV):Option (IV×Store):=
 match k,vs with
 | .hq6 tag,[x,y]=>fl9 σ tag y x
 | .sl3 esz chk,[x,lo,hi,mx]=>gs6 σ id esz chk x lo hi mx
 | .cpy esz,[x,y]=>gs7 σ esz x y
 | .rlp esz,[x,y]=>(hm3 esz x y).map fun v=>(v,σ)
 | .apr esz,[x,y]=>gs8 σ esz x y
 | _,_=>none
theorem ca6 {k:SK}{id:Nat}{vs:List IV}{v:IV}(h:stI k id σ vs=some (v,σ')):σ'.next=σ.next:=by
 unfold stI at h;split at h
 ·unfold fl9 at h;split at h
  ·split at h
   ·split at h
    ·cases h; rfl
    ·cases h
   ·cases h
  ·split at h<;>cases h; rfl
  ·cases h
 ·unfold gs6 at h;split at h
  ·split at h
   ·split at h
    ·split at h
     ·cases h; rfl
     ·cases h
    ·cases h
   ·split at h
    ·unfold et4 at h;split at h
     ·split at h<;>cases h; rfl
     ·split at h<;>cases h; rfl
     ·split at h
      ·split at h
       ·split at h<;>cases h; rfl
       ·cases h
      ·cases h
     ·cases h
    ·cases h
  ·cases h
 ·unfold gs7 at h;split at h
  ·split at h
   ·split at h
    ·split at h<;>cases h; rfl
    ·cases h
   ·cases h
  ·cases h
 ·obtain ⟨u,_,hu⟩:=map_some h;cases hu; rfl
 ·unfold gs8 at h;split at h
  ·split at h
   ·split at h
    ·split at h<;>cases h; rfl
    ·cases h
   ·cases h
  ·cases h
 ·cases h
theorem et5 {t kt et:TypeId}{ts:Array TypeId}{tag:Nat}{x k:Operand}{ix ik:IX}{n id0:Nat}{v:IV}(hts:ts[0]? = some t)(hu:P.underlying t=some (.map kt et))(ht:eq4 P kt=some tag)
  (hx:af8 x=some ix) (hk:af8 k=some ik) (h:fl9 σ tag (ik.ev E fr) (ix.ev E fr)=some (v,σ')) (hs:Sim E ρ w σ) (hf:FR ρ w N fr a.tmps) :
  bi8 P E id0 n ρ w a (.call { callee:=.builtin .delete,args:=#[x,k],argTypes:=ts }) v σ':=by
 intro o ho;have vx:=aa6 (a:=a) hx hs hf;have vk:=aa6 (a:=a) hk hs hf;generalize ix.ev E fr=ax at vx h;generalize ik.ev E fr=ak at vk h;generalize hrx:a.eval x=rx at vx;generalize hrk:a.eval k=rk at vk
 have exec:∀ w',(Builtin.delete_ ts o.type #[rx,rk]).run P w=.ok (.tuple #[]) w'→(execOp a.eval o).run P w=.ok (.value (.tuple #[])) w':=by
  intro w' hr;unfold execOp;rw[ho];simp[resolve,invoke,builtin,hrx,hrk,hr]
 cases vx with
 | af9=>
  simp only[fl9] at h;split at h
  ·rename_i hok;cases h;have hck:=au6 (b:=true) ht hok vk;refine ⟨.value (.tuple #[]),.tuple #[],ρ,w,exec w ?_,.inl rfl,hs,.undef _,Ext.refl _ _ _,ae4.refl _ _⟩;simp[Builtin.delete_,hts,run_underlying hu,hck]
  ·cases h
 | map id B dd hid=>
  simp only[fl9] at h;obtain ⟨ob,hob,hor⟩:=hs.obj id B dd hid;rw[hob] at h
  cases ob with
  | map es=>
   simp only at h;split at h
   ·rename_i es' hes';cases h;obtain ⟨mes,clock,g1,g0,g2,g3,g4,g5⟩:=hor;have toL:∀ (i:Nat),mes.toList.getD i default=mes.getD i default:=fun i=>by simp[List.getD_eq_getElem?_getD,Array.getD_eq_getD_getElem?]
    have hE:EsR ρ w es mes.toList:=⟨by simpa using g2,fun i hi=>by rw[toL]; exact g3 i hi⟩;obtain ⟨r',q1,q2,h2⟩:=gf2 es es' hes';have hck:∀ b,(Instr.checkKey b 10000 kt rk).run P w=.ok () w:=fun b=>au6 ht (gf1 hes') vk
    have h1:=ca3 ht vk es mes.toList hE r' q1 q2;have hg:(getObj B).run P w=.ok (.map mes clock) w:=by simp[getObj,Sem.run,g1]
    have hset:∀ o,(setObj B o).run P w=.ok () (w.putObj B o):=fun o=>by simp[setObj,Sem.run,g1,World.putObj]
    have hlt:=hs.lt id B dd hid;have nc:∀ (rcs:Array Value) (el:TypeId) (fz:Nat×Nat),Obj.map mes clock≠.cells rcs el fz:=fun _ _ _ h=>by cases h
    have nl:∀ L,Obj.map mes clock≠.loop L:=fun _ h=>by cases h
    have hx:∀ (n:Nat) (o:Obj),Ext n ρ w ρ (w.putObj B o):=fun n o=>as3 hid g1 nc nl
    have fin:∀ (mes':Array MapEntry),(Builtin.delete_ ts o.type #[.map (some B),rk]).run P w=.ok (.tuple #[]) (w.putObj B (.map mes' clock))→es'.length=mes'.size →
      (∀ i,i<es'.length→VR ρ w (es'.getD i (.undef,.undef)).1 (mes'.getD i default).key∧VR ρ w (es'.getD i (.undef,.undef)).2 (mes'.getD i default).val) →
      (∀ i,i<mes'.size→(mes'.getD i default).born<clock)→(∀ i j,i<j→j<mes'.size→(mes'.getD i default).born≠(mes'.getD j default).born) →
      ∃ (x:Next) (r:Value) (ρ':Rho) (w':World),(execOp a.eval o).run P w=.ok x w'∧((x=.value r)∨(x=.skip∧r=undef))∧Sim E ρ' w' (σ.put id (.map es'))∧VR ρ' w' .undef r∧Ext n ρ w ρ' w'∧ae4 id0 ρ ρ':=by
     intro mes' hrun hl hvs hb1 hb2;exact ⟨.value (.tuple #[]),.tuple #[],ρ,w.putObj B (.map mes' clock),exec _ hrun,.inl rfl,bc4 hs hid g1 nc nl ⟨mes',clock,World.putObj_heap_same hlt,g0,hl,fun i hi=>⟨(hvs i hi).1.mono (hx 0 _),(hvs i hi).2.mono (hx 0 _)⟩,hb1,hb2⟩,.undef _,hx n _,ae4.refl _ _⟩
    cases r' with
    | none=>
     simp only at h2;subst h2;refine fin mes ?_ g2 g3 g4 g5
     simp[Builtin.delete_,hts,run_underlying hu,hg,hck,h1,hset]
    | some j=>
     obtain ⟨q2,_,_⟩:=q2 j rfl;simp only at h2;subst h2;have hjm:j<mes.size:=by omega
     have hsz:(mes.eraseIdxIfInBounds j).size=mes.size-1:=by simp[Array.eraseIdxIfInBounds,hjm]
     refine fin (mes.eraseIdxIfInBounds j) ?_ ?_ ?_ ?_ ?_
     ·simp[Builtin.delete_,hts,run_underlying hu,hg,hck,h1,hset]
     ·rw[hsz,List.length_eraseIdx,if_pos q2,g2]
     ·intro i hi;rw[List.length_eraseIdx,if_pos q2] at hi;rw[ci7,ay5 _ _ _ _ hjm];split
      ·exact g3 i (by omega)
      ·exact g3 (i+1) (by omega)
     ·intro i hi;rw[hsz] at hi;rw[ay5 _ _ _ _ hjm];split
      ·exact g4 i (by omega)
      ·exact g4 (i+1) (by omega)
     ·intro i i2 hij hi2;rw[hsz] at hi2;rw[ay5 _ _ _ _ hjm,ay5 _ _ _ _ hjm];split<;>split
      ·exact g5 i i2 hij (by omega)
      ·exact g5 i (i2+1) (by omega) (by omega)
      ·omega
      ·exact g5 (i+1) (i2+1) (by omega) (by omega)
   ·cases h
  | _=>simp at h
 | mapD id B hid=>simp[fl9,hs.dead id hid] at h
 | _=>simp[fl9] at h
/-! ### copy -/
theorem dl2 {esz n len:Nat}{v:IV}{r:Value}{cells:List IV}(hs:Sim E ρ w σ)(h:av9 σ esz (ci8 len v)=some (n,cells))(hn:n≤len)(hv:VR ρ w v r) :
  cells.length=n*esz∧∃ m,(Builtin.lenOf r).run P w=.ok m w∧min m len=n∧∃ rc:Array Value,CR ρ w cells rc∧(Builtin.firstCells esz n r).run P w=.ok rc w:=by
 have same:av9 σ esz v=some (n,cells)→cells.length=n*esz∧∃ m,(Builtin.lenOf r).run P w=.ok m w∧min m len=n∧∃ rc:Array Value,CR ρ w cells rc∧(Builtin.firstCells esz n r).run P w=.ok rc w:=fun h=>by
  obtain ⟨c1,c2,rc,c3,c4,_⟩:=bk8 (P:=P) hs h hv;exact ⟨c1,n,c2,Nat.min_eq_left hn,rc,c3,c4⟩
 cases hv with
 | slice id2 off2 len2 e2 B2 d2 cap2 rcs2 el4 fz2 hid2 hbk2 hsz3 hle2=>
  have vy':VR ρ w (.slice id2 off2 (min len2 len) e2) (.slice (some ⟨B2,d2+off2,none⟩) (min len2 len) cap2):=.slice id2 off2 _ e2 B2 d2 cap2 rcs2 el4 fz2 hid2 hbk2 hsz3 (Nat.le_trans (Nat.min_le_left _ _) hle2);obtain ⟨c1,c2,rc,c3,c4,_⟩:=bk8 (P:=P) hs h vy'
  have hnn:n=min len2 len:=by
   simp only[ci8,av9] at h;split at h
   ·split at h
    ·cases h; rfl
    ·cases h
   ·cases h
  exact ⟨c1,len2,by simp[Builtin.lenOf],hnn.symm,rc,c3,by simpa [Builtin.firstCells] using c4⟩
 | ag5 id2 off2 e2 B2 d2 ad hid2=>simp only[ci8,Nat.zero_min] at h; exact same h
 | ag6 id2 off2 l2 e2 cap ad hid2 hle=>
  simp only[ci8,av9,hs.dead id2 hid2] at h
  cases h
 | _=>exact same h
theorem fm1 {t el:TypeId} {ts:Array TypeId} {x y:Operand} {ix iy:IX} {esz n id0:Nat} {v:IV} (hts:ts[0]? = some t) (hu:P.underlying t=some (.slice el)) (hsz:szT P el=some esz)
  (hx:af8 x=some ix) (hy:af8 y=some iy) (h:gs7 σ esz (ix.ev E fr) (iy.ev E fr)=some (v,σ')) (hs:Sim E ρ w σ) (hf:FR ρ w N fr a.tmps) :
  bi8 P E id0 n ρ w a (.call { callee:=.builtin .copy,args:=#[x,y],argTypes:=ts }) v σ':=by
 intro o ho;have vx:=aa6 (a:=a) hx hs hf;have vy:=aa6 (a:=a) hy hs hf;generalize ix.ev E fr=ax at vx h;generalize iy.ev E fr=ay at vy h;generalize hrx:a.eval x=rx at vx;generalize hry:a.eval y=ry at vy
 have exec:∀ r w',(Builtin.copy_ ts o.type #[rx,ry]).run P w=.ok r w'→(execOp a.eval o).run P w=.ok (.value r) w':=by
  intro r w' hr;unfold execOp;rw[ho];simp[resolve,invoke,builtin,hrx,hry,hr]
 unfold gs7 at h;split at h
 ·rename_i id off len e;split at h
  ·rename_i m cells hsrc;split at h
   ·rename_i cs hcs;split at h
    ·rename_i hc;obtain ⟨rfl,hml,hfit,hlf⟩:=hc;cases h;obtain ⟨c1,k,c2,c3,rc,c4,c5⟩:=dl2 (P:=P) hs hsrc hml vy
     cases vx with
     | slice _ _ _ _ B d cap rcs el2 fz hid hbk hsz' hle=>
      obtain ⟨ob,hob,hor⟩:=hs.obj id B d hid;rw[hcs] at hob;cases hob;obtain ⟨rcs',el3,hb,hsz2,hvs⟩:=hor
      have hone:∀ x∈rc.toList,x.oneCell'=true:=by
       intro z hz;obtain ⟨i,hi,hzi⟩:=List.mem_iff_getElem.1 hz;have hi2:i<cells.length:=by have:=c4.1; simp at hi; omega
       have hv:=c4.2 i hi2;have hl:(cells.getD i .undef).leaf=true:=List.all_eq_true.1 hlf _ (by rw[List.getD_eq_getElem?_getD,List.getElem?_eq_getElem hi2]; exact List.getElem_mem hi2);have:=(bc1 hl hv).1;rw[ac5 _ _ _ (by simpa using hi)] at this;rw[← hzi]; simpa using this
      have hlen:rc.toList.length=m*e:=by have:=c4.1; simp; omega
      have hst:=run_storeCells_at (P:=P) B (d+off) el3 rc.toList 0 rcs' w hb (by omega) hone;simp only[Nat.add_zero] at hst;generalize hnew:(rcs'.toList.take (d+off)++rc.toList++rcs'.toList.drop (d+off+rc.toList.length)).toArray=new at hst
      have hnsz:new.size=rcs'.size:=by
       rw[← hnew]; simp; simp at hlen; omega
      have hx:∀ n,Ext n ρ w ρ (w.setRow B new):=fun n=>al4 (n:=n) (new:=new) hid hb hnsz
      refine ⟨.value (.int .i64 m),.int .i64 m,ρ,w.setRow B new,exec _ _ ?_,.inl rfl,as2 hs hid hb hnsz ?_,.int _ _,hx n,ae4.refl _ _⟩
      ·simp[Builtin.copy_,hts,run_underlying hu,c2,c3,run_sizeOf hsz,c5,hst,goInt]
      ·refine ⟨new,el3,setRow_heap w B rcs' new el3 (0,0) hb,?_,?_⟩
       ·rw[hnsz,ad6 (by omega)]; exact hsz2
       ·intro i hi;rw[ad6 (by omega)] at hi
        have:=fl2 (w:=w) (ρ:=ρ) (cs:=cs) (vs:=cells) (old:=rcs') (news:=rc.toList) (d:=d) (k:=off) hvs hsz2 (by rw[c1,hlen])
         (fun i hi=>by simpa [Array.getD_eq_getD_getElem?,List.getD_eq_getElem?_getD] using c4.2 i hi) (by omega) i hi
        rw[hnew] at this
        exact this.mono (hx 0)
     | ag5 _ _ _ B d ad hid=>
      have hm0:m=0:=by omega
      subst hm0;have hc0:cells=[]:=List.length_eq_zero_iff.1 (by omega);subst hc0;have hrc:rc=#[]:=by have:=c4.1; simp at this; exact Array.eq_empty_of_size_eq_zero this.symm
      subst hrc
      have hput:σ.put id (.row (ao8 cs off []))=σ:=by
       have:ao8 cs off []=cs:=by simp[ao8]
       rw[this];unfold Store.put;congr 1;funext i;by_cases e:i=id
       ·subst e; simp[hcs]
       ·simp[e]
      rw[hput];refine ⟨.value (.int .i64 (0:Nat)),.int .i64 (0:Nat),ρ,w,exec _ _ ?_,.inl rfl,hs,.int _ _,Ext.refl _ _ _,ae4.refl _ _⟩
      simp[Builtin.copy_,hts,run_underlying hu,c2,run_sizeOf hsz,c5,storeCells,goInt]
     | ag6 _ _ _ _ cap ad hid hle=>rw[hs.dead id hid] at hcs; cases hcs
    ·cases h
   ·cases h
  ·cases h
 ·cases h
/-! ### Slices with a bound on their room -/
theorem cc9 {len cap l h m:Nat}{rlo:Option Value}{rh rm:Value}(hl:(rlo=none∧l=0)∨∃ k,rlo=some (.int k (l:Int)))(hh:∃ k,rh=.int k (h:Int))(hm:∃ k,rm=.int k (m:Int))(h1:l≤h)(h2:h≤m)(h3:m≤cap) :
  (Instr.sliceBounds true len cap rlo (some rh) (some rm)).run P w=.ok (l,h,m) w:=by
 obtain ⟨k1,rfl⟩:=hh;obtain ⟨k2,rfl⟩:=hm;have a1:(h:Int)≤(m:Int):=by omega
 have a2:(m:Int)≤(cap:Int):=by omega
 have a3:(l:Int)≤(h:Int):=by omega
 rcases hl with ⟨rfl,rfl⟩|⟨k,rfl⟩
 ·have:¬ m<h:=by omega
  simp[Instr.sliceBounds,Instr.sliceBound,asIntOf,a2,h2,this]
 ·simp[Instr.sliceBounds,Instr.sliceBound,asIntOf,a2,h1,h2]
theorem ci9 {id n:Nat}{cs:List IV}(hs:Sim E ρ w σ)(hc:σ.obj id=some (.row cs)):Sim E ρ w (σ.put id (.row (cs.take n))) where
 inj:=hs.inj
 lt:=hs.lt
 obj:=fun i B d hi=>by
  obtain ⟨o,h1,h2⟩:=hs.obj i B d hi;by_cases e:i=id
  ·subst e;rw[hc] at h1;cases h1;obtain ⟨rcs,el,hb,hsz,hv⟩:=h2;refine ⟨.row (cs.take n),by simp[Store.put],rcs,el,hb,by simp; omega,fun k hk=>?_⟩;simp at hk;rw[getD_take' _ _ _ _ (by omega)];exact hv k (by omega)
  ·exact ⟨o,by simp[Store.put,e,h1],h2⟩
 dead:=fun i hi=>by
  have h0:=hs.dead i hi;have:i≠id:=fun e=>by subst e; rw[hc] at h0; cases h0
  simp[Store.put,this,h0]
 fresh:=hs.fresh
 ak6:=fun i hi=>by
  have h0:=hs.ak6 i hi;have:i≠id:=fun e=>by subst e; rw[hc] at h0; cases h0
  simp[Store.put,this,h0]
 env:=hs.env
 nx:=hs.nx
 xlt:=hs.xlt
theorem et6 (id:Nat)(x y:ah2):(σ.put id x).put id y=σ.put id y:=by
 unfold Store.put;congr 1;funext i;simp only;split<;>rfl
theorem fm2 {t el:TypeId} {x oh om:Operand} {olo:Option Operand} {ix ilo ih im:IX} {esz id n:Nat} {chk:Bool} {v:IV} (hu:P.underlying t=some (.slice el)) (hsz:szT P el=some esz)
  (hx:af8 x=some ix) (hlo:(olo=none∧ilo=.c (.int .i64 0))∨∃ o,olo=some o∧af8 o=some ilo) (hh:af8 oh=some ih) (hm:af8 om=some im)
  (h:gs6 σ id esz chk (ix.ev E fr) (ilo.ev E fr) (ih.ev E fr) (im.ev E fr)=some (v,σ')) (hs:Sim E ρ w σ) (hf:FR ρ w N fr a.tmps) (hno:ρ id=.no) (hlt:id<σ.next) (hn:n≤id) :
  bi8 P E id n ρ w a (.slice t x olo (some oh) (some om)) v σ':=by
 intro o ho;have vx:=aa6 (a:=a) hx hs hf;have vh:=aa6 (a:=a) hh hs hf;have vm:=aa6 (a:=a) hm hs hf;unfold gs6 at h;split at h
 ·rename_i l hb m e1 e2 e3
  have bl:(olo.map a.eval=none∧l=0)∨∃ k,olo.map a.eval=some (.int k (l:Int)):=by
   rcases hlo with ⟨rfl,rfl⟩|⟨o2,rfl,ho2⟩
   ·simp only[IX.ev,di6] at e1;cases e1;exact .inl ⟨rfl,rfl⟩
   ·obtain ⟨k,hk⟩:=an9 e1 (aa6 (a:=a) ho2 hs hf);exact .inr ⟨k,by simp[hk]⟩
  have bh:=an9 e2 vh;have bm:=an9 e3 vm;generalize ix.ev E fr=ax at vx h;generalize hrx:a.eval x=rx at vx
  have run:∀ (ad:Option Addr) (len cap:Nat),rx=.slice ad len cap→l≤hb→hb≤m→m≤cap→(execOp a.eval o).run P w=.ok (.value (.slice (if m=l then ad else ad.map (·.add (l*esz))) (hb-l) (m-l))) w:=by
   intro ad len cap hr a1 a2 a3;have hbd:=cc9 (P:=P) (w:=w) (len:=len) bl bh bm a1 a2 a3;unfold execOp;rw[ho];simp only[hrx,hr,Option.map_some];simp[Instr.sliceAt,Instr.slice,run_underlying hu,hbd,run_sizeOf hsz]
  split at h
  ·split at h
   ·rename_i n0 hlen;split at h
    ·rename_i hc;cases h
     have:∃ ad len cap,rx=.slice ad len cap∧n0≤cap:=by
      cases vx<;>simp only[hp5] at hlen<;>cases hlen
      all_goals first|exact ⟨_,_,_,rfl,Nat.le_refl _⟩|exact ⟨_,_,_,rfl,Nat.zero_le _⟩|exact ⟨_,_,_,rfl,by assumption⟩|exact ⟨_,_,_,rfl,by omega⟩
     obtain ⟨ad,len,cap,hr,hcap⟩:=this;exact ⟨_,_,ρ,w,run ad len cap hr hc.1 hc.2.1 (by omega),.inl rfl,hs,.undef _,Ext.refl _ _ _,ae4.refl _ _⟩
    ·cases h
   ·cases h
  ·split at h
   ·rename_i hc;obtain ⟨hlh,rfl⟩:=hc
    cases vx with
    | aa1=>
     simp only[et4] at h;split at h
     ·rename_i h0;cases h;have hl0:l=0:=by omega
      subst hl0; subst h0;exact ⟨_,_,ρ,w,run none 0 0 rfl (Nat.le_refl _) (Nat.le_refl _) (Nat.le_refl _),.inl rfl,hs,.aa1,Ext.refl _ _ _,ae4.refl _ _⟩
     ·cases h
    | ab4 ad=>
     simp only[et4] at h;split at h
     ·rename_i h0;cases h;have hl0:l=0:=by omega
      subst hl0; subst h0;exact ⟨_,_,ρ,w,run (some ad) 0 0 rfl (Nat.le_refl _) (Nat.le_refl _) (Nat.le_refl _),.inl rfl,hs,.ab4 ad,Ext.refl _ _ _,ae4.refl _ _⟩
     ·cases h
    | slice did off len e B d cap rcs elt fz hid hbk hsz' hle=>
     simp only[et4] at h;split at h
     ·rename_i hc;obtain ⟨rfl,_,hhl⟩:=hc;split at h
      ·rename_i cs hcs;split at h
       ·rename_i hcl;cases h;have hmul:l*e≤len*e:=Nat.mul_le_mul_right _ (by omega);have hoff:off+l*e≤cs.length:=by omega
        have s1:=bp8 hs hid hcs hno hlt hoff;have s2:=ci9 (id:=id) (cs:=cs.drop (off+l*e)) (n:=(hb-l)*e) s1 (by simp[Store.put]);rw[et6] at s2;have hx:=bc3 (w:=w) (off:=off+l*e) hid hno hn;have hr:=run (some ⟨B,d+off,none⟩) len cap rfl hlh (Nat.le_refl _) (by omega)
        have nb:ae4 id ρ ((ρ.put did .dead).put id (.at B (d+(off+l*e)))):=fun i hi h0=>by
         have:i≠did:=fun e=>by subst e; rw[hid] at h0; cases h0
         simp[Rho.put,hi,this,h0]
        refine ⟨_,_,_,w,hr,.inl rfl,s2,?_,hx,nb⟩;by_cases hz:hb=l
        ·subst hz;simp only[Nat.sub_self,if_true];exact .ag5 id 0 e B (d+(off+hb*e)) _ (by simp[Rho.put])
        ·rw[if_neg hz]
         have:=VR.slice (ρ:=(ρ.put did .dead).put id (.at B (d+(off+l*e)))) (w:=w) id 0 (hb-l) e B (d+(off+l*e)) (hb-l) rcs elt fz (by simp[Rho.put]) hbk (by
          have h1:l*e+(hb-l)*e=hb*e:=by rw[← Nat.add_mul,Nat.add_sub_cancel' hlh]
          have h2:hb*e≤cap*e:=Nat.mul_le_mul_right _ (by omega);omega) (Nat.le_refl _)
         rw[Option.map_some,am3,show d+off+l*e=d+(off+l*e)+0 from by omega];exact this
       ·cases h
      ·cases h
     ·cases h
    | ag5 did off e B d ad hid=>
     simp only[et4] at h;split at h
     ·rename_i hc;obtain ⟨rfl,_,hhl⟩:=hc;split at h
      ·rename_i cs hcs;split at h
       ·rename_i hcl;cases h;have hb0:hb=0:=by omega
        have hl0:l=0:=by omega
        subst hb0; subst hl0;have s1:=bp8 (off:=off+0*e) hs hid hcs hno hlt (by omega);have s2:=ci9 (id:=id) (cs:=cs.drop (off+0*e)) (n:=(0-0)*e) s1 (by simp[Store.put]);rw[et6] at s2;have hx:=bc3 (w:=w) (off:=off+0*e) hid hno hn;have hr:=run (some ad) 0 0 rfl (Nat.le_refl _) (Nat.le_refl _) (Nat.le_refl _)
        have nb:ae4 id ρ ((ρ.put did .dead).put id (.at B (d+(off+0*e)))):=fun i hi h0=>by
         have:i≠did:=fun e=>by subst e; rw[hid] at h0; cases h0
         simp[Rho.put,hi,this,h0]
        exact ⟨_,_,_,w,hr,.inl rfl,s2,.ag5 id 0 e B (d+(off+0*e)) _ (by simp[Rho.put]),hx,nb⟩
       ·cases h
      ·cases h
     ·cases h
    | ag6 did off len e cap ad hid hle=>
     simp only[et4] at h;split at h
     ·rw[hs.dead did hid] at h; cases h
     ·cases h
    | _=>simp[et4] at h
   ·cases h
 ·cases h
theorem fm3 {t el:TypeId}{x oh om:Operand}{olo:Option Operand}{ix ilo ih im:IX}{esz id n:Nat}{v:IV}(hu:P.underlying t=some (.slice el))(hsz:szT P el=some esz)
  (hx:af8 x=some ix) (hlo:(olo=none∧ilo=.c (.int .i64 0))∨∃ o,olo=some o∧af8 o=some ilo) (hh:af8 oh=some ih) (hm:af8 om=some im)
  (h:hm4 esz (ix.ev E fr) (ilo.ev E fr) (ih.ev E fr) (im.ev E fr)=some v) (hs:Sim E ρ w σ) (hf:FR ρ w N fr a.tmps) :
  bi8 P E id n ρ w a (.slice t x olo (some oh) (some om)) v σ:=by
 intro o ho;have vx:=aa6 (a:=a) hx hs hf;have vh:=aa6 (a:=a) hh hs hf;have vm:=aa6 (a:=a) hm hs hf;unfold hm4 at h;split at h
 ·rename_i hb m e1 e2 e3
  have bl:(olo.map a.eval=none∧0=0)∨∃ k,olo.map a.eval=some (.int k ((0:Nat):Int)):=by
   rcases hlo with ⟨rfl,rfl⟩|⟨o2,rfl,ho2⟩
   ·exact .inl ⟨rfl,rfl⟩
   ·obtain ⟨k,hk⟩:=an9 e1 (aa6 (a:=a) ho2 hs hf);exact .inr ⟨k,by simp[hk]⟩
  have bh:=an9 e2 vh;have bm:=an9 e3 vm;generalize ix.ev E fr=ax at vx h;generalize hrx:a.eval x=rx at vx
  have run:∀ (ad:Option Addr) (len cap:Nat),rx=.slice ad len cap→hb≤m→m≤cap→(execOp a.eval o).run P w=.ok (.value (.slice (if m=0 then ad else ad.map (·.add (0*esz))) (hb-0) (m-0))) w:=by
   intro ad len cap hr a2 a3;have hbd:=cc9 (P:=P) (w:=w) (len:=len) bl bh bm (Nat.zero_le _) a2 a3;unfold execOp;rw[ho];simp only[hrx,hr,Option.map_some];simp[Instr.sliceAt,Instr.slice,run_underlying hu,hbd,run_sizeOf hsz]
  split at h
  ·rename_i hhm;subst hhm
   cases vx with
   | aa1=>
    simp only at h;split at h
    ·rename_i h0; cases h; subst h0;exact ⟨_,_,ρ,w,run none 0 0 rfl (Nat.le_refl _) (Nat.le_refl _),.inl rfl,hs,.aa1,Ext.refl _ _ _,ae4.refl _ _⟩
    ·cases h
   | ab4 ad=>
    simp only at h;split at h
    ·rename_i h0; cases h; subst h0;exact ⟨_,_,ρ,w,run (some ad) 0 0 rfl (Nat.le_refl _) (Nat.le_refl _),.inl rfl,hs,.ab4 ad,Ext.refl _ _ _,ae4.refl _ _⟩
    ·cases h
   | slice did off len e B d cap rcs elt fz hid hbk hsz' hle=>
    simp only at h;split at h
    ·rename_i hc;obtain ⟨rfl,hhl⟩:=hc;have hr:=run (some ⟨B,d+off,none⟩) len cap rfl (Nat.le_refl _) (by omega);split at h
     ·rename_i h0; cases h; subst h0;exact ⟨_,_,ρ,w,hr,.inl rfl,hs,.ab4 _,Ext.refl _ _ _,ae4.refl _ _⟩
     ·rename_i h0;cases h;refine ⟨_,_,ρ,w,hr,.inl rfl,hs,?_,Ext.refl _ _ _,ae4.refl _ _⟩;rw[if_neg h0,Option.map_some,am3,Nat.zero_mul,Nat.add_zero,Nat.sub_zero];have h2:hb*e≤cap*e:=Nat.mul_le_mul_right _ (by omega);exact .ae2 did off hb e B d rcs elt fz hid hbk (by omega)
    ·cases h
   | ag5 did off e B d ad hid=>
    simp only at h;split at h
    ·rename_i hc;obtain ⟨rfl,hhl⟩:=hc;have hb0:hb=0:=by omega
     subst hb0;simp only[if_true] at h;cases h;exact ⟨_,_,ρ,w,run (some ad) 0 0 rfl (Nat.le_refl _) (Nat.le_refl _),.inl rfl,hs,.ab4 ad,Ext.refl _ _ _,ae4.refl _ _⟩
    ·cases h
   | ag6 did off len e cap ad hid hle=>
    simp only at h;split at h
    ·rename_i hc;obtain ⟨rfl,hhl⟩:=hc;have hr:=run (some ad) len cap rfl (Nat.le_refl _) (by omega);split at h
     ·rename_i h0; cases h; subst h0;exact ⟨_,_,ρ,w,hr,.inl rfl,hs,.ab4 _,Ext.refl _ _ _,ae4.refl _ _⟩
     ·rename_i h0;cases h;refine ⟨_,_,ρ,w,hr,.inl rfl,hs,?_,Ext.refl _ _ _,ae4.refl _ _⟩;rw[if_neg h0,Option.map_some,Nat.zero_mul,Nat.sub_zero];exact .ak1 did off hb e _ hid
    ·cases h
   | _=>simp at h
  ·cases h
 ·cases h
/-! ### s[:h],and append in place -/
theorem fm4 {t el:TypeId}{x oh:Operand}{ix ih:IX}{esz id n:Nat}{v:IV}(hu:P.underlying t=some (.slice el))(hsz:szT P el=some esz)
  (hx:af8 x=some ix) (hh:af8 oh=some ih) (h:hm3 esz (ix.ev E fr) (ih.ev E fr)=some v) (hs:Sim E ρ w σ) (hf:FR ρ w N fr a.tmps) :
  bi8 P E id n ρ w a (.slice t x none (some oh) none) v σ:=by
 intro o ho;have vx:=aa6 (a:=a) hx hs hf;have vh:=aa6 (a:=a) hh hs hf;unfold hm3 at h;split at h
 ·rename_i hb e1;generalize ix.ev E fr=ax at vx h;generalize hrx:a.eval x=rx at vx
  have run:∀ (ad:Option Addr) (len cap:Nat),rx=.slice ad len cap→hb≤cap→(execOp a.eval o).run P w=.ok (.value (.slice (if cap=0 then ad else ad.map (·.add (0*esz))) (hb-0) (cap-0))) w:=by
   intro ad len cap hr a3;have hbd:=ai4 (P:=P) (w:=w) (ρ:=ρ) (isSlice:=true) (len:=len) (cap:=cap) (lo:=none) (hi:=some (ih.ev E fr)) (rlo:=none) (rhi:=some (a.eval oh)) rfl e1 trivial vh (Nat.zero_le _) a3;unfold execOp;rw[ho];simp only[hrx,hr,Option.map_some];simp[Instr.sliceAt,Instr.slice,run_underlying hu,hbd,run_sizeOf hsz]
  split at h
  ·rename_i did off len e;split at h
   ·rename_i hc;obtain ⟨rfl,h1,h2⟩:=hc;cases h
    cases vx with
    | slice _ _ _ _ B d cap rcs elt fz hid hbk hsz' hle=>
     have hr:=run _ _ _ rfl (by omega);have c0:¬ cap=0:=by omega
     rw[if_neg c0,Option.map_some,am3,Nat.zero_mul,Nat.add_zero,Nat.sub_zero,Nat.sub_zero] at hr
     exact ⟨_,_,ρ,w,hr,.inl rfl,hs,.ad7 did off hb len e B d cap rcs elt fz hid hbk hsz' h1 hle,Ext.refl _ _ _,ae4.refl _ _⟩
    | ag5=>omega
    | ag6 _ _ _ _ cap ad hid hle=>
     have hr:=run _ _ _ rfl (by omega);have c0:¬ cap=0:=by omega
     rw[if_neg c0,Option.map_some,Nat.sub_zero,Nat.sub_zero] at hr;exact ⟨_,_,ρ,w,hr,.inl rfl,hs,.ak9 did off hb len e cap _ hid h1 hle,Ext.refl _ _ _,ae4.refl _ _⟩
   ·cases h
  ·rename_i did off len room e;split at h
   ·rename_i hc;obtain ⟨rfl,h1,h2⟩:=hc;cases h
    cases vx with
    | ad7 _ _ _ _ _ B d cap rcs elt fz hid hbk hsz' hle hrm=>
     have hr:=run _ _ _ rfl (by omega);have c0:¬ cap=0:=by omega
     rw[if_neg c0,Option.map_some,am3,Nat.zero_mul,Nat.add_zero,Nat.sub_zero,Nat.sub_zero] at hr
     exact ⟨_,_,ρ,w,hr,.inl rfl,hs,.ad7 did off hb room e B d cap rcs elt fz hid hbk hsz' h1 hrm,Ext.refl _ _ _,ae4.refl _ _⟩
    | ak9 _ _ _ _ _ cap ad hid hle hrm=>
     have hr:=run _ _ _ rfl (by omega);have c0:¬ cap=0:=by omega
     rw[if_neg c0,Option.map_some,Nat.sub_zero,Nat.sub_zero] at hr;exact ⟨_,_,ρ,w,hr,.inl rfl,hs,.ak9 did off hb room e cap _ hid h1 hrm,Ext.refl _ _ _,ae4.refl _ _⟩
   ·cases h
  ·cases h
 ·cases h
theorem fm5 {o0:Op} {s x:Operand} {is ix:IX} {t xt e xe:TypeId} {args:Array Operand} {argTypes:Array TypeId} {i:TypeInfo} {id n0:Nat} {v:IV} (ho0:o0=.call { callee:=.builtin .append,args,argTypes }) (ha:args.toList=[s,x]) (ht:argTypes.toList=[t,xt])
  (hu:P.underlying t=some (.slice e)) (hxu:P.underlying xt=some (.slice xe)) (hi:P.info? e=some i) (hs':af8 s=some is) (hx:af8 x=some ix)
  (h:gs8 σ i.size (is.ev E fr) (ix.ev E fr)=some (v,σ')) (hs:Sim E ρ w σ) (hf:FR ρ w N fr a.tmps) :
  bi8 P E id n0 ρ w a o0 v σ':=by
 subst ho0;obtain ⟨al⟩:=args;obtain ⟨tl⟩:=argTypes;simp only at ha ht;subst ha; subst ht;intro o ho;have vs:=aa6 (a:=a) hs' hs hf;have vx:=aa6 (a:=a) hx hs hf;generalize is.ev E fr=as at vs h;generalize ix.ev E fr=ax at vx h;generalize hrs:a.eval s=rs at vs;generalize hrx:a.eval x=rx at vx
 have exec:∀ r w',(Builtin.append_ #[t,xt] o.type #[rs,rx]).run P w=.ok r w'→(execOp a.eval o).run P w=.ok (.value r) w':=by
  intro r w' hr;unfold execOp;rw[ho];simp[resolve,invoke,builtin,hrs,hrx,hr]
 unfold gs8 at h;split at h
 ·rename_i did off len room e2;split at h
  ·rename_i n cells hsrc;split at h
   ·rename_i cs hcs;split at h
    ·rename_i hc;obtain ⟨rfl,hroom,hfit,hlf⟩:=hc;cases h;obtain ⟨c1,c2,rcs,c4,c5,_⟩:=bk8 (P:=P) hs hsrc vx
     cases vs with
     | ad7 _ _ _ _ _ B d cap rc el fz hid hbk hsz' hle hrm=>
      obtain ⟨ob,hob,hor⟩:=hs.obj did B d hid;rw[hcs] at hob;cases hob;obtain ⟨rc',el3,hb2,hsz2,hvs⟩:=hor;rw[hbk] at hb2;cases hb2;have hrl:rcs.size=n*i.size:=by rw[← c4.1,c1]
      have hone:∀ z∈rcs.toList,z.oneCell'=true:=by
       intro z hz;obtain ⟨k,hk,hzk⟩:=List.mem_iff_getElem.1 hz;have hk2:k<cells.length:=by have:=c4.1; simp at hk; omega
       have hl:(cells.getD k .undef).leaf=true:=List.all_eq_true.1 hlf _ (by rw[List.getD_eq_getElem?_getD,List.getElem?_eq_getElem hk2]; exact List.getElem_mem hk2);have:=(bc1 hl (c4.2 k hk2)).1;rw[ac5 _ _ _ (by simpa using hk)] at this;rw[← hzk]; simpa using this
      have hin:=bl4 (P:=P) (ty:=o.type) (B:=B) (o:=d+off) (sCap:=cap) (xt:=xt) (t:=t) (rx:=rx) hu ⟨_,hxu,fun k h=>by cases h⟩ hi c2 c5 (by omega:len+n≤cap) hbk (by rw[hrl]; omega) hone;generalize hnew:(rc.toList.take (d+off+len*i.size)++rcs.toList++rc.toList.drop (d+off+len*i.size+rcs.toList.length)).toArray=new at hin;have hnsz:new.size=rc.size:=by rw[← hnew]; simp; omega
      have hxx:∀ n,Ext n ρ w ρ (w.setRow B new):=fun n=>al4 (n:=n) (new:=new) hid hbk hnsz
      refine ⟨.value _,_,ρ,w.setRow B new,exec _ _ hin,.inl rfl,as2 hs hid hbk hnsz ?_,.ad7 did off (len+n) room i.size B d cap new el (0,0) hid (setRow_heap w B rc new el (0,0) hbk) (by rw[hnsz]; exact hsz') hroom hrm,hxx n0,ae4.refl _ _⟩;refine ⟨new,el,setRow_heap w B rc new el (0,0) hbk,?_,?_⟩
      ·rw[hnsz,ad6 (by omega)]; exact hsz2
      ·intro k hk;rw[ad6 (by omega)] at hk
       have:=fl2 (w:=w) (ρ:=ρ) (cs:=cs) (vs:=cells) (old:=rc) (news:=rcs.toList) (d:=d) (k:=off+len*i.size) hvs hsz2 (by rw[c1]; simp[hrl])
        (fun k hk=>by simpa [Array.getD_eq_getD_getElem?,List.getD_eq_getElem?_getD] using c4.2 k hk) (by omega) k hk
       rw[show d+(off+len*i.size)=d+off+len*i.size from by omega] at this;rw[hnew] at this
       exact this.mono (hxx 0)
     | ak9 _ _ _ _ _ cap ad hid hle hrm=>rw[hs.dead did hid] at hcs; cases hcs
    ·cases h
   ·cases h
  ·cases h
 ·cases h
end Go.Id
/- Contracts,codes,regions: the ideal semantics over the kit's calculus. Conditions: none; over any program. -/
namespace Go.Id
open Go
structure au7 (n:Nat) (ρ:Rho) (w:World) (ρ':Rho) (w':World):Prop where
 size:w.heap.size≤w'.heap.size
 keep:∀ b,UB ρ w b→w'.heap[b]? = w.heap[b]?
 shape:∀ (b:Nat) (rcs:Array Value) (el:TypeId) (fz:Nat×Nat),w.heap[b]? = some (.cells rcs el fz)→∃ rcs':Array Value,w'.heap[b]? = some (.cells rcs' el fz)∧rcs'.size=rcs.size
 img:∀ i B d,ρ' i=.at B d→(∃ j d',ρ j=.at B d')∨w.heap.size≤B
 at_:∀ i B d,i<n→ρ i=.at B d→ρ' i=.at B d∨ρ' i=.dead
 dead:∀ i,i<n→ρ i=.dead→ρ' i=.dead
 no:∀ i,i<n→ρ i=.no→ρ' i=.no
 output:w'.output=w.output
 os:w'.os=w.os
 tape:w'.tape=w.tape∧w.drawn≤w'.drawn
 loops:∀ (l:Nat) (L:Loop),w.heap[l]? = some (Obj.loop L)→∃ L':Loop,w'.heap[l]? = some (Obj.loop L')
 X:ρ'.X=ρ.X
variable {P:Program} {w w' w'':World} {ρ ρ' ρ'':Rho} {E:Nat→IV} {σ σ':Store} {N n n':Nat} {fr:Frm} {a:Act}
theorem Ext.weak (h:Ext n ρ w ρ' w')(hn:n'≤n):au7 n' ρ w ρ' w' :=
 ⟨h.size,h.keep,h.shape,h.img,fun i B d _ hi=>h.at_ i B d hi,fun i _ hi=>h.dead i hi,fun i hi h0=>h.no i (Nat.lt_of_lt_of_le hi hn) h0,h.output,h.os,h.tape,h.loops,h.X⟩
theorem au7.refl (n:Nat)(ρ:Rho)(w:World):au7 n ρ w ρ w:=(Ext.refl n ρ w).weak (Nat.le_refl _)
theorem au7.le (h:au7 n ρ w ρ' w')(hn:n'≤n):au7 n' ρ w ρ' w' :=
 ⟨h.size,h.keep,h.shape,h.img,fun i B d hi=>h.at_ i B d (Nat.lt_of_lt_of_le hi hn),fun i hi=>h.dead i (Nat.lt_of_lt_of_le hi hn),fun i hi=>h.no i (Nat.lt_of_lt_of_le hi hn),h.output,h.os,h.tape,h.loops,h.X⟩
theorem au7.ub (h:au7 n ρ w ρ' w'){b:Nat}(hb:UB ρ w b):UB ρ' w' b:=by
 refine ⟨Nat.lt_of_lt_of_le hb.1 h.size,fun i d hi=>?_⟩;rcases h.img i b d hi with ⟨j,d',hj⟩|hlt
 ·exact hb.2 j d' hj
 ·exact absurd hb.1 (Nat.not_lt.2 hlt)
theorem au7.trans (h:au7 n ρ w ρ' w')(h':au7 n ρ' w' ρ'' w''):au7 n ρ w ρ'' w'' where
 size:=Nat.le_trans h.size h'.size
 keep:=fun b hb=>by rw[h'.keep b (h.ub hb),h.keep b hb]
 shape:=fun b rcs el fz hb=>by
  obtain ⟨r1,h1,s1⟩:=h.shape b rcs el fz hb;obtain ⟨r2,h2,s2⟩:=h'.shape b r1 el fz h1;exact ⟨r2,h2,by rw[s2,s1]⟩
 img:=fun i B d hi=>by
  rcases h'.img i B d hi with ⟨j,d',hj⟩|hlt
  ·exact h.img j B d' hj
  ·exact .inr (Nat.le_trans h.size hlt)
 at_:=fun i B d hn hi=>by
  rcases h.at_ i B d hn hi with h1|h1
  ·exact h'.at_ i B d hn h1
  ·exact .inr (h'.dead i hn h1)
 dead:=fun i hn hi=>h'.dead i hn (h.dead i hn hi)
 no:=fun i hi h0=>h'.no i hi (h.no i hi h0)
 output:=by rw[h'.output,h.output]
 os:=by rw[h'.os,h.os]
 tape:=⟨by rw[h'.tape.1,h.tape.1],Nat.le_trans h.tape.2 h'.tape.2⟩
 loops:=fun l L hl=>let ⟨L',h1⟩:=h.loops l L hl; h'.loops l L' h1
 X:=by rw[h'.X,h.X]
theorem au7.ext (h:au7 n ρ w ρ' w')(hf:∀ i,n≤i→ρ i=.no):Ext n ρ w ρ' w' :=
 ⟨h.size,h.keep,h.shape,h.img,
  fun i B d hi=>h.at_ i B d (Nat.lt_of_not_le fun hle=>by rw[hf i hle] at hi; cases hi) hi,
  fun i hi=>h.dead i (Nat.lt_of_not_le fun hle=>by rw[hf i hle] at hi; cases hi) hi,
  h.no,h.output,h.os,h.tape,h.loops,h.X⟩
def fw (ro:Option Nat):Fence:={ Fence.wide with round:=ro }
def RO (ro:Option Nat)(w:World):Prop:=∀ l,ro=some l→∃ L:Loop,w.heap[l]? = some (.loop L)
inductive DF (h0:Nat) (ρ:Rho) (w:World):List Deferred→Prop
 | nil (hz:h0≤w.heap.size):DF h0 ρ w []
 | cons (r:Nat) (ds:List Deferred) (hr:w.heap[r]? = some (.deferred (some []))) (hb:UB ρ w r) (hh:h0≤r) (hn:∀ d∈ds,d.target=.collected r→False) (h:DF h0 ρ w ds):DF h0 ρ w ({ target:=.collected r,args:=#[] }::ds)
theorem DF.mono {h0:Nat}{ds:List Deferred}(hx:au7 n ρ w ρ' w')(h:DF h0 ρ w ds):DF h0 ρ' w' ds:=by
 induction h with
 | nil hz=>exact .nil (Nat.le_trans hz hx.size)
 | cons r ds hr hb hh hn _ ih=>exact .cons r ds (by rw[hx.keep r hb]; exact hr) (hx.ub hb) hh hn ih
theorem DF.size {h0:Nat}{ds:List Deferred}(h:DF h0 ρ w ds):h0≤w.heap.size:=by
 induction h with
 | nil hz=>exact hz
 | cons r ds _ _ _ _ _ ih=>exact ih
theorem RO.mono {ro:Option Nat}(h:RO ro w)(hl:au7 n ρ w ρ' w'):RO ro w':=fun l e=>let ⟨L,h1⟩:=h l e; hl.loops l L h1
def C (P:Program)(E:Nat→IV)(f:FuncId)(args:List IV)(σ:Store)(Q:IV→Store→Prop):Prop :=
 ∀ (ρ:Rho) (w:World) (rargs:Array Value),Sim E ρ w σ→CR ρ w args rargs→CallsIn Fence.wide 0 P f rargs w fun e w'=>
  ∃ v r ρ' σ',e=.returned r∧Q v σ'∧Sim E ρ' w' σ'∧VR ρ' w' v r∧au7 σ.next ρ w ρ' w'
def R (P:Program)(E:Nat→IV)(N n0:Nat)(c:Code)(fr:Frm)(σ:Store)(Q:Exit→Frm→Store→Prop):Prop :=
 n0≤σ.next→∀ (ro:Option Nat) (h0:Nat) (ρ:Rho) (w:World) (a:Act),Sim E ρ w σ→FR ρ w N fr a.tmps→DF h0 ρ w a.defers→RO ro w →
  c.wpIn (fw ro) 0 P (fun e a' w'=>∃ fr' σ' ρ',n0≤σ'.next∧Q e fr' σ'∧Sim E ρ' w' σ'∧FR ρ' w' N fr' a'.tmps∧DF h0 ρ' w' a'.defers∧RO ro w'∧au7 n0 ρ w ρ' w') a w
theorem C.mono {f:FuncId}{args:List IV}{Q Q':IV→Store→Prop}(h:C P E f args σ Q)(hq:∀ v σ',Q v σ'→Q' v σ'):C P E f args σ Q' :=
 fun ρ w rargs hs hc=>(h ρ w rargs hs hc).mono fun _ _ ⟨v,r,ρ',σ',he,q,rest⟩=>⟨v,r,ρ',σ',he,hq v σ' q,rest⟩
theorem R.mono {n0:Nat}{c:Code}{Q Q':Exit→Frm→Store→Prop}(h:R P E N n0 c fr σ Q)(hq:∀ e fr σ,Q e fr σ→Q' e fr σ):R P E N n0 c fr σ Q' :=
 fun hn ro h0 ρ w a hs hf hd hr=>wpIn_mono (h hn ro h0 ρ w a hs hf hd hr) fun _ _ _ ⟨fr',σ',ρ',hn',q,rest⟩=>⟨fr',σ',ρ',hn',hq _ _ _ q,rest⟩
/-! ### Codes -/
def hp9 (P:Program)(E:Nat→IV)(N n0:Nat)(y:Code)(Q:Exit→Frm→Store→Prop):Exit→Frm→Store→Prop
 | .normal,fr,σ=>R P E N n0 y fr σ Q
 | e,fr,σ=>Q e fr σ
theorem gf3 {n0:Nat}{x y:Code}{Q:Exit→Frm→Store→Prop}(h:R P E N n0 x fr σ (hp9 P E N n0 y Q)):R P E N n0 (.seq x y) fr σ Q:=by
 intro hn ro h0 ρ w a hs hf hd hr;refine wpIn_seq (wpIn_mono (h hn ro h0 ρ w a hs hf hd hr) ?_);rintro e a' w' ⟨fr',σ',ρ',hn',q,hs',hf',hd',hr',hx⟩
 cases e with
 | normal=>
  refine wpIn_mono (q hn' ro h0 ρ' w' a' hs' hf' hd' hr') ?_;rintro e a'' w'' ⟨fr'',σ'',ρ'',hn'',q',hs'',hf'',hd'',hr'',hx'⟩
  exact ⟨fr'',σ'',ρ'',hn'',q',hs'',hf'',hd'',hr'',hx.trans hx'⟩
 | _=>exact ⟨fr',σ',ρ',hn',q,hs',hf',hd',hr',hx⟩
theorem gs9 {n0:Nat}{Q:Exit→Frm→Store→Prop}(h:Q .normal fr σ):R P E N n0 .skip fr σ Q :=
 fun hn _ _ ρ w _ hs hf hd hr=>wpIn_skip ⟨fr,σ,ρ,hn,h,hs,hf,hd,hr,au7.refl _ _ _⟩
theorem gf4 {n0 l:Nat}{Q:Exit→Frm→Store→Prop}(h:Q .normal fr σ):R P E N n0 (.label l) fr σ Q :=
 fun hn _ _ ρ w _ hs hf hd hr=>wpIn_label ⟨fr,σ,ρ,hn,h,hs,hf,hd,hr,au7.refl _ _ _⟩
theorem gt1 {n0 id:Nat}{Q:Exit→Frm→Store→Prop}(h:Q (.exit id) fr σ):R P E N n0 (.exit id) fr σ Q :=
 fun hn _ _ ρ w _ hs hf hd hr=>wpIn_exit ⟨fr,σ,ρ,hn,h,hs,hf,hd,hr,au7.refl _ _ _⟩
theorem hq5 {n0:Nat}{Q:Exit→Frm→Store→Prop}(h:Q .ret fr σ):R P E N n0 .ret fr σ Q :=
 fun hn _ _ ρ w _ hs hf hd hr=>wpIn_ret ⟨fr,σ,ρ,hn,h,hs,hf,hd,hr,au7.refl _ _ _⟩
theorem fy5 {n0:Nat}{c:Operand}{ic:IX}{x y:Code}{b:Bool}{Q:Exit→Frm→Store→Prop}(hc:af8 c=some ic)(hb:ic.ev E fr=.bool b)(h:R P E N n0 (if b then x else y) fr σ Q):R P E N n0 (.cond c x y) fr σ Q:=by
 intro hn ro h0 ρ w a hs hf hd hr;have hv:=aa6 (a:=a) hc hs hf;rw[hb] at hv;generalize hr':a.eval c=r at hv;cases hv;exact wpIn_cond hr' (h hn ro h0 ρ w a hs hf hd hr)
def ba6 (id:Nat)(Q:Exit→Frm→Store→Prop):Exit→Frm→Store→Prop
 | .exit id',fr,σ=>if id'=id then Q .normal fr σ else Q (.exit id') fr σ
 | e,fr,σ=>Q e fr σ
theorem et7 {n0 id:Nat}{c:Code}{Q:Exit→Frm→Store→Prop}(h:R P E N n0 c fr σ (ba6 id Q)):R P E N n0 (.block id c) fr σ Q:=by
 intro hn ro h0 ρ w a hs hf hd hr;refine wpIn_block (wpIn_mono (h hn ro h0 ρ w a hs hf hd hr) ?_);rintro e a' w' ⟨fr',σ',ρ',hn',q,rest⟩
 cases e with
 | exit id'=>
  simp only[Exit.inBlock];simp only[ba6] at q;split
  ·rename_i hid; rw[if_pos hid] at q; exact ⟨fr',σ',ρ',hn',q,rest⟩
  ·rename_i hid; rw[if_neg hid] at q; exact ⟨fr',σ',ρ',hn',q,rest⟩
 | _=>exact ⟨fr',σ',ρ',hn',q,rest⟩
def dl3 (I:Nat→Frm→Store→Prop)(m:Nat)(Q:Exit→Frm→Store→Prop):Exit→Frm→Store→Prop
 | .normal,fr,σ=>∃ m',m'<m∧I m' fr σ
 | e,fr,σ=>Q e fr σ
theorem fy6 {n0:Nat}{c:Code}{Q:Exit→Frm→Store→Prop}(I:Nat→Frm→Store→Prop)(m:Nat)(h:I m fr σ)(hI:∀ m fr σ,I m fr σ→R P E N n0 c fr σ (dl3 I m Q)):R P E N n0 (.loop c) fr σ Q:=by
 intro hn ro h0 ρ w a hs hf hd hr
 have key:∀ (k m:Nat),m<k→∀ (fr:Frm) (σ:Store) (ρ1:Rho) (w1:World) (a:Act),n0≤σ.next→I m fr σ→Sim E ρ1 w1 σ→FR ρ1 w1 N fr a.tmps→DF h0 ρ1 w1 a.defers→RO ro w1→au7 n0 ρ w ρ1 w1 →
   Code.roundsIn (fw ro) 0 P c (fun e a' w'=>∃ fr' σ' ρ',n0≤σ'.next∧Q e fr' σ'∧Sim E ρ' w' σ'∧FR ρ' w' N fr' a'.tmps∧DF h0 ρ' w' a'.defers∧RO ro w'∧au7 n0 ρ w ρ' w') k a w1:=by
  intro k
  induction k with
  | zero=>intro m hm; omega
  | succ k ih=>
   intro m hm fr σ ρ1 w1 a hn1 hI0 hs1 hf1 hd1 hr1 hx1;refine wpIn_mono (hI m fr σ hI0 hn1 ro h0 ρ1 w1 a hs1 hf1 hd1 hr1) ?_;rintro e a' w' ⟨fr',σ',ρ',hn',q,hs',hf',hd',hr',hx⟩
   cases e with
   | normal=>
    obtain ⟨m',hm',hI'⟩:=q
    exact ih m' (by omega) fr' σ' ρ' w' a' hn' hI' hs' hf' hd' hr' (hx1.trans hx)
   | _=>exact ⟨fr',σ',ρ',hn',q,hs',hf',hd',hr',hx1.trans hx⟩
 exact wpIn_loop_rounds (m+1) (key (m+1) m (Nat.lt_succ_self m) fr σ ρ w a hn h hs hf hd hr (au7.refl _ _ _))
/-! ### A code that has labels,and no jump -/
theorem ao3 {P:Program}{b:Frame}{a:Act}{k:List Go.Item}{cs:List Frame}{w:World}{c:Code}:step P (lone (b.atR a (.code (.scope c)::k)) cs w)=.next (lone (b.atR a (.code c::.inScope c::k)) cs w):=
 step_lone_go (by simp[stepG,stepG.exec,Frame.atR])
theorem cu3 {P:Program}{b:Frame}{a:Act}{k:List Go.Item}{cs:List Frame}{w:World}{c:Code}:step P (lone (b.atR a (.inScope c::k)) cs w)=.next (lone (b.atR a k) cs w):=
 step_lone_go (by simp[stepG,stepG.exec,Frame.atR])
def ik3 (Q:Exit→Act→World→Prop):Exit→Act→World→Prop
 | .goto _,_,_=>False
 | e,a,w=>Q e a w
theorem ea4 {F:Fence}{n:Nat}{Q:Exit→Act→World→Prop}{c:Code}(h:c.wpIn F n P (ik3 Q) a w):(Code.scope c).wpIn F n P Q a w:=by
 intro b k cs hro hb hr;have h0:(lone (b.atR a (.code (.scope c)::k)) cs w).fenced P F:=fenced_calm hb hr rfl;obtain ⟨e,a₁,w₁,hq,harr⟩:=h b (.inScope c::k) cs hro hb hr
 cases e with
 | normal=>exact ⟨.normal,a₁,w₁,hq,.head h0 ao3 (StepsIn.trans harr (.one (fenced_calm hb hr rfl) cu3))⟩
 | exit id=>
  have hx:exitTo id (.inScope c::k)=exitTo id k:=by simp[exitTo]
  exact ⟨.exit id,a₁,w₁,hq,fun k' hk=>.head h0 ao3 (harr.1 k' (by rw[hx]; exact hk)),
   fun hr' hk=>let ⟨k₁,h1,h2⟩:=harr.2 hr' (by rw[hx]; exact hk); ⟨k₁,h1,.head h0 ao3 h2⟩⟩
 | goto l=>exact hq.elim
 | ret=>exact ⟨_,a₁,w₁,hq,.of_steps (.one h0 ao3) harr⟩
 | panic ch=>exact ⟨_,a₁,w₁,hq,.of_steps (.one h0 ao3) harr⟩
 | outgrown=>exact ⟨_,a₁,w₁,hq,.of_steps (.one h0 ao3) harr⟩
def ds5 (Q:Exit→Frm→Store→Prop):Exit→Frm→Store→Prop
 | .goto _,_,_=>False
 | e,fr,σ=>Q e fr σ
theorem et8 {n0:Nat}{c:Code}{Q:Exit→Frm→Store→Prop}(h:R P E N n0 c fr σ (ds5 Q)):R P E N n0 (.scope c) fr σ Q:=by
 intro hn ro h0 ρ w a hs hf hd hr;refine ea4 (wpIn_mono (h hn ro h0 ρ w a hs hf hd hr) ?_);rintro e a' w' ⟨fr',σ',ρ',hn',q,rest⟩
 cases e with
 | goto l=>exact q.elim
 | _=>exact ⟨fr',σ',ρ',hn',q,rest⟩
end Go.Id
