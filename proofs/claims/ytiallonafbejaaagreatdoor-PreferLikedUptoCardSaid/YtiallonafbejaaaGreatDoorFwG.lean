/- More operations that write: entries struck from a map; slices with a bound on their room. Conditions: none; over any program. -/
import Derived.Test.YtiallonafbejaaaGreatDoorFwD7
set_option linter.all false
namespace Go.Id
open Go
variable {P:Program} {w w' w'':World} {ρ ρ' ρ'':Rho} {E:Nat→IV} {σ σ':Store} {N:Nat} {fr:Frm} {a:Act}
/-! ### An entry struck -/
def gf6 (tag:Nat)(k:IV):List (IV×IV)→Option (List (IV×IV))
 | []=>match kOK tag k with
  | true=>some []
  | false=>none
 | e::es=>match ah1 tag k e.1 with
  | some true=>some es
  | some false=>(gf6 tag k es).map (e::·)
  | none=>none
theorem gl1 {tag:Nat}{k:IV}{es es':List (IV×IV)}(h:gf6 tag k es=some es'):kOK tag k=true:=by
 cases es with
 | nil=>
  simp only[gf6] at h
  split at h
  ·assumption
  ·cases h
 | cons e es=>
  simp only[gf6] at h
  cases hq:ah1 tag k e.1 with
  | none=>rw[hq] at h; cases h
  | some b=>exact ey1 hq
theorem gl2 {tag:Nat}{k:IV}:∀ (es es':List (IV×IV)),gf6 tag k es=some es'→∃ q:Option Nat,(q=none→∀ e∈es,ah1 tag k e.1=some false)∧(∀ j,q=some j→j<es.length∧ah1 tag k (es.getD j (.undef,.undef)).1=some true∧∀ i,i<j→ah1 tag k (es.getD i (.undef,.undef)).1=some false) ∧
  es'=(match q with|none=>es|some j=>es.eraseIdx j):=by
 intro es
 induction es with
 | nil=>
  intro es' h
  refine ⟨none,(fun _ e he=>by cases he),(fun j hj=>by cases hj),?_⟩
  simp only[gf6] at h
  split at h<;>cases h
  rfl
 | cons e es ih=>
  intro es' h
  simp only[gf6] at h
  cases hq:ah1 tag k e.1 with
  | none=>rw[hq] at h; cases h
  | some b=>
   rw[hq] at h
   cases b with
   | true=>cases h; exact ⟨some 0,(fun h=>by cases h),(fun j hj=>by cases hj; exact ⟨by simp,by simpa using hq,fun i hi=>absurd hi (Nat.not_lt_zero _)⟩),rfl⟩
   | false=>
    obtain ⟨es2,h3,h4⟩:=map_some h
    subst h4
    obtain ⟨q,h1,h2,h3⟩:=ih es2 h3
    refine ⟨q.map (·+1),fun h=>?_,fun j hj=>?_,?_⟩
    ·cases q with
     | none=>intro x hx; rcases List.mem_cons.1 hx with rfl|hx; exact hq; exact h1 rfl x hx
     | some j=>cases h
    ·cases q with
     | none=>cases hj
     | some j0=>
      cases hj
      obtain ⟨g1,g2,g3⟩:=h2 j0 rfl
      refine ⟨by simpa using g1,by simpa using g2,fun i hi=>?_⟩
      have hi:i<j0+1:=hi
      cases i with
      | zero=>simpa using hq
      | succ i=>have:=g3 i (by omega); simpa using this
    ·rw[h3]; cases q<;>simp
theorem cn1 {α:Type}(l:List α)(j i:Nat)(d:α):(l.eraseIdx j).getD i d=if i<j then l.getD i d else l.getD (i+1) d:=by
 simp only[List.getD_eq_getElem?_getD,List.getElem?_eraseIdx]
 split<;>rfl
theorem ax5 {α:Type}(l:Array α)(j i:Nat)(d:α)(h:j<l.size):(l.eraseIdxIfInBounds j).getD i d=if i<j then l.getD i d else l.getD (i+1) d:=by
 have e:(l.eraseIdxIfInBounds j).toList=l.toList.eraseIdx j:=by simp[Array.eraseIdxIfInBounds,h]
 have g:∀ (a:Array α) (i:Nat),a.getD i d=a.toList.getD i d:=fun a i=>by simp[List.getD_eq_getElem?_getD,Array.getD_eq_getD_getElem?]
 rw[g,e,cn1,← g,← g]
inductive SK where
 | mdel (tag:Nat)
 | nev
 | cpy (esz:Nat)
 | sl3 (esz:Nat) (chk:Bool)
 | rlp (esz:Nat)
 | apr (esz:Nat)
 deriving Inhabited
def ig2:IV→Option Nat
 | .nilslice|.zslice|.eslice=>some 0
 | .slice _ _ len _=>some len
 | .tslice es=>some es.length
 | .rslice _ _ len _ _=>some len
 | _=>none
def gf7 (σ:Store)(id esz l h:Nat):IV→Option (IV×Store)
 | .nilslice=>if h=0 then some (.nilslice,σ) else none
 | .zslice=>if h=0 then some (.zslice,σ) else none
 | .slice did off len e=>if e=esz∧l≤h∧h≤len then match σ.obj did with
  | some (.row cs)=>if off+len*esz≤cs.length then some (.slice id 0 (h-l) esz,(σ.kill did).put id (.row ((cs.drop (off+l*esz)).take ((h-l)*esz)))) else none
  | _=>none
  else none
 | _=>none
def gl3 (σ:Store)(tag:Nat)(k:IV):IV→Option (IV×Store)
 | .map id=>match σ.obj id with
  | some (.map es)=>match gf6 tag k es with
   | some es'=>some (.undef,σ.put id (.map es'))
   | none=>none
  | _=>none
 | .nilmap=>match kOK tag k with
  | true=>some (.undef,σ)
  | false=>none
 | _=>none
def hs8 (σ:Store)(id esz:Nat)(chk:Bool)(x lo hi mx:IV):Option (IV×Store):=
 match dd4 lo,dd4 hi,dd4 mx with
 | some l,some h,some m=>match chk with
  | true=>match ig2 x with
   | some n=>if l≤h∧h≤m∧m≤n then some (.undef,σ) else none
   | none=>none
  | false=>if l≤h∧h=m then gf7 σ id esz l h x else none
 | _,_,_=>none
def df9 (m:Nat):IV→IV
 | .slice id off l e=>.slice id off (min l m) e
 | v=>v
def hs9 (σ:Store)(esz:Nat)(d s:IV):Option (IV×Store):=
 match d with
 | .slice id off len e=>match ba4 σ esz (df9 len s) with
  | some (n,cells)=>match σ.obj id with
   | some (.row cs)=>if e=esz∧n≤len∧off+n*esz≤cs.length∧cells.all IV.leaf=true then some (.int .i64 n,σ.put id (.row (ag9 cs off cells))) else none
   | _=>none
  | none=>none
 | _=>none
def ht4 (σ:Store)(esz:Nat)(s x:IV):Option (IV×Store):=
 match s with
 | .rslice id off len room e=>match ba4 σ esz x with
  | some (n,cells)=>match σ.obj id with
   | some (.row cs)=>if e=esz∧len+n≤room∧off+len*esz+n*esz≤cs.length∧cells.all IV.leaf=true then some (.rslice id off (len+n) room e,σ.put id (.row (ag9 cs (off+len*esz) cells))) else none
   | _=>none
  | none=>none
 | _=>none
def stI (k:SK)(id:Nat)(σ:Store)(vs:List IV):Option (IV×Store):=
 match k,vs with
 | .mdel tag,[x,y]=>gl3 σ tag y x
 | .sl3 esz chk,[x,lo,hi,mx]=>hs8 σ id esz chk x lo hi mx
 | .cpy esz,[x,y]=>hs9 σ esz x y
 | .rlp esz,[x,y]=>(hv8 esz x y).map fun v=>(v,σ)
 | .apr esz,[x,y]=>ht4 σ esz x y
 | _,_=>none
theorem cc8 {k:SK}{id:Nat}{vs:List IV}{v:IV}(h:stI k id σ vs=some (v,σ')):σ'.next=σ.next:=by
 unfold stI at h
 split at h
 ·unfold gl3 at h
  split at h
  ·split at h
   ·split at h
    ·cases h; rfl
    ·cases h
   ·cases h
  ·split at h<;>cases h; rfl
  ·cases h
 ·unfold hs8 at h
  split at h
  ·split at h
   ·split at h
    ·split at h
     ·cases h; rfl
     ·cases h
    ·cases h
   ·split at h
    ·unfold gf7 at h
     split at h
     ·split at h<;>cases h; rfl
     ·split at h<;>cases h; rfl
     ·split at h
      ·split at h
       ·split at h<;>cases h; rfl
       ·cases h
      ·cases h
     ·cases h
    ·cases h
  ·cases h
 ·unfold hs9 at h
  split at h
  ·split at h
   ·split at h
    ·split at h<;>cases h; rfl
    ·cases h
   ·cases h
  ·cases h
 ·obtain ⟨u,_,hu⟩:=map_some h
  cases hu; rfl
 ·unfold ht4 at h
  split at h
  ·split at h
   ·split at h
    ·split at h<;>cases h; rfl
    ·cases h
   ·cases h
  ·cases h
 ·cases h
theorem fb2 {t kt et:TypeId}{ts:Array TypeId}{tag:Nat}{x k:Operand}{ix ik:IX}{n id0:Nat}{v:IV}(hts:ts[0]? = some t)(hu:P.underlying t=some (.map kt et))(ht:ex9 P kt=some tag)
  (hx:ad8 x=some ix) (hk:ad8 k=some ik) (h:gl3 σ tag (ik.ev E fr) (ix.ev E fr)=some (v,σ')) (hs:Sim E ρ w σ) (hf:FR ρ w N fr a.tmps) :
  bm1 P E id0 n ρ w a (.call { callee:=.builtin .delete,args:=#[x,k],argTypes:=ts }) v σ':=by
 intro o ho
 have vx:=aa4 (a:=a) hx hs hf
 have vk:=aa4 (a:=a) hk hs hf
 generalize ix.ev E fr=ax at vx h
 generalize ik.ev E fr=ak at vk h
 generalize hrx:a.eval x=rx at vx
 generalize hrk:a.eval k=rk at vk
 have exec:∀ w',(Builtin.delete_ ts o.type #[rx,rk]).run P w=.ok (.tuple #[]) w'→(execOp a.eval o).run P w=.ok (.value (.tuple #[])) w':=by
  intro w' hr
  unfold execOp
  rw[ho]
  simp[resolve,invoke,builtin,hrx,hrk,hr]
 cases vx with
 | nilmap=>
  simp only[gl3] at h
  split at h
  ·rename_i hok
   cases h
   have hck:=as9 (b:=true) ht hok vk
   refine ⟨.value (.tuple #[]),.tuple #[],ρ,w,exec w ?_,.inl rfl,hs,.undef _,Ext.refl _ _ _,ac7.refl _ _⟩
   simp[Builtin.delete_,hts,run_underlying hu,hck]
  ·cases h
 | map id B dd hid=>
  simp only[gl3] at h
  obtain ⟨ob,hob,hor⟩:=hs.obj id B dd hid
  rw[hob] at h
  cases ob with
  | map es=>
   simp only at h
   split at h
   ·rename_i es' hes'
    cases h
    obtain ⟨mes,clock,g1,g0,g2,g3,g4,g5⟩:=hor
    have toL:∀ (i:Nat),mes.toList.getD i default=mes.getD i default:=fun i=>by simp[List.getD_eq_getElem?_getD,Array.getD_eq_getD_getElem?]
    have hE:EsR ρ w es mes.toList:=⟨by simpa using g2,fun i hi=>by rw[toL]; exact g3 i hi⟩
    obtain ⟨r',q1,q2,h2⟩:=gl2 es es' hes'
    have hck:∀ b,(Instr.checkKey b 10000 kt rk).run P w=.ok () w:=fun b=>as9 ht (gl1 hes') vk
    have h1:=cc6 ht vk es mes.toList hE r' q1 q2
    have hg:(getObj B).run P w=.ok (.map mes clock) w:=by simp[getObj,Sem.run,g1]
    have hset:∀ o,(setObj B o).run P w=.ok () (w.putObj B o):=fun o=>by simp[setObj,Sem.run,g1,World.putObj]
    have hlt:=hs.lt id B dd hid
    have nc:∀ (rcs:Array Value) (el:TypeId) (fz:Nat×Nat),Obj.map mes clock≠.cells rcs el fz:=fun _ _ _ h=>by cases h
    have nl:∀ L,Obj.map mes clock≠.loop L:=fun _ h=>by cases h
    have hx:∀ (n:Nat) (o:Obj),Ext n ρ w ρ (w.putObj B o):=fun n o=>ar6 hid g1 nc nl
    have fin:∀ (mes':Array MapEntry),(Builtin.delete_ ts o.type #[.map (some B),rk]).run P w=.ok (.tuple #[]) (w.putObj B (.map mes' clock))→es'.length=mes'.size →
      (∀ i,i<es'.length→VR ρ w (es'.getD i (.undef,.undef)).1 (mes'.getD i default).key∧VR ρ w (es'.getD i (.undef,.undef)).2 (mes'.getD i default).val) →
      (∀ i,i<mes'.size→(mes'.getD i default).born<clock)→(∀ i j,i<j→j<mes'.size→(mes'.getD i default).born≠(mes'.getD j default).born) →
      ∃ (x:Next) (r:Value) (ρ':Rho) (w':World),(execOp a.eval o).run P w=.ok x w'∧((x=.value r)∨(x=.skip∧r=undef))∧Sim E ρ' w' (σ.put id (.map es'))∧VR ρ' w' .undef r∧Ext n ρ w ρ' w'∧ac7 id0 ρ ρ':=by
     intro mes' hrun hl hvs hb1 hb2
     exact ⟨.value (.tuple #[]),.tuple #[],ρ,w.putObj B (.map mes' clock),exec _ hrun,.inl rfl,bd6 hs hid g1 nc nl ⟨mes',clock,World.putObj_heap_same hlt,g0,hl,fun i hi=>⟨(hvs i hi).1.mono (hx 0 _),(hvs i hi).2.mono (hx 0 _)⟩,hb1,hb2⟩,.undef _,hx n _,ac7.refl _ _⟩
    cases r' with
    | none=>
     simp only at h2
     subst h2
     refine fin mes ?_ g2 g3 g4 g5
     simp[Builtin.delete_,hts,run_underlying hu,hg,hck,h1,hset]
    | some j=>
     obtain ⟨q2,_,_⟩:=q2 j rfl
     simp only at h2
     subst h2
     have hjm:j<mes.size:=by omega
     have hsz:(mes.eraseIdxIfInBounds j).size=mes.size-1:=by simp[Array.eraseIdxIfInBounds,hjm]
     refine fin (mes.eraseIdxIfInBounds j) ?_ ?_ ?_ ?_ ?_
     ·simp[Builtin.delete_,hts,run_underlying hu,hg,hck,h1,hset]
     ·rw[hsz,List.length_eraseIdx,if_pos q2,g2]
     ·intro i hi
      rw[List.length_eraseIdx,if_pos q2] at hi
      rw[cn1,ax5 _ _ _ _ hjm]
      split
      ·exact g3 i (by omega)
      ·exact g3 (i+1) (by omega)
     ·intro i hi
      rw[hsz] at hi
      rw[ax5 _ _ _ _ hjm]
      split
      ·exact g4 i (by omega)
      ·exact g4 (i+1) (by omega)
     ·intro i i2 hij hi2
      rw[hsz] at hi2
      rw[ax5 _ _ _ _ hjm,ax5 _ _ _ _ hjm]
      split<;>split
      ·exact g5 i i2 hij (by omega)
      ·exact g5 i (i2+1) (by omega) (by omega)
      ·omega
      ·exact g5 (i+1) (i2+1) (by omega) (by omega)
   ·cases h
  | _=>simp at h
 | mapD id B hid=>simp[gl3,hs.dead id hid] at h
 | _=>simp[gl3] at h
/-! ### copy -/
theorem dp8 {esz n len:Nat}{v:IV}{r:Value}{cells:List IV}(hs:Sim E ρ w σ)(h:ba4 σ esz (df9 len v)=some (n,cells))(hn:n≤len)(hv:VR ρ w v r) :
  cells.length=n*esz∧∃ m,(Builtin.lenOf r).run P w=.ok m w∧min m len=n∧∃ rc:Array Value,CR ρ w cells rc∧(Builtin.firstCells esz n r).run P w=.ok rc w:=by
 have same:ba4 σ esz v=some (n,cells)→cells.length=n*esz∧∃ m,(Builtin.lenOf r).run P w=.ok m w∧min m len=n∧∃ rc:Array Value,CR ρ w cells rc∧(Builtin.firstCells esz n r).run P w=.ok rc w:=fun h=>by
  obtain ⟨c1,c2,rc,c3,c4,_⟩:=bm2 (P:=P) hs h hv
  exact ⟨c1,n,c2,Nat.min_eq_left hn,rc,c3,c4⟩
 cases hv with
 | slice id2 off2 len2 e2 B2 d2 cap2 rcs2 el4 fz2 hid2 hbk2 hsz3 hle2=>
  have vy':VR ρ w (.slice id2 off2 (min len2 len) e2) (.slice (some ⟨B2,d2+off2,none⟩) (min len2 len) cap2):=.slice id2 off2 _ e2 B2 d2 cap2 rcs2 el4 fz2 hid2 hbk2 hsz3 (Nat.le_trans (Nat.min_le_left _ _) hle2)
  obtain ⟨c1,c2,rc,c3,c4,_⟩:=bm2 (P:=P) hs h vy'
  have hnn:n=min len2 len:=by
   simp only[df9,ba4] at h
   split at h
   ·split at h
    ·cases h; rfl
    ·cases h
   ·cases h
  exact ⟨c1,len2,by simp[Builtin.lenOf],hnn.symm,rc,c3,by simpa [Builtin.firstCells] using c4⟩
 | sliceZ id2 off2 e2 B2 d2 ad hid2=>simp only[df9,Nat.zero_min] at h; exact same h
 | sliceD id2 off2 l2 e2 cap ad hid2 hle=>
  simp only[df9,ba4,hs.dead id2 hid2] at h
  cases h
 | _=>exact same h
theorem fs8 {t el:TypeId} {ts:Array TypeId} {x y:Operand} {ix iy:IX} {esz n id0:Nat} {v:IV} (hts:ts[0]? = some t) (hu:P.underlying t=some (.slice el)) (hsz:szT P el=some esz)
  (hx:ad8 x=some ix) (hy:ad8 y=some iy) (h:hs9 σ esz (ix.ev E fr) (iy.ev E fr)=some (v,σ')) (hs:Sim E ρ w σ) (hf:FR ρ w N fr a.tmps) :
  bm1 P E id0 n ρ w a (.call { callee:=.builtin .copy,args:=#[x,y],argTypes:=ts }) v σ':=by
 intro o ho
 have vx:=aa4 (a:=a) hx hs hf
 have vy:=aa4 (a:=a) hy hs hf
 generalize ix.ev E fr=ax at vx h
 generalize iy.ev E fr=ay at vy h
 generalize hrx:a.eval x=rx at vx
 generalize hry:a.eval y=ry at vy
 have exec:∀ r w',(Builtin.copy_ ts o.type #[rx,ry]).run P w=.ok r w'→(execOp a.eval o).run P w=.ok (.value r) w':=by
  intro r w' hr
  unfold execOp
  rw[ho]
  simp[resolve,invoke,builtin,hrx,hry,hr]
 unfold hs9 at h
 split at h
 ·rename_i id off len e
  split at h
  ·rename_i m cells hsrc
   split at h
   ·rename_i cs hcs
    split at h
    ·rename_i hc
     obtain ⟨rfl,hml,hfit,hlf⟩:=hc
     cases h
     obtain ⟨c1,k,c2,c3,rc,c4,c5⟩:=dp8 (P:=P) hs hsrc hml vy
     cases vx with
     | slice _ _ _ _ B d cap rcs el2 fz hid hbk hsz' hle=>
      obtain ⟨ob,hob,hor⟩:=hs.obj id B d hid
      rw[hcs] at hob
      cases hob
      obtain ⟨rcs',el3,hb,hsz2,hvs⟩:=hor
      have hone:∀ x∈rc.toList,x.oneCell'=true:=by
       intro z hz
       obtain ⟨i,hi,hzi⟩:=List.mem_iff_getElem.1 hz
       have hi2:i<cells.length:=by have:=c4.1; simp at hi; omega
       have hv:=c4.2 i hi2
       have hl:(cells.getD i .undef).leaf=true:=List.all_eq_true.1 hlf _ (by rw[List.getD_eq_getElem?_getD,List.getElem?_eq_getElem hi2]; exact List.getElem_mem hi2)
       have:=(bd2 hl hv).1
       rw[ab6 _ _ _ (by simpa using hi)] at this
       rw[← hzi]; simpa using this
      have hlen:rc.toList.length=m*e:=by have:=c4.1; simp; omega
      have hst:=run_storeCells_at (P:=P) B (d+off) el3 rc.toList 0 rcs' w hb (by omega) hone
      simp only[Nat.add_zero] at hst
      generalize hnew:(rcs'.toList.take (d+off)++rc.toList++rcs'.toList.drop (d+off+rc.toList.length)).toArray=new at hst
      have hnsz:new.size=rcs'.size:=by
       rw[← hnew]; simp; simp at hlen; omega
      have hx:∀ n,Ext n ρ w ρ (w.setRow B new):=fun n=>al9 (n:=n) (new:=new) hid hb hnsz
      refine ⟨.value (.int .i64 m),.int .i64 m,ρ,w.setRow B new,exec _ _ ?_,.inl rfl,av1 hs hid hb hnsz ?_,.int _ _,hx n,ac7.refl _ _⟩
      ·simp[Builtin.copy_,hts,run_underlying hu,c2,c3,run_sizeOf hsz,c5,hst,goInt]
      ·refine ⟨new,el3,setRow_heap w B rcs' new el3 (0,0) hb,?_,?_⟩
       ·rw[hnsz,ac1 (by omega)]; exact hsz2
       ·intro i hi
        rw[ac1 (by omega)] at hi
        have:=fs3 (w:=w) (ρ:=ρ) (cs:=cs) (vs:=cells) (old:=rcs') (news:=rc.toList) (d:=d) (k:=off) hvs hsz2 (by rw[c1,hlen])
         (fun i hi=>by simpa [Array.getD_eq_getD_getElem?,List.getD_eq_getElem?_getD] using c4.2 i hi) (by omega) i hi
        rw[hnew] at this
        exact this.mono (hx 0)
     | sliceZ _ _ _ B d ad hid=>
      have hm0:m=0:=by omega
      subst hm0
      have hc0:cells=[]:=List.length_eq_zero_iff.1 (by omega)
      subst hc0
      have hrc:rc=#[]:=by have:=c4.1; simp at this; exact Array.eq_empty_of_size_eq_zero this.symm
      subst hrc
      have hput:σ.put id (.row (ag9 cs off []))=σ:=by
       have:ag9 cs off []=cs:=by simp[ag9]
       rw[this]
       unfold Store.put
       congr 1
       funext i
       by_cases e:i=id
       ·subst e; simp[hcs]
       ·simp[e]
      rw[hput]
      refine ⟨.value (.int .i64 (0:Nat)),.int .i64 (0:Nat),ρ,w,exec _ _ ?_,.inl rfl,hs,.int _ _,Ext.refl _ _ _,ac7.refl _ _⟩
      simp[Builtin.copy_,hts,run_underlying hu,c2,run_sizeOf hsz,c5,storeCells,goInt]
     | sliceD _ _ _ _ cap ad hid hle=>rw[hs.dead id hid] at hcs; cases hcs
    ·cases h
   ·cases h
  ·cases h
 ·cases h
/-! ### Slices with a bound on their room -/
theorem cf6 {len cap l h m:Nat}{rlo:Option Value}{rh rm:Value}(hl:(rlo=none∧l=0)∨∃ k,rlo=some (.int k (l:Int)))(hh:∃ k,rh=.int k (h:Int))(hm:∃ k,rm=.int k (m:Int))(h1:l≤h)(h2:h≤m)(h3:m≤cap) :
  (Instr.sliceBounds true len cap rlo (some rh) (some rm)).run P w=.ok (l,h,m) w:=by
 obtain ⟨k1,rfl⟩:=hh
 obtain ⟨k2,rfl⟩:=hm
 have a1:(h:Int)≤(m:Int):=by omega
 have a2:(m:Int)≤(cap:Int):=by omega
 have a3:(l:Int)≤(h:Int):=by omega
 rcases hl with ⟨rfl,rfl⟩|⟨k,rfl⟩
 ·have:¬ m<h:=by omega
  simp[Instr.sliceBounds,Instr.sliceBound,asIntOf,a2,h2,this]
 ·simp[Instr.sliceBounds,Instr.sliceBound,asIntOf,a2,h1,h2]
theorem cn2 {id n:Nat}{cs:List IV}(hs:Sim E ρ w σ)(hc:σ.obj id=some (.row cs)):Sim E ρ w (σ.put id (.row (cs.take n))) where
 inj:=hs.inj
 lt:=hs.lt
 obj:=fun i B d hi=>by
  obtain ⟨o,h1,h2⟩:=hs.obj i B d hi
  by_cases e:i=id
  ·subst e
   rw[hc] at h1
   cases h1
   obtain ⟨rcs,el,hb,hsz,hv⟩:=h2
   refine ⟨.row (cs.take n),by simp[Store.put],rcs,el,hb,by simp; omega,fun k hk=>?_⟩
   simp at hk
   rw[getD_take' _ _ _ _ (by omega)]
   exact hv k (by omega)
  ·exact ⟨o,by simp[Store.put,e,h1],h2⟩
 dead:=fun i hi=>by
  have h0:=hs.dead i hi
  have:i≠id:=fun e=>by subst e; rw[hc] at h0; cases h0
  simp[Store.put,this,h0]
 fresh:=hs.fresh
 noObj:=fun i hi=>by
  have h0:=hs.noObj i hi
  have:i≠id:=fun e=>by subst e; rw[hc] at h0; cases h0
  simp[Store.put,this,h0]
 env:=hs.env
 nx:=hs.nx
 xlt:=hs.xlt
theorem fb3 (id:Nat)(x y:IObj):(σ.put id x).put id y=σ.put id y:=by
 unfold Store.put
 congr 1
 funext i
 simp only
 split<;>rfl
theorem fs9 {t el:TypeId} {x oh om:Operand} {olo:Option Operand} {ix ilo ih im:IX} {esz id n:Nat} {chk:Bool} {v:IV} (hu:P.underlying t=some (.slice el)) (hsz:szT P el=some esz)
  (hx:ad8 x=some ix) (hlo:(olo=none∧ilo=.c (.int .i64 0))∨∃ o,olo=some o∧ad8 o=some ilo) (hh:ad8 oh=some ih) (hm:ad8 om=some im)
  (h:hs8 σ id esz chk (ix.ev E fr) (ilo.ev E fr) (ih.ev E fr) (im.ev E fr)=some (v,σ')) (hs:Sim E ρ w σ) (hf:FR ρ w N fr a.tmps) (hno:ρ id=.no) (hlt:id<σ.next) (hn:n≤id) :
  bm1 P E id n ρ w a (.slice t x olo (some oh) (some om)) v σ':=by
 intro o ho
 have vx:=aa4 (a:=a) hx hs hf
 have vh:=aa4 (a:=a) hh hs hf
 have vm:=aa4 (a:=a) hm hs hf
 unfold hs8 at h
 split at h
 ·rename_i l hb m e1 e2 e3
  have bl:(olo.map a.eval=none∧l=0)∨∃ k,olo.map a.eval=some (.int k (l:Int)):=by
   rcases hlo with ⟨rfl,rfl⟩|⟨o2,rfl,ho2⟩
   ·simp only[IX.ev,dd4] at e1
    cases e1
    exact .inl ⟨rfl,rfl⟩
   ·obtain ⟨k,hk⟩:=an7 e1 (aa4 (a:=a) ho2 hs hf)
    exact .inr ⟨k,by simp[hk]⟩
  have bh:=an7 e2 vh
  have bm:=an7 e3 vm
  generalize ix.ev E fr=ax at vx h
  generalize hrx:a.eval x=rx at vx
  have run:∀ (ad:Option Addr) (len cap:Nat),rx=.slice ad len cap→l≤hb→hb≤m→m≤cap→(execOp a.eval o).run P w=.ok (.value (.slice (if m=l then ad else ad.map (·.add (l*esz))) (hb-l) (m-l))) w:=by
   intro ad len cap hr a1 a2 a3
   have hbd:=cf6 (P:=P) (w:=w) (len:=len) bl bh bm a1 a2 a3
   unfold execOp
   rw[ho]
   simp only[hrx,hr,Option.map_some]
   simp[Instr.sliceAt,Instr.slice,run_underlying hu,hbd,run_sizeOf hsz]
  split at h
  ·split at h
   ·rename_i n0 hlen
    split at h
    ·rename_i hc
     cases h
     have:∃ ad len cap,rx=.slice ad len cap∧n0≤cap:=by
      cases vx<;>simp only[ig2] at hlen<;>cases hlen
      all_goals first|exact ⟨_,_,_,rfl,Nat.le_refl _⟩|exact ⟨_,_,_,rfl,Nat.zero_le _⟩|exact ⟨_,_,_,rfl,by assumption⟩|exact ⟨_,_,_,rfl,by omega⟩
     obtain ⟨ad,len,cap,hr,hcap⟩:=this
     exact ⟨_,_,ρ,w,run ad len cap hr hc.1 hc.2.1 (by omega),.inl rfl,hs,.undef _,Ext.refl _ _ _,ac7.refl _ _⟩
    ·cases h
   ·cases h
  ·split at h
   ·rename_i hc
    obtain ⟨hlh,rfl⟩:=hc
    cases vx with
    | nilslice=>
     simp only[gf7] at h
     split at h
     ·rename_i h0
      cases h
      have hl0:l=0:=by omega
      subst hl0; subst h0
      exact ⟨_,_,ρ,w,run none 0 0 rfl (Nat.le_refl _) (Nat.le_refl _) (Nat.le_refl _),.inl rfl,hs,.nilslice,Ext.refl _ _ _,ac7.refl _ _⟩
     ·cases h
    | zslice ad=>
     simp only[gf7] at h
     split at h
     ·rename_i h0
      cases h
      have hl0:l=0:=by omega
      subst hl0; subst h0
      exact ⟨_,_,ρ,w,run (some ad) 0 0 rfl (Nat.le_refl _) (Nat.le_refl _) (Nat.le_refl _),.inl rfl,hs,.zslice ad,Ext.refl _ _ _,ac7.refl _ _⟩
     ·cases h
    | slice did off len e B d cap rcs elt fz hid hbk hsz' hle=>
     simp only[gf7] at h
     split at h
     ·rename_i hc
      obtain ⟨rfl,_,hhl⟩:=hc
      split at h
      ·rename_i cs hcs
       split at h
       ·rename_i hcl
        cases h
        have hmul:l*e≤len*e:=Nat.mul_le_mul_right _ (by omega)
        have hoff:off+l*e≤cs.length:=by omega
        have s1:=br4 hs hid hcs hno hlt hoff
        have s2:=cn2 (id:=id) (cs:=cs.drop (off+l*e)) (n:=(hb-l)*e) s1 (by simp[Store.put])
        rw[fb3] at s2
        have hx:=bd5 (w:=w) (off:=off+l*e) hid hno hn
        have hr:=run (some ⟨B,d+off,none⟩) len cap rfl hlh (Nat.le_refl _) (by omega)
        have nb:ac7 id ρ ((ρ.put did .dead).put id (.at B (d+(off+l*e)))):=fun i hi h0=>by
         have:i≠did:=fun e=>by subst e; rw[hid] at h0; cases h0
         simp[Rho.put,hi,this,h0]
        refine ⟨_,_,_,w,hr,.inl rfl,s2,?_,hx,nb⟩
        by_cases hz:hb=l
        ·subst hz
         simp only[Nat.sub_self,if_true]
         exact .sliceZ id 0 e B (d+(off+hb*e)) _ (by simp[Rho.put])
        ·rw[if_neg hz]
         have:=VR.slice (ρ:=(ρ.put did .dead).put id (.at B (d+(off+l*e)))) (w:=w) id 0 (hb-l) e B (d+(off+l*e)) (hb-l) rcs elt fz (by simp[Rho.put]) hbk (by
          have h1:l*e+(hb-l)*e=hb*e:=by rw[← Nat.add_mul,Nat.add_sub_cancel' hlh]
          have h2:hb*e≤cap*e:=Nat.mul_le_mul_right _ (by omega)
          omega) (Nat.le_refl _)
         rw[Option.map_some,al7,show d+off+l*e=d+(off+l*e)+0 from by omega]
         exact this
       ·cases h
      ·cases h
     ·cases h
    | sliceZ did off e B d ad hid=>
     simp only[gf7] at h
     split at h
     ·rename_i hc
      obtain ⟨rfl,_,hhl⟩:=hc
      split at h
      ·rename_i cs hcs
       split at h
       ·rename_i hcl
        cases h
        have hb0:hb=0:=by omega
        have hl0:l=0:=by omega
        subst hb0; subst hl0
        have s1:=br4 (off:=off+0*e) hs hid hcs hno hlt (by omega)
        have s2:=cn2 (id:=id) (cs:=cs.drop (off+0*e)) (n:=(0-0)*e) s1 (by simp[Store.put])
        rw[fb3] at s2
        have hx:=bd5 (w:=w) (off:=off+0*e) hid hno hn
        have hr:=run (some ad) 0 0 rfl (Nat.le_refl _) (Nat.le_refl _) (Nat.le_refl _)
        have nb:ac7 id ρ ((ρ.put did .dead).put id (.at B (d+(off+0*e)))):=fun i hi h0=>by
         have:i≠did:=fun e=>by subst e; rw[hid] at h0; cases h0
         simp[Rho.put,hi,this,h0]
        exact ⟨_,_,_,w,hr,.inl rfl,s2,.sliceZ id 0 e B (d+(off+0*e)) _ (by simp[Rho.put]),hx,nb⟩
       ·cases h
      ·cases h
     ·cases h
    | sliceD did off len e cap ad hid hle=>
     simp only[gf7] at h
     split at h
     ·rw[hs.dead did hid] at h; cases h
     ·cases h
    | _=>simp[gf7] at h
   ·cases h
 ·cases h
theorem ft1 {t el:TypeId}{x oh om:Operand}{olo:Option Operand}{ix ilo ih im:IX}{esz id n:Nat}{v:IV}(hu:P.underlying t=some (.slice el))(hsz:szT P el=some esz)
  (hx:ad8 x=some ix) (hlo:(olo=none∧ilo=.c (.int .i64 0))∨∃ o,olo=some o∧ad8 o=some ilo) (hh:ad8 oh=some ih) (hm:ad8 om=some im)
  (h:hv9 esz (ix.ev E fr) (ilo.ev E fr) (ih.ev E fr) (im.ev E fr)=some v) (hs:Sim E ρ w σ) (hf:FR ρ w N fr a.tmps) :
  bm1 P E id n ρ w a (.slice t x olo (some oh) (some om)) v σ:=by
 intro o ho
 have vx:=aa4 (a:=a) hx hs hf
 have vh:=aa4 (a:=a) hh hs hf
 have vm:=aa4 (a:=a) hm hs hf
 unfold hv9 at h
 split at h
 ·rename_i hb m e1 e2 e3
  have bl:(olo.map a.eval=none∧0=0)∨∃ k,olo.map a.eval=some (.int k ((0:Nat):Int)):=by
   rcases hlo with ⟨rfl,rfl⟩|⟨o2,rfl,ho2⟩
   ·exact .inl ⟨rfl,rfl⟩
   ·obtain ⟨k,hk⟩:=an7 e1 (aa4 (a:=a) ho2 hs hf)
    exact .inr ⟨k,by simp[hk]⟩
  have bh:=an7 e2 vh
  have bm:=an7 e3 vm
  generalize ix.ev E fr=ax at vx h
  generalize hrx:a.eval x=rx at vx
  have run:∀ (ad:Option Addr) (len cap:Nat),rx=.slice ad len cap→hb≤m→m≤cap→(execOp a.eval o).run P w=.ok (.value (.slice (if m=0 then ad else ad.map (·.add (0*esz))) (hb-0) (m-0))) w:=by
   intro ad len cap hr a2 a3
   have hbd:=cf6 (P:=P) (w:=w) (len:=len) bl bh bm (Nat.zero_le _) a2 a3
   unfold execOp
   rw[ho]
   simp only[hrx,hr,Option.map_some]
   simp[Instr.sliceAt,Instr.slice,run_underlying hu,hbd,run_sizeOf hsz]
  split at h
  ·rename_i hhm
   subst hhm
   cases vx with
   | nilslice=>
    simp only at h
    split at h
    ·rename_i h0; cases h; subst h0
     exact ⟨_,_,ρ,w,run none 0 0 rfl (Nat.le_refl _) (Nat.le_refl _),.inl rfl,hs,.nilslice,Ext.refl _ _ _,ac7.refl _ _⟩
    ·cases h
   | zslice ad=>
    simp only at h
    split at h
    ·rename_i h0; cases h; subst h0
     exact ⟨_,_,ρ,w,run (some ad) 0 0 rfl (Nat.le_refl _) (Nat.le_refl _),.inl rfl,hs,.zslice ad,Ext.refl _ _ _,ac7.refl _ _⟩
    ·cases h
   | slice did off len e B d cap rcs elt fz hid hbk hsz' hle=>
    simp only at h
    split at h
    ·rename_i hc
     obtain ⟨rfl,hhl⟩:=hc
     have hr:=run (some ⟨B,d+off,none⟩) len cap rfl (Nat.le_refl _) (by omega)
     split at h
     ·rename_i h0; cases h; subst h0
      exact ⟨_,_,ρ,w,hr,.inl rfl,hs,.zslice _,Ext.refl _ _ _,ac7.refl _ _⟩
     ·rename_i h0
      cases h
      refine ⟨_,_,ρ,w,hr,.inl rfl,hs,?_,Ext.refl _ _ _,ac7.refl _ _⟩
      rw[if_neg h0,Option.map_some,al7,Nat.zero_mul,Nat.add_zero,Nat.sub_zero]
      have h2:hb*e≤cap*e:=Nat.mul_le_mul_right _ (by omega)
      exact .cslice did off hb e B d rcs elt fz hid hbk (by omega)
    ·cases h
   | sliceZ did off e B d ad hid=>
    simp only at h
    split at h
    ·rename_i hc
     obtain ⟨rfl,hhl⟩:=hc
     have hb0:hb=0:=by omega
     subst hb0
     simp only[if_true] at h
     cases h
     exact ⟨_,_,ρ,w,run (some ad) 0 0 rfl (Nat.le_refl _) (Nat.le_refl _),.inl rfl,hs,.zslice ad,Ext.refl _ _ _,ac7.refl _ _⟩
    ·cases h
   | sliceD did off len e cap ad hid hle=>
    simp only at h
    split at h
    ·rename_i hc
     obtain ⟨rfl,hhl⟩:=hc
     have hr:=run (some ad) len cap rfl (Nat.le_refl _) (by omega)
     split at h
     ·rename_i h0; cases h; subst h0
      exact ⟨_,_,ρ,w,hr,.inl rfl,hs,.zslice _,Ext.refl _ _ _,ac7.refl _ _⟩
     ·rename_i h0
      cases h
      refine ⟨_,_,ρ,w,hr,.inl rfl,hs,?_,Ext.refl _ _ _,ac7.refl _ _⟩
      rw[if_neg h0,Option.map_some,Nat.zero_mul,Nat.sub_zero]
      exact .csliceD did off hb e _ hid
    ·cases h
   | _=>simp at h
  ·cases h
 ·cases h
/-! ### s[:h],and append in place -/
theorem ft2 {t el:TypeId}{x oh:Operand}{ix ih:IX}{esz id n:Nat}{v:IV}(hu:P.underlying t=some (.slice el))(hsz:szT P el=some esz)
  (hx:ad8 x=some ix) (hh:ad8 oh=some ih) (h:hv8 esz (ix.ev E fr) (ih.ev E fr)=some v) (hs:Sim E ρ w σ) (hf:FR ρ w N fr a.tmps) :
  bm1 P E id n ρ w a (.slice t x none (some oh) none) v σ:=by
 intro o ho
 have vx:=aa4 (a:=a) hx hs hf
 have vh:=aa4 (a:=a) hh hs hf
 unfold hv8 at h
 split at h
 ·rename_i hb e1
  generalize ix.ev E fr=ax at vx h
  generalize hrx:a.eval x=rx at vx
  have run:∀ (ad:Option Addr) (len cap:Nat),rx=.slice ad len cap→hb≤cap→(execOp a.eval o).run P w=.ok (.value (.slice (if cap=0 then ad else ad.map (·.add (0*esz))) (hb-0) (cap-0))) w:=by
   intro ad len cap hr a3
   have hbd:=ag3 (P:=P) (w:=w) (ρ:=ρ) (isSlice:=true) (len:=len) (cap:=cap) (lo:=none) (hi:=some (ih.ev E fr)) (rlo:=none) (rhi:=some (a.eval oh)) rfl e1 trivial vh (Nat.zero_le _) a3
   unfold execOp
   rw[ho]
   simp only[hrx,hr,Option.map_some]
   simp[Instr.sliceAt,Instr.slice,run_underlying hu,hbd,run_sizeOf hsz]
  split at h
  ·rename_i did off len e
   split at h
   ·rename_i hc
    obtain ⟨rfl,h1,h2⟩:=hc
    cases h
    cases vx with
    | slice _ _ _ _ B d cap rcs elt fz hid hbk hsz' hle=>
     have hr:=run _ _ _ rfl (by omega)
     have c0:¬ cap=0:=by omega
     rw[if_neg c0,Option.map_some,al7,Nat.zero_mul,Nat.add_zero,Nat.sub_zero,Nat.sub_zero] at hr
     exact ⟨_,_,ρ,w,hr,.inl rfl,hs,.rslice did off hb len e B d cap rcs elt fz hid hbk hsz' h1 hle,Ext.refl _ _ _,ac7.refl _ _⟩
    | sliceZ=>omega
    | sliceD _ _ _ _ cap ad hid hle=>
     have hr:=run _ _ _ rfl (by omega)
     have c0:¬ cap=0:=by omega
     rw[if_neg c0,Option.map_some,Nat.sub_zero,Nat.sub_zero] at hr
     exact ⟨_,_,ρ,w,hr,.inl rfl,hs,.rsliceD did off hb len e cap _ hid h1 hle,Ext.refl _ _ _,ac7.refl _ _⟩
   ·cases h
  ·rename_i did off len room e
   split at h
   ·rename_i hc
    obtain ⟨rfl,h1,h2⟩:=hc
    cases h
    cases vx with
    | rslice _ _ _ _ _ B d cap rcs elt fz hid hbk hsz' hle hrm=>
     have hr:=run _ _ _ rfl (by omega)
     have c0:¬ cap=0:=by omega
     rw[if_neg c0,Option.map_some,al7,Nat.zero_mul,Nat.add_zero,Nat.sub_zero,Nat.sub_zero] at hr
     exact ⟨_,_,ρ,w,hr,.inl rfl,hs,.rslice did off hb room e B d cap rcs elt fz hid hbk hsz' h1 hrm,Ext.refl _ _ _,ac7.refl _ _⟩
    | rsliceD _ _ _ _ _ cap ad hid hle hrm=>
     have hr:=run _ _ _ rfl (by omega)
     have c0:¬ cap=0:=by omega
     rw[if_neg c0,Option.map_some,Nat.sub_zero,Nat.sub_zero] at hr
     exact ⟨_,_,ρ,w,hr,.inl rfl,hs,.rsliceD did off hb room e cap _ hid h1 hrm,Ext.refl _ _ _,ac7.refl _ _⟩
   ·cases h
  ·cases h
 ·cases h
theorem ft3 {o0:Op} {s x:Operand} {is ix:IX} {t xt e xe:TypeId} {args:Array Operand} {argTypes:Array TypeId} {i:TypeInfo} {id n0:Nat} {v:IV} (ho0:o0=.call { callee:=.builtin .append,args,argTypes }) (ha:args.toList=[s,x]) (ht:argTypes.toList=[t,xt])
  (hu:P.underlying t=some (.slice e)) (hxu:P.underlying xt=some (.slice xe)) (hi:P.info? e=some i) (hs':ad8 s=some is) (hx:ad8 x=some ix)
  (h:ht4 σ i.size (is.ev E fr) (ix.ev E fr)=some (v,σ')) (hs:Sim E ρ w σ) (hf:FR ρ w N fr a.tmps) :
  bm1 P E id n0 ρ w a o0 v σ':=by
 subst ho0
 obtain ⟨al⟩:=args
 obtain ⟨tl⟩:=argTypes
 simp only at ha ht
 subst ha; subst ht
 intro o ho
 have vs:=aa4 (a:=a) hs' hs hf
 have vx:=aa4 (a:=a) hx hs hf
 generalize is.ev E fr=as at vs h
 generalize ix.ev E fr=ax at vx h
 generalize hrs:a.eval s=rs at vs
 generalize hrx:a.eval x=rx at vx
 have exec:∀ r w',(Builtin.append_ #[t,xt] o.type #[rs,rx]).run P w=.ok r w'→(execOp a.eval o).run P w=.ok (.value r) w':=by
  intro r w' hr
  unfold execOp
  rw[ho]
  simp[resolve,invoke,builtin,hrs,hrx,hr]
 unfold ht4 at h
 split at h
 ·rename_i did off len room e2
  split at h
  ·rename_i n cells hsrc
   split at h
   ·rename_i cs hcs
    split at h
    ·rename_i hc
     obtain ⟨rfl,hroom,hfit,hlf⟩:=hc
     cases h
     obtain ⟨c1,c2,rcs,c4,c5,_⟩:=bm2 (P:=P) hs hsrc vx
     cases vs with
     | rslice _ _ _ _ _ B d cap rc el fz hid hbk hsz' hle hrm=>
      obtain ⟨ob,hob,hor⟩:=hs.obj did B d hid
      rw[hcs] at hob
      cases hob
      obtain ⟨rc',el3,hb2,hsz2,hvs⟩:=hor
      rw[hbk] at hb2
      cases hb2
      have hrl:rcs.size=n*i.size:=by rw[← c4.1,c1]
      have hone:∀ z∈rcs.toList,z.oneCell'=true:=by
       intro z hz
       obtain ⟨k,hk,hzk⟩:=List.mem_iff_getElem.1 hz
       have hk2:k<cells.length:=by have:=c4.1; simp at hk; omega
       have hl:(cells.getD k .undef).leaf=true:=List.all_eq_true.1 hlf _ (by rw[List.getD_eq_getElem?_getD,List.getElem?_eq_getElem hk2]; exact List.getElem_mem hk2)
       have:=(bd2 hl (c4.2 k hk2)).1
       rw[ab6 _ _ _ (by simpa using hk)] at this
       rw[← hzk]; simpa using this
      have hin:=bm4 (P:=P) (ty:=o.type) (B:=B) (o:=d+off) (sCap:=cap) (xt:=xt) (t:=t) (rx:=rx) hu ⟨_,hxu,fun k h=>by cases h⟩ hi c2 c5 (by omega:len+n≤cap) hbk (by rw[hrl]; omega) hone
      generalize hnew:(rc.toList.take (d+off+len*i.size)++rcs.toList++rc.toList.drop (d+off+len*i.size+rcs.toList.length)).toArray=new at hin
      have hnsz:new.size=rc.size:=by rw[← hnew]; simp; omega
      have hxx:∀ n,Ext n ρ w ρ (w.setRow B new):=fun n=>al9 (n:=n) (new:=new) hid hbk hnsz
      refine ⟨.value _,_,ρ,w.setRow B new,exec _ _ hin,.inl rfl,av1 hs hid hbk hnsz ?_,.rslice did off (len+n) room i.size B d cap new el (0,0) hid (setRow_heap w B rc new el (0,0) hbk) (by rw[hnsz]; exact hsz') hroom hrm,hxx n0,ac7.refl _ _⟩
      refine ⟨new,el,setRow_heap w B rc new el (0,0) hbk,?_,?_⟩
      ·rw[hnsz,ac1 (by omega)]; exact hsz2
      ·intro k hk
       rw[ac1 (by omega)] at hk
       have:=fs3 (w:=w) (ρ:=ρ) (cs:=cs) (vs:=cells) (old:=rc) (news:=rcs.toList) (d:=d) (k:=off+len*i.size) hvs hsz2 (by rw[c1]; simp[hrl])
        (fun k hk=>by simpa [Array.getD_eq_getD_getElem?,List.getD_eq_getElem?_getD] using c4.2 k hk) (by omega) k hk
       rw[show d+(off+len*i.size)=d+off+len*i.size from by omega] at this
       rw[hnew] at this
       exact this.mono (hxx 0)
     | rsliceD _ _ _ _ _ cap ad hid hle hrm=>rw[hs.dead did hid] at hcs; cases hcs
    ·cases h
   ·cases h
  ·cases h
 ·cases h
end Go.Id
/- Contracts,codes,regions: the ideal semantics over the kit's calculus. Conditions: none; over any program. -/
namespace Go.Id
open Go
structure ExtW (n:Nat) (ρ:Rho) (w:World) (ρ':Rho) (w':World):Prop where
 size:w.heap.size≤w'.heap.size
 keep:∀ b,UB ρ w b→w'.heap[b]? = w.heap[b]?
 shape:∀ (b:Nat) (rcs:Array Value) (el:TypeId) (fz:Nat×Nat),w.heap[b]? = some (.cells rcs el fz)→∃ rcs':Array Value,w'.heap[b]? = some (.cells rcs' el fz)∧rcs'.size=rcs.size
 img:∀ i B d,ρ' i=.at B d→(∃ j d',ρ j=.at B d')∨w.heap.size≤B
 at_:∀ i B d,i<n→ρ i=.at B d→ρ' i=.at B d∨ρ' i=.dead
 dead:∀ i,i<n→ρ i=.dead→ρ' i=.dead
 no:∀ i,i<n→ρ i=.no→ρ' i=.no
 output:w'.output=w.output
 os:w'.os=w.os
 tape:w'.tape=w.tape∧w.drawn≤w'.drawn
 loops:∀ (l:Nat) (L:Loop),w.heap[l]? = some (Obj.loop L)→∃ L':Loop,w'.heap[l]? = some (Obj.loop L')
 X:ρ'.X=ρ.X
variable {P:Program} {w w' w'':World} {ρ ρ' ρ'':Rho} {E:Nat→IV} {σ σ':Store} {N n n':Nat} {fr:Frm} {a:Act}
theorem Ext.weak (h:Ext n ρ w ρ' w')(hn:n'≤n):ExtW n' ρ w ρ' w' :=
 ⟨h.size,h.keep,h.shape,h.img,fun i B d _ hi=>h.at_ i B d hi,fun i _ hi=>h.dead i hi,fun i hi h0=>h.no i (Nat.lt_of_lt_of_le hi hn) h0,h.output,h.os,h.tape,h.loops,h.X⟩
theorem ExtW.refl (n:Nat)(ρ:Rho)(w:World):ExtW n ρ w ρ w:=(Ext.refl n ρ w).weak (Nat.le_refl _)
theorem ExtW.le (h:ExtW n ρ w ρ' w')(hn:n'≤n):ExtW n' ρ w ρ' w' :=
 ⟨h.size,h.keep,h.shape,h.img,fun i B d hi=>h.at_ i B d (Nat.lt_of_lt_of_le hi hn),fun i hi=>h.dead i (Nat.lt_of_lt_of_le hi hn),fun i hi=>h.no i (Nat.lt_of_lt_of_le hi hn),h.output,h.os,h.tape,h.loops,h.X⟩
theorem ExtW.ub (h:ExtW n ρ w ρ' w'){b:Nat}(hb:UB ρ w b):UB ρ' w' b:=by
 refine ⟨Nat.lt_of_lt_of_le hb.1 h.size,fun i d hi=>?_⟩
 rcases h.img i b d hi with ⟨j,d',hj⟩|hlt
 ·exact hb.2 j d' hj
 ·exact absurd hb.1 (Nat.not_lt.2 hlt)
theorem ExtW.trans (h:ExtW n ρ w ρ' w')(h':ExtW n ρ' w' ρ'' w''):ExtW n ρ w ρ'' w'' where
 size:=Nat.le_trans h.size h'.size
 keep:=fun b hb=>by rw[h'.keep b (h.ub hb),h.keep b hb]
 shape:=fun b rcs el fz hb=>by
  obtain ⟨r1,h1,s1⟩:=h.shape b rcs el fz hb
  obtain ⟨r2,h2,s2⟩:=h'.shape b r1 el fz h1
  exact ⟨r2,h2,by rw[s2,s1]⟩
 img:=fun i B d hi=>by
  rcases h'.img i B d hi with ⟨j,d',hj⟩|hlt
  ·exact h.img j B d' hj
  ·exact .inr (Nat.le_trans h.size hlt)
 at_:=fun i B d hn hi=>by
  rcases h.at_ i B d hn hi with h1|h1
  ·exact h'.at_ i B d hn h1
  ·exact .inr (h'.dead i hn h1)
 dead:=fun i hn hi=>h'.dead i hn (h.dead i hn hi)
 no:=fun i hi h0=>h'.no i hi (h.no i hi h0)
 output:=by rw[h'.output,h.output]
 os:=by rw[h'.os,h.os]
 tape:=⟨by rw[h'.tape.1,h.tape.1],Nat.le_trans h.tape.2 h'.tape.2⟩
 loops:=fun l L hl=>let ⟨L',h1⟩:=h.loops l L hl; h'.loops l L' h1
 X:=by rw[h'.X,h.X]
theorem ExtW.ext (h:ExtW n ρ w ρ' w')(hf:∀ i,n≤i→ρ i=.no):Ext n ρ w ρ' w' :=
 ⟨h.size,h.keep,h.shape,h.img,
  fun i B d hi=>h.at_ i B d (Nat.lt_of_not_le fun hle=>by rw[hf i hle] at hi; cases hi) hi,
  fun i hi=>h.dead i (Nat.lt_of_not_le fun hle=>by rw[hf i hle] at hi; cases hi) hi,
  h.no,h.output,h.os,h.tape,h.loops,h.X⟩
def fw (ro:Option Nat):Fence:={ Fence.wide with round:=ro }
def RO (ro:Option Nat)(w:World):Prop:=∀ l,ro=some l→∃ L:Loop,w.heap[l]? = some (.loop L)
inductive DF (h0:Nat) (ρ:Rho) (w:World):List Deferred→Prop
 | nil (hz:h0≤w.heap.size):DF h0 ρ w []
 | cons (r:Nat) (ds:List Deferred) (hr:w.heap[r]? = some (.deferred (some []))) (hb:UB ρ w r) (hh:h0≤r) (hn:∀ d∈ds,d.target=.collected r→False) (h:DF h0 ρ w ds):DF h0 ρ w ({ target:=.collected r,args:=#[] }::ds)
theorem DF.mono {h0:Nat}{ds:List Deferred}(hx:ExtW n ρ w ρ' w')(h:DF h0 ρ w ds):DF h0 ρ' w' ds:=by
 induction h with
 | nil hz=>exact .nil (Nat.le_trans hz hx.size)
 | cons r ds hr hb hh hn _ ih=>exact .cons r ds (by rw[hx.keep r hb]; exact hr) (hx.ub hb) hh hn ih
theorem DF.size {h0:Nat}{ds:List Deferred}(h:DF h0 ρ w ds):h0≤w.heap.size:=by
 induction h with
 | nil hz=>exact hz
 | cons r ds _ _ _ _ _ ih=>exact ih
theorem RO.mono {ro:Option Nat}(h:RO ro w)(hl:ExtW n ρ w ρ' w'):RO ro w':=fun l e=>let ⟨L,h1⟩:=h l e; hl.loops l L h1
def C (P:Program)(E:Nat→IV)(f:FuncId)(args:List IV)(σ:Store)(Q:IV→Store→Prop):Prop :=
 ∀ (ρ:Rho) (w:World) (rargs:Array Value),Sim E ρ w σ→CR ρ w args rargs→CallsIn Fence.wide 0 P f rargs w fun e w'=>
  ∃ v r ρ' σ',e=.returned r∧Q v σ'∧Sim E ρ' w' σ'∧VR ρ' w' v r∧ExtW σ.next ρ w ρ' w'
def R (P:Program)(E:Nat→IV)(N n0:Nat)(c:Code)(fr:Frm)(σ:Store)(Q:Exit→Frm→Store→Prop):Prop :=
 n0≤σ.next→∀ (ro:Option Nat) (h0:Nat) (ρ:Rho) (w:World) (a:Act),Sim E ρ w σ→FR ρ w N fr a.tmps→DF h0 ρ w a.defers→RO ro w →
  c.wpIn (fw ro) 0 P (fun e a' w'=>∃ fr' σ' ρ',n0≤σ'.next∧Q e fr' σ'∧Sim E ρ' w' σ'∧FR ρ' w' N fr' a'.tmps∧DF h0 ρ' w' a'.defers∧RO ro w'∧ExtW n0 ρ w ρ' w') a w
theorem C.mono {f:FuncId}{args:List IV}{Q Q':IV→Store→Prop}(h:C P E f args σ Q)(hq:∀ v σ',Q v σ'→Q' v σ'):C P E f args σ Q' :=
 fun ρ w rargs hs hc=>(h ρ w rargs hs hc).mono fun _ _ ⟨v,r,ρ',σ',he,q,rest⟩=>⟨v,r,ρ',σ',he,hq v σ' q,rest⟩
theorem R.mono {n0:Nat}{c:Code}{Q Q':Exit→Frm→Store→Prop}(h:R P E N n0 c fr σ Q)(hq:∀ e fr σ,Q e fr σ→Q' e fr σ):R P E N n0 c fr σ Q' :=
 fun hn ro h0 ρ w a hs hf hd hr=>wpIn_mono (h hn ro h0 ρ w a hs hf hd hr) fun _ _ _ ⟨fr',σ',ρ',hn',q,rest⟩=>⟨fr',σ',ρ',hn',hq _ _ _ q,rest⟩
/-! ### Codes -/
def hw5 (P:Program)(E:Nat→IV)(N n0:Nat)(y:Code)(Q:Exit→Frm→Store→Prop):Exit→Frm→Store→Prop
 | .normal,fr,σ=>R P E N n0 y fr σ Q
 | e,fr,σ=>Q e fr σ
theorem gy1 {n0:Nat}{x y:Code}{Q:Exit→Frm→Store→Prop}(h:R P E N n0 x fr σ (hw5 P E N n0 y Q)):R P E N n0 (.seq x y) fr σ Q:=by
 intro hn ro h0 ρ w a hs hf hd hr
 refine wpIn_seq (wpIn_mono (h hn ro h0 ρ w a hs hf hd hr) ?_)
 rintro e a' w' ⟨fr',σ',ρ',hn',q,hs',hf',hd',hr',hx⟩
 cases e with
 | normal=>
  refine wpIn_mono (q hn' ro h0 ρ' w' a' hs' hf' hd' hr') ?_
  rintro e a'' w'' ⟨fr'',σ'',ρ'',hn'',q',hs'',hf'',hd'',hr'',hx'⟩
  exact ⟨fr'',σ'',ρ'',hn'',q',hs'',hf'',hd'',hr'',hx.trans hx'⟩
 | _=>exact ⟨fr',σ',ρ',hn',q,hs',hf',hd',hr',hx⟩
theorem gy2 {n0:Nat}{Q:Exit→Frm→Store→Prop}(h:Q .normal fr σ):R P E N n0 .skip fr σ Q :=
 fun hn _ _ ρ w _ hs hf hd hr=>wpIn_skip ⟨fr,σ,ρ,hn,h,hs,hf,hd,hr,ExtW.refl _ _ _⟩
theorem gl4 {n0 l:Nat}{Q:Exit→Frm→Store→Prop}(h:Q .normal fr σ):R P E N n0 (.label l) fr σ Q :=
 fun hn _ _ ρ w _ hs hf hd hr=>wpIn_label ⟨fr,σ,ρ,hn,h,hs,hf,hd,hr,ExtW.refl _ _ _⟩
theorem gy3 {n0 id:Nat}{Q:Exit→Frm→Store→Prop}(h:Q (.exit id) fr σ):R P E N n0 (.exit id) fr σ Q :=
 fun hn _ _ ρ w _ hs hf hd hr=>wpIn_exit ⟨fr,σ,ρ,hn,h,hs,hf,hd,hr,ExtW.refl _ _ _⟩
theorem hw6 {n0:Nat}{Q:Exit→Frm→Store→Prop}(h:Q .ret fr σ):R P E N n0 .ret fr σ Q :=
 fun hn _ _ ρ w _ hs hf hd hr=>wpIn_ret ⟨fr,σ,ρ,hn,h,hs,hf,hd,hr,ExtW.refl _ _ _⟩
theorem gy4 {n0:Nat}{c:Operand}{ic:IX}{x y:Code}{b:Bool}{Q:Exit→Frm→Store→Prop}(hc:ad8 c=some ic)(hb:ic.ev E fr=.bool b)(h:R P E N n0 (if b then x else y) fr σ Q):R P E N n0 (.cond c x y) fr σ Q:=by
 intro hn ro h0 ρ w a hs hf hd hr
 have hv:=aa4 (a:=a) hc hs hf
 rw[hb] at hv
 generalize hr':a.eval c=r at hv
 cases hv
 exact wpIn_cond hr' (h hn ro h0 ρ w a hs hf hd hr)
def bi6 (id:Nat)(Q:Exit→Frm→Store→Prop):Exit→Frm→Store→Prop
 | .exit id',fr,σ=>if id'=id then Q .normal fr σ else Q (.exit id') fr σ
 | e,fr,σ=>Q e fr σ
theorem fb4 {n0 id:Nat}{c:Code}{Q:Exit→Frm→Store→Prop}(h:R P E N n0 c fr σ (bi6 id Q)):R P E N n0 (.block id c) fr σ Q:=by
 intro hn ro h0 ρ w a hs hf hd hr
 refine wpIn_block (wpIn_mono (h hn ro h0 ρ w a hs hf hd hr) ?_)
 rintro e a' w' ⟨fr',σ',ρ',hn',q,rest⟩
 cases e with
 | exit id'=>
  simp only[Exit.inBlock]
  simp only[bi6] at q
  split
  ·rename_i hid; rw[if_pos hid] at q; exact ⟨fr',σ',ρ',hn',q,rest⟩
  ·rename_i hid; rw[if_neg hid] at q; exact ⟨fr',σ',ρ',hn',q,rest⟩
 | _=>exact ⟨fr',σ',ρ',hn',q,rest⟩
def dp9 (I:Nat→Frm→Store→Prop)(m:Nat)(Q:Exit→Frm→Store→Prop):Exit→Frm→Store→Prop
 | .normal,fr,σ=>∃ m',m'<m∧I m' fr σ
 | e,fr,σ=>Q e fr σ
theorem gf8 {n0:Nat}{c:Code}{Q:Exit→Frm→Store→Prop}(I:Nat→Frm→Store→Prop)(m:Nat)(h:I m fr σ)(hI:∀ m fr σ,I m fr σ→R P E N n0 c fr σ (dp9 I m Q)):R P E N n0 (.loop c) fr σ Q:=by
 intro hn ro h0 ρ w a hs hf hd hr
 have key:∀ (k m:Nat),m<k→∀ (fr:Frm) (σ:Store) (ρ1:Rho) (w1:World) (a:Act),n0≤σ.next→I m fr σ→Sim E ρ1 w1 σ→FR ρ1 w1 N fr a.tmps→DF h0 ρ1 w1 a.defers→RO ro w1→ExtW n0 ρ w ρ1 w1 →
   Code.roundsIn (fw ro) 0 P c (fun e a' w'=>∃ fr' σ' ρ',n0≤σ'.next∧Q e fr' σ'∧Sim E ρ' w' σ'∧FR ρ' w' N fr' a'.tmps∧DF h0 ρ' w' a'.defers∧RO ro w'∧ExtW n0 ρ w ρ' w') k a w1:=by
  intro k
  induction k with
  | zero=>intro m hm; omega
  | succ k ih=>
   intro m hm fr σ ρ1 w1 a hn1 hI0 hs1 hf1 hd1 hr1 hx1
   refine wpIn_mono (hI m fr σ hI0 hn1 ro h0 ρ1 w1 a hs1 hf1 hd1 hr1) ?_
   rintro e a' w' ⟨fr',σ',ρ',hn',q,hs',hf',hd',hr',hx⟩
   cases e with
   | normal=>
    obtain ⟨m',hm',hI'⟩:=q
    exact ih m' (by omega) fr' σ' ρ' w' a' hn' hI' hs' hf' hd' hr' (hx1.trans hx)
   | _=>exact ⟨fr',σ',ρ',hn',q,hs',hf',hd',hr',hx1.trans hx⟩
 exact wpIn_loop_rounds (m+1) (key (m+1) m (Nat.lt_succ_self m) fr σ ρ w a hn h hs hf hd hr (ExtW.refl _ _ _))
/-! ### A code that has labels,and no jump -/
theorem ao1 {P:Program}{b:Frame}{a:Act}{k:List Go.Item}{cs:List Frame}{w:World}{c:Code}:step P (lone (b.atR a (.code (.scope c)::k)) cs w)=.next (lone (b.atR a (.code c::.inScope c::k)) cs w):=
 step_lone_go (by simp[stepG,stepG.exec,Frame.atR])
theorem cy5 {P:Program}{b:Frame}{a:Act}{k:List Go.Item}{cs:List Frame}{w:World}{c:Code}:step P (lone (b.atR a (.inScope c::k)) cs w)=.next (lone (b.atR a k) cs w):=
 step_lone_go (by simp[stepG,stepG.exec,Frame.atR])
def ih7 (Q:Exit→Act→World→Prop):Exit→Act→World→Prop
 | .goto _,_,_=>False
 | e,a,w=>Q e a w
theorem eh7 {F:Fence}{n:Nat}{Q:Exit→Act→World→Prop}{c:Code}(h:c.wpIn F n P (ih7 Q) a w):(Code.scope c).wpIn F n P Q a w:=by
 intro b k cs hro hb hr
 have h0:(lone (b.atR a (.code (.scope c)::k)) cs w).fenced P F:=fenced_calm hb hr rfl
 obtain ⟨e,a₁,w₁,hq,harr⟩:=h b (.inScope c::k) cs hro hb hr
 cases e with
 | normal=>exact ⟨.normal,a₁,w₁,hq,.head h0 ao1 (StepsIn.trans harr (.one (fenced_calm hb hr rfl) cy5))⟩
 | exit id=>
  have hx:exitTo id (.inScope c::k)=exitTo id k:=by simp[exitTo]
  exact ⟨.exit id,a₁,w₁,hq,fun k' hk=>.head h0 ao1 (harr.1 k' (by rw[hx]; exact hk)),
   fun hr' hk=>let ⟨k₁,h1,h2⟩:=harr.2 hr' (by rw[hx]; exact hk); ⟨k₁,h1,.head h0 ao1 h2⟩⟩
 | goto l=>exact hq.elim
 | ret=>exact ⟨_,a₁,w₁,hq,.of_steps (.one h0 ao1) harr⟩
 | panic ch=>exact ⟨_,a₁,w₁,hq,.of_steps (.one h0 ao1) harr⟩
 | outgrown=>exact ⟨_,a₁,w₁,hq,.of_steps (.one h0 ao1) harr⟩
def fb5 (Q:Exit→Frm→Store→Prop):Exit→Frm→Store→Prop
 | .goto _,_,_=>False
 | e,fr,σ=>Q e fr σ
theorem gl5 {n0:Nat}{c:Code}{Q:Exit→Frm→Store→Prop}(h:R P E N n0 c fr σ (fb5 Q)):R P E N n0 (.scope c) fr σ Q:=by
 intro hn ro h0 ρ w a hs hf hd hr
 refine eh7 (wpIn_mono (h hn ro h0 ρ w a hs hf hd hr) ?_)
 rintro e a' w' ⟨fr',σ',ρ',hn',q,rest⟩
 cases e with
 | goto l=>exact q.elim
 | _=>exact ⟨fr',σ',ρ',hn',q,rest⟩
end Go.Id
/- Regions: the operations compiled,their ideal semantics,and the proof for a region whose order is the text's. Conditions: none; over any program. -/
namespace Go.Id
open Go
inductive IK where
 | q (q:IQ)
 | alloc (z:List IV)
 | box (x:IX)
 | bsl (esz n:Nat) (z:List IV) (parts:List (Nat×Nat×IX))
 | store (sz:Nat) (x y:IX)
 | app (esz:Nat) (s x:IX)
 | mkmap
 | srange (x:IX)
 | snext (x:IX)
 | mupd (tag:Nat) (x k v:IX)
 | call (f:Nat) (args:List IX)
 | pcall (f:Nat) (args:List IX)
 | callv (x:IX) (args:List IX)
 | bslt (esz n:Nat) (z:List IV) (parts:List (Nat×Nat×IX))
 | boxt (x:IX)
 | mrange (x:IX)
 | mnext (x:IX)
 | ment (x:IX)
 | mksl (esz:Nat) (z:List IV) (x:IX)
 | clr (esz:Nat) (z:List IV) (x:IX)
 | st (k:SK) (xs:List IX)
 deriving Inhabited
structure IOper where
 dst:Option Nat
 guard:Option (Nat×Bool)
 op:IK
 deriving Inhabited
def IK.lays:IK→Bool
 | .alloc _|.box _|.bsl _ _ _ _|.app _ _ _|.mkmap|.srange _|.mrange _|.mksl _ _ _|.st _ _=>true
 | _=>false
def okF (P : Program) (f : FuncId) : Bool := (P.funcs[f]?).any fun fn => fn.name != "runtime.NumGoroutine" && fn.body.isSome
def CYd (P:Program)(E:Nat→IV)(id:Nat)(args:List IV)(σ:Store)(Q:IV→Store→Prop):Prop :=
 ∀ (ρ:Rho) (w:World) (rargs:Array Value) (B d:Nat),Sim E ρ w σ→CR ρ w args rargs→ρ id=.at B d →
  ∃ (fn:FuncId) (tmps:Array Value) (assign body:Code),(Instr.yield B rargs).run P w=.ok (.round B fn tmps assign body) w∧RoundIn Fence.wide 0 P B fn tmps assign body w fun e w'=>
   ∃ v r ρ' σ',e=.returned r∧Q v σ'∧Sim E ρ' w' σ'∧VR ρ' w' v r∧ExtW σ.next ρ w ρ' w'
def CV (P:Program)(E:Nat→IV)(fv:IV)(args:List IV)(σ:Store)(Q:IV→Store→Prop):Prop :=
 match fv with
 | .func (.func f) first cap=>okF P f=true∧C P E f (first++args++cap) σ Q
 | .yield id=>(σ.obj id).isSome=true∧CYd P E id args σ Q
 | _=>False
def PC (P:Program)(E:Nat→IV)(f:FuncId)(args:List IV)(v:IV):Prop :=
 ∀ σ,C P E f args σ fun v' σ'=>v'=v∧σ'=σ
def opR (P:Program)(E:Nat→IV)(op:IK)(id:Nat)(fr:Frm)(σ:Store)(K:IV→Store→Prop):Prop :=
 match op with
 | .q q=>∃ v,evq E fr σ q=some v∧K v σ
 | .alloc z=>K (.ptr id 0) (σ.put id (.cells z))
 | .box x=>(x.ev E fr).cs.all IV.leaf=true∧K (.ptr id 0) (σ.put id (.cells (x.ev E fr).cs))
 | .bsl esz n z parts=>∃ out,an8 (rep z n) (parts.map fun p=>(p.1,p.2.1,p.2.2.ev E fr))=some out∧K (.slice id 0 n esz) (σ.put id (.row out))
 | .store sz x y=>∃ σ',aj1 σ sz (x.ev E fr) (y.ev E fr)=some σ'∧K .undef σ'
 | .srange x=>∃ s,x.ev E fr=.str s∧K (.ptr id 0) (σ.put id (.siter s 0))
 | .snext x=>∃ r,ba5 σ (x.ev E fr)=some r∧K r.1 r.2
 | .mkmap=>K (.map id) (σ.put id (.map []))
 | .mupd tag x k v=>∃ σ',an9 σ tag (x.ev E fr) (k.ev E fr) (v.ev E fr)=some σ'∧K .undef σ'
 | .app esz s x=>∃ r,ax4 σ id esz (s.ev E fr) (x.ev E fr)=some r∧K r.1 r.2
 | .call f args=>∃ Q,C P E f (args.map (·.ev E fr)) σ Q∧∀ v σ',Q v σ'→σ.next≤σ'.next∧K v σ'
 | .pcall f args=>∃ v,PC P E f (args.map (·.ev E fr)) v∧K v σ
 | .callv x args=>∃ Q,CV P E (x.ev E fr) (args.map (·.ev E fr)) σ Q∧∀ v σ',Q v σ'→σ.next≤σ'.next∧K v σ'
 | .bslt esz n z parts=>∃ out,an8 (rep z n) (parts.map fun p=>(p.1,p.2.1,p.2.2.ev E fr))=some out∧K (.tslice (chunk esz n out)) σ
 | .boxt x=>(x.ev E fr).cs.all IV.leaf=true∧K (.tptr (x.ev E fr).cs) σ
 | .mrange x=>∃ es,x.ev E fr=.tmap es∧K (.ptr id 0) (σ.put id (.miter es none))
 | .mnext x=>∃ i left,ba6 σ (x.ev E fr)=some (i,left)∧(left=[]→K (.tuple [.bool false]) σ) ∧
   ∀ j,j<left.length→K (.tuple [.bool true,(left.getD j (.undef,.undef)).1,(left.getD j (.undef,.undef)).2]) (σ.put i (.miter (left.eraseIdx j) (some (left.getD j (.undef,.undef)))))
 | .ment x=>∃ v,cb5 σ (x.ev E fr)=some v∧K v σ
 | .mksl esz z x=>∃ n,cy4 (x.ev E fr)=some n∧K (.slice id 0 n esz) (σ.put id (.row (rep z n)))
 | .clr esz z x=>∃ σ',fb1 σ esz z (x.ev E fr)=some σ'∧σ'.next=σ.next∧K .undef σ'
 | .st k xs=>∃ r,stI k id σ (xs.map (·.ev E fr))=some r∧K r.1 r.2
def Frm.setd (fr:Frm)(d:Option Nat)(v:IV):Frm :=
 match d with
 | some t=>fr.set t v
 | none=>fr
abbrev skV:IV:=.tuple []
def ft4 (v:IV)(want:Bool):Option Bool :=
 match v with
 | .bool b=>some (decide (b=want))
 | .tuple []=>some false
 | _=>none
def av2 (o:IOper)(fr:Frm):Option Bool :=
 match o.guard with
 | none=>some true
 | some (s,want)=>ft4 (fr.get s) want
def bm6 (P:Program)(E:Nat→IV):List IOper→Nat→Frm→Store→(Frm→Store→Prop)→Prop
 | [],_,fr,σ,K=>K fr σ
 | o::rest,id,fr,σ,K=>∃ act,av2 o fr=some act ∧
  (if act=true then opR P E o.op id fr σ fun v σ'=>bm6 P E rest (if o.op.lays then id+1 else id) (fr.setd o.dst v) σ' K
  else bm6 P E rest (if o.op.lays then id+1 else id) (fr.setd o.dst skV) σ K)
def bm7 (ops:List IOper):Nat:=(ops.filter fun o=>o.op.lays).length
/-! ### Compiling -/
def loX:Option Operand→Option IX
 | none=>some (.c (.int .i64 0))
 | some o=>ad8 o
def fb6 (P:Program) (pf:List Nat) (fz:Bool) (op:Op):Option IK :=
 match op with
 | .alloc t=>(ba3 P t).map .alloc
 | .box _ x=>(ad8 x).map (if fz=true then .boxt else .box)
 | .buildSlice t n parts=>match P.underlying t with
  | some (.slice e)=>match szT P e,ba3 P e with
   | some esz,some z=>match at1 P (fun i=>some (i*esz,esz)) parts.toList with
    | some ps=>if 0<esz∧z.length=esz∧n*esz≤2^24 then some (if fz=true then .bslt esz n z ps else .bsl esz n z ps) else none
    | none=>none
   | _,_=>none
  | _=>none
 | .store t x y=>match szT P t,ad8 x,ad8 y with
  | some sz,some a,some b=>some (.store sz a b)
  | _,_,_=>none
 | .range t x=>match P.underlying t with
  | some .string=>(ad8 x).map .srange
  | some (.map _ _)=>(ad8 x).map .mrange
  | _=>none
 | .next x true=>(ad8 x).map .snext
 | .next x false=>(ad8 x).map .mnext
 | .entry x=>(ad8 x).map .ment
 | .makeMap _ none=>some .mkmap
 | .mapUpdate t x k v=>match P.underlying t with
  | some (.map kt _)=>match ex9 P kt,ad8 x,ad8 k,ad8 v with
   | some tag,some a,some b,some c=>some (.mupd tag a b c)
   | _,_,_,_=>none
  | _=>none
 | .makeSlice t x y=>match P.underlying t with
  | some (.slice e)=>match P.info? e,ba3 P e,ad8 x with
   | some i,some z,some a=>if z.length=i.size∧0<i.size∧i.bytes≤4096∧cf5 x y=true then some (match fz,a with
    | true,.c (.int .i64 m)=>if 0≤m∧m≤2147483647 then .bslt i.size m.toNat z [] else .mksl i.size z a
    | _,_=>.mksl i.size z a) else none
   | _,_,_=>none
  | _=>none
 | .insert t x k v=>match P.underlying t with
  | some (.map kt _)=>match ex9 P kt,ad8 x,ad8 k,ad8 v with
   | some tag,some a,some b,some c=>some (.mupd tag a b c)
   | _,_,_,_=>none
  | _=>none
 | .call { callee:=.builtin .clear,args,argTypes }=>match args.toList,argTypes.toList with
  | [x],[t]=>match P.underlying t with
   | some (.slice e)=>match szT P e,ba3 P e,ad8 x with
    | some sz,some z,some a=>if z.length=sz∧0<sz then some (.clr sz z a) else none
    | _,_,_=>none
   | _=>none
  | _,_=>none
 | .call { callee:=.builtin .append,args,argTypes }=>match args.toList,argTypes.toList with
  | [s,x],[t,xt]=>match P.underlying t,P.underlying xt with
   | some (.slice e),some (.slice _)=>match P.info? e,ba3 P e,ad8 s,ad8 x with
    | some i,some z,some a,some b=>if i.bytes≤4096∧z.length=i.size then some (if fz=true then .st (.apr i.size) [a,b] else .app i.size a b) else none
    | _,_,_,_=>none
   | _,_=>none
  | _,_=>none
 | .call { callee:=.value (.func f),args,argTypes:=_ }=>match df1 args.toList with
  | some xs=>if okF P f then (if pf.contains f then some (.pcall f xs) else some (.call f xs)) else (fr7 P op).map .q
  | none=>none
 | .call { callee:=.value (.tmp t),args,argTypes:=_ }=>match df1 args.toList with
  | some xs=>some (.callv (.t t) xs)
  | none=>none
 | .call { callee:=.builtin .delete,args,argTypes }=>match args.toList,argTypes[0]? with
  | [x,k],some t=>match P.underlying t with
   | some (.map kt _)=>match ex9 P kt,ad8 x,ad8 k with
    | some tag,some a,some b=>some (.st (.mdel tag) [a,b])
    | _,_,_=>none
   | _=>none
  | _,_=>none
 | .call { callee:=.builtin .copy,args,argTypes }=>match args.toList,argTypes[0]? with
  | [x,y],some t=>match P.underlying t with
   | some (.slice e)=>match szT P e,ad8 x,ad8 y with
    | some n,some a,some b=>some (.st (.cpy n) [a,b])
    | _,_,_=>none
   | _=>none
  | _,_=>none
 | .slice t x none (some (.const (.int _ 0))) (some (.const (.int _ 0)))=>(fr7 P op).map .q
 | .slice t x lo (some h) (some m)=>match P.underlying t with
  | some (.slice e)=>match szT P e,ad8 x,loX lo,ad8 h,ad8 m with
   | some n,some a,some l,some b,some c=>some (if fz=false then .q (.clp n a l b c) else .st (.sl3 n fz) [a,l,b,c])
   | _,_,_,_,_=>none
  | _=>none
 | .slice t x none (some h) none=>match fz,P.underlying t with
  | true,some (.slice e)=>match szT P e,ad8 x,ad8 h with
   | some n,some a,some b=>some (.st (.rlp n) [a,b])
   | _,_,_=>none
  | _,_=>(fr7 P op).map .q
 | .load t x=>match fr7 P (.load t x) with
  | some (.load agg a)=>some (.q (if fz=true then .ldt agg a else .load agg a))
  | _=>none
 | op=>(fr7 P op).map .q
def gl6:Op→Bool
 | .defer _=>true
 | _=>false
def gy5 (P:Program)(pf:List Nat)(fz:Bool)(op:Op):Option IK :=
 match fb6 P pf fz op with
 | some k=>some k
 | none=>if gl6 op then none else some (.st .nev [])
def fb7 (N:Nat)(d:Option Nat):Bool :=
 match d with
 | some t=>decide (t<N)
 | none=>true
def br5 (P:Program) (pf:List Nat) (N:Nat) (ops:Array Oper) (o:Oper):Option IOper :=
 match gy5 P pf (o.dst.any fun t=>pf.contains (1000000+t)) o.op with
 | none=>none
 | some k=>
  if fb7 N o.dst=true then
   match o.guard with
   | none=>some ⟨o.dst,none,k⟩
   | some (j,want)=>match (ops[j]?).bind (·.dst) with
    | some s=>some ⟨o.dst,some (s,want),k⟩
    | none=>none
  else none
def ba7 (P:Program)(pf:List Nat)(N:Nat)(ops:Array Oper):List Oper→Option (List IOper)
 | []=>some []
 | o::os=>match br5 P pf N ops o,ba7 P pf N ops os with
  | some x,some xs=>some (x::xs)
  | _,_=>none
/-! ### The proof -/
variable {P:Program} {w w' w'':World} {ρ ρ' ρ'':Rho} {E:Nat→IV} {σ σ':Store} {N n n':Nat} {fr:Frm} {a:Act} {pf:List Nat}
theorem FR.setd (hf:FR ρ w N fr a.tmps){d:Option Nat}(hd:fb7 N d=true){v:IV}{r:Value}(hv:VR ρ w v r):FR ρ w N (fr.setd d v) (a.put d r).tmps:=by
 cases d with
 | none=>exact hf
 | some d=>exact hf.set (by simpa [fb7] using hd) hv
theorem dq1 {fz:Bool}{op:Op}{k:IK}(h:fb6 P pf fz op=some k):(∀ c,op≠.defer c):=by
 intro c hc; subst hc; simp[fb6,fr7] at h
theorem cy6 {m:Nat}(hs:Sim E ρ w σ)(h:∀ i,m≤i→ρ i=.no):Sim E ρ w { σ with next:=m } :=
 ⟨hs.inj,hs.lt,hs.obj,hs.dead,h,hs.noObj,hs.env,hs.nx,hs.xlt⟩
theorem cy7 {f:FuncId}{args:Array Value}(h:okF P f=true):(callFunc f args).run P w=.ok (.enter f args) w:=by
 unfold okF at h
 cases hf:P.funcs[f]? with
 | none=>rw[hf] at h; cases h
 | some fn=>
  rw[hf] at h
  simp at h
  have h2:¬ fn.body=none:=by intro hb; rw[hb] at h; simp at h
  simp[callFunc,hf,h.1,h2]
theorem Ext.le (h:Ext n ρ w ρ' w')(hn:n'≤n):Ext n' ρ w ρ' w' :=
 ⟨h.size,h.keep,h.shape,h.img,h.at_,h.dead,fun i hi h0=>h.no i (Nat.lt_of_lt_of_le hi hn) h0,h.output,h.os,h.tape,h.loops,h.X⟩
theorem CR.map {xs:List Operand}{ys:List IX}(h:df1 xs=some ys)(hs:Sim E ρ w σ)(hf:FR ρ w N fr a.tmps):CR ρ w (ys.map (·.ev E fr)) (xs.toArray.map a.eval):=by
 have:=bj3 (a:=a) h hs hf
 rwa [← List.map_toArray] at this
theorem CR.append {xs ys:List IV}{rx ry:Array Value}(h1:CR ρ w xs rx)(h2:CR ρ w ys ry):CR ρ w (xs++ys) (rx++ry):=by
 refine ⟨by simp[h1.1,h2.1],fun i hi=>?_⟩
 simp only[List.length_append] at hi
 by_cases h:i<xs.length
 ·have e1:(xs++ys).getD i .undef=xs.getD i .undef:=by simp[List.getD_eq_getElem?_getD,List.getElem?_append,h]
  have e2:(rx++ry).getD i undef=rx.getD i undef:=by
   have:i<rx.size:=by rw[← h1.1]; exact h
   simp[Array.getD_eq_getD_getElem?,Array.getElem?_append,this]
  rw[e1,e2]; exact h1.2 i h
 ·have e1:(xs++ys).getD i .undef=ys.getD (i-xs.length) .undef:=by simp[List.getD_eq_getElem?_getD,List.getElem?_append,h]
  have e2:(rx++ry).getD i undef=ry.getD (i-xs.length) undef:=by
   have:¬ i<rx.size:=by rw[← h1.1]; exact h
   simp[Array.getD_eq_getD_getElem?,Array.getElem?_append,this,h1.1]
  rw[e1,e2]; exact h2.2 _ (by omega)
theorem dq2 {f:FuncId}{n0:Nat}{K:IV→Store→Prop}{o:Oper}{next:Act→World→Prop}{Q:Exit→Act→World→Prop}{ro:Option Nat}{Qc:IV→Store→Prop}{args:List IV}{rargs:Array Value}
  (hd:∀ c,o.op≠.defer c) (hrun:(execOp a.eval o).run P w=.ok (.enter f rargs) w) (hc:C P E f args σ Qc) (hK:∀ v σ',Qc v σ'→σ.next≤σ'.next∧K v σ') (hs:Sim E ρ w σ) (ha:CR ρ w args rargs) (hn0:n0≤σ.next)
  (hn:∀ v σ' r ρ' w',σ.next≤σ'.next→K v σ'→Sim E ρ' w' σ'→VR ρ' w' v r→Ext n0 ρ w ρ' w'→(∀ i,i<σ.next→ρ i=.no→ρ' i=.no)→next (a.put o.dst r) w'):o.wpIn (fw ro) 0 P a w next Q:=by
 refine ⟨fun f _=>trivial,?_⟩
 rw[Oper.semAt_eq _ _ _ hd,hrun,Oper.uponIn_enter]
 refine ⟨(fun h=>by cases h),?_⟩
 have hcall:CallsIn (fw ro) 0 P f rargs w fun e w'=>∃ v r ρ' σ',e=.returned r∧Qc v σ'∧Sim E ρ' w' σ'∧VR ρ' w' v r∧ExtW σ.next ρ w ρ' w':=hc ρ w rargs hs ha
 refine CallsIn.mono hcall ?_
 rintro e w'' ⟨v,r,ρ',σ',rfl,q,hs',hv',hx⟩
 obtain ⟨h1,h2⟩:=hK v σ' q
 exact hn v σ' r ρ' w'' h1 h2 hs' hv' ((hx.ext hs.fresh).le hn0) hx.no
theorem fb8 {o:Oper}{t:Tmp}{args:Array Operand}{argTypes:Array TypeId}{f:FuncId}{rf rc:Array Value}(ho:o.op=.call { callee:=.value (.tmp t),args,argTypes })(hv:a.eval (.tmp t)=.func (.func f) rf rc)(hf:okF P f=true) :
  (execOp a.eval o).run P w=.ok (.enter f (rf++args.map a.eval++rc)) w:=by
 unfold execOp
 rw[ho]
 simp only[resolve,hv,Deferred.ofValue,Sem.run_bind,Sem.run_pure,Result.andThen_ok,invoke]
 exact cy7 hf
theorem dg1 {o:Oper}{args:Array Operand}{argTypes:Array TypeId}{f:FuncId}(ho:o.op=.call { callee:=.value (.func f),args,argTypes })(hf:okF P f=true) :
  (execOp a.eval o).run P w=.ok (.enter f (args.map a.eval)) w:=by
 unfold execOp
 rw[ho]
 simp only[resolve,Act.eval,Deferred.ofValue,Sem.run_bind,Sem.run_pure,Result.andThen_ok,invoke]
 rw[cy7 hf]
 simp
theorem ft5 {o:Oper}{s x:Operand}{is ix:IX}{t xt e xe:TypeId}{args:Array Operand}{argTypes:Array TypeId}{i:TypeInfo}{z:List IV}{id n0:Nat}{v:IV}(ho:o.op=.call { callee:=.builtin .append,args,argTypes })(ha:args.toList=[s,x])(ht:argTypes.toList=[t,xt])
  (hu:P.underlying t=some (.slice e)) (hxu:P.underlying xt=some (.slice xe)) (hi:P.info? e=some i) (hz:ba3 P e=some z) (hs':ad8 s=some is) (hx:ad8 x=some ix) (hb:i.bytes≤4096) (hzl:z.length=i.size)
  (h:ax4 σ id i.size (is.ev E fr) (ix.ev E fr)=some (v,σ')) (hs:Sim E ρ w σ) (hf:FR ρ w N fr a.tmps) (hno:ρ id=.no) (hlt:id<σ.next) (hn:n0≤id) :
  bm1 P E id n0 ρ w a o.op v σ':=by
 obtain ⟨al⟩:=args
 obtain ⟨tl⟩:=argTypes
 simp only at ha ht
 subst ha; subst ht
 intro o' ho'
 have hzero:∃ zr,i.zero=some zr∧zr.cells.size=i.size:=by
  unfold ba3 at hz
  rw[hi] at hz
  simp only at hz
  cases hzz:i.zero with
  | none=>rw[hzz] at hz; cases hz
  | some zr=>
   rw[hzz] at hz
   have:=(ce8 (ρ:=ρ) (w:=w) hz).1
   exact ⟨zr,rfl,by rw[← this]; exact hzl⟩
 obtain ⟨zr,hzr,hzs⟩:=hzero
 obtain ⟨r,ρ',w',hrun,hsim,hvr,hx1,hnb⟩:=gk6 (P:=P) (ty:=o'.type) hu ⟨_,hxu,fun k hk=>by cases hk⟩ hi hzr rfl hzs hb h (aa4 (a:=a) hs' hs hf) (aa4 (a:=a) hx hs hf) hs hno hlt hn
 refine ⟨.value r,r,ρ',w',?_,.inl rfl,hsim,hvr,hx1,hnb⟩
 unfold execOp
 rw[ho',ho]
 simp[resolve,invoke,builtin,hrun]
theorem dq3 {sz:Nat}{x y:IV}(h:aj1 σ sz x y=some σ'):σ'.next=σ.next:=by
 unfold aj1 at h
 split at h
 ·split at h
  ·split at h
   ·cases h; rfl
   ·cases h
  ·split at h
   ·cases h; rfl
   ·cases h
  ·cases h
 ·cases h
theorem ca4 {tag:Nat}{x k v:IV}(h:an9 σ tag x k v=some σ'):σ'.next=σ.next:=by
 unfold an9 at h
 split at h
 ·split at h
  ·obtain ⟨es',_,rfl⟩:=map_some h; rfl
  ·cases h
 ·cases h
theorem fb9 {id esz:Nat}{s x v:IV}(h:ax4 σ id esz s x=some (v,σ')):σ'.next=σ.next:=by
 unfold ax4 at h
 split at h
 ·cases h
 ·split at h
  ·cases h
  ·split at h
   ·split at h
    ·cases h; rfl
    ·split at h
     ·cases h; rfl
     ·cases h
   ·split at h
    ·cases h; rfl
    ·split at h
     ·cases h; rfl
     ·cases h
   ·split at h
    ·cases h; rfl
    ·cases h
   ·split at h
    ·split at h
     ·cases h; rfl
     ·split at h
      ·cases h; rfl
      ·cases h
    ·cases h
   ·split at h
    ·split at h
     ·cases h; rfl
     ·split at h
      ·cases h; rfl
      ·cases h
    ·cases h
   ·cases h
theorem fc1 {k:IK}{id n0:Nat}{K:IV→Store→Prop}{o:Oper}{next:Act→World→Prop}{Q:Exit→Act→World→Prop}{ro:Option Nat}
  {fz:Bool} (hk:fb6 P pf fz o.op=some k) (h:opR P E k id fr σ K) (hs:Sim E ρ w σ) (hf:FR ρ w N fr a.tmps) (hn0:n0≤σ.next) (hid:k.lays=true→ρ id=.no∧id<σ.next∧n0≤id)
  (hn:∀ v σ' r ρ' w',σ.next≤σ'.next→K v σ'→Sim E ρ' w' σ'→VR ρ' w' v r→Ext n0 ρ w ρ' w'→(∀ i,i<σ.next→(k.lays=true→i≠id)→ρ i=.no→ρ' i=.no)→next (a.put o.dst r) w'):o.wpIn (fw ro) 0 P a w next Q:=by
 have hdf:=dq1 hk
 have acts:∀ {v:IV} {σ':Store} {id' n':Nat},σ'.next=σ.next→bm1 P E id' n' ρ w a o.op v σ'→n0≤n'→(k.lays=true→id'=id)→(k.lays=false→σ.next≤id')→K v σ'→o.wpIn (fw ro) 0 P a w next Q:=by
  intro v σ' id' n' hnx hact hn1 hl1 hl2 hK
  obtain ⟨x,r,ρ',w',hrun,hx,hs',hv',he,hnb⟩:=hact o rfl
  have hno':∀ i,i<σ.next→(k.lays=true→i≠id)→ρ i=.no→ρ' i=.no:=by
   intro i hi hl h0
   refine hnb i (fun e=>?_) h0
   cases hk':k.lays with
   | true=>exact hl hk' (by rw[e,hl1 hk'])
   | false=>have:=hl2 hk'; omega
  refine ⟨fun f _=>trivial,?_⟩
  rw[Oper.semAt_eq _ _ _ hdf,hrun]
  rcases hx with rfl|⟨rfl,rfl⟩
  ·exact hn v σ' r ρ' w' (by omega) hK hs' hv' (he.le hn1) hno'
  ·exact hn v σ' undef ρ' w' (by omega) hK hs' hv' (he.le hn1) hno'
 have quiet:∀ q,fr7 P o.op=some q→k=.q q→o.wpIn (fw ro) 0 P a w next Q:=by
  intro q hq hkq
  subst hkq
  obtain ⟨v,hv,hK⟩:=h
  obtain ⟨r,hrun,hvr⟩:=ez4 hq hv hs hf o rfl
  refine ⟨fun f _=>trivial,?_⟩
  rw[Oper.semAt_eq _ _ _ hdf,hrun]
  exact hn v σ r ρ w (Nat.le_refl _) hK hs hvr (Ext.refl _ _ _) (fun i _ _ h0=>h0)
 unfold fb6 at hk
 split at hk
 ·rename_i t heq
  obtain ⟨z,hz,rfl⟩:=map_some hk
  obtain ⟨h1,h2,h3⟩:=hid rfl
  refine acts (id':=id) (n':=n0) (σ':=σ.put id (.cells z)) rfl ?_ (Nat.le_refl _) (fun _=>rfl) (fun h=>by cases h) h
  rw[heq]
  exact eg8 hz hs h1 h2 h3
 ·rename_i t x heq
  obtain ⟨y,hy,he⟩:=map_some hk
  cases fz with
  | true=>
   simp only[if_true] at he
   subst he
   refine acts (id':=σ.next) (n':=n0) (σ':=σ) rfl ?_ (Nat.le_refl _) (fun h=>by cases h) (fun _=>Nat.le_refl _) h.2
   rw[heq]
   exact ez9 hy h.1 hs hf hn0
  | false=>
   simp only[Bool.false_eq_true,if_false] at he
   subst he
   obtain ⟨h1,h2,h3⟩:=hid rfl
   refine acts (id':=id) (n':=n0) (σ':=σ.put id (.cells (y.ev E fr).cs)) rfl ?_ (Nat.le_refl _) (fun _=>rfl) (fun h=>by cases h) h.2
   rw[heq]
   exact dx4 hy h.1 hs hf h1 h2 h3
 ·rename_i t n parts heq
  split at hk
  ·rename_i e hu
   split at hk
   ·rename_i esz z hsz hz
    split at hk
    ·rename_i ps hp
     split at hk
     ·rename_i hc
      cases fz with
      | true=>
       simp only[if_true] at hk
       cases hk
       obtain ⟨out,ho1,ho2⟩:=h
       refine acts (id':=σ.next) (n':=n0) (σ':=σ) rfl ?_ (Nat.le_refl _) (fun h=>by cases h) (fun _=>Nat.le_refl _) ho2
       rw[heq]
       exact fa8 hu hsz hc.1 hz hc.2.1 hc.2.2 hp ho1 hs hf hn0
      | false=>
      simp only[Bool.false_eq_true,if_false] at hk
      cases hk
      obtain ⟨h1,h2,h3⟩:=hid rfl
      obtain ⟨out,ho1,ho2⟩:=h
      refine acts (id':=id) (n':=n0) (σ':=σ.put id (.row out)) rfl ?_ (Nat.le_refl _) (fun _=>rfl) (fun h=>by cases h) ho2
      rw[heq]
      exact dx5 hu hsz hc.1 hz hc.2.1 hc.2.2 hp ho1 hs hf h1 h2 h3
     ·cases hk
    ·cases hk
   ·cases hk
  ·cases hk
 ·rename_i t x y heq
  split at hk
  ·rename_i sz ia ib hsz hx hy
   cases hk
   obtain ⟨σ',ho1,ho2⟩:=h
   refine acts (id':=σ.next) (n':=n0) (σ':=σ') (dq3 ho1) ?_ (Nat.le_refl _) (fun h=>by cases h) (fun _=>Nat.le_refl _) ho2
   rw[heq]
   exact eg9 hsz hx hy ho1 hs hf
  ·cases hk
 ·rename_i t x heq
  split at hk
  ·rename_i hu
   obtain ⟨y,hy,rfl⟩:=map_some hk
   obtain ⟨h1,h2,h3⟩:=hid rfl
   obtain ⟨s,hs1,hs2⟩:=h
   refine acts (id':=id) (n':=n0) (σ':=σ.put id (.siter s 0)) rfl ?_ (Nat.le_refl _) (fun _=>rfl) (fun h=>by cases h) hs2
   rw[heq]
   exact dp3 hu hy hs1 hs hf h1 h2 h3
  ·rename_i kt et hu
   obtain ⟨y,hy,rfl⟩:=map_some hk
   obtain ⟨h1,h2,h3⟩:=hid rfl
   obtain ⟨es,hs1,hs2⟩:=h
   refine acts (id':=id) (n':=n0) (σ':=σ.put id (.miter es none)) rfl ?_ (Nat.le_refl _) (fun _=>rfl) (fun h=>by cases h) hs2
   rw[heq]
   exact dp5 hu hy hs1 hs hf h1 h2 h3
  ·cases hk
 ·rename_i x heq
  obtain ⟨y,hy,rfl⟩:=map_some hk
  obtain ⟨⟨v,σ'⟩,ho1,ho2⟩:=h
  refine acts (id':=σ.next) (n':=n0) (σ':=σ') (dp4 ho1) ?_ (Nat.le_refl _) (fun h=>by cases h) (fun _=>Nat.le_refl _) ho2
  rw[heq]
  exact eh3 hy ho1 hs hf
 ·rename_i x heq
  obtain ⟨y,hy,rfl⟩:=map_some hk
  obtain ⟨i,left,ho1,ho2,ho3⟩:=h
  rcases eh4 (n:=n0) (id0:=σ.next) (a:=a) hy ho1 hs hf with ⟨he,hact⟩|⟨j,hj,hact⟩
  ·refine acts (id':=σ.next) (n':=n0) (σ':=σ) rfl ?_ (Nat.le_refl _) (fun h=>by cases h) (fun _=>Nat.le_refl _) (ho2 he)
   rw[heq]; exact hact
  ·refine acts (id':=σ.next) (n':=n0) (σ':=σ.put i (.miter (left.eraseIdx j) (some (left.getD j (.undef,.undef))))) rfl ?_ (Nat.le_refl _) (fun h=>by cases h) (fun _=>Nat.le_refl _) (ho3 j hj)
   rw[heq]; exact hact
 ·rename_i x heq
  obtain ⟨y,hy,rfl⟩:=map_some hk
  obtain ⟨v,ho1,ho2⟩:=h
  refine acts (id':=σ.next) (n':=n0) (σ':=σ) rfl ?_ (Nat.le_refl _) (fun h=>by cases h) (fun _=>Nat.le_refl _) ho2
  rw[heq]
  exact fa9 hy ho1 hs hf
 ·rename_i t heq
  cases hk
  obtain ⟨h1,h2,h3⟩:=hid rfl
  refine acts (id':=id) (n':=n0) (σ':=σ.put id (.map [])) rfl ?_ (Nat.le_refl _) (fun _=>rfl) (fun h=>by cases h) h
  rw[heq]
  exact eh1 hs h1 h2 h3
 ·rename_i t x k v heq
  split at hk
  ·rename_i kt et hu
   split at hk
   ·rename_i tag ia ib ic ht hx hk' hv
    cases hk
    obtain ⟨σ',ho1,ho2⟩:=h
    refine acts (id':=σ.next) (n':=n0) (σ':=σ') (ca4 ho1) ?_ (Nat.le_refl _) (fun h=>by cases h) (fun _=>Nat.le_refl _) ho2
    rw[heq]
    exact cf4 hu ht hx hk' hv ho1 hs hf
   ·cases hk
  ·cases hk
 ·rename_i t x y heq
  split at hk
  ·rename_i e hu
   split at hk
   ·rename_i i z ia hi hz hx
    split at hk
    ·rename_i hc
     have plain:k=.mksl i.size z ia→o.wpIn (fw ro) 0 P a w next Q:=by
      intro e
      subst e
      obtain ⟨h1,h2,h3⟩:=hid rfl
      obtain ⟨len,ho1,ho2⟩:=h
      refine acts (id':=id) (n':=n0) (σ':=σ.put id (.row (rep z len))) rfl ?_ (Nat.le_refl _) (fun _=>rfl) (fun h=>by cases h) ho2
      rw[heq]
      exact df8 hu hi hz hc.1 hc.2.1 hc.2.2.1 hx hc.2.2.2 ho1 hs hf h1 h2 h3
     replace hk:=Option.some.inj hk
     split at hk
     ·rename_i m
      split at hk
      ·rename_i hm
       subst hk
       obtain ⟨out,ho1,ho2⟩:=h
       have he:out=rep z m.toNat:=by simp only[List.map_nil,an8] at ho1; exact (Option.some.inj ho1).symm
       subst he
       refine acts (id':=σ.next) (n':=n0) (σ':=σ) rfl ?_ (Nat.le_refl _) (fun h=>by cases h) (fun _=>Nat.le_refl _) ho2
       rw[heq]
       exact eh6 hu hi hz hc.1 hc.2.1 hc.2.2.1 hx hc.2.2.2 (by simp only[IX.ev,cy4]; rw[if_pos (by omega)]) hs hf hn0
      ·exact plain hk.symm
     ·exact plain hk.symm
    ·cases hk
   ·cases hk
  ·cases hk
 ·rename_i t x k v heq
  split at hk
  ·rename_i kt et hu
   split at hk
   ·rename_i tag ia ib ic ht hx hk' hv
    cases hk
    obtain ⟨σ',ho1,ho2⟩:=h
    refine acts (id':=σ.next) (n':=n0) (σ':=σ') (ca4 ho1) ?_ (Nat.le_refl _) (fun h=>by cases h) (fun _=>Nat.le_refl _) ho2
    rw[heq]
    exact dp7 (cf4 hu ht hx hk' hv ho1 hs hf)
   ·cases hk
  ·cases hk
 ·rename_i args argTypes heq
  split at hk
  ·rename_i x t ha ht
   split at hk
   ·rename_i e hu
    split at hk
    ·rename_i sz z ia hsz hz hx
     split at hk
     ·rename_i hc
      cases hk
      obtain ⟨σ',ho1,ho3,ho2⟩:=h
      refine acts (id':=σ.next) (n':=n0) (σ':=σ') ho3 ?_ (Nat.le_refl _) (fun h=>by cases h) (fun _=>Nat.le_refl _) ho2
      rw[heq]
      obtain ⟨al⟩:=args
      obtain ⟨tl⟩:=argTypes
      simp only at ha ht
      subst ha; subst ht
      exact fs7 hu hsz hz hc.1 hc.2 hx ho1 hs hf
     ·cases hk
    ·cases hk
   ·cases hk
  ·cases hk
 ·rename_i args argTypes heq
  split at hk
  ·rename_i s x t xt ha ht
   split at hk
   ·rename_i e xe hu hxu
    split at hk
    ·rename_i i z ia ib hi hz hsx hxx
     split at hk
     ·rename_i hc
      replace hk:=Option.some.inj hk
      by_cases hfz:fz=true
      ·rw[if_pos hfz] at hk
       subst hk
       obtain ⟨h1,h2,h3⟩:=hid rfl
       obtain ⟨⟨v,σ'⟩,ho1,ho2⟩:=h
       exact acts (id':=id) (n':=n0) (σ':=σ') (cc8 ho1) (ft3 heq ha ht hu hxu hi hsx hxx ho1 hs hf) (Nat.le_refl _) (fun _=>rfl) (fun h=>by cases h) ho2
      rw[if_neg hfz] at hk
      subst hk
      obtain ⟨h1,h2,h3⟩:=hid rfl
      obtain ⟨⟨v,σ'⟩,ho1,ho2⟩:=h
      exact acts (id':=id) (n':=n0) (σ':=σ') (fb9 ho1) (ft5 heq ha ht hu hxu hi hz hsx hxx hc.1 hc.2 ho1 hs hf h1 h2 h3) (Nat.le_refl _) (fun _=>rfl) (fun h=>by cases h) ho2
     ·cases hk
    ·cases hk
   ·cases hk
  ·cases hk
 ·rename_i f args argTypes heq
  split at hk
  ·rename_i xs hxs
   split at hk
   ·rename_i hok
    split at hk
    ·cases hk
     obtain ⟨v,hpc,hK⟩:=h
     exact dq2 hdf (dg1 heq hok) (hpc σ) (fun v' σ' ⟨h1,h2⟩=>by subst h1; subst h2; exact ⟨Nat.le_refl _,hK⟩) hs (CR.map hxs hs hf) hn0 (fun v σ' r ρ' w' h1 h2 h3 h4 h5 h6=>hn v σ' r ρ' w' h1 h2 h3 h4 h5 (fun i hi _ h0=>h6 i hi h0))
    cases hk
    obtain ⟨Qc,hc,hK⟩:=h
    exact dq2 hdf (dg1 heq hok) hc hK hs (CR.map hxs hs hf) hn0 (fun v σ' r ρ' w' h1 h2 h3 h4 h5 h6=>hn v σ' r ρ' w' h1 h2 h3 h4 h5 (fun i hi _ h0=>h6 i hi h0))
   ·obtain ⟨q,hq,rfl⟩:=map_some hk
    exact quiet q hq rfl
  ·cases hk
 ·rename_i t args argTypes heq
  split at hk
  ·rename_i xs hxs
   cases hk
   obtain ⟨Qc,hc,hK⟩:=h
   have vt:VR ρ w (fr.get t) (a.eval (.tmp t)):=hf.get t
   have hca:=CR.map (a:=a) hxs hs hf
   simp only[IX.ev] at hc
   generalize hfv:fr.get t=fv at hc vt
   generalize hrv:a.eval (.tmp t)=rv at vt
   cases vt with
   | func fn first cap rf rc hy l1 l2 v1 v2=>
    cases fn with
    | func f=>
     obtain ⟨hok,hc⟩:=hc
     have hrun:=fb8 (P:=P) (w:=w) heq hrv hok
     refine dq2 hdf hrun hc hK hs ?_ hn0 (fun v σ' r ρ' w' h1 h2 h3 h4 h5 h6=>hn v σ' r ρ' w' h1 h2 h3 h4 h5 (fun i hi _ h0=>h6 i hi h0))
     exact ((CR.append ⟨l1,v1⟩ hca).append ⟨l2,v2⟩)
    | _=>exact hc.elim
   | yield id' B d hid'=>
    obtain ⟨fn,tmps,assign,body,hy,hr⟩:=hc.2 ρ w (args.map a.eval) B d hs hca hid'
    refine ⟨fun f _=>trivial,?_⟩
    have hrun:(execOp a.eval o).run P w=.ok (.round B fn tmps assign body) w:=by
     unfold execOp
     rw[heq]
     simp only[resolve,hrv,Deferred.ofValue,Sem.run_bind,Sem.run_pure,Result.andThen_ok,invoke]
     simpa using hy
    rw[Oper.semAt_eq _ _ _ hdf,hrun,Oper.uponIn_round]
    refine ⟨(fun h=>by cases h),?_⟩
    refine RoundIn.mono (F:=fw ro) (n:=0) hr ?_
    rintro e w'' ⟨v,r,ρ',σ',rfl,q,hs',hv',hx⟩
    obtain ⟨h1,h2⟩:=hK v σ' q
    exact hn v σ' r ρ' w'' h1 h2 hs' hv' ((hx.ext hs.fresh).le hn0) (fun i hi _ h0=>hx.no i hi h0)
   | yieldD id' B hid'=>
    have:=hs.dead id' hid'
    have:=hc.1
    simp_all
   | _=>exact hc.elim
  ·cases hk
 ·rename_i args argTypes heq
  split at hk
  ·rename_i x k t ha ht
   split at hk
   ·rename_i kt et hu
    split at hk
    ·rename_i tag ia ib hkt hx hk'
     cases hk
     obtain ⟨h1,h2,h3⟩:=hid rfl
     obtain ⟨⟨v,σ'⟩,ho1,ho2⟩:=h
     refine acts (id':=id) (n':=n0) (σ':=σ') (cc8 ho1) ?_ (Nat.le_refl _) (fun _=>rfl) (fun h=>by cases h) ho2
     rw[heq]
     obtain ⟨al⟩:=args
     simp only at ha
     subst ha
     exact fb2 ht hu hkt hx hk' ho1 hs hf
    ·cases hk
   ·cases hk
  ·cases hk
 ·rename_i args argTypes heq
  split at hk
  ·rename_i x y t ha ht
   split at hk
   ·rename_i e hu
    split at hk
    ·rename_i n ia ib hsz hx hy
     cases hk
     obtain ⟨h1,h2,h3⟩:=hid rfl
     obtain ⟨⟨v,σ'⟩,ho1,ho2⟩:=h
     refine acts (id':=id) (n':=n0) (σ':=σ') (cc8 ho1) ?_ (Nat.le_refl _) (fun _=>rfl) (fun h=>by cases h) ho2
     rw[heq]
     obtain ⟨al⟩:=args
     simp only at ha
     subst ha
     exact fs8 ht hu hsz hx hy ho1 hs hf
    ·cases hk
   ·cases hk
  ·cases hk
 ·obtain ⟨q,hq,rfl⟩:=map_some hk
  exact quiet q hq rfl
 ·rename_i t x lo oh om _ heq
  split at hk
  ·rename_i e hu
   split at hk
   ·rename_i n ia il ib ic hsz hx hl hh hm
    replace hk:=Option.some.inj hk
    by_cases hcl:fz=false
    ·rw[if_pos hcl] at hk
     subst hk
     obtain ⟨v,hv',ho2⟩:=h
     refine acts (id':=σ.next) (n':=n0) (σ':=σ) rfl ?_ (Nat.le_refl _) (fun h=>by cases h) (fun _=>Nat.le_refl _) ho2
     rw[heq]
     have hlo:(lo=none∧il=.c (.int .i64 0))∨∃ o,lo=some o∧ad8 o=some il:=by
      cases lo with
      | none=>cases hl; exact .inl ⟨rfl,rfl⟩
      | some o=>exact .inr ⟨o,rfl,hl⟩
     exact ft1 hu hsz hx hlo hh hm hv' hs hf
    rw[if_neg hcl] at hk
    subst hk
    obtain ⟨h1,h2,h3⟩:=hid rfl
    obtain ⟨⟨v,σ'⟩,ho1,ho2⟩:=h
    refine acts (id':=id) (n':=n0) (σ':=σ') (cc8 ho1) ?_ (Nat.le_refl _) (fun _=>rfl) (fun h=>by cases h) ho2
    rw[heq]
    have hlo:(lo=none∧il=.c (.int .i64 0))∨∃ o,lo=some o∧ad8 o=some il:=by
     cases lo with
     | none=>cases hl; exact .inl ⟨rfl,rfl⟩
     | some o=>exact .inr ⟨o,rfl,hl⟩
    exact fs9 hu hsz hx hlo hh hm ho1 hs hf h1 h2 h3
   ·cases hk
  ·cases hk
 ·rename_i t x oh heq
  split at hk
  ·rename_i e hu
   split at hk
   ·rename_i n ia ib hsz hx hh
    cases hk
    obtain ⟨h1,h2,h3⟩:=hid rfl
    obtain ⟨⟨v,σ'⟩,ho1,ho2⟩:=h
    obtain ⟨u,hu1,hu2⟩:=map_some ho1
    cases hu2
    refine acts (id':=id) (n':=n0) (σ':=σ) rfl ?_ (Nat.le_refl _) (fun _=>rfl) (fun h=>by cases h) ho2
    rw[heq]
    exact ft2 hu hsz hx hh hu1 hs hf
   ·cases hk
  ·obtain ⟨q,hq,rfl⟩:=map_some hk
   exact quiet q hq rfl
 ·rename_i t x heq
  split at hk
  ·rename_i agg ia hq
   cases hk
   obtain ⟨v,hv,hK⟩:=h
   have hv':evq E fr σ (.load agg ia)=some v:=by
    cases fz with
    | true=>exact fr6 hv σ
    | false=>exact hv
   obtain ⟨r,hrun,hvr⟩:=ez4 hq hv' hs hf o heq
   refine ⟨fun f _=>trivial,?_⟩
   rw[Oper.semAt_eq _ _ _ hdf,hrun]
   exact hn v σ r ρ w (Nat.le_refl _) hK hs hvr (Ext.refl _ _ _) (fun i _ _ h0=>h0)
  ·cases hk
 ·rename_i op heq _ _ _ _ _ _ _
  obtain ⟨q,hq,rfl⟩:=map_some hk
  exact quiet q hq rfl
theorem cy8 {k:IK}{id n0:Nat}{K:IV→Store→Prop}{o:Oper}{next:Act→World→Prop}{Q:Exit→Act→World→Prop}{ro:Option Nat}
  {fz:Bool} (hk:gy5 P pf fz o.op=some k) (h:opR P E k id fr σ K) (hs:Sim E ρ w σ) (hf:FR ρ w N fr a.tmps) (hn0:n0≤σ.next) (hid:k.lays=true→ρ id=.no∧id<σ.next∧n0≤id)
  (hn:∀ v σ' r ρ' w',σ.next≤σ'.next→K v σ'→Sim E ρ' w' σ'→VR ρ' w' v r→Ext n0 ρ w ρ' w'→(∀ i,i<σ.next→(k.lays=true→i≠id)→ρ i=.no→ρ' i=.no)→next (a.put o.dst r) w'):o.wpIn (fw ro) 0 P a w next Q:=by
 unfold gy5 at hk
 split at hk
 ·rename_i k' hk'
  cases hk
  exact fc1 hk' h hs hf hn0 hid hn
 ·split at hk
  ·cases hk
  ·cases hk
   obtain ⟨r,hr,_⟩:=h
   cases hr
end Go.Id
/- Regions in the text's order. Conditions: none; over any program. -/
namespace Go.Id
open Go
variable {P:Program} {w w' w'':World} {ρ ρ' ρ'':Rho} {E:Nat→IV} {σ σ':Store} {N n n':Nat} {fr:Frm} {a:Act} {pf:List Nat}
theorem dg2 {ops:Array Oper}{o:Oper}{j s:Nat}{want b:Bool}(hg:o.guard=some (j,want))(hs:(ops[j]?).bind (·.dst)=some s)(hf:FR ρ w N fr a.tmps)(hb:fr.get s=.bool b) :
  Region.wanted o (yielded ops a.tmps)=decide (b=want):=by
 have hv:=hf.get s
 rw[hb] at hv
 have ht:a.tmps[s]? = some (.bool b):=by
  generalize hr:a.tmps.getD s undef=r at hv
  cases hv
  rw[Array.getD_eq_getD_getElem?] at hr
  cases he:a.tmps[s]? with
  | none=>rw[he] at hr; simp[undef] at hr
  | some v=>rw[he] at hr; simp at hr; rw[hr]
 have hy:yielded ops a.tmps j=some b:=by
  unfold yielded
  rw[hs]
  simp[ht]
 unfold Region.wanted
 rw[hg]
 simp only[hy]
 cases b<;>cases want<;>rfl
theorem fc2 {ρ:Rho}{w:World}:VR ρ w skV undef:=.tuple [] #[] rfl fun i hi=>absurd hi (Nat.not_lt_zero _)
theorem bm8 {ops:Array Oper}{o:Oper}{j s:Nat}{want act:Bool}(hg:o.guard=some (j,want))(hs:(ops[j]?).bind (·.dst)=some s)(hf:FR ρ w N fr a.tmps)(ha:ft4 (fr.get s) want=some act) :
  Region.wanted o (yielded ops a.tmps)=act:=by
 unfold ft4 at ha
 split at ha
 ·rename_i b hb
  cases ha
  exact dg2 hg hs hf hb
 ·rename_i hb
  cases ha
  have hv:=hf.get s
  rw[hb] at hv
  have hy:yielded ops a.tmps j=none:=by
   unfold yielded
   rw[hs]
   generalize hr:a.tmps.getD s undef=r at hv
   cases hv with
   | tuple _ rs hl _=>
    rw[Array.getD_eq_getD_getElem?] at hr
    cases he:a.tmps[s]? with
    | none=>simp[he]
    | some v=>rw[he] at hr; simp at hr; simp[he,hr]
  unfold Region.wanted
  rw[hg]
  simp[hy]
 ·cases ha
theorem put_defers (a:Act)(d:Option Tmp)(v:Value):(a.put d v).defers=a.defers:=by cases d<;>rfl
theorem br6 (o:IOper)(os:List IOper):bm7 (o::os)=(if o.op.lays then 1 else 0)+bm7 os:=by
 unfold bm7
 rw[List.filter_cons]
 split<;>simp_all
 omega
theorem bj7 {ops:Array Oper}{o:Oper}{io:IOper}(h:br5 P pf N ops o=some io):(∃ fz,gy5 P pf fz o.op=some io.op)∧io.dst=o.dst∧fb7 N o.dst=true ∧
  (o.guard=none∧io.guard=none∨∃ j want s,o.guard=some (j,want)∧(ops[j]?).bind (·.dst)=some s∧io.guard=some (s,want)):=by
 unfold br5 at h
 cases hk:gy5 P pf (o.dst.any fun t=>pf.contains (1000000+t)) o.op with
 | none=>rw[hk] at h; cases h
 | some k=>
  rw[hk] at h
  simp only at h
  by_cases hd:fb7 N o.dst=true
  ·rw[if_pos hd] at h
   cases hg:o.guard with
   | none=>rw[hg] at h; cases h; exact ⟨⟨_,hk⟩,rfl,hd,.inl ⟨rfl,rfl⟩⟩
   | some p=>
    obtain ⟨j,want⟩:=p
    rw[hg] at h
    simp only at h
    cases hs:(ops[j]?).bind (·.dst) with
    | none=>rw[hs] at h; cases h
    | some s=>rw[hs] at h; cases h; exact ⟨⟨_,hk⟩,rfl,hd,.inr ⟨j,want,s,rfl,hs,rfl⟩⟩
  ·rw[if_neg hd] at h; cases h
theorem fc3 {ops:Array Oper}{n0:Nat}{ro:Option Nat}{Qw:Exit→Act→World→Prop}{K:Frm→Store→Prop}{ρ0:Rho}{w0:World}{ds:List Deferred}
  (hfin:∀ fr σ ρ w a,n0≤σ.next→K fr σ→Sim E ρ w σ→FR ρ w N fr a.tmps→a.defers=ds→ExtW n0 ρ0 w0 ρ w→Qw .normal a w) :
  ∀ (os:List Oper) (ios:List IOper) (i id:Nat) (fr:Frm) (σ:Store) (ρ:Rho) (w:World) (a:Act),ops.toList.drop i=os→ba7 P pf N ops os=some ios→bm6 P E ios id fr σ K →
   Sim E ρ w σ→FR ρ w N fr a.tmps→a.defers=ds→ExtW n0 ρ0 w0 ρ w→n0≤id→(∀ k,id≤k→k<id+bm7 ios→ρ k=.no)→id+bm7 ios≤σ.next →
   wpOpsIn (fw ro) 0 P ops Qw (List.range' i os.length) a w:=by
 intro os
 induction os with
 | nil=>
  intro ios i id fr σ ρ w a _ hc h hs hf hd hx hn0 hres hle
  cases hc
  exact hfin fr σ ρ w a (by simp[bm7] at hle; omega) h hs hf hd hx
 | cons o os ih=>
  intro ios i id fr σ ρ w a hdrop hc h hs hf hd hx hn0 hres hle
  simp only[ba7] at hc
  split at hc
  ·rename_i io ios' hio hios
   cases hc
   obtain ⟨⟨fz,hk⟩,hdst,hdN,hg⟩:=bj7 hio
   have hi:ops[i]? = some o:=by
    have:=congrArg (fun l=>l[0]?) hdrop
    simpa [List.getElem?_drop] using this
   have hdrop':ops.toList.drop (i+1)=os:=by
    have:=congrArg (List.drop 1) hdrop
    simpa [List.drop_drop] using this
   simp only[List.length_cons,List.range'_succ]
   rw[wpOpsIn_cons]
   have run:opR P E io.op id fr σ (fun v σ'=>bm6 P E ios' (if io.op.lays then id+1 else id) (fr.setd io.dst v) σ' K)→o.wpIn (fw ro) 0 P a w (wpOpsIn (fw ro) 0 P ops Qw (List.range' (i+1) os.length)) Qw:=by
    intro hop
    have hlN:=br6 io ios'
    refine cy8 hk hop hs hf (by omega) (fun hl=>⟨hres id (Nat.le_refl _) (by rw[hlN,hl]; simp; omega),by rw[hlN,hl] at hle; simp at hle; omega,hn0⟩) ?_
    intro v σ' r ρ' w' hnx hK hs' hv' hx' hno
    refine ih ios' (i+1) _ _ σ' ρ' w' (a.put o.dst r) hdrop' hios hK hs' ?_ (by rw[put_defers]; exact hd) (hx.trans (hx'.weak (Nat.le_refl _))) (by split<;>omega) ?_ ?_
    ·rw[hdst]
     exact FR.setd (hf.mono hx') hdN hv'
    ·intro k hk1 hk2
     have hk3:id≤k:=by split at hk1<;>omega
     have hk4:k<id+bm7 (io::ios'):=by
      rw[hlN]
      cases hl:io.op.lays<;>rw[hl] at hk2<;>simp at hk2 ⊢<;>omega
     exact hno k (by omega) (fun hl=>by rw[hl] at hk1; simp at hk1; omega) (hres k hk3 hk4)
    ·rw[hlN] at hle; split<;>simp_all<;>omega
   unfold wpOpIn
   simp only[hi]
   simp only[bm6] at h
   obtain ⟨act,hact,h⟩:=h
   have skip:bm6 P E ios' (if io.op.lays then id+1 else id) (fr.setd io.dst skV) σ K→(∀ f,o.about P w a.eval=some f→(fw ro).fn f)∧wpOpsIn (fw ro) 0 P ops Qw (List.range' (i+1) os.length) (a.put o.dst undef) w:=by
    intro h
    refine ⟨fun f _=>trivial,?_⟩
    have hlN:=br6 io ios'
    refine ih ios' (i+1) _ _ σ ρ w (a.put o.dst undef) hdrop' hios h hs (by rw[hdst]; exact FR.setd hf hdN fc2) (by rw[put_defers]; exact hd) hx (by split<;>omega) ?_ ?_
    ·intro k hk1 hk2
     refine hres k (by split at hk1<;>omega) ?_
     rw[hlN]
     cases hl:io.op.lays<;>rw[hl] at hk2<;>simp at hk2 ⊢<;>omega
    ·rw[hlN] at hle; split<;>simp_all<;>omega
   have hw:Region.wanted o (yielded ops a.tmps)=act:=by
    rcases hg with ⟨hg1,hg2⟩|⟨j,want,s,hg1,hgs,hg2⟩
    ·simp only[av2,hg2,Option.some.injEq] at hact
     unfold Region.wanted; rw[hg1]; exact hact
    ·simp only[av2,hg2] at hact
     exact bm8 hg1 hgs hf hact
   rw[hw]
   cases act with
   | true=>exact run h
   | false=>exact skip h
  ·cases hc
end Go.Id
