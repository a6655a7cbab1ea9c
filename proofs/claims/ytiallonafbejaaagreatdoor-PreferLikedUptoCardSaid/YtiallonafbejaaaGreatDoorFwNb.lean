/- Regions whose order is open: the check,and the rule. Conditions: none; over any program. -/
import Derived.Test.YtiallonafbejaaaGreatDoorFwM
set_option linter.all false
namespace Go.Id
open Go
variable {P:Program} {w w' w'':World} {ρ ρ' ρ'':Rho} {E:Nat→IV} {σ σ':Store} {N n n':Nat} {fr:Frm} {a:Act} {pf:List Nat}
def dy3 (base:Nat):Nat→List IOper→List Item
 | _,[]=>[]
 | i,o::os=>(i,o,base+i)::dy3 base (i+1) os
def ae8 (o:Oper):List Nat:=(o.after.toList.filter (Region.binds .any)).map (·.on)
def orF (ms:List Nat)(es:List Nat):Nat:=es.foldl (fun s e=>s ||| (2^e ||| ms.getD e 0)) 0
def fd7 (ess:List (List Nat)):List Nat:=ess.foldl (fun acc es=>acc++[orF acc es]) []
def dy4 (p x:IOper):Bool :=
 (match x.dst with|none=>true|some d=>!p.uses.contains d&&p.dst != some d)&&(match p.dst with|none=>true|some d=>!x.uses.contains d)
def dy5 (B:Bool)(ms:List Nat)(i:Nat)(p:IOper):Nat→List IOper→Bool
 | _,[]=>true
 | j,x::xs=>((ms.getD j 0).testBit i||(cf8 B p.op.kind x.op.kind&&dy4 p x))&&dy5 B ms i p (j+1) xs
def cz4 (B:Bool)(ms:List Nat):Nat→List IOper→Bool
 | _,[]=>true
 | i,o::os=>dy5 B ms i o (i+1) os&&cz4 B ms (i+1) os
def gz4:Nat→List (List Nat)→Bool
 | _,[]=>true
 | j,es::r=>es.all (fun e=>decide (e<j))&&gz4 (j+1) r
def gz5 (ms:List Nat):Nat→List (List Nat)→Bool
 | _,[]=>true
 | j,es::r=>ms.getD j 0==orF ms es&&gz5 ms (j+1) r
def ht7 (ess:List (List Nat))(ios:List IOper)(B:Bool):Bool :=
 let ms:=fd7 ess
 gz4 0 ess&&gz5 ms 0 ess&&cz4 B ms 0 ios&&ios.all fun o=>o.op.ops.all IX.quiet
def dg8 (ios:List IOper):Bool:=ios.any fun o=>o.op.kind==3
theorem fd8 {ms:List Nat}{k:Nat}:∀ (es:List Nat) (s:Nat),(es.foldl (fun s e=>s ||| (2^e ||| ms.getD e 0)) s).testBit k=true→s.testBit k=true∨∃ e∈es,e=k∨(ms.getD e 0).testBit k=true:=by
 intro es
 induction es with
 | nil=>exact fun s h=>.inl h
 | cons e es ih=>
  intro s h
  rcases ih _ h with h1|⟨e',he,h1⟩
  ·rw[Nat.testBit_or,Nat.testBit_or,Nat.testBit_two_pow] at h1
   simp only[Bool.or_eq_true,decide_eq_true_eq] at h1
   rcases h1 with h1|h1|h1
   ·exact .inl h1
   ·exact .inr ⟨e,List.mem_cons_self ..,.inl h1⟩
   ·exact .inr ⟨e,List.mem_cons_self ..,.inr h1⟩
  ·exact .inr ⟨e',List.mem_cons_of_mem _ he,h1⟩
theorem cf9 {p x:IOper}(h:dy4 p x=true):fd3 p x:=by
 unfold dy4 at h
 simp only[Bool.and_eq_true] at h
 obtain ⟨h1,h2⟩:=h
 refine ⟨fun d hd=>?_,fun d hd=>?_⟩
 ·rw[hd] at h1
  simpa using h1
 ·rw[hd] at h2
  simpa using h2
theorem fd9 {base:Nat}:∀ (ios:List IOper) (i:Nat),∀ it∈dy3 base i ios,i≤it.1:=by
 intro ios
 induction ios with
 | nil=>intro i it h; cases h
 | cons o os ih=>
  intro i it h
  rcases List.mem_cons.1 h with rfl|h
  ·exact Nat.le_refl _
  ·have:=ih _ it h; omega
theorem fu6 {base:Nat}:∀ (ios:List IOper) (i:Nat),(dy3 base i ios).length=ios.length:=by
 intro ios
 induction ios with
 | nil=>intro i; rfl
 | cons o os ih=>intro i; simp[dy3,ih]
theorem dy6 {base:Nat}:∀ (ios:List IOper) (i j:Nat),i≤j→j<i+ios.length→∃ it∈dy3 base i ios,it.1=j:=by
 intro ios
 induction ios with
 | nil=>intro i j h1 h2; simp at h2; omega
 | cons o os ih=>
  intro i j h1 h2
  by_cases h:i=j
  ·exact ⟨_,List.mem_cons_self ..,h⟩
  ·obtain ⟨it,h3,h4⟩:=ih (i+1) j (by omega) (by simp at h2; omega)
   exact ⟨it,List.mem_cons_of_mem _ h3,h4⟩
theorem fe1 {base:Nat}:∀ (ios:List IOper) (i:Nat),∀ it∈dy3 base i ios,it.2.2=base+it.1∧it.2.1∈ios:=by
 intro ios
 induction ios with
 | nil=>intro i it h; cases h
 | cons o os ih=>
  intro i it h
  rcases List.mem_cons.1 h with rfl|h
  ·exact ⟨rfl,List.mem_cons_self ..⟩
  ·obtain ⟨h1,h2⟩:=ih _ it h
   exact ⟨h1,List.mem_cons_of_mem _ h2⟩
theorem dy7 {base:Nat}{ops:Array Oper}:∀ (os:List Oper) (ios:List IOper) (i:Nat),ops.toList.drop i=os→ba7 P pf N ops os=some ios→∀ it∈dy3 base i ios,∃ o,ops[it.1]? = some o∧br5 P pf N ops o=some it.2.1:=by
 intro os
 induction os with
 | nil=>intro ios i _ hc it hit; cases hc; cases hit
 | cons o os ih=>
  intro ios i hdrop hc it hit
  simp only[ba7] at hc
  split at hc
  ·rename_i io ios' hio hios
   cases hc
   have hi:ops[i]? = some o:=by
    have:=congrArg (fun l=>l[0]?) hdrop
    simpa [List.getElem?_drop] using this
   have hdrop':ops.toList.drop (i+1)=os:=by
    have:=congrArg (List.drop 1) hdrop
    simpa [List.drop_drop] using this
   rcases List.mem_cons.1 hit with rfl|hit
   ·exact ⟨o,hi,hio⟩
   ·exact ih ios' (i+1) hdrop' hios it hit
  ·cases hc
theorem cn4 {ops:Array Oper}:∀ (os:List Oper) (ios:List IOper),ba7 P pf N ops os=some ios→ios.length=os.length:=by
 intro os
 induction os with
 | nil=>intro ios h; cases h; rfl
 | cons o os ih=>
  intro ios h
  simp only[ba7] at h
  split at h
  ·rename_i io ios' hio hios
   cases h
   simp[ih _ hios]
  ·cases h
theorem dq7 {B:Bool}{ms:List Nat}{i base:Nat}{p:IOper}:∀ (xs:List IOper) (j:Nat),dy5 B ms i p j xs=true→∀ it∈dy3 base j xs,(ms.getD it.1 0).testBit i=true∨fd4 B p it.2.1:=by
 intro xs
 induction xs with
 | nil=>intro j _ it h; cases h
 | cons x xs ih=>
  intro j h it hit
  simp only[dy5,Bool.and_eq_true,Bool.or_eq_true] at h
  rcases List.mem_cons.1 hit with rfl|hit
  ·rcases h.1 with h1|h1
   ·exact .inl h1
   ·exact .inr ⟨h1.1,cf9 h1.2⟩
  ·exact ih _ h.2 it hit
theorem ei7 {B:Bool}{ms:List Nat}{base:Nat}:∀ (xs:List IOper) (i:Nat),cz4 B ms i xs=true→(dy3 base i xs).Pairwise fun p x=>((ms.getD x.1 0).testBit p.1=true∨fd4 B p.2.1 x.2.1)∧p.1<x.1:=by
 intro xs
 induction xs with
 | nil=>intro i _; exact .nil
 | cons x xs ih=>
  intro i h
  simp only[cz4,Bool.and_eq_true] at h
  refine List.pairwise_cons.2 ⟨fun it hit=>⟨dq7 xs _ h.1 it hit,?_⟩,ih _ h.2⟩
  have:=fd9 xs _ it hit
  simp only
  omega
theorem cg1:∀ (ess:List (List Nat)) (i:Nat),gz4 i ess=true→∀ j es,ess[j]? = some es→∀ e∈es,e<i+j:=by
 intro ess
 induction ess with
 | nil=>intro i _ j es h; simp at h
 | cons x ess ih=>
  intro i h j es hj e he
  simp only[gz4,Bool.and_eq_true,List.all_eq_true,decide_eq_true_eq] at h
  cases j with
  | zero=>simp at hj; subst hj; exact h.1 e he
  | succ j=>have:=ih (i+1) h.2 j es (by simpa using hj) e he; omega
theorem dg9 {ms:List Nat}:∀ (ess:List (List Nat)) (i:Nat),gz5 ms i ess=true→∀ j es,ess[j]? = some es→ms.getD (i+j) 0=orF ms es:=by
 intro ess
 induction ess with
 | nil=>intro i _ j es h; simp at h
 | cons x ess ih=>
  intro i h j es hj
  simp only[gz5,Bool.and_eq_true,beq_iff_eq] at h
  cases j with
  | zero=>simp at hj; subst hj; exact h.1
  | succ j=>
   have:=ih (i+1) h.2 j es (by simpa using hj)
   rw[← this]; congr 1; omega
theorem fe2 {n0 id:Nat}{ops:Array Oper}{ios:List IOper}{B:Bool}{Q:Exit→Frm→Store→Prop}{ks:List Nat}(hm:P.follows .mixedOrders=true)(hc:ba7 P pf N ops ops.toList=some ios)
  (hok:ht7 (ops.toList.map ae8) ios B=true)
  (h:bj9 P E B (dy3 σ.next 0 ios) fr { σ with next:=σ.next+ios.length } (fun fr' σ'=>Q .normal (fr'.keep ks) σ')):R P E N n0 (.region id ops true) fr σ Q:=by
 intro hn ro h0 ρ w a hs hf hd hr
 refine wpIn_region_any hm ?_
 have hlen:ios.length=ops.size:=by rw[cn4 _ _ hc]; simp
 unfold ht7 at hok
 simp only[Bool.and_eq_true,List.all_eq_true] at hok
 obtain ⟨⟨⟨hed,hms⟩,hpr⟩,hq⟩:=hok
 generalize fd7 (ops.toList.map ae8)=ms at hms hpr
 have hes:∀ (j:Nat) (o:Oper),ops[j]? = some o→(ops.toList.map ae8)[j]? = some (ae8 o):=fun j o ho=>by simp[ho]
 have hme:∀ (o:Oper) (k:Nat),k∈ae8 o→∃ e∈o.after,Region.binds .any e=true∧e.on=k:=fun o k hk=>by
  unfold ae8 at hk
  obtain ⟨e,he,rfl⟩:=List.mem_map.1 hk
  obtain ⟨h1,h2⟩:=List.mem_filter.1 he
  exact ⟨e,by simpa using h1,h2,rfl⟩
 have hem:∀ (o:Oper) (e:Edge),e∈o.after→Region.binds .any e=true→e.on∈ae8 o:=fun o e he hb=>
  List.mem_map.2 ⟨e,List.mem_filter.2 ⟨by simpa using he,hb⟩,rfl⟩
 refine fd6 (E:=E) (pf:=pf) (N:=N) (B:=B) (anc:=fun k j=>(ms.getD j 0).testBit k=true) (n0:=n0) (base:=σ.next) (ρ0:=ρ) (w0:=w) (ds:=a.defers) (K:=fun fr' σ'=>Q .normal (fr'.keep ks) σ') ?_ ?_ ?_ ?_
  ops.size (dy3 σ.next 0 ios) _ fr { σ with next:=σ.next+ios.length } ρ w.drew a (by rw[fu6,hlen]) ?_ h
  (cy6 (cc7 hs) (fun i hi=>hs.fresh i (by omega))) (hf.mono (aq9 0)) rfl ((aq9 n0).weak (Nat.le_refl _)) hn (by rw[hlen]; exact Nat.le_refl _) ?_
 ·intro f f' s hff hK
  have:f'.keep ks=f.keep ks:=by
   unfold Frm.keep
   exact List.map_congr_left fun k _=>by rw[hff k]
  rw[this]; exact hK
 ·intro fr' σ' ρ' w' a' hn' hK hs' hf' hd' hx
  exact ⟨fr'.keep ks,σ',ρ',hn',hK,hs',hf'.keep ks,by rw[hd']; exact hd.mono hx,hr.mono hx,hx⟩
 ·intro j o ho e he hb
  have:=cg1 _ _ hed j _ (hes j o ho) _ (hem o e he hb)
  have hj:j<ops.size:=by
   rcases Nat.lt_or_ge j ops.size with h'|h'
   ·exact h'
   ·simp[Array.getElem?_eq_none h'] at ho
  omega
 ·intro k j hk o ho
  have:=dg9 _ _ hms j _ (hes j o ho)
  simp only[Nat.zero_add] at this
  rw[this] at hk
  rcases fd8 _ _ hk with h1|⟨e,he,h1⟩
  ·simp at h1
  ·obtain ⟨ed,hed1,hb,heq⟩:=hme o e he
   exact ⟨ed,hed1,hb,by rw[heq]; exact h1⟩
 ·refine ⟨by simp,fun j hj=>?_,fun it hit=>?_,?_,?_⟩
  ·constructor
   ·intro _
    exact dy6 ios 0 j (Nat.zero_le _) (by omega)
   ·intro _; simp[hj]
  ·obtain ⟨o,h1,h2⟩:=dy7 ops.toList ios 0 rfl hc it hit
   obtain ⟨h3,h4⟩:=fe1 ios 0 it hit
   exact ⟨o,h1,h2,h3,hq _ h4⟩
  ·refine (ei7 ios 0 hpr).imp ?_
   intro p x ⟨h1,h2⟩
   refine ⟨h1,by omega,fun o ho e he hb=>?_⟩
   have:=cg1 _ _ hed p.1 _ (hes p.1 o ho) _ (hem o e he hb)
   omega
  ·intro j hj
   exfalso
   by_cases hlt:j<ops.size
   ·simp[hlt] at hj
   ·simp[hlt] at hj
 ·intro it hit
  exact hs.fresh _ (by rw[(fe1 ios 0 it hit).1]; omega)
end Go.Id
/- Open regions whose readers are taken ahead; what was read is read again behind what may write. Conditions: none; over any program. -/
namespace Go.Id
open Go
variable {P:Program} {w w' w'':World} {ρ ρ' ρ'':Rho} {E:Nat→IV} {σ σ':Store} {N n n':Nat} {fr:Frm} {a:Act} {pf:List Nat}
def IK.cls:IK→Nat
 | .q u=>match u.kind with
  | 0=>0
  | _=>1
 | .pcall _ _|.bslt _ _ _ _|.boxt _=>0
 | _=>2
theorem cg2 {op:IK}(h:op.cls=0):op.kind=0:=by
 cases op with
 | q u=>
  simp only[IK.cls] at h
  split at h
  ·rename_i hk; exact hk
  ·cases h
 | pcall f xs=>rfl
 | bslt _ _ _ _=>rfl
 | boxt _=>rfl
 | _=>cases h
theorem gz6 {op:IK}(h:op.cls≤1):(∃ q,op=.q q)∨op.cls=0:=by
 cases op with
 | q u=>exact .inl ⟨u,rfl⟩
 | pcall f xs=>exact .inr rfl
 | bslt _ _ _ _=>exact .inr rfl
 | boxt _=>exact .inr rfl
 | _=>simp[IK.cls] at h
theorem cg3 {op:IK}{id:Nat}{K:IV→Store→Prop}(h:op.cls≤1):opR P E op id fr σ K↔∃ v,bd9 P E op id fr σ v σ∧K v σ:=by
 cases op with
 | q q=>exact ⟨fun ⟨v,h,k⟩=>⟨v,⟨h,rfl⟩,k⟩,fun ⟨v,⟨h,_⟩,k⟩=>⟨v,h,k⟩⟩
 | pcall f xs=>exact ⟨fun ⟨v,h,k⟩=>⟨v,⟨h,rfl⟩,k⟩,fun ⟨v,⟨h,_⟩,k⟩=>⟨v,h,k⟩⟩
 | bslt e n z ps=>exact ⟨fun ⟨out,h,k⟩=>⟨_,⟨out,h,rfl,rfl⟩,k⟩,fun ⟨_,⟨out,h,e1,_⟩,k⟩=>by subst e1; exact ⟨out,h,k⟩⟩
 | boxt x=>exact ⟨fun ⟨h,k⟩=>⟨_,⟨h,rfl,rfl⟩,k⟩,fun ⟨_,⟨h,e1,_⟩,k⟩=>by subst e1; exact ⟨h,k⟩⟩
 | _=>simp[IK.cls] at h
theorem fe3 {op:IK}{id:Nat}{v:IV}(hk:op.cls≤1)(h:bd9 P E op id fr σ v σ'):σ'=σ:=by
 cases op with
 | q q=>exact h.2
 | pcall f xs=>exact h.2
 | bslt e n z ps=>obtain ⟨_,_,_,h⟩:=h; exact h
 | boxt x=>exact h.2.2
 | _=>simp[IK.cls] at hk
def cz5 (E:Nat→IV)(fr:Frm):IQ→IQ
 | .load a x=>.load a (.c (x.ev E fr))
 | .lkp t z ok x k=>.lkp t z ok (.c (x.ev E fr)) (.c (k.ev E fr))
 | .len k x=>.len k (.c (x.ev E fr))
 | q=>q
theorem fu7 {q:IQ}(f:Frm)(h:q.kind≠0):evq E f σ (cz5 E fr q)=evq E fr σ q:=by
 cases q with
 | load a x=>rfl
 | lkp t z ok x k=>rfl
 | len k x=>rfl
 | _=>exact absurd rfl h
theorem fu8 {fr fr':Frm}{q:IQ}(h:∀ t∈q.ops.flatMap IX.uses,fr.get t=fr'.get t):cz5 E fr q=cz5 E fr' q:=by
 cases q with
 | load a x=>simp only[cz5]; rw[ad6 (x:=x) (fun t ht=>h t (by simp[IQ.ops,ht]))]
 | lkp t z ok x k=>simp only[cz5]; rw[ad6 (x:=x) (fun t ht=>h t (by simp[IQ.ops,ht])),ad6 (x:=k) (fun t ht=>h t (by simp[IQ.ops,ht]))]
 | len k x=>simp only[cz5]; rw[ad6 (x:=x) (fun t ht=>h t (by simp[IQ.ops,ht]))]
 | _=>rfl
abbrev LE:=Nat×IQ×IV
def bb1 (E:Nat→IV)(fr:Frm)(i:Nat)(op:IK)(v:IV)(L:List LE):List LE :=
 match op with
 | .q q=>if q.kind=0 then L else (i,cz5 E fr q,v)::L
 | _=>L
theorem br8 {fr fr':Frm}{i:Nat}{op:IK}{v:IV}{L:List LE}(h:∀ t∈op.ops.flatMap IX.uses,fr.get t=fr'.get t):bb1 E fr i op v L=bb1 E fr' i op v L:=by
 cases op with
 | q q=>simp only[bb1]; rw[fu8 (q:=q) (fun t ht=>h t ht)]
 | _=>rfl
theorem be1 {i:Nat}{op:IK}{v:IV}{L:List LE}:∀ e∈L,e∈bb1 E fr i op v L:=by
 intro e he
 unfold bb1
 split
 ·split
  ·exact he
  ·exact List.mem_cons_of_mem _ he
 ·exact he
theorem fe4 {i:Nat}{op:IK}{v:IV}{L L':List LE}(h:∀ e∈L',e∈L):∀ e∈bb1 E fr i op v L',e∈bb1 E fr i op v L:=by
 intro e he
 cases op with
 | q q=>
  simp only[bb1] at he ⊢
  by_cases hk:q.kind=0
  ·rw[if_pos hk] at he ⊢; exact h e he
  ·rw[if_neg hk] at he ⊢
   rcases List.mem_cons.1 he with rfl|he
   ·exact List.mem_cons_self ..
   ·exact List.mem_cons_of_mem _ (h e he)
 | _=>exact h e he
theorem cg5 {i:Nat}{op:IK}{v:IV}{L:List LE}(h:¬ op.cls≤1):bb1 E fr i op v L=L:=by
 cases op with
 | q q=>exfalso; apply h; simp only[IK.cls]; split<;>omega
 | _=>rfl
theorem fu9 {i j:Nat}{op op':IK}{v v':IV}{L:List LE}{fr':Frm}(e:LE):e∈bb1 E fr i op v (bb1 E fr' j op' v' L)↔e∈bb1 E fr' j op' v' (bb1 E fr i op v L):=by
 have key:∀ (fr:Frm) (i:Nat) (op:IK) (v:IV),(∃ x:LE,∀ L,bb1 E fr i op v L=x::L)∨∀ L,bb1 E fr i op v L=L:=by
  intro fr i op v
  cases op with
  | q q=>
   by_cases hk:q.kind=0
   ·exact .inr fun L=>by simp only[bb1,hk,if_true]
   ·exact .inl ⟨(i,cz5 E fr q,v),fun L=>by simp only[bb1,hk,if_false]⟩
  | _=>exact .inr fun _=>rfl
 rcases key fr i op v with ⟨x,hx⟩|hx<;>rcases key fr' j op' v' with ⟨y,hy⟩|hy<;>simp only[hx,hy]
 simp only[List.mem_cons]
 constructor
 ·rintro (h|h|h)
  ·exact .inr (.inl h)
  ·exact .inl h
  ·exact .inr (.inr h)
 ·rintro (h|h|h)
  ·exact .inr (.inl h)
  ·exact .inl h
  ·exact .inr (.inr h)
def gf9 (E:Nat→IV)(L:List LE)(m:Nat)(σ:Store):Prop:=∀ e∈L,m.testBit e.1=true→evq E [] σ e.2.1=some e.2.2
theorem bb2 {L:List LE}:gf9 E L 0 σ:=fun e _ h=>by simp at h
theorem ax8 {L L':List LE}{m:Nat}(h:∀ e∈L',e∈L)(hc:gf9 E L m σ):gf9 E L' m σ:=fun e he=>hc e (h e he)
abbrev cl5:=Nat×IOper×Nat×Nat
def hx9 (P:Program)(E:Nat→IV)(o:IOper)(id m:Nat)(L:List LE)(fr:Frm)(σ:Store)(K:IV→Store→Prop)(Ks:Prop):Prop :=
 (av2 o fr=some true∧opR P E o.op id fr σ (fun v σ'=>gf9 E L m σ'∧K v σ'))∨(av2 o fr=some false∧Ks)
def ao2 (P:Program)(E:Nat→IV):List cl5→List LE→Frm→Store→(Frm→Store→Prop)→Prop
 | [],_,fr,σ,K=>K fr σ
 | (i,o,id,m)::rest,L,fr,σ,K=>hx9 P E o id m L fr σ (fun v σ'=>ao2 P E rest (bb1 E fr i o.op v L) (fr.setd o.dst v) σ' K) (ao2 P E rest L (fr.setd o.dst skV) σ K)
theorem fe5 {K:Frm→Store→Prop}:∀ (its:List cl5) (L L':List LE) (fr:Frm) (σ:Store),(∀ e∈L',e∈L)→ao2 P E its L fr σ K→ao2 P E its L' fr σ K:=by
 intro its
 induction its with
 | nil=>exact fun _ _ _ _ _ h=>h
 | cons it its ih=>
  obtain ⟨i,o,id,m⟩:=it
  rintro L L' fr σ hs (⟨ha,h⟩|⟨ha,h⟩)
  ·exact .inl ⟨ha,ag6 (fun v s ⟨c,k⟩=>⟨ax8 hs c,ih _ _ _ _ (fe4 hs) k⟩) h⟩
  ·exact .inr ⟨ha,ih _ _ _ _ hs h⟩
theorem av4 {K:Frm→Store→Prop}(hK:∀ f f' s,FEq f f'→K f s→K f' s):∀ (its:List cl5) (L:List LE) (fr fr':Frm) (σ:Store),FEq fr fr'→ao2 P E its L fr σ K→ao2 P E its L fr' σ K:=by
 intro its
 induction its with
 | nil=>exact fun _ fr fr' σ h k=>hK _ _ _ h k
 | cons it its ih=>
  obtain ⟨i,o,id,m⟩:=it
  rintro L fr fr' σ hf (⟨ha,h⟩|⟨ha,h⟩)
  ·refine .inl ⟨by rw[← ax7 (fun t _=>hf t)]; exact ha,ag6 (fun v s ⟨c,k⟩=>⟨c,?_⟩) (fd2 hf h)⟩
   show ao2 P E its (bb1 E fr' i o.op v L) _ s K
   rw[← br8 (fr:=fr) (fun t _=>hf t)]; exact ih _ _ _ _ (cc9 hf _ _) k
  ·exact .inr ⟨by rw[← ax7 (fun t _=>hf t)]; exact ha,ih _ _ _ _ (cc9 hf _ _) h⟩
theorem ei8 {K K':Frm→Store→Prop}:∀ (its:List cl5) (L:List LE) (fr:Frm) (σ:Store),(∀ f s,K f s→K' f s)→ao2 P E its L fr σ K→ao2 P E its L fr σ K':=by
 intro its
 induction its with
 | nil=>exact fun _ _ _ hk h=>hk _ _ h
 | cons it its ih=>
  obtain ⟨i,o,id,m⟩:=it
  rintro L fr σ hk (⟨ha,h⟩|⟨ha,h⟩)
  ·exact .inl ⟨ha,ag6 (fun v s ⟨c,k⟩=>⟨c,ih _ _ _ hk k⟩) h⟩
  ·exact .inr ⟨ha,ih _ _ _ hk h⟩
theorem fe6 {op:IK}{id:Nat}{fr fr':Frm}{K:IV→Store→Prop}(h:∀ t∈op.ops.flatMap IX.uses,fr.get t=fr'.get t):opR P E op id fr σ K→opR P E op id fr' σ K:=by
 cases op with
 | q q=>simp only[opR]; rw[fc6 (fun t ht=>h t ht)]; exact fun h=>h
 | alloc z=>exact fun h=>h
 | box x=>simp only[opR]; rw[ad6 (x:=x) (fun t ht=>h t (by simp[IK.ops,ht]))]; exact fun h=>h
 | bsl e n z ps=>simp only[opR]; rw[al3 (fun t ht=>h t ht)]; exact fun h=>h
 | store e x y=>simp only[opR]; rw[ad6 (x:=x) (fun t ht=>h t (by simp[IK.ops,ht])),ad6 (x:=y) (fun t ht=>h t (by simp[IK.ops,ht]))]; exact fun h=>h
 | app e x y=>simp only[opR]; rw[ad6 (x:=x) (fun t ht=>h t (by simp[IK.ops,ht])),ad6 (x:=y) (fun t ht=>h t (by simp[IK.ops,ht]))]; exact fun h=>h
 | mkmap=>exact fun h=>h
 | srange x=>simp only[opR]; rw[ad6 (x:=x) (fun t ht=>h t (by simp[IK.ops,ht]))]; exact fun h=>h
 | snext x=>simp only[opR]; rw[ad6 (x:=x) (fun t ht=>h t (by simp[IK.ops,ht]))]; exact fun h=>h
 | mupd t x y z=>simp only[opR]; rw[ad6 (x:=x) (fun t ht=>h t (by simp[IK.ops,ht])),ad6 (x:=y) (fun t ht=>h t (by simp[IK.ops,ht])),ad6 (x:=z) (fun t ht=>h t (by simp[IK.ops,ht]))]; exact fun h=>h
 | call f xs=>simp only[opR]; rw[ap7 (xs:=xs) h]; exact fun h=>h
 | pcall f xs=>simp only[opR]; rw[ap7 (xs:=xs) h]; exact fun h=>h
 | callv x xs=>
  simp only[IK.ops,List.flatMap_cons,List.mem_append] at h
  simp only[opR]; rw[ap7 (xs:=xs) (fun t ht=>h t (.inr ht)),ad6 (x:=x) (fun t ht=>h t (.inl ht))]; exact fun h=>h
 | bslt e n z ps=>simp only[opR]; rw[al3 (fun t ht=>h t ht)]; exact fun h=>h
 | boxt x=>simp only[opR]; rw[ad6 (x:=x) (fun t ht=>h t (by simp[IK.ops,ht]))]; exact fun h=>h
 | mrange x=>simp only[opR]; rw[ad6 (x:=x) (fun t ht=>h t (by simp[IK.ops,ht]))]; exact fun h=>h
 | mnext x=>simp only[opR]; rw[ad6 (x:=x) (fun t ht=>h t (by simp[IK.ops,ht]))]; exact fun h=>h
 | ment x=>simp only[opR]; rw[ad6 (x:=x) (fun t ht=>h t (by simp[IK.ops,ht]))]; exact fun h=>h
 | mksl e z x=>simp only[opR]; rw[ad6 (x:=x) (fun t ht=>h t (by simp[IK.ops,ht]))]; exact fun h=>h
 | clr e z x=>simp only[opR]; rw[ad6 (x:=x) (fun t ht=>h t (by simp[IK.ops,ht]))]; exact fun h=>h
 | st k xs=>simp only[opR]; rw[ap7 (xs:=xs) h]; exact fun h=>h
def fe7 (p x:cl5):Prop :=
 fd3 p.2.1 x.2.1∧(p.2.1.op.cls≤1∧p.2.2.2=0∧(p.2.1.op.cls=0∨x.2.1.op.cls≤1∨x.2.2.2.testBit p.1=true∨cf8 false p.2.1.op.kind x.2.1.op.kind=true) ∨
  ¬ p.2.1.op.cls≤1∧cf8 false p.2.1.op.kind x.2.1.op.kind=true∧x.2.2.2=0∧(p.2.2.2=0∨x.2.1.op.cls≤1∧p.2.2.2.testBit x.1=false))
theorem fv1 {i m:Nat}{op:IK}{v:IV}{L:List LE}(h:gf9 E L m σ)(hb:m.testBit i=false):gf9 E (bb1 E fr i op v L) m σ:=by
 intro e he hm
 unfold bb1 at he
 split at he
 ·split at he
  ·exact h e he hm
  ·rcases List.mem_cons.1 he with rfl|he
   ·simp only at hm; rw[hb] at hm; cases hm
   ·exact h e he hm
 ·exact h e he hm
theorem hy5 {K:Frm→Store→Prop} (hK:∀ f f' s,FEq f f'→K f s→K f' s) {ix:Nat} {x:IOper} {kx mx:Nat} {post:List cl5} :
  ∀ (pre:List cl5) (L:List LE) (fr:Frm) (σ:Store),(∀ p∈pre,fe7 p (ix,x,kx,mx))→(∀ p∈pre,p.2.2.1≠kx∧σ.obj p.2.2.1=none)→(pre.map (·.2.2.1)).Nodup→(pre≠[]→σ.obj kx=none) →
   (∀ p∈pre,p.2.1.op.kind=2→∀ y∈x.op.ops,az6 p.2.2.1 (y.ev E fr)) →
   ao2 P E (pre++(ix,x,kx,mx)::post) L fr σ K →
   hx9 P E x kx mx L fr σ (fun v σ'=>ao2 P E (pre++post) (bb1 E fr ix x.op v L) (fr.setd x.dst v) σ' K) (ao2 P E (pre++post) L (fr.setd x.dst skV) σ K):=by
 intro pre
 induction pre with
 | nil=>intro L fr σ _ _ _ _ _ h; exact h
 | cons p pre ih=>
  intro L fr σ hfree hids hnd hnx hH h
  obtain ⟨ip,p,kp,mp⟩:=p
  obtain ⟨hap,hfr⟩:=hfree _ (List.mem_cons_self ..)
  obtain ⟨hpx,hkp⟩:=hids _ (List.mem_cons_self ..)
  simp only at hap hfr hpx hkp
  have hnx0:=hnx (by simp)
  have hnd':=List.nodup_cons.1 (show (kp::pre.map (·.2.2.1)).Nodup from hnd)
  have hfx:∀ vp,∀ t∈x.uses,(fr.setd p.dst vp).get t=fr.get t:=fun vp t ht=>by
   rw[at5,if_neg]; intro e; exact hap.2 t e ht
  have hfxo:∀ vp,∀ t∈x.op.ops.flatMap IX.uses,(fr.setd p.dst vp).get t=fr.get t:=fun vp t ht=>hfx vp t (ar1 ht)
  have hfp:∀ vx,∀ t∈p.uses,fr.get t=(fr.setd x.dst vx).get t:=fun vx t ht=>by
   rw[at5,if_neg]; intro e; exact (hap.1 t e).1 ht
  have hfpo:∀ vx,∀ t∈p.op.ops.flatMap IX.uses,fr.get t=(fr.setd x.dst vx).get t:=fun vx t ht=>hfp vx t (ar1 ht)
  have feq:∀ vp vx,FEq ((fr.setd p.dst vp).setd x.dst vx) ((fr.setd x.dst vx).setd p.dst vp):=fun vp vx t=>by
   simp only[at5]
   by_cases h1:x.dst=some t
   ·have h2:p.dst≠some t:=(hap.1 t h1).2
    simp[h1,h2]
   ·simp[h1]
  have hactx:∀ vp ax,av2 x (fr.setd p.dst vp)=some ax→av2 x fr=some ax:=fun vp ax h=>by rw[← ax7 (hfx vp)]; exact h
  have hactp:∀ {ap:Bool},av2 p fr=some ap→∀ vx,av2 p (fr.setd x.dst vx)=some ap:=fun hact vx=>by rw[← ax7 (hfp vx)]; exact hact
  -- the rest,at a store where the fresh ones are fresh
  have IH:∀ (vp:IV) (L1:List LE) (σ1:Store),(∀ i,i≠kp→σ.obj i=none→σ1.obj i=none)→ao2 P E (pre++(ix,x,kx,mx)::post) L1 (fr.setd p.dst vp) σ1 K →
    hx9 P E x kx mx L1 (fr.setd p.dst vp) σ1 (fun v σ'=>ao2 P E (pre++post) (bb1 E (fr.setd p.dst vp) ix x.op v L1) ((fr.setd p.dst vp).setd x.dst v) σ' K) (ao2 P E (pre++post) L1 ((fr.setd p.dst vp).setd x.dst skV) σ1 K):=by
   intro vp L1 σ1 fresh1 ht
   exact ih L1 (fr.setd p.dst vp) σ1 (fun q hq=>hfree q (List.mem_cons_of_mem _ hq))
    (fun q hq=>⟨(hids q (List.mem_cons_of_mem _ hq)).1,fresh1 _ (fun e=>hnd'.1 (by rw[← e]; exact List.mem_map.2 ⟨q,hq,rfl⟩)) (hids q (List.mem_cons_of_mem _ hq)).2⟩)
    hnd'.2 (fun _=>fresh1 kx (fun e=>hpx e.symm) hnx0)
    (fun q hq hk2 y hy=>by
     have:y.ev E (fr.setd p.dst vp)=y.ev E fr:=ad6 fun t ht=>hfxo vp t (List.mem_flatMap.2 ⟨y,hy,ht⟩)
     rw[this]; exact hH q (List.mem_cons_of_mem _ hq) hk2 y hy) ht
  rcases h with ⟨hact,hh⟩|⟨hact,hh⟩
  ·rcases hfr with ⟨kp1,hmp,hc⟩|⟨kp2,hfk,hmx,hc⟩
   ·-- p reads at most
    subst hmp
    obtain ⟨vp,hd,_,htree⟩:=(cg3 kp1).1 hh
    have hde:∀ {s:Store} vx,bd9 P E p.op kp fr s vp s→bd9 P E p.op kp (fr.setd x.dst vx) s vp s:=fun vx h=>ba9 (hfpo vx) h
    rcases IH vp _ σ (fun _ _ h=>h) htree with ⟨h1,h2⟩|⟨h1,h2⟩
    ·have h3:=fe6 (hfxo vp) h2
     have h4:opR P E x.op kx fr σ (fun v σ'=>bd9 P E p.op kp fr σ' vp σ'∧gf9 E L mx σ'∧ao2 P E (pre++post) (bb1 E (fr.setd p.dst vp) ix x.op v (bb1 E fr ip p.op vp L)) ((fr.setd p.dst vp).setd x.dst v) σ' K):=by
      rcases hc with c0|cx|cm|ck
      ·exact ag6 (fun v s ⟨c,k⟩=>⟨(bn3 (cg2 c0) hd).2 s,ax8 be1 c,k⟩) h3
      ·obtain ⟨vx,e1,c,k⟩:=(cg3 cx).1 h3
       exact (cg3 cx).2 ⟨vx,e1,hd,ax8 be1 c,k⟩
      ·rcases gz6 kp1 with ⟨q,hq⟩|c0
       ·by_cases hk0:q.kind=0
        ·have c0:p.op.cls=0:=by rw[hq]; simp only[IK.cls,hk0]
         exact ag6 (fun v s ⟨c,k⟩=>⟨(bn3 (cg2 c0) hd).2 s,ax8 be1 c,k⟩) h3
        ·refine ag6 (fun v s ⟨c,k⟩=>⟨?_,ax8 be1 c,k⟩) h3
         rw[hq]
         refine ⟨?_,rfl⟩
         have hmem:(ip,cz5 E fr q,vp)∈bb1 E fr ip p.op vp L:=by
          rw[hq]
          simp only[bb1,hk0,if_false]
          exact List.mem_cons_self ..
         have:=c _ hmem cm
         rw[fu7 _ hk0] at this
         exact this
       ·exact ag6 (fun v s ⟨c,k⟩=>⟨(bn3 (cg2 c0) hd).2 s,ax8 be1 c,k⟩) h3
      ·obtain ⟨kp5,kx5⟩:=cz3 ck
       obtain ⟨vx,σ2,e1,c,k⟩:=(ar9 kx5).1 h3
       have e1':bd9 P E x.op kx (fr.setd p.dst vp) σ vx σ2:=ba9 (fun t ht=>(hfxo vp t ht).symm) e1
       obtain ⟨σ1',s1,_,s3,_⟩:=cz2 (B:=false) hd (fun h=>by cases h) e1' (fun h=>by cases h) ck (hfxo vp) (hfpo vx) hpx hkp hnx0 (hH _ (List.mem_cons_self ..))
       have hs:σ2=σ1':=fe3 kp1 s3
       subst hs
       exact (ar9 kx5).2 ⟨vx,σ2,s1,ba9 (fun t ht=>(hfpo vx t ht).symm) s3,ax8 be1 c,k⟩
     refine .inl ⟨hactx _ _ h1,ag6 (fun v s ⟨hd',c,k⟩=>⟨c,?_⟩) h4⟩
     refine .inl ⟨hactp hact v,(cg3 kp1).2 ⟨vp,hde v hd',bb2,?_⟩⟩
     rw[br8 (fr':=fr) (hfxo vp)] at k
     have k2:=av4 hK _ _ _ _ _ (feq vp v) k
     show ao2 P E (pre++post) (bb1 E (fr.setd x.dst v) ip p.op vp (bb1 E fr ix x.op v L)) _ s K
     rw[← br8 (fr:=fr) (hfpo v)]
     exact fe5 _ _ _ _ _ (fun e he=>(fu9 e).1 he) k2
    ·refine .inr ⟨hactx _ _ h1,.inl ⟨hactp hact skV,(cg3 kp1).2 ⟨vp,hde skV hd,bb2,?_⟩⟩⟩
     show ao2 P E (pre++post) (bb1 E (fr.setd x.dst skV) ip p.op vp L) _ σ K
     rw[← br8 (fr:=fr) (hfpo skV)]
     exact av4 hK _ _ _ _ _ (feq vp skV) h2
   ·-- p writes,or lays
    obtain ⟨kp5,kx5⟩:=cz3 hfk
    obtain ⟨vp,σ1,hd,hchk,htree⟩:=(ar9 kp5).1 hh
    subst hmx
    rw[cg5 kp2] at htree
    rcases IH vp _ σ1 (fun i hi h0=>dg7 kp5 hi hd h0) htree with ⟨h1,h2⟩|⟨h1,h2⟩
    ·obtain ⟨vx,σ2,e1,_,k⟩:=(ar9 kx5).1 h2
     obtain ⟨σ1',s1,_,s3,_⟩:=cz2 (B:=false) hd (fun h=>by cases h) e1 (fun h=>by cases h) hfk (hfxo vp) (hfpo vx) hpx hkp hnx0 (hH _ (List.mem_cons_self ..))
     refine .inl ⟨hactx _ _ h1,(ar9 kx5).2 ⟨vx,σ1',s1,bb2,.inl ⟨hactp hact vx,(ar9 kp5).2 ⟨vp,σ2,s3,?_,?_⟩⟩⟩⟩
     ·rcases hc with h0|⟨cx,hb⟩
      ·subst h0; exact bb2
      ·have hs:σ2=σ1:=fe3 cx e1
       subst hs
       exact fv1 hchk hb
     ·show ao2 P E (pre++post) (bb1 E _ ip p.op vp (bb1 E fr ix x.op vx L)) _ σ2 K
      rw[cg5 kp2]
      rw[br8 (fr':=fr) (hfxo vp)] at k
      exact av4 hK _ _ _ _ _ (feq vp vx) k
    ·refine .inr ⟨hactx _ _ h1,.inl ⟨hactp hact skV,(ar9 kp5).2 ⟨vp,σ1,ba9 (hfpo skV) hd,hchk,?_⟩⟩⟩
     show ao2 P E (pre++post) (bb1 E _ ip p.op vp L) _ σ1 K
     rw[cg5 kp2]
     exact av4 hK _ _ _ _ _ (feq vp skV) h2
  ·rcases IH skV L σ (fun _ _ h=>h) hh with ⟨h1,h2⟩|⟨h1,h2⟩
   ·refine .inl ⟨hactx _ _ h1,ag6 (fun v s ⟨c,k⟩=>⟨c,?_⟩) (fe6 (hfxo skV) h2)⟩
    refine .inr ⟨hactp hact v,?_⟩
    replace k:ao2 P E (pre++post) (bb1 E (fr.setd p.dst skV) ix x.op v L) ((fr.setd p.dst skV).setd x.dst v) s K:=k
    rw[br8 (fr':=fr) (hfxo skV)] at k
    exact av4 hK _ _ _ _ _ (feq skV v) k
   ·exact .inr ⟨hactx _ _ h1,.inr ⟨hactp hact skV,av4 hK _ _ _ _ _ (feq skV skV) h2⟩⟩
end Go.Id
/- Open regions whose readers are taken ahead: the check,and the rule. Conditions: none; over any program. -/
namespace Go.Id
open Go
variable {P:Program} {w w' w'':World} {ρ ρ' ρ'':Rho} {E:Nat→IV} {σ σ':Store} {N n n':Nat} {fr:Frm} {a:Act} {pf:List Nat}
structure RemY (P:Program) (pf:List Nat) (N:Nat) (ops:Array Oper) (anc:Nat→Nat→Prop) (base:Nat) (rem:List cl5) (listed:Array Bool):Prop where
 size:listed.size=ops.size
 un:∀ j,j<ops.size→(listed.getD j true=false↔∃ it∈rem,it.1=j)
 its:∀ it∈rem,∃ o,ops[it.1]? = some o∧br5 P pf N ops o=some it.2.1∧it.2.2.1=base+it.1∧∀ y∈it.2.1.op.ops,IX.quiet y=true
 pw:rem.Pairwise fun p x=>(anc p.1 x.1∨fe7 p x)∧p.1≠x.1∧∀ o,ops[p.1]? = some o→∀ e∈o.after,Region.binds .any e=true→e.on≠x.1
 dc:∀ j,listed.getD j false=true→∀ k,anc k j→listed.getD k false=true
theorem ei9 {ops:Array Oper} {anc:Nat→Nat→Prop} {n0 base:Nat} {ro:Option Nat} {Qw:Exit→Act→World→Prop} {K:Frm→Store→Prop} {ρ0:Rho} {w0:World} {ds:List Deferred}
  (hKf:∀ f f' s,FEq f f'→K f s→K f' s)
  (hfin:∀ fr σ ρ w a,n0≤σ.next→K fr σ→Sim E ρ w σ→FR ρ w N fr a.tmps→a.defers=ds→ExtW n0 ρ0 w0 ρ w→Qw .normal a w)
  (hed:∀ j o,ops[j]? = some o→∀ e∈o.after,Region.binds .any e=true→e.on<ops.size∧e.on≠j)
  (hanc:∀ k j,anc k j→∀ o,ops[j]? = some o→∃ e∈o.after,Region.binds .any e=true∧(e.on=k∨anc k e.on)) :
  ∀ (fuel:Nat) (rem:List cl5) (L:List LE) (listed:Array Bool) (fr:Frm) (σ:Store) (ρ:Rho) (w:World) (a:Act),rem.length=fuel→RemY P pf N ops anc base rem listed→ao2 P E rem L fr σ K →
   Sim E ρ w σ→FR ρ w N fr a.tmps→a.defers=ds→ExtW n0 ρ0 w0 ρ w→n0≤base→base+ops.size≤σ.next→(∀ it∈rem,ρ it.2.2.1=.no) →
   wpAnyIn (fw ro) 0 P .any ops Qw fuel listed a w:=by
 intro fuel
 induction fuel with
 | zero=>
  intro rem L listed fr σ ρ w a hlen hr h hs hf hd hx hn0 hnx hno
  have:rem=[]:=List.length_eq_zero_iff.1 hlen
  subst this
  refine ⟨?_,hfin fr σ ρ w a (by omega) h hs hf hd hx⟩
  rw[List.eq_nil_iff_forall_not_mem]
  intro j hj
  obtain ⟨h0,_⟩:=mem_ready.1 hj
  obtain ⟨it,hit,_⟩:=(hr.un j (by rw[← hr.size]; exact getD_lt h0)).1 h0
  cases hit
 | succ fuel ih=>
  intro rem L listed fr σ ρ w a hlen hr h hs hf hd hx hn0 hnx hno
  refine ⟨fun hemp=>?_,fun i hi=>?_⟩
  ·exfalso
   cases rem with
   | nil=>cases hlen
   | cons it rem=>
    obtain ⟨o,ho,hc,hid,_⟩:=hr.its it (List.mem_cons_self ..)
    have hlt:it.1<ops.size:=by
     rcases Nat.lt_or_ge it.1 ops.size with h'|h'
     ·exact h'
     ·simp[Array.getElem?_eq_none h'] at ho
    have:it.1∈Region.ready .any ops listed:=by
     refine mem_ready.2 ⟨(hr.un _ hlt).2 ⟨it,List.mem_cons_self ..,rfl⟩,o,ho,fun e he hb=>?_⟩
     obtain ⟨h1,h2⟩:=hed _ o ho e he hb
     have hj:e.on<listed.size:=by rw[hr.size]; exact h1
     by_cases hL:listed.getD e.on true=false
     ·obtain ⟨jt,hjt,hje⟩:=(hr.un _ h1).1 hL
      rcases List.mem_cons.1 hjt with rfl|hjt
      ·exact absurd hje.symm h2
      ·exact absurd hje.symm (((List.pairwise_cons.1 hr.pw).1 jt hjt).2.2 o ho e he hb)
     ·simp[hj] at hL ⊢; exact hL
    rw[hemp] at this
    cases this
  ·obtain ⟨h0,o,ho,hall⟩:=mem_ready.1 hi
   have hlt:i<ops.size:=by rw[← hr.size]; exact getD_lt h0
   obtain ⟨it,hit,hie⟩:=(hr.un i hlt).1 h0
   obtain ⟨pre,post,rfl⟩:=List.append_of_mem hit
   obtain ⟨ix,x,kx,mx⟩:=it
   simp only at hie
   subst hie
   obtain ⟨o',ho',hc,hkx,hqx⟩:=hr.its _ hit
   simp only at ho' hc hkx hqx
   rw[ho] at ho'
   cases ho'
   obtain ⟨hpp,hxp,hcross⟩:=List.pairwise_append.1 hr.pw
   have hcx:=fun p hp=>hcross p hp _ (List.mem_cons_self ..)
   have hnotL:∀ p∈pre,listed.getD p.1 false≠true:=fun p hp hL=>by
    obtain ⟨op,hop,_⟩:=hr.its p (List.mem_append_left _ hp)
    have hpl:p.1<ops.size:=by
     rcases Nat.lt_or_ge p.1 ops.size with h'|h'
     ·exact h'
     ·simp[Array.getElem?_eq_none h'] at hop
    have:=(hr.un p.1 hpl).2 ⟨p,List.mem_append_left _ hp,rfl⟩
    rw[fd5 hL] at this
    cases this
   have hfree:∀ p∈pre,fe7 p (ix,x,kx,mx):=fun p hp=>by
    rcases (hcx p hp).1 with ha|hf
    ·exfalso
     obtain ⟨e,he,hb,heq⟩:=hanc _ _ ha o ho
     have hle:=hall e he hb
     rcases heq with heq|ha'
     ·exact hnotL p hp (by rw[← heq]; exact hle)
     ·exact hnotL p hp (hr.dc _ hle _ ha')
    ·exact hf
   have hidp:∀ p∈pre,p.2.2.1=base+p.1:=fun p hp=>by
    obtain ⟨_,_,_,h1,_⟩:=hr.its p (List.mem_append_left _ hp)
    exact h1
   have hpull:=hy5 (P:=P) (E:=E) (K:=K) hKf (ix:=ix) (x:=x) (kx:=kx) (mx:=mx) (post:=post) pre L fr σ hfree
    (fun p hp=>⟨by rw[hidp p hp,hkx]; have:=(hcx p hp).2.1; omega,hs.noObj _ (hno p (List.mem_append_left _ hp))⟩)
    (by
     rw[List.nodup_iff_pairwise_ne,List.pairwise_map]
     refine (List.Pairwise.and_mem.1 hpp).imp ?_
     intro p q ⟨hp,hq,h1⟩
     rw[hidp p hp,hidp q hq]
     have:=h1.2.1
     omega)
    (fun _=>hs.noObj _ (hno _ hit))
    (fun p hp _ y hy=>IX.quiet_noRef (hqx y hy) hs hf (hno p (List.mem_append_left _ hp))) h
   obtain ⟨⟨fz,hk⟩,hdst,hdN,hg⟩:=bj7 hc
   have hidx:kx<σ.next∧n0≤kx:=by rw[hkx]; omega
   have hmem:∀ it∈pre++post,it∈pre++(ix,x,kx,mx)::post:=fun it h=>by
    rcases List.mem_append.1 h with h|h
    ·exact List.mem_append_left _ h
    ·exact List.mem_append_right _ (List.mem_cons_of_mem _ h)
   have hne:∀ it∈pre++post,it.1≠ix:=fun it h=>by
    rcases List.mem_append.1 h with h|h
    ·exact (hcx it h).2.1
    ·exact fun e=>((List.pairwise_cons.1 hxp).1 it h).2.1 e.symm
   have hrem:RemY P pf N ops anc base (pre++post) (listed.setIfInBounds ix true):=by
    refine ⟨by simp[hr.size],fun j hj=>?_,fun it hit=>hr.its it (hmem it hit),?_,?_⟩
    ·by_cases hji:j=ix
     ·subst hji
      have:j<listed.size:=by rw[hr.size]; exact hj
      constructor
      ·intro h; simp[this] at h
      ·rintro ⟨it,h1,h2⟩; exact absurd h2 (hne it h1)
     ·rw[getD_set_ne true (Ne.symm hji),hr.un j hj]
      constructor
      ·rintro ⟨it,h1,h2⟩
       refine ⟨it,?_,h2⟩
       rcases List.mem_append.1 h1 with h1|h1
       ·exact List.mem_append_left _ h1
       ·rcases List.mem_cons.1 h1 with rfl|h1
        ·exact absurd h2.symm hji
        ·exact List.mem_append_right _ h1
      ·rintro ⟨it,h1,h2⟩; exact ⟨it,hmem it h1,h2⟩
    ·exact hr.pw.sublist (List.Sublist.append (List.Sublist.refl _) (List.sublist_cons_self _ _))
    ·intro j hj k hk
     by_cases hji:j=ix
     ·subst hji
      obtain ⟨e,he,hb,heq⟩:=hanc _ _ hk o ho
      have hle:=hall e he hb
      rcases heq with rfl|ha'
      ·exact getD_set_true hle
      ·exact getD_set_true (hr.dc _ hle _ ha')
     ·rw[getD_set_ne false (Ne.symm hji)] at hj
      exact getD_set_true (hr.dc _ hj _ hk)
   have hlen':(pre++post).length=fuel:=by simp at hlen ⊢; omega
   have hne2:∀ it∈pre++post,it.2.2.1≠kx:=fun it h=>by
    obtain ⟨_,_,_,h1,_⟩:=hr.its it (hmem it h)
    rw[h1,hkx]
    have:=hne it h
    omega
   unfold wpOpIn
   simp only[ho]
   have run:opR P E x.op kx fr σ (fun v σ'=>gf9 E L mx σ'∧ao2 P E (pre++post) (bb1 E fr ix x.op v L) (fr.setd x.dst v) σ' K)→o.wpIn (fw ro) 0 P a w (wpAnyIn (fw ro) 0 P .any ops Qw fuel (listed.setIfInBounds ix true)) Qw:=by
    intro hop
    refine cy8 hk hop hs hf (by omega) (fun hl=>⟨hno _ hit,hidx.1,hidx.2⟩) ?_
    intro v σ' r ρ' w' hnx' hK hs' hv' hx' hno'
    refine ih (pre++post) _ _ _ σ' ρ' w' (a.put o.dst r) hlen' hrem hK.2 hs' ?_ (by rw[put_defers]; exact hd) (hx.trans (hx'.weak (Nat.le_refl _))) hn0 (by omega) ?_
    ·rw[hdst]; exact FR.setd (hf.mono hx') hdN hv'
    ·intro jt hjt
     obtain ⟨jo,hjo,_,h1,_⟩:=hr.its jt (hmem jt hjt)
     have hjl:jt.1<ops.size:=by
      rcases Nat.lt_or_ge jt.1 ops.size with h'|h'
      ·exact h'
      ·simp[Array.getElem?_eq_none h'] at hjo
     exact hno' _ (by rw[h1]; omega) (fun _=>hne2 jt hjt) (hno _ (hmem jt hjt))
   rcases hg with ⟨hg1,hg2⟩|⟨j,want,s,hg1,hgs,hg2⟩
   ·have hw:Region.wanted o (yielded ops a.tmps)=true:=by unfold Region.wanted; rw[hg1]
    rw[if_pos hw]
    rcases hpull with ⟨hact,hh⟩|⟨hact,hh⟩
    ·exact run hh
    ·simp[av2,hg2] at hact
   ·rcases hpull with ⟨hact,hh⟩|⟨hact,hh⟩
    ·simp only[av2,hg2] at hact
     have hw:=bm8 hg1 hgs hf hact
     rw[hw]
     exact run hh
    ·simp only[av2,hg2] at hact
     have hw:=bm8 hg1 hgs hf hact
     rw[hw]
     refine ⟨fun f _=>trivial,?_⟩
     exact ih (pre++post) _ _ _ σ ρ w (a.put o.dst undef) hlen' hrem hh hs (by rw[hdst]; exact FR.setd hf hdN fc2) (by rw[put_defers]; exact hd) hx hn0 hnx (fun jt hjt=>hno _ (hmem jt hjt))
/-! ### The row in which they are taken,and the check -/
abbrev YO:=Nat×IOper×Nat
def gg5 (base:Nat)(l:List YO):List cl5:=l.map fun y=>(y.1,y.2.1,base+y.1,y.2.2)
def fe8 (p x:YO):Bool :=
 dy4 p.2.1 x.2.1&&((decide (p.2.1.op.cls≤1)&&p.2.2==0&&(p.2.1.op.cls==0||decide (x.2.1.op.cls≤1)||x.2.2.testBit p.1||cf8 false p.2.1.op.kind x.2.1.op.kind)) ||
  (!decide (p.2.1.op.cls≤1)&&cf8 false p.2.1.op.kind x.2.1.op.kind&&x.2.2==0&&(p.2.2==0||decide (x.2.1.op.cls≤1)&&!p.2.2.testBit x.1)))
theorem dq8 {p x:YO}{a b:Nat}(h:fe8 p x=true):fe7 (p.1,p.2.1,a,p.2.2) (x.1,x.2.1,b,x.2.2):=by
 unfold fe8 at h
 simp only[Bool.and_eq_true,Bool.or_eq_true,decide_eq_true_eq,beq_iff_eq,Bool.not_eq_true',decide_eq_false_iff_not] at h
 refine ⟨cf9 h.1,?_⟩
 rcases h.2 with ⟨⟨h1,h2⟩,h3⟩|⟨⟨⟨h1,h2⟩,h3⟩,h4⟩
 ·refine .inl ⟨h1,h2,?_⟩
  rcases h3 with ((h3|h3)|h3)|h3
  ·exact .inl h3
  ·exact .inr (.inl h3)
  ·exact .inr (.inr (.inl h3))
  ·exact .inr (.inr (.inr h3))
 ·exact .inr ⟨h1,h2,h3,h4⟩
def dy8 (ess:List (List Nat))(ms:List Nat):List YO→Bool
 | []=>true
 | p::xs=>xs.all (fun x=>((ms.getD x.1 0).testBit p.1||fe8 p x)&&p.1 != x.1&&!(ess.getD p.1 []).contains x.1)&&dy8 ess ms xs
theorem dq9 {ess:List (List Nat)}{ms:List Nat}{base:Nat}:∀ l:List YO,dy8 ess ms l=true→(gg5 base l).Pairwise fun p x=>((ms.getD x.1 0).testBit p.1=true∨fe7 p x)∧p.1≠x.1∧x.1 ∉ ess.getD p.1 []:=by
 intro l
 induction l with
 | nil=>intro _; exact .nil
 | cons p xs ih=>
  intro h
  simp only[dy8,Bool.and_eq_true,List.all_eq_true] at h
  refine List.pairwise_cons.2 ⟨fun it hit=>?_,ih h.2⟩
  obtain ⟨x,hx,rfl⟩:=List.mem_map.1 hit
  obtain ⟨⟨h1,h2⟩,h3⟩:=h.1 x hx
  refine ⟨?_,by simpa using h2,by simpa using h3⟩
  rw[Bool.or_eq_true] at h1
  rcases h1 with h1|h1
  ·exact .inl h1
  ·exact .inr (dq8 h1)
def gg6 (ios:List IOper)(l:List (Nat×Nat)):List YO:=l.map fun q=>(q.1,ios.getD q.1 default,q.2)
def yOK (ess:List (List Nat))(ios:List IOper)(l:List (Nat×Nat)):Bool :=
 let ms:=fd7 ess
 gz4 0 ess&&gz5 ms 0 ess&&dy8 ess ms (gg6 ios l)&&(ios.all fun o=>o.op.ops.all IX.quiet) &&
  l.all (fun q=>decide (q.1<ios.length))&&(List.range ios.length).all (fun j=>l.any fun q=>q.1==j)&&l.length==ios.length
theorem fe9 {n0 id:Nat}{ops:Array Oper}{ios:List IOper}{l:List (Nat×Nat)}{Q:Exit→Frm→Store→Prop}{ks:List Nat}(hm:P.follows .mixedOrders=true)(hc:ba7 P pf N ops ops.toList=some ios)
  (hok:yOK (ops.toList.map ae8) ios l=true)
  (h:ao2 P E (gg5 σ.next (gg6 ios l)) [] fr { σ with next:=σ.next+l.length } (fun fr' σ'=>Q .normal (fr'.keep ks) σ')):R P E N n0 (.region id ops true) fr σ Q:=by
 intro hn ro h0 ρ w a hs hf hd hr
 refine wpIn_region_any hm ?_
 have hlen:ios.length=ops.size:=by rw[cn4 _ _ hc]; simp
 unfold yOK at hok
 simp only[Bool.and_eq_true,List.all_eq_true,beq_iff_eq,decide_eq_true_eq] at hok
 obtain ⟨⟨⟨⟨⟨⟨hed,hms⟩,hpr⟩,hq⟩,hlt⟩,hall⟩,hll⟩:=hok
 generalize fd7 (ops.toList.map ae8)=ms at hms hpr
 have hes:∀ (j:Nat) (o:Oper),ops[j]? = some o→(ops.toList.map ae8)[j]? = some (ae8 o):=fun j o ho=>by simp[ho]
 have hme:∀ (o:Oper) (k:Nat),k∈ae8 o→∃ e∈o.after,Region.binds .any e=true∧e.on=k:=fun o k hk=>by
  unfold ae8 at hk
  obtain ⟨e,he,rfl⟩:=List.mem_map.1 hk
  obtain ⟨h1,h2⟩:=List.mem_filter.1 he
  exact ⟨e,by simpa using h1,h2,rfl⟩
 have hem:∀ (o:Oper) (e:Edge),e∈o.after→Region.binds .any e=true→e.on∈ae8 o:=fun o e he hb=>
  List.mem_map.2 ⟨e,List.mem_filter.2 ⟨by simpa using he,hb⟩,rfl⟩
 have hmemI:∀ it∈gg5 σ.next (gg6 ios l),∃ q∈l,it=(q.1,ios.getD q.1 default,σ.next+q.1,q.2):=fun it hit=>by
  obtain ⟨y,hy,rfl⟩:=List.mem_map.1 hit
  obtain ⟨q,hq',rfl⟩:=List.mem_map.1 hy
  exact ⟨q,hq',rfl⟩
 refine ei9 (E:=E) (pf:=pf) (N:=N) (anc:=fun k j=>(ms.getD j 0).testBit k=true) (n0:=n0) (base:=σ.next) (ρ0:=ρ) (w0:=w) (ds:=a.defers) (K:=fun fr' σ'=>Q .normal (fr'.keep ks) σ') ?_ ?_ ?_ ?_
  ops.size (gg5 σ.next (gg6 ios l)) [] _ fr { σ with next:=σ.next+l.length } ρ w.drew a (by simp[gg5,gg6,hll,hlen]) ?_ h
  (cy6 (cc7 hs) (fun i hi=>hs.fresh i (by omega))) (hf.mono (aq9 0)) rfl ((aq9 n0).weak (Nat.le_refl _)) hn (by rw[hll,hlen]; exact Nat.le_refl _) ?_
 ·intro f f' s hff hK
  have:f'.keep ks=f.keep ks:=by
   unfold Frm.keep
   exact List.map_congr_left fun k _=>by rw[hff k]
  rw[this]; exact hK
 ·intro fr' σ' ρ' w' a' hn' hK hs' hf' hd' hx
  exact ⟨fr'.keep ks,σ',ρ',hn',hK,hs',hf'.keep ks,by rw[hd']; exact hd.mono hx,hr.mono hx,hx⟩
 ·intro j o ho e he hb
  have:=cg1 _ _ hed j _ (hes j o ho) _ (hem o e he hb)
  have hj:j<ops.size:=by
   rcases Nat.lt_or_ge j ops.size with h'|h'
   ·exact h'
   ·simp[Array.getElem?_eq_none h'] at ho
  omega
 ·intro k j hk o ho
  have:=dg9 _ _ hms j _ (hes j o ho)
  simp only[Nat.zero_add] at this
  rw[this] at hk
  rcases fd8 _ _ hk with h1|⟨e,he,h1⟩
  ·simp at h1
  ·obtain ⟨ed,hed1,hb,heq⟩:=hme o e he
   exact ⟨ed,hed1,hb,by rw[heq]; exact h1⟩
 ·refine ⟨by simp,fun j hj=>?_,fun it hit=>?_,?_,?_⟩
  ·constructor
   ·intro _
    have:=hall j (by simp[List.mem_range,hlen,hj])
    obtain ⟨q,hq',he⟩:=List.any_eq_true.1 this
    have he:q.1=j:=by simpa using he
    exact ⟨(q.1,ios.getD q.1 default,σ.next+q.1,q.2),List.mem_map.2 ⟨_,List.mem_map.2 ⟨q,hq',rfl⟩,rfl⟩,he⟩
   ·intro _; simp[hj]
  ·obtain ⟨q,hq',rfl⟩:=hmemI it hit
   have hql:=hlt q hq'
   have hqs:q.1<ops.size:=by omega
   obtain ⟨jt,hjt,hje⟩:=dy6 (base:=σ.next) ios 0 q.1 (Nat.zero_le _) (by omega)
   obtain ⟨o,h1,h2⟩:=dy7 ops.toList ios 0 rfl hc jt hjt
   have hget:ios[q.1]? = some jt.2.1:=by
    have:∀ (ios:List IOper) (i:Nat),∀ it∈dy3 σ.next i ios,ios[it.1-i]? = some it.2.1:=by
     intro ios
     induction ios with
     | nil=>intro i it h; cases h
     | cons o os ih=>
      intro i it h
      rcases List.mem_cons.1 h with rfl|h
      ·simp
      ·have h1:=fd9 os _ it h
       have h2:=ih _ it h
       rw[show it.1-i=(it.1-(i+1))+1 from by omega]
       simpa using h2
    have:=this ios 0 jt hjt
    rw[hje] at this
    simpa using this
   have hd:ios.getD q.1 default=jt.2.1:=by simp[List.getD_eq_getElem?_getD,hget]
   rw[hje] at h1
   refine ⟨o,h1,by simp only[hd]; exact h2,rfl,?_⟩
   simp only[hd]
   exact hq _ (List.mem_of_getElem? hget)
  ·refine (dq9 (base:=σ.next) _ hpr).imp ?_
   intro p x ⟨h1,h2,h3⟩
   refine ⟨h1,h2,fun o ho e he hb heq=>h3 ?_⟩
   have:(ops.toList.map ae8).getD p.1 []=ae8 o:=by rw[List.getD_eq_getElem?_getD,hes p.1 o ho]; rfl
   rw[this,← heq]
   exact hem o e he hb
  ·intro j hj
   exfalso
   by_cases hlt:j<ops.size
   ·simp[hlt] at hj
   ·simp[hlt] at hj
 ·intro it hit
  obtain ⟨q,hq',rfl⟩:=hmemI it hit
  exact hs.fresh _ (by show σ.next≤σ.next+q.1; omega)
def gg7 (ess:List (List Nat))(done:List Nat)(j:Nat):Bool:=(ess.getD j []).all fun e=>done.contains e
def hy6 (ess:List (List Nat))(ios:List IOper)(done:List Nat):Option Nat :=
 match (List.range ios.length).find? (fun j=>!done.contains j&&gg7 ess done j&&decide ((ios.getD j default).op.cls≤1)) with
 | some j=>some j
 | none=>(List.range ios.length).find? fun j=>!done.contains j&&gg7 ess done j
def gg8 (ess:List (List Nat))(ios:List IOper):Nat→List Nat→List Nat
 | 0,done=>done
 | n+1,done=>match hy6 ess ios done with
  | some j=>gg8 ess ios n (done++[j])
  | none=>done
def gm2 (ms:List Nat)(ios:List IOper)(j:Nat):List Nat→Nat
 | []=>0
 | p::ps=>if (ios.getD p default).op.cls=1&&!(ms.getD j 0).testBit p&&!cf8 false (ios.getD p default).op.kind (ios.getD j default).op.kind then 2^p ||| gm2 ms ios j ps else gm2 ms ios j ps
def gg9 (ms:List Nat)(ios:List IOper):List Nat→List Nat→List (Nat×Nat)
 | _,[]=>[]
 | ahead,j::js=>(j,if (ios.getD j default).op.cls≤1 then 0 else gm2 ms ios j ahead)::gg9 ms ios (j::ahead) js
def ff1 (ess:List (List Nat))(ios:List IOper):List (Nat×Nat):=gg9 (fd7 ess) ios [] (gg8 ess ios ios.length [])
end Go.Id
