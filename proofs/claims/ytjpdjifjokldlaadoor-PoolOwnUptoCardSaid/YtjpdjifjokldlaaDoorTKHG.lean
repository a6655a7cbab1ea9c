/- What grows by a row. Conditions: none. -/
import Derived.Test.YtjpdjifjokldlaaDoorTKPI
import Derived.Test.YtjpdjifjokldlaaDoorFwTf
import Derived.Test.YtjpdjifjokldlaaDoorFwZ
import Derived.Test.YtjpdjifjokldlaaDoorFwQ
import Derived.Test.YtjpdjifjokldlaaDoorTKPB
import Derived.Test.YtjpdjifjokldlaaDoorTKHA
set_option linter.all false
namespace Go.Id
open Go Go.Id
theorem fx1 {P:Program}{E:Nat→IV}{N n0:Nat}{fr:Frm}{σ:Store}{x:IC}{Q:Exit→Frm→Store→Prop}(I:Nat→Frm→Store→Prop)(n:Nat)(h:I 0 fr σ)
  (hI:∀ i fr σ,i≤n→I i fr σ→RI P E N n0 x fr σ (upQ I i n Q)):RI P E N n0 (.loop x) fr σ Q:=by
 refine cx1 (fun m fr σ=>∃ i,i≤n∧m=n-i∧I i fr σ) n ⟨0,Nat.zero_le _,rfl,h⟩ ?_;rintro m fr σ ⟨i,hi,rfl,hi0⟩;refine al9 (hI i fr σ hi hi0) ?_;intro e f s q
 cases e with
 | normal=>exact ⟨n-(i+1),by have:=q.1; omega,i+1,q.1,rfl,q.2⟩
 | _=>exact q
theorem fx2 {σ:Store}{v:IV}{nid:Nat}{zs xs:List Int}(hg:Grow σ v 1 (zs.map Md.ar1))(hn:zs.length+xs.length≤2147483648) :
  ∃ v' σ',aw1 σ nid 1 v (.aa4 (xs.map Md.ar1))=some (v',σ')∧σ'.next=σ.next∧∀ τ:Store,τ.obj=σ'.obj→nid<τ.next→σ.next≤τ.next→Grow τ v' 1 ((zs++xs).map Md.ar1):=by
 have ha:∀ l:List Int,∀ x∈l.map Md.ar1,x.length=1∧x.all IV.leaf=true:=by
  intro l x hx;obtain ⟨y,_,rfl⟩:=List.mem_map.1 hx;exact ⟨rfl,rfl⟩
 have hsrc:av9 σ 1 (.aa4 (xs.map Md.ar1))=some (xs.length,(xs.map Md.ar1).flatten):=by
  have h1:(xs.map Md.ar1).all (fun e=>e.length==1)=true:=List.all_eq_true.2 fun x hx=>by rw[(ha xs x hx).1]; rfl
  simp only[av9,h1,if_true,List.length_map]
 have hx1:(xs.map Md.ar1).flatten.all IV.leaf=true:=aw9 fun x hx=>(ha xs x hx).2
 have hz1:(zs.map Md.ar1).flatten.all IV.leaf=true:=aw9 fun x hx=>(ha zs x hx).2
 have hz2:(zs.map Md.ar1).flatten.length=zs.length:=by rw[ah3 fun x hx=>(ha zs x hx).1,List.length_map]; omega
 have hx0:¬ ((xs.map Md.ar1).flatten.all IV.leaf=false):=by rw[hx1]; decide
 unfold aw1;rw[hsrc];simp only[hx0,if_false];by_cases h0:xs.length=0
 ·have hxs:xs=[]:=List.length_eq_zero_iff.1 h0;subst hxs;rw[List.append_nil];rcases hg with ⟨rfl,he⟩|⟨id,rfl,ho,hid⟩
  ·exact ⟨.aa1,σ,rfl,rfl,fun τ _ _ _=>.inl ⟨rfl,he⟩⟩
  ·simp only[ho,List.length_nil,and_self,if_true];exact ⟨_,_,rfl,rfl,fun τ h1 _ h3=>.inr ⟨id,rfl,by rw[h1]; exact ho,by omega⟩⟩
 ·rcases hg with ⟨rfl,he⟩|⟨id,rfl,ho,hid⟩
  ·have hzs:zs=[]:=List.map_eq_nil_iff.1 he;subst hzs;have hle:xs.length≤2147483648:=by omega
   simp only[h0,if_false,hle,if_true];refine ⟨_,_,rfl,rfl,fun τ h1 h2 _=>.inr ⟨nid,by rw[List.nil_append,List.length_map],?_,h2⟩⟩;rw[h1,aa2,if_pos rfl]; rfl
  ·have h1:0+(zs.map Md.ar1).length*1=(zs.map Md.ar1).flatten.length:=by rw[hz2,List.length_map]; omega
   have h2:(zs.map Md.ar1).length+xs.length≤2147483648:=by rw[List.length_map]; exact hn
   simp only[ho,h0,and_false,if_false,h1,h2,List.drop_zero,hz1,and_self,if_true];refine ⟨_,_,rfl,rfl,fun τ h3 h4 _=>.inr ⟨nid,by rw[List.map_append,List.length_append,List.length_map,List.length_map],?_,h4⟩⟩;rw[h3,aa2,if_pos rfl,List.map_append,List.flatten_append]
   try rfl
theorem fi4 {P:Program}{E:Nat→IV}{f:Nat}(hn:∀ (p:Option Addr) (cap:Nat) (w:World),Calls P f #[.slice p 0 cap] w fun e w'=>e=.returned (.tuple #[])∧w'=w){σ:Store}:C P E f [.aa1] σ fun v s=>v=.tuple []∧s=σ:=by
 intro ρ w rargs hs hr;obtain ⟨hr1,hr2⟩:=hr;have hv0:=hr2 0 (by simp);obtain ⟨al⟩:=rargs
 match al,hr1,hv0 with
 | [r],_,hv0=>
  have hv0:VR ρ w .aa1 r:=hv0;cases hv0;refine callsIn_wide.2 ((hn _ _ w).mono ?_);rintro e w' ⟨rfl,rfl⟩;exact ⟨.tuple [],_,ρ,σ,rfl,⟨rfl,rfl⟩,hs,.tuple [] #[] rfl (fun i hi=>by simp at hi),au7.refl _ _ _⟩
end Go.Id
namespace Go.Id.Tryd
open Go Go.Id Go.Proofs Go.Id.Md
theorem hl9 (nm:Nms)(σ:Store)(k:Str):∃ v,ct7 σ 2 .aa1 false (.al5 (nmV nm)) (.str k)=some v∧(v=.aa4 ((af7 nm k).map Md.ar1)∨v=.aa1∧af7 nm k=[]):=by
 have h:∀ nm:Nms,∃ r,ar2 2 (.str k) (nmV nm)=some r∧((∃ v,r=some v∧v=.aa4 ((af7 nm k).map Md.ar1))∨r=none∧af7 nm k=[]):=by
  intro nm
  induction nm with
  | nil=>exact ⟨none,rfl,.inr ⟨rfl,rfl⟩⟩
  | cons t ts ih=>
   obtain ⟨r,h1,h2⟩:=ih;simp only[nmV,List.map_cons,ar2,ey8,af7] at h1 ⊢;by_cases e:k=t.1
   ·simp only[e,decide_true,if_true];exact ⟨_,rfl,.inl ⟨_,rfl,rfl⟩⟩
   ·simp only[e,decide_false,if_false];exact ⟨r,h1,h2⟩
 obtain ⟨r,h1,h2⟩:=h nm;rcases h2 with ⟨v,rfl,rfl⟩|⟨rfl,h3⟩
 ·refine ⟨.aa4 ((af7 nm k).map Md.ar1),?_,.inl rfl⟩;simp only[ct7,bg6,h1];rfl
 ·refine ⟨.aa1,?_,.inr ⟨rfl,h3⟩⟩;simp only[ct7,bg6,h1];rfl
end Go.Id.Tryd
set_option linter.all false
namespace Go.Id
open Go
variable {P:Program} {E:Nat→IV} {σ σ':Store} {N n0:Nat} {fr:Frm}
theorem fi6 {S:Nat→Bool}{yid:Nat}{args:List IV}{Q:IV→Store→Prop}(hid:S yid=true)(hS:∀ i,σ.next≤i→S i=true)(ha:∀ a∈args,Nm (fun i=>S i=true) a)(hob:∀ i o,S i=true→σ.obj i=some o→NmO (fun i=>S i=true) o)(hE:∀ g,Bnd 0 (E g))
  (hQn:∀ v σ',Q v σ'→σ.next≤σ'.next) (h:CYd P E yid args (σ.only S) Q):CYd P E yid args σ fun v σ''=>∃ σ',Q v σ'∧σ''=σ'.back σ S∧Nm (fun i=>S i=true) v∧(∀ i o,S i=true→σ'.obj i=some o→NmO (fun i=>S i=true) o)∧∀ i,S i=false→σ'.obj i=none:=by
 intro ρ w rargs B0 d0 hs hr hB;obtain ⟨ρ0,hk,hX⟩:=ce3 (fun i=>S i=true) ρ;have hlive:∀ v:IV,Bnd 0 v→Nm (fun i=>S i=true) v:=fun v hv=>hv.weak fun i h=>absurd h (Nat.not_lt_zero _)
 have hs0:Sim E ρ0 w (σ.only S):=hs.gs5 hk (fun i hi=>by simp[Store.only,hi]) (fun i hi=>by simp[Store.only,hi]) (fun i o hi ho=>hob i o hi (by simpa [Store.only,hi] using ho))
  (fun i hi=>by
   have hn:σ.next≤i:=hi;rw[hk.on i (hS i hn)]; exact hs.fresh i hn) (fun g=>hlive _ (hE g))
 have hr0:CR ρ0 w args rargs:=⟨hr.1,fun i hi=>(hr.2 i hi).cut hk (ha _ (ad1 _ hi))⟩;obtain ⟨fn,tmps,assign,body,h1,h2⟩:=h ρ0 w rargs B0 d0 hs0 hr0 (by rw[hk.on yid hid]; exact hB);refine ⟨fn,tmps,assign,body,h1,RoundIn.mono h2 ?_⟩;rintro e w' ⟨v,r,ρ',σ',rfl,hq,hs',hv',hx⟩
 -- what is hidden stands for nothing,before and behind
 have hoff:∀ i,S i=false→ρ' i=.no:=fun i hi=>by
  have hlt:i<σ.next:=by
   rcases Nat.lt_or_ge i σ.next with h|h
   ·exact h
   ·rw[hS i h] at hi; cases hi
  exact hx.no i hlt (hk.off i (by simp[hi]))
 have hlv:∀ i,ρ' i≠.no→S i=true:=fun i h=>by
  cases hsi:S i with
  | true=>rfl
  | false=>exact absurd (hoff i hsi) h
 have hsame:∀ i B d,S i=false→ρ i=.at B d→w'.heap[B]? = w.heap[B]?:=fun i B d hi hat=>hx.keep B ⟨hs.lt i B d hat,fun j d' hj=>by
  obtain ⟨h1,h2⟩:=hk.at hj;have:=hs.inj j i B d' d h2 hat;subst this;rw[hi] at h1; cases h1⟩
 have hnew:∀ i j B d d',S j=false→ρ' i=.at B d→ρ j=.at B d'→False:=fun i j B d d' hj h1 h2=>by
  rcases hx.img i B d h1 with ⟨k,d2,hk2⟩|hge
  ·obtain ⟨g1,g2⟩:=hk.at hk2;have:=hs.inj k j B d2 d' g2 h2;subst this;rw[hj] at g1; cases g1
  ·have:=hs.lt j B d' h2; omega
 let ρ2:Rho:=⟨fun i=>if S i then ρ' i else ρ i,ρ.X⟩;have on:∀ i,S i=true→ρ2 i=ρ' i:=fun i h=>by show (if S i=true then ρ' i else ρ i)=_; rw[if_pos h]
 have off:∀ i,S i=false→ρ2 i=ρ i:=fun i h=>by show (if S i=true then ρ' i else ρ i)=_; rw[if_neg (by simp[h])]
 have hXx:∀ b,ρ'.X b↔ρ.X b∨∃ i d,¬ (S i=true)∧ρ i=.at b d:=fun b=>by rw[hx.X]; exact hX b
 -- what is simulated behind the call is so with what was hidden
 have hcut:bl6 (fun i=>S i=true) ρ2 ρ':=⟨fun i h=>(on i h).symm,fun i h=>hoff i (by simpa using h),fun b hb=>by
  rcases (hXx b).1 hb with h|⟨i,d,hi,hat⟩
  ·exact .inl h
  ·exact .inr ⟨i,d,hi,by rw[off i (by simpa using hi)]; exact hat⟩⟩
 have hfb:∀ b,FB ρ' w' b→FB ρ2 w' b:=fun b hb=>⟨hb.1,fun i d hi=>by
  cases hsi:S i with
  | true=>rw[on i hsi] at hi; exact hb.2 i d hi
  | false=>rw[off i hsi] at hi; exact hb.3 ((hXx b).2 (.inr ⟨i,d,by simp[hsi],hi⟩)),fun hxb=>hb.3 ((hXx b).2 (.inl hxb))⟩
 have hrf:∀ i,ρ' i≠.no→ρ2 i=ρ' i:=fun i h=>on i (hlv i h)
 -- from before: what was hidden is aZ it was
 have hxO:Ext 0 ρ w ρ2 w':=by
  refine ⟨hx.size,fun b hb=>hx.keep b ⟨hb.1,fun i d hi=>hb.2 i d (hk.at hi).2⟩,hx.shape,fun i B d hi=>?_,fun i B d hi=>?_,fun i hi=>?_,fun i hi=>absurd hi (Nat.not_lt_zero _),hx.output,hx.os,hx.tape,hx.loops,rfl⟩
  ·cases hsi:S i with
   | true=>
    rw[on i hsi] at hi;rcases hx.img i B d hi with ⟨j,d',hj⟩|h
    ·exact .inl ⟨j,d',(hk.at hj).2⟩
    ·exact .inr h
   | false=>rw[off i hsi] at hi; exact .inl ⟨i,d,hi⟩
  ·cases hsi:S i with
   | true=>
    rw[on i hsi]
    have hlt:i<σ.next:=by
     rcases Nat.lt_or_ge i σ.next with h|h
     ·exact h
     ·rw[hs.fresh i h] at hi; cases hi
    exact hx.at_ i B d hlt (by rw[hk.on i hsi]; exact hi)
   | false=>rw[off i hsi]; exact .inl hi
  ·cases hsi:S i with
   | true=>
    rw[on i hsi]
    have hlt:i<σ.next:=by
     rcases Nat.lt_or_ge i σ.next with h|h
     ·exact h
     ·rw[hs.fresh i h] at hi; cases hi
    exact hx.dead i hlt (by rw[hk.on i hsi]; exact hi)
   | false=>rw[off i hsi]; exact hi
 have hsim:Sim E ρ2 w' (σ'.back σ S):=by
  refine ⟨fun i j B d d' hi hj=>?_,fun i B d hi=>?_,fun i B d hi=>?_,fun i hi=>?_,fun i hi=>?_,fun i hi=>?_,fun g=>(hs'.env g).refs hrf hfb,fun i B d hi hxb=>?_,fun b hb=>Nat.lt_of_lt_of_le (hs.xlt b hb) hx.size⟩
  ·cases hsi:S i with
   | true=>
    rw[on i hsi] at hi
    cases hsj:S j with
    | true=>rw[on j hsj] at hj; exact hs'.inj i j B d d' hi hj
    | false=>rw[off j hsj] at hj; exact (hnew i j B d d' hsj hi hj).elim
   | false=>
    rw[off i hsi] at hi
    cases hsj:S j with
    | true=>rw[on j hsj] at hj; exact (hnew j i B d' d hsi hj hi).elim
    | false=>rw[off j hsj] at hj; exact hs.inj i j B d d' hi hj
  ·cases hsi:S i with
   | true=>rw[on i hsi] at hi; exact hs'.lt i B d hi
   | false=>rw[off i hsi] at hi; exact Nat.lt_of_lt_of_le (hs.lt i B d hi) hx.size
  ·cases hsi:S i with
   | true=>
    rw[on i hsi] at hi;obtain ⟨o,h1,h2⟩:=hs'.obj i B d hi
    exact ⟨o,by simp[Store.back,hsi,h1],h2.refs hrf hfb⟩
   | false=>
    rw[off i hsi] at hi;obtain ⟨o,h1,h2⟩:=hs.obj i B d hi;exact ⟨o,by simp[Store.back,hsi,h1],h2.mono hxO (hsame i B d hsi hi)⟩
  ·cases hsi:S i with
   | true=>rw[on i hsi] at hi; simp[Store.back,hsi,hs'.dead i hi]
   | false=>rw[off i hsi] at hi; simp[Store.back,hsi,hs.dead i hi]
  ·have hn:σ'.next≤i:=hi
   cases hsi:S i with
   | true=>rw[on i hsi]; exact hs'.fresh i hn
   | false=>
    rw[off i hsi]
    cases hri:ρ i with
    | no=>rfl
    | _=>
     exfalso
     have hlt:i<σ.next:=by
      rcases Nat.lt_or_ge i σ.next with h|h
      ·exact h
      ·rw[hS i h] at hsi; cases hsi
     have:=hQn v σ' hq;omega
  ·cases hsi:S i with
   | true=>rw[on i hsi] at hi; simp[Store.back,hsi,hs'.ak6 i hi]
   | false=>rw[off i hsi] at hi; simp[Store.back,hsi,hs.ak6 i hi]
  ·cases hsi:S i with
   | true=>rw[on i hsi] at hi; exact hs'.nx i B d hi ((hXx B).2 (.inl hxb))
   | false=>rw[off i hsi] at hi; exact hs.nx i B d hi hxb
 refine ⟨v,r,ρ2,_,rfl,⟨σ',hq,rfl,hv'.nm hlv,fun i o _ ho=>hs'.nmO hlv i o ho,fun i hi=>hs'.ak6 i (hoff i hi)⟩,hsim,hv'.refs hrf hfb,⟨hxO.size,hxO.keep,hxO.shape,hxO.img,fun i B d _ hi=>hxO.at_ i B d hi,fun i _ hi=>hxO.dead i hi,fun i hlt hi=>?_,hxO.output,hxO.os,hxO.tape,hxO.loops,rfl⟩⟩
 cases hsi:S i with
 | true=>rw[on i hsi]; exact hx.no i hlt (by rw[hk.on i hsi]; exact hi)
 | false=>rw[off i hsi]; exact hi
theorem iq9 {f:Nat}{args:List IV}{Q:IV→Store→Prop}(h:(∀ i o,σ.obj i=some o→NmO (fun i=>i<σ.next) o)→(∀ a∈args,Nm (fun i=>i<σ.next) a)→C P E f args σ Q):C P E f args σ Q:=by
 intro ρ w rargs hs hr
 have hlv:∀ i,ρ i≠.no→i<σ.next:=fun i hi=>by
  rcases Nat.lt_or_ge i σ.next with h|h
  ·exact h
  ·exact absurd (hs.fresh i h) hi
 refine h (fun i o ho=>hs.nmO hlv i o ho) (fun a ha=>?_) ρ w rargs hs hr;obtain ⟨i,hi,rfl⟩:=List.mem_iff_getElem.1 ha;have:=(hr.2 i hi).nm hlv
 simpa [List.getD_eq_getElem?_getD,hi] using this
def cg2 (P:Program)(E:Nat→IV)(fv:IV)(evs:List (List IV))(own:Store→Prop):Prop :=
 ∀ (yid:Nat) (I:List (List IV)→Store→Prop) (S:Store→Prop) (σ:Store),(∀ r r' s,r.Perm r'→I r s→I r' s)→(∀ rest s,I rest s→own s)→gj1 I→eb5 P E yid I S→I evs σ→CVf P E fv [.yield yid] σ (gj2 σ.next I S)
theorem fx4 {g:IX}{ps:List Nat}{y x:IC}{Q:Exit→Frm→Store→Prop}{evs:List (List IV)}{own:Store→Prop}(hT:cg2 P E (g.ev E fr) evs own)
  (J:List (List IV)→Store→Prop) (hperm:∀ r r' s,r.Perm r'→J r s→J r' s) (hown:∀ rest s,J rest s→own s) (hstab:gj1 J) (hlen:∀ a∈evs,a.length=ps.length)
  (hinit:∀ o,J evs ⟨σ.next+1,(σ.put σ.next o).obj⟩)
  (hbody:∀ (L:LoopState→Option JX→ah2) (pre:List (List IV)) (a:List IV) (rest:List (List IV)) (s:Store),evs.Perm (pre++a::rest)→J (a::rest) s→s.obj σ.next=some (L .ready none)→σ.next<s.next →
   wpT noP noC P E N s.next y (bq5 fr ps a) s (hw6 P E N s.next σ.next L x (goQ σ.next s.next L J Q fr rest)))
  (hend:∀ s o,J [] s→σ.next<s.next→s.obj σ.next=some o→Q .normal fr (s.kill σ.next)) :
  RI P E N n0 (.rfunc g ps y x) fr σ Q:=by
 refine cu4 fun L hL=>?_
 let I:List (List IV)→Store→Prop:=fun rest s=>(∃ pre,evs.Perm (pre++rest))∧s.obj σ.next=some (L .ready none)∧σ.next<s.next∧J rest s
 let S:Store→Prop:=fun s=>∃ st pend,st≠.busy∧s.obj σ.next=some (L st pend)∧fm7 Q fr (s.kill σ.next) pend
 have hI:gj1 I:=by
  rintro rest s s' ⟨hp,h1,h2,h3⟩ hn hs;exact ⟨hp,by rw[hs _ h2]; exact h1,Nat.lt_of_lt_of_le h2 hn,hstab rest s s' h3 hn hs⟩
 have hst:eb5 P E σ.next I S:=by
  rintro a rest s ⟨⟨pre,hp⟩,h1,h2,h3⟩;refine ⟨by rw[h1]; rfl,?_⟩;have hb:=hbody L pre a rest s hp h3 h1 h2;refine hL s a _ (hlen a (hp.mem_iff.2 (by simp))) h1 ?_;refine (ap7 y _ _ _ (ay9 y _ _ _ _ ?_ (ap9 noT y _ _ _ hb)));intro e f s1 q
  cases e with
  | normal=>
   refine ⟨rfl,q.1,?_⟩;refine (ap7 x _ _ _ (ay9 x _ _ _ _ ?_ (ap9 noT x _ _ _ q.2)))
   have hK:∀ v s2,goQ σ.next s.next L J Q fr rest v s2→s.next≤s2.next∧((v=.bool true∧I rest s2)∨(v=.bool false∧S s2)):=by
    rintro v s2 ⟨hn,h|h⟩
    ·exact ⟨hn,.inl ⟨h.1,⟨pre++[a],by simpa using hp⟩,h.2.1,Nat.lt_of_lt_of_le h2 hn,h.2.2⟩⟩
    ·exact ⟨hn,.inr ⟨h.1,h.2⟩⟩
   intro e f s2 q2
   cases e with
   | normal=>exact ⟨q2.1,hK _ _ q2.2⟩
   | ret=>exact ⟨q2.1,hK _ _ q2.2⟩
   | exit i=>exact ⟨q2.1,hK _ _ q2.2⟩
   | _=>exact q2
  | _=>exact q.elim
 have h:=hT σ.next I S ⟨σ.next+1,(σ.put σ.next (L .ready none)).obj⟩ (fun r r' s hp h=>⟨h.1.imp fun pre hq=>hq.trans (hp.append_left pre),h.2.1,h.2.2.1,hperm r r' s hp h.2.2.2⟩) (fun rest s h=>hown rest s h.2.2.2) hI hst ⟨⟨[],List.Perm.refl _⟩,by simp only[aa2,if_true],Nat.lt_succ_self _,hinit _⟩;refine h.mono ?_;rintro v s ⟨hn,h|h⟩
 ·exact ⟨Nat.le_of_lt hn,.ready,none,(fun h=>by cases h),h.2.1,hend s _ h.2.2.2 h.2.2.1 h.2.1⟩
 ·exact ⟨Nat.le_of_lt hn,h⟩
end Go.Id
set_option linter.all false
namespace Go.Id.Tryd
open Go Go.Id Go.Proofs Go.Id.Md
set_option maxRecDepth 100000
theorem fx3 {S S':Nat→Prop}{o:ah2}(h:NmO S o)(hS:∀ i,S i→S' i):NmO S' o:=by
 cases o with
 | cells cs=>exact fun c hc=>(h c hc).weak hS
 | row cs=>exact fun c hc=>(h c hc).weak hS
 | map es=>exact ⟨fun e he=>(h.1 e he).weak hS,fun e he=>(h.2 e he).weak hS⟩
 | ap5 s pos=>trivial
 | loop N tmps params assign body st pend=>exact fun t=>(h t).weak hS
 | ai8 left cur=>exact ⟨fun e he=>(h.1 e he).weak hS,fun e he=>(h.2.1 e he).weak hS,fun c hc=>⟨(h.2.2 c hc).1.weak hS,(h.2.2 c hc).2.weak hS⟩⟩
theorem fi5 (es:List (IV×IV))(hes:∀ e∈es,Bnd 0 e.1):cg2 Tryd.prog EE (.func (.func 39) [] [.af4 [.al5 es]]) (es.map fun e=>[e.1]) (fun _=>True):=by
 intro yid I S σ hperm hown hstab hy hi;refine ⟨fok39.1,iq9 fun hwf hwa=>?_⟩
 have hyid:yid<σ.next:=by
  have:=hwa (.yield yid) (List.mem_cons_self ..);cases this; assumption
 refine ey5 fok39 (nZ rfl) ?_;simp only[ic39];refine ab1 (ab3 ?_);simp only[go_sem]
 have hw0:∀ j o,j≠σ.next→((Store.put ⟨σ.next+1,σ.obj⟩ σ.next (ah2.ai8 es none)).obj j=some o)→NmO (fun i=>decide (i≠σ.next)=true) o:=by
  intro j o hj ho;simp only[aa2,if_neg hj] at ho;exact fx3 (hwf j o ho) fun i hlt=>by simp; omega
 refine af3 (fx1 (fun i fr t=>∃ left c,left.length+i=es.length∧(∀ e∈left,e∈es)∧(fr=[(0,.yield yid),(5,.ptr σ.next 0)]∨fr=[(0,.yield yid),(5,.ptr σ.next 0),(13,.bool false)])∧t.obj σ.next=some (.ai8 left c)∧σ.next<t.next∧I (left.map fun e=>[e.1]) (t.only fun i=>decide (i≠σ.next)) ∧
  ∀ j o,j≠σ.next→t.obj j=some o→NmO (fun i=>decide (i≠σ.next)=true) o) es.length ?_ ?_)
 ·refine ⟨es,none,rfl,fun _ h=>h,.inl rfl,by simp only[aa2,if_true],Nat.lt_succ_self _,?_,hw0⟩;refine hstab _ σ _ hi (Nat.le_succ _) fun i hlt=>?_
  have e:i≠σ.next:=by omega
  simp[Store.only,e,aa2]
 rintro i fr t hle ⟨left,c,hlen,hin,rfl|rfl,hob,hnx,hI,hnm⟩
 all_goals
  refine ab1 (ab3 ?_);simp only[go_sem,ie7 hob];refine ⟨fun hnil=>?_,fun j hj=>?_⟩
  ·subst hnil;refine ab1 (cw9 (b:=false) rfl ?_);refine fb8 (S:=fun i=>decide (i≠σ.next)) (fun _=>.inl rfl) (ab3 ?_);simp only[go_sem];exact ⟨by show σ.next≤t.next; omega,.inl hI⟩
  ·have hx:left.getD j (.undef,.undef)=left[j]:=by simp[List.getD_eq_getElem?_getD,hj]
   rw[hx];have hmem:=List.getElem_mem hj;have hI2:I ([left[j].1]::(left.eraseIdx j).map fun e=>[e.1]) (t.only fun i=>decide (i≠σ.next)):=hperm _ _ _ ((ct3 left j hj).map fun e=>[e.1]) hI;have hel:(left.eraseIdx j).length+(i+1)=es.length:=by rw[List.length_eraseIdx,if_pos hj]; omega
   have hein:∀ e∈left.eraseIdx j,e∈es:=fun e he=>hin e (List.mem_of_mem_eraseIdx he)
   have hbx:Bnd 0 left[j].1:=hes _ (hin _ hmem);generalize left[j]=x at *;generalize left.eraseIdx j=l2 at *;refine ab1 (ab3 ?_);simp only[go_sem];refine af3 (ab1 (ab3 ?_));have hme:∀ m,ba5 ⟨m,(t.put σ.next (.ai8 l2 (some x))).obj⟩ (.ptr σ.next 0)=some (.tuple [x.1,x.2]):=fun m=>hj5 (s:=⟨m,(t.put σ.next (.ai8 l2 (some x))).obj⟩) (l:=l2) (by simp only[aa2,if_true])
   simp only[go_sem,hme,hj5 (s:=t.put σ.next (.ai8 l2 (some x))) (id:=σ.next) (l:=l2) (c:=x) (by simp only[aa2,if_true])];refine ab1 (ab3 ?_);simp only[go_sem]
   have hyx:CV Tryd.prog EE (.yield yid) [x.1] (Store.only ⟨t.next,(t.put σ.next (.ai8 l2 (some x))).obj⟩ fun i=>decide (i≠σ.next)) fun v s=>t.next≤s.next∧((v=.bool true∧I (l2.map fun e=>[e.1]) s)∨(v=.bool false∧S s)):=by
    refine hy [x.1] (l2.map fun e=>[e.1]) (Store.only ⟨t.next,(t.put σ.next (.ai8 l2 (some x))).obj⟩ fun i=>decide (i≠σ.next)) (hstab _ (t.only fun i=>decide (i≠σ.next)) _ hI2 (Nat.le_refl _) fun k _=>?_);show (if _ then (t.put σ.next _).obj k else none)=if _ then t.obj k else none
    by_cases hk:k=σ.next
    ·simp[hk]
    ·simp only[aa2,if_neg hk]
   have hsome:((t.put σ.next (.ai8 l2 (some x))).obj yid).isSome=true:=by
    have h:=hyx.1;have e:yid≠σ.next:=by omega
    simpa [Store.only,e] using h
   have hfr:=fi6 (σ:=⟨t.next,(t.put σ.next (.ai8 l2 (some x))).obj⟩) (by simp; omega) (fun i hi=>by
    have hi:t.next≤i:=hi;simp; omega) (fun a ha=>by
    simp only[List.mem_cons,List.not_mem_nil,or_false] at ha;subst ha;exact hbx.weak fun i h=>absurd h (Nat.not_lt_zero _)) (fun k o hk ho=>by
    have hk':k≠σ.next:=by simpa using hk
    simp only[aa2,if_neg hk'] at ho;exact hnm k o hk' ho) hE (by rintro v s ⟨h,_⟩; exact h) hyx.2
   refine ⟨_,⟨hsome,hfr⟩,?_⟩;rintro v s ⟨σ',⟨hn',hcase⟩,rfl,hnv,hob',hnone⟩;have hn':t.next≤σ'.next:=hn';refine ⟨hn',?_⟩
   have hback:∀ u:Store,(⟨σ'.next,fun i=>if decide (i≠σ.next)=true then (σ'.back u fun i=>decide (i≠σ.next)).obj i else none⟩:Store)=σ':=by
    intro u
    cases σ' with
    | mk nx ob=>
     congr 1;funext k;by_cases hk:k=σ.next
     ·have:=hnone k (by simp[hk]);simp[hk] at this ⊢;exact this.symm
     ·simp[Store.back,hk]
   rcases hcase with ⟨rfl,hI'⟩|⟨rfl,hS'⟩
   ·simp only[go_sem];refine ab3 ?_;simp only[go_sem];refine ⟨by omega,l2,some x,hel,hein,.inr trivial,by simp[Store.back,aa2],by show σ.next<σ'.next; omega,?_,fun k o hk ho=>?_⟩
    ·exact cast (congrArg (I _) (hback ⟨t.next,(t.put σ.next (.ai8 l2 (some x))).obj⟩).symm) hI'
    ·refine hob' k o (by simpa using hk) ?_
     simpa [Store.back,hk] using ho
   ·simp only[go_sem];refine cw9 (b:=true) rfl ?_;refine fb8 (S:=fun i=>decide (i≠σ.next)) (fun _=>.inl rfl) (ab3 ?_);simp only[go_sem];refine ⟨by show σ.next≤σ'.next; omega,.inr ?_⟩;exact cast (congrArg S (hback ⟨t.next,(t.put σ.next (.ai8 l2 (some x))).obj⟩).symm) hS'
end Go.Id.Tryd
set_option linter.all false
namespace Go.Id.Tryd
open Go Go.Id Go.Proofs Go.Shelf
set_option maxRecDepth 100000
def iq3:Go.Shelf.Ren where
 f:=fun n=>(List.lookup n [(0,0),(1,1),(2,2),(99,55),(125,53),(128,80),(129,81),(137,54),(190,38),(206,83),(217,82),(258,52),(266,96),(302,71),(303,72),(304,73),(305,74),(306,75),(307,76),(308,77),(309,78),(310,79),(329,91),(330,92),(333,90),(334,93),(335,94),(336,95),(344,97),(347,98),(348,99),(349,100),(350,101),(351,102),(352,103),(353,104),(354,105),(355,106),(356,107),(357,108),(358,109),(359,110),(360,111),(361,112),(366,114),(367,119)]).getD 0
 t:=fun n=>(List.lookup n [(0,0),(1,1),(2,2),(3,3),(4,4),(5,5),(7,7),(8,8),(9,9),(10,10),(11,11),(12,12),(13,13),(14,14),(15,15),(16,16),(17,17),(18,18),(20,20),(21,21),(22,101),(28,45),(31,30),(34,54),(41,102),(46,98),(47,97),(51,124),(52,123),(53,126),(54,125),(55,99),(80,143),(81,52),(100,82),(101,67),(102,78),(104,83),(111,62),(114,53),(127,152),(131,74),(135,96),(164,157),(182,117),(183,118),(188,116),(189,119),(190,120),(191,121),(192,122),(218,133),(219,134),(220,135),(222,137),(224,136),(225,138),(228,140),(229,141),(231,142),(238,144),(239,145),(240,146),(241,147),(242,148),(245,151),(248,155)]).getD 0
 g:=fun n=>n
theorem gn3:Lays.n190 Tryd.prog iq3 where
 mixed:=by kernel_rfl
 f125:=Tryd.func53.trans (congrArg some (by kernel_rfl))
 f128:=Tryd.func80.trans (congrArg some (by kernel_rfl))
 f129:=Tryd.func81.trans (congrArg some (by kernel_rfl))
 f190:=Tryd.func38.trans (congrArg some (by kernel_rfl))
 f258:=Tryd.func52.trans (congrArg some (by kernel_rfl))
 f302:=Tryd.func71.trans (congrArg some (by kernel_rfl))
 f303:=Tryd.func72.trans (congrArg some (by kernel_rfl))
 f304:=Tryd.func73.trans (congrArg some (by kernel_rfl))
 f305:=Tryd.func74.trans (congrArg some (by kernel_rfl))
 f306:=Tryd.func75.trans (congrArg some (by kernel_rfl))
 f307:=Tryd.func76.trans (congrArg some (by kernel_rfl))
 f308:=Tryd.func77.trans (congrArg some (by kernel_rfl))
 f309:=Tryd.func78.trans (congrArg some (by kernel_rfl))
 f310:=Tryd.func79.trans (congrArg some (by kernel_rfl))
 f329:=Tryd.func91.trans (congrArg some (by kernel_rfl))
 f330:=Tryd.func92.trans (congrArg some (by kernel_rfl))
 f333:=Tryd.func90.trans (congrArg some (by kernel_rfl))
 f334:=Tryd.func93.trans (congrArg some (by kernel_rfl))
 f335:=Tryd.func94.trans (congrArg some (by kernel_rfl))
 f336:=Tryd.func95.trans (congrArg some (by kernel_rfl))
 f344:=Tryd.func97.trans (congrArg some (by kernel_rfl))
 t0:=by kernel_rfl
 a0:=Tryd.isAgg0
 z0:=fun _=>by kernel_rfl
 v0:=fun _=>by kernel_rfl
 t3:=by kernel_rfl
 a3:=Tryd.isAgg3
 z3:=fun _=>by kernel_rfl
 v3:=fun _=>by kernel_rfl
 t4:=by kernel_rfl
 a4:=Tryd.isAgg4
 z4:=fun _=>by kernel_rfl
 v4:=fun _=>by kernel_rfl
 t5:=by kernel_rfl
 a5:=Tryd.isAgg5
 z5:=fun _=>by kernel_rfl
 v5:=fun _=>by kernel_rfl
 t9:=by kernel_rfl
 a9:=Tryd.isAgg9
 z9:=fun _=>by kernel_rfl
 v9:=fun _=>by kernel_rfl
 t31:=by kernel_rfl
 a31:=Tryd.isAgg30
 z31:=fun _=>by kernel_rfl
 v31:=fun _=>by kernel_rfl
 t46:=by kernel_rfl
 a46:=Tryd.isAgg98
 z46:=fun _=>by kernel_rfl
 v46:=fun _=>by kernel_rfl
 t51:=by kernel_rfl
 a51:=Tryd.isAgg124
 z51:=fun _=>by kernel_rfl
 v51:=fun _=>by kernel_rfl
 t53:=by kernel_rfl
 a53:=Tryd.isAgg126
 z53:=fun _=>by kernel_rfl
 v53:=fun _=>by kernel_rfl
 t131:=by kernel_rfl
 a131:=Tryd.isAgg74
 z131:=fun _=>by kernel_rfl
 v131:=fun _=>by kernel_rfl
 t182:=by kernel_rfl
 a182:=Tryd.isAgg117
 z182:=fun _=>by kernel_rfl
 v182:=fun _=>by kernel_rfl
 t183:=by kernel_rfl
 a183:=Tryd.isAgg118
 z183:=fun _=>by kernel_rfl
 v183:=fun _=>by kernel_rfl
 t218:=by kernel_rfl
 a218:=Tryd.isAgg133
 z218:=fun _=>by kernel_rfl
 v218:=fun _=>by kernel_rfl
 t222:=by kernel_rfl
 a222:=Tryd.isAgg137
 z222:=fun _=>by kernel_rfl
 v222:=fun _=>by kernel_rfl
 t228:=by kernel_rfl
 a228:=Tryd.isAgg140
 z228:=fun _=>by kernel_rfl
 v228:=fun _=>by kernel_rfl
 t229:=by kernel_rfl
 a229:=Tryd.isAgg141
 z229:=fun _=>by kernel_rfl
 v229:=fun _=>by kernel_rfl
def gn4 (l:List (List UInt8)):List (List UInt8):=l.mergeSort fun x y=>decide (x≤y)
theorem em6 {σ:Store}{id:Nat}{zs:List (List UInt8)}(hz:zs.length<4611686018427387904)(ho:σ.obj id=some (.row (zs.map IV.str))) :
  C Tryd.prog EE 38 [.slice id 0 zs.length 1] σ fun v s=>v=.tuple []∧s=σ.put id (.row ((gn4 zs).map IV.str)):=
 gk7 (enc:=encStr) (en:=IV.str) (srt:=gn4) (fun _ _ x=>.str _) (fun _ _ x r h=>by cases h; rfl) (fun l=>List.length_mergeSort l) (by unfold gn4; rw[List.mergeSort_nil])
  (fun blk off cap zs w h1 h2 h3=>Any.slices_Sort_string gn3 blk off cap zs w h1 h2 h3) (fun p cap w=>Any.slices_Sort_string_none gn3 p cap w) hz ho
open Go Go.Id Go.Proofs Go.Shelf Go.Id.Md
theorem gn5 (l:List Str):∀ x∈l.map ap4,x.length=1∧x.all IV.leaf=true:=by
 intro x hx;obtain ⟨s,_,rfl⟩:=List.mem_map.1 hx;exact ⟨rfl,rfl⟩
def evK (k:Str):List IV:=[.str k]
def kEv:List IV→Str
 | [.str k]=>k
 | _=>[]
theorem gn6 {rs:List Str}{r':List (List IV)}(h:(rs.map evK).Perm r'):∃ rs':List Str,r'=rs'.map evK∧rs.Perm rs':=by
 have e1:∀ l:List Str,(l.map evK).map kEv=l:=fun l=>by
  rw[List.map_map]; exact (List.map_congr_left fun _ _=>rfl).trans (List.map_id l)
 have e2:r'=(r'.map kEv).map evK:=by
  have h2:∀ e∈r',evK (kEv e)=e:=fun e he=>by
   obtain ⟨k,_,rfl⟩:=List.mem_map.1 (h.mem_iff.2 he);rfl
  rw[List.map_map];exact ((List.map_congr_left fun e he=>h2 e he).trans (List.map_id r')).symm
 have h3:=h.map kEv;rw[e1] at h3;exact ⟨r'.map kEv,e2,h3⟩
theorem fu4 (ks:List Str)(fv:IV)(hT:cg2 Tryd.prog EE fv (ks.map evK) (fun _=>True))(hn:ks.length<2^30)(σ:Store) :
  C Tryd.prog EE 51 [.aa1,fv] σ fun v t=>∃ zs:List Str,zs.Perm ks∧σ.next≤t.next∧Grow t v 1 (zs.map ap4):=by
 refine C_f fok51 (nZ rfl) ?_;simp only[ic51,go_sem];refine fx4 hT (fun rest t=>∃ (zs rs:List Str) (v:IV),rest=rs.map evK∧(zs++rs).Perm ks∧t.obj σ.next=some (.cells [v])∧σ.next+1<t.next∧Grow t v 1 (zs.map ap4)∧∀ id k,v=.slice id 0 k 1→σ.next+1<id) ?_ (fun _ _ _=>trivial) ?_ ?_ ?_ ?_ ?_
 ·rintro r r' s hp ⟨zs,rs,v,rfl,h2,h3⟩;obtain ⟨rs',e,hp'⟩:=gn6 hp;exact ⟨zs,rs',v,e,(hp'.symm.append_left zs).trans h2,h3⟩
 ·rintro rest t t' ⟨zs,rs,v,h1,h2,h3,h4,h5,h6⟩ hn ho;exact ⟨zs,rs,v,h1,h2,by rw[ho _ (by omega)]; exact h3,by omega,h5.mono hn fun id _ hid=>ho id hid,h6⟩
 ·intro a ha;obtain ⟨p,_,rfl⟩:=List.mem_map.1 ha;rfl
 ·intro o;have e0:¬ σ.next=σ.next+1:=by omega
  refine ⟨[],ks,.aa1,rfl,List.Perm.refl _,?_,by show σ.next+1<σ.next+1+1; omega,.inl ⟨rfl,rfl⟩,fun id k h=>by cases h⟩;simp only[aa2,ac4,e0,if_false,if_true]
 ·rintro L pre a rest t hev ⟨zs,rs,v,h1,h2,h3,h4,h5,h6⟩ hL hlt
  cases rs with
  | nil=>cases h1
  | cons k rs=>
  rw[List.map_cons] at h1;obtain ⟨ha,hrest⟩:=List.cons.inj h1;subst ha;simp only[evK,ac4] at hL hlt ⊢;have e1:¬ σ.next+1=t.next:=by omega
  have e2:¬ σ.next=t.next:=by omega
  have e3:¬ σ.next=σ.next+1:=by omega
  simp only[go_sem,hL,e1,e2,e3,h3];generalize hU:t.put (σ.next+1) (L .busy none)=U
  have hUo:∀ i,i≠σ.next+1→U.obj i=t.obj i:=fun i hne=>by
   rw[← hU]; simp only[aa2,hne,if_false]
  have hUL:U.obj (σ.next+1)=some (L .busy none):=by rw[← hU]; simp only[aa2,if_true]
  have hg:Grow ⟨t.next+1,U.obj⟩ v 1 (zs.map ap4):=by
   refine h5.mono (by show t.next≤t.next+1; omega) fun id hv hid=>?_
   have:=h6 _ _ hv;exact hUo id (by omega)
  have hzl:zs.length<2^30:=by have:=h2.length_eq; rw[List.length_append] at this; omega
  have hap:=ap2 (nid:=t.next) (e:=[IV.str k]) hg (gn5 _) ⟨rfl,rfl⟩ (by rw[List.length_map]; omega);have k1:=ai5 hg σ.next (.cells [v]) (by show U.obj _=_; rw[hUo _ e3]; exact h3) (fun _ h=>by cases h)
  have k2:(an4 v ⟨t.next+1,U.obj⟩).obj (σ.next+1)=some (L .busy none):=by
   cases hv:v<;>try exact hUL
   rename_i id o n' e;show (if σ.next+1=id then none else U.obj _)=_;rcases h5 with ⟨h,_⟩|⟨id',h,_,_⟩
   ·rw[h] at hv; cases hv
   ·rw[hv] at h; cases h;have:=h6 _ _ hv;rw[if_neg (by omega)]; exact hUL
  have kn:=ai9 (σ:=⟨t.next+1,U.obj⟩) v;rw[List.length_map] at hap;have e6:¬ σ.next=t.next:=by omega
  have e7:¬ σ.next+1=t.next:=by omega
  have e8:¬ σ.next+1=σ.next:=by omega
  simp only[go_sem,hap,e6,k1,e7,e8,k2];refine dm7 (by rw[ac4,ac4,ac4,kn]; show t.next≤t.next+1; omega) (by simp only[aa2,if_true]) ?_;refine ⟨zs++[k],rs,.slice t.next 0 (zs.length+1) 1,hrest,by rw[List.append_assoc]; exact h2,?_,?_,?_,fun id k h=>?_⟩
  ·simp only[aa2,e3,if_false,if_true]
  ·simp only[ac4,kn]; omega
  ·rw[List.map_append];refine .inr ⟨t.next,by simp,?_,by simp only[ac4,kn]; omega⟩;have g1:¬ t.next=σ.next+1:=by omega
   have g2:¬ t.next=σ.next:=by omega
   simp only[aa2,g1,g2,if_false,if_true]; rfl
  ·cases h; omega
 ·rintro t o ⟨zs,rs,v,h1,h2,h3,h4,h5,h6⟩ hlt ho
  cases rs with
  | cons k rs=>cases h1
  | nil=>
  rw[List.append_nil] at h2;have e3:¬ σ.next=σ.next+1:=by omega
  simp only[ac4] at hlt ho ⊢;simp only[go_sem,e3,h3];refine ⟨zs,h2,by omega,h5.mono (Nat.le_refl _) fun id hv hid=>?_⟩;have:=h6 _ _ hv;have g1:¬ id=σ.next+1:=by omega
  show (if id=σ.next+1 then none else t.obj id)=_;rw[if_neg g1]
theorem ff1 (ks:List Str)(fv:IV)(hT:cg2 Tryd.prog EE fv (ks.map evK) (fun _=>True))(hn:ks.length<2^30)(σ:Store) :
  C Tryd.prog EE 37 [fv] σ fun v t=>∃ zs:List Str,zs.Perm ks∧σ.next≤t.next∧Grow t v 1 (zs.map ap4):=by
 refine C_f fok37 (nZ rfl) ?_;simp only[ic37,go_sem];refine ae3 fok51 (fu4 ks fv hT hn _) ?_;rintro v t ⟨zs,h1,h2,h3⟩;have h2:σ.next≤t.next:=Nat.le_trans (by first|exact Nat.le_refl _|exact Nat.le_succ _) h2;refine ⟨by omega,?_⟩;simp only[go_sem];exact ⟨zs,h1,h2,h3⟩
theorem em7 {σ:Store}:C Tryd.prog EE 38 [.aa1] σ fun v s=>v=.tuple []∧s=σ:=fi4 fun p cap w=>Any.slices_Sort_string_none gn3 p cap w
theorem dv9 (zs:List Str):(zs.map ap4).flatten=zs.map IV.str:=by
 induction zs with
 | nil=>rfl
 | cons z zs ih=>simp only[List.map_cons,List.flatten_cons,ih]; rfl
theorem fu5 (ks:List Str)(fv:IV)(hT:cg2 Tryd.prog EE fv (ks.map evK) (fun _=>True))(hn:ks.length<2^30)(σ:Store) :
  C Tryd.prog EE 27 [fv] σ fun v t=>∃ zs:List Str,zs.Perm ks∧σ.next≤t.next∧Grow t v 1 ((gn4 zs).map ap4):=by
 refine C_f fok27 (nZ rfl) ?_;simp only[ic27,go_sem];refine ae3 fok37 (ff1 ks fv hT hn _) ?_;rintro v t ⟨zs,h1,h2,h3⟩;have h2:σ.next≤t.next:=Nat.le_trans (by first|exact Nat.le_refl _|exact Nat.le_succ _) h2;refine ⟨by omega,?_⟩;have hzl:zs.length<2^30:=by have:=h1.length_eq; omega
 rcases h3 with ⟨rfl,he⟩|⟨id,rfl,ho,hid⟩
 ·have hz:zs=[]:=List.map_eq_nil_iff.1 he;subst hz;simp only[go_sem];refine ae3 fok38 em7 ?_;rintro v s ⟨rfl,rfl⟩;refine ⟨Nat.le_refl _,?_⟩;simp only[go_sem];exact ⟨[],h1,h2,.inl ⟨rfl,by unfold gn4; rw[List.mergeSort_nil]; rfl⟩⟩
 ·rw[dv9] at ho;simp only[go_sem,List.length_map];refine ae3 fok38 (em6 (zs:=zs) (by omega) ho) ?_;rintro v s ⟨rfl,rfl⟩;refine ⟨Nat.le_refl _,?_⟩;simp only[go_sem];have hsl:(gn4 zs).length=zs.length:=List.length_mergeSort _;exact ⟨zs,h1,h2,.inr ⟨id,by rw[List.length_map,hsl],by rw[dv9]; simp only[aa2,if_true],hid⟩⟩
theorem gn7 (es:List (IV×IV)):PC Tryd.prog EE 28 [.al5 es] (.func (.func 39) [] [.af4 [.al5 es]]):=by
 refine bp3 fok28 (nZ rfl) fun σ=>?_
 simp only[ic28,go_sem]
theorem em8 (nm:Nms)(k:Str)(h:af7 nm k≠[])(σ:Store):ct7 σ 2 .aa1 false (.al5 (nmV nm)) (.str k)=some (.aa4 ((af7 nm k).map Md.ar1)):=by
 obtain ⟨v,h1,h2⟩:=hl9 nm σ k;rcases h2 with rfl|⟨_,h0⟩
 ·exact h1
 ·exact absurd h0 h
set_option maxHeartbeats 1000000
def em9 (i:Nat)(v:IV):Prop:=∃ k e,v=.slice i 0 k e
def eo8 (i:Nat)(es:List EP):Prop:=∃ x∈es,em9 i x.2.1∨em9 i x.2.2
theorem InV.hg8 {s t:Store}{iv:IV}{es:List EP}(h:InV s iv es)(hn:s.next≤t.next)(ho:∀ i,i<s.next→em9 i iv∨eo8 i es→t.obj i=s.obj i):InV t iv es :=
 ⟨h.row.mono hn fun i hv hi=>ho i hi (.inl ⟨_,_,hv⟩),fun e he=>ao7 (h.aw3 e he) hn fun i k hv hi=>ho i hi (.inr ⟨e,he,.inl ⟨_,_,hv⟩⟩),fun e he=>(h.gd7 e he).mono hn fun i hv hi=>ho i hi (.inr ⟨e,he,.inr ⟨_,_,hv⟩⟩)⟩
theorem InV.ie2 {s:Store}{iv:IV}{es:List EP}(h:InV s iv es){i:Nat}(hi:eo8 i es):i<s.next:=by
 obtain ⟨x,hx,⟨k,e,hv⟩|⟨k,e,hv⟩⟩:=hi
 ·exact fw5 (h.aw3 x hx) _ _ _ hv
 ·exact cz7 (h.gd7 x hx) _ _ _ hv
theorem InV.ie3 {s:Store}{iv:IV}{es:List EP}(h:InV s iv es){i:Nat}(hi:em9 i iv):i<s.next:=by
 obtain ⟨k,e,hv⟩:=hi;exact cz7 h.row _ _ _ hv
theorem dw1 {v:IV}{s:Store}{i:Nat}(h:¬ em9 i v)(h0:∃ t es e,Grow t v e es):(an4 v s).obj i=s.obj i:=by
 obtain ⟨t,es,e,⟨rfl,_⟩|⟨id,rfl,_,_⟩⟩:=h0
 ·rfl
 ·show (if i=id then none else s.obj i)=s.obj i;rw[if_neg fun e2=>h ⟨_,_,by rw[e2]⟩]
structure BI (s:Store) (iv kv:IV) (es:List EP) (ks:List aa3):Prop where
 inv:InV s iv es
 kr:Grow s kv 15 (ks.map aa3.cs)
 a1:∀ i,em9 i iv→¬ eo8 i es
 a2:∀ i,em9 i kv→¬ em9 i iv∧¬ eo8 i es
theorem BI.hg9 {s t:Store}{iv kv:IV}{es:List EP}{ks:List aa3}(h:BI s iv kv es ks)(p:aa3)(v6 v7:IV)(nid m:Nat)(hk:∀ i,i<s.next→t.obj i=s.obj i)(hm:s.next≤nid∧nid<m)(hmt:m≤t.next)
  (g6:au4 t v6 5 (p.provides.map Dep.cs)) (l6:an1 m v6) (g7:Grow t v7 7 (p.requires.map aa8.cs)) (l7:an1 m v7) (hl:es.length<2147483648) :
  aw1 t nid 15 iv (.aa4 [cellsE (p,v6,v7)])=some (.slice nid 0 (es.length+1) 15,(an4 iv t).put nid (.row ((es++[(p,v6,v7)]).map cellsE).flatten))∧BI ((an4 iv t).put nid (.row ((es++[(p,v6,v7)]).map cellsE).flatten)) (.slice nid 0 (es.length+1) 15) kv (es++[(p,v6,v7)]) ks:=by
 have hgr:Grow t iv 15 (es.map cellsE):=h.inv.row.mono (by omega) fun i _ hi=>hk i hi
 have hlf:(cellsE (p,v6,v7)).length=15∧(cellsE (p,v6,v7)).all IV.leaf=true:=by
  have l1:=(av7 g6).1;have l2:=(ad8 g7).1;refine ⟨rfl,?_⟩;simp only[cellsE,an6,List.all_cons,l1,l2,List.all_nil,Bool.and_true,Bool.and_self];rfl
 have hap:=ap2 (nid:=nid) (e:=cellsE (p,v6,v7)) hgr (bg4 h.inv) hlf (by rw[List.length_map]; exact hl);rw[List.length_map] at hap;have e2:(es++[(p,v6,v7)]).map cellsE=es.map cellsE++[cellsE (p,v6,v7)]:=by rw[List.map_append]; rfl
 rw[e2];refine ⟨hap,?_⟩;generalize hT:(an4 iv t).put nid _=T;have nT:T.next=t.next:=by rw[← hT]; exact ai9 iv
 have oT:∀ i,i≠nid→¬ em9 i iv→T.obj i=t.obj i:=fun i h1 h2=>by
  rw[← hT,aa2,if_neg h1]; exact dw1 h2 ⟨_,_,_,hgr⟩
 have ob:T.obj nid=some (.row (es.map cellsE++[cellsE (p,v6,v7)]).flatten):=by rw[← hT,aa2,if_pos rfl]
 have oE:∀ i,eo8 i es→T.obj i=s.obj i:=fun i hi=>by
  have:=h.inv.ie2 hi;rw[oT i (by omega) (fun h2=>h.a1 i h2 hi),hk i this]
 have nE:∀ i,eo8 i (es++[(p,v6,v7)])→eo8 i es∨m≤i:=fun i ⟨x,hx,hv⟩=>by
  rcases List.mem_append.1 hx with hx|hx
  ·exact .inl ⟨x,hx,hv⟩
  ·rw[List.mem_singleton] at hx;subst hx;rcases hv with ⟨k,e,hv⟩|⟨k,e,hv⟩
   ·exact .inr (l6 _ _ _ hv)
   ·exact .inr (l7 _ _ _ hv)
 refine ⟨⟨.inr ⟨nid,by rw[List.length_map,List.length_append]; rfl,by rw[e2]; exact ob,by omega⟩,fun x hx=>?_,fun x hx=>?_⟩,?_,fun i hi hi2=>?_,fun i hi=>?_⟩
 ·rcases List.mem_append.1 hx with hx|hx
  ·exact ao7 (h.inv.aw3 x hx) (by omega) fun i k hv _=>oE i ⟨x,hx,.inl ⟨_,_,hv⟩⟩
  ·rw[List.mem_singleton] at hx;subst hx;exact ao7 g6 (by omega) fun i k hv _=>oT i (by have:=l6 _ _ _ hv; omega) fun h2=>by have:=l6 _ _ _ hv; have:=h.inv.ie3 h2; omega
 ·rcases List.mem_append.1 hx with hx|hx
  ·exact (h.inv.gd7 x hx).mono (by omega) fun i hv _=>oE i ⟨x,hx,.inr ⟨_,_,hv⟩⟩
  ·rw[List.mem_singleton] at hx;subst hx;exact g7.mono (by omega) fun i hv _=>oT i (by have:=l7 _ _ _ hv; omega) fun h2=>by have:=l7 _ _ _ hv; have:=h.inv.ie3 h2; omega
 ·exact h.kr.mono (by omega) fun i hv hi=>by rw[oT i (by omega) (h.a2 i ⟨_,_,hv⟩).1,hk i hi]
 ·obtain ⟨k,e,hv⟩:=hi;cases hv;rcases nE _ hi2 with h2|h2
  ·have:=h.inv.ie2 h2; omega
  ·omega
 ·have hlt:i<s.next:=by obtain ⟨k,e,hv⟩:=hi; exact cz7 h.kr _ _ _ hv
  refine ⟨fun ⟨k,e,hv⟩=>?_,fun h2=>?_⟩
  ·cases hv; omega
  ·rcases nE _ h2 with h2|h2
   ·exact (h.a2 i hi).2 h2
   ·omega
theorem BI.ie4 {s t:Store}{iv kv:IV}{es:List EP}{ks:List aa3}(h:BI s iv kv es ks)(p:aa3)(nid:Nat)(hk:∀ i,i<s.next→t.obj i=s.obj i)(hm:s.next≤nid)(hmt:nid<t.next)(hl:ks.length<2147483648) :
  aw1 t nid 15 kv (.aa4 [p.cs])=some (.slice nid 0 (ks.length+1) 15,(an4 kv t).put nid (.row ((ks++[p]).map aa3.cs).flatten))∧BI ((an4 kv t).put nid (.row ((ks++[p]).map aa3.cs).flatten)) iv (.slice nid 0 (ks.length+1) 15) es (ks++[p]):=by
 have hgr:Grow t kv 15 (ks.map aa3.cs):=h.kr.mono (by omega) fun i _ hi=>hk i hi
 have hap:=ap2 (nid:=nid) (e:=p.cs) hgr (fun x hx=>by obtain ⟨y,_,rfl⟩:=List.mem_map.1 hx; exact ⟨rfl,rfl⟩) ⟨rfl,rfl⟩ (by rw[List.length_map]; exact hl);rw[List.length_map] at hap;have e2:(ks++[p]).map aa3.cs=ks.map aa3.cs++[p.cs]:=by rw[List.map_append]; rfl
 rw[e2];refine ⟨hap,?_⟩;generalize hT:(an4 kv t).put nid _=T;have nT:T.next=t.next:=by rw[← hT]; exact ai9 kv
 have oT:∀ i,i≠nid→¬ em9 i kv→T.obj i=t.obj i:=fun i h1 h2=>by
  rw[← hT,aa2,if_neg h1]; exact dw1 h2 ⟨_,_,_,hgr⟩
 have ob:T.obj nid=some (.row (ks.map aa3.cs++[p.cs]).flatten):=by rw[← hT,aa2,if_pos rfl]
 refine ⟨h.inv.hg8 (by omega) fun i hi hn=>?_,.inr ⟨nid,by rw[List.length_map,List.length_append]; rfl,by rw[e2]; exact ob,by omega⟩,h.a1,fun i hi=>?_⟩
 ·have hk2:¬ em9 i kv:=fun h2=>hn.elim (h.a2 i h2).1 (h.a2 i h2).2
  rw[oT i (by omega) hk2,hk i hi]
 ·obtain ⟨k,e,hv⟩:=hi;cases hv;refine ⟨fun h2=>?_,fun h2=>?_⟩
  ·have:=h.inv.ie3 h2; omega
  ·have:=h.inv.ie2 h2; omega
/-! ### Rows that are written over -/
def WR (s:Store)(esz:Nat)(v:IV)(n:Nat):Prop:=(n=0∧(v=.aa1∨v=.ab4))∨∃ id cs,v=.slice id 0 n esz∧s.obj id=some (.row cs)∧cs.length=n*esz
theorem WR.len {s:Store}{esz:Nat}{v:IV}{n:Nat}(h:WR s esz v n)(σ:Store):bh7 0 σ v=some (.int .i64 (n:Nat)):=by
 rcases h with ⟨rfl,rfl|rfl⟩|⟨id,cs,rfl,_,_⟩
 ·rfl
 ·rfl
 ·exact al8
theorem WR.put {s:Store}{esz:Nat}{v:IV}{n j:Nat}{cs cs':List IV}(h:WR s esz v n)(ho:s.obj j=some (.row cs))(hl:cs'.length=cs.length):WR (s.put j (.row cs')) esz v n:=by
 rcases h with h|⟨id,c,rfl,h2,h3⟩
 ·exact .inl h
 ·by_cases e:id=j
  ·subst e;rw[ho] at h2;cases h2;exact .inr ⟨id,cs',rfl,by rw[aa2,if_pos rfl],by omega⟩
  ·exact .inr ⟨id,c,rfl,by rw[aa2,if_neg e]; exact h2,h3⟩
theorem dp5 {s:Store}{esz:Nat}{v:IV}{es:List (List IV)}(h:au4 s v esz es)(hall:∀ x∈es,x.length=esz):WR s esz v es.length:=by
 rcases h with (⟨rfl,rfl⟩|⟨id,rfl,h2,_⟩)|⟨rfl,rfl⟩
 ·exact .inl ⟨rfl,.inl rfl⟩
 ·exact .inr ⟨id,_,rfl,h2,ah3 hall⟩
 ·exact .inl ⟨rfl,.inr rfl⟩
structure WI (s:Store) (iv:IV) (es:List EP):Prop where
 row:(es=[]∧iv=.aa1)∨∃ id cs,iv=.slice id 0 es.length 15∧s.obj id=some (.row cs)∧cs.length=es.length*15∧(∀ j,(h:j<es.length)→(cs.drop (j*15+6)).head? = some es[j].2.1∧(cs.drop (j*15+7)).head? = some es[j].2.2)∧¬ eo8 id es
 ws:∀ x∈es,WR s 5 x.2.1 x.1.provides.length∧WR s 7 x.2.2 x.1.requires.length
theorem InV.wi {s:Store}{iv:IV}{es:List EP}(h:InV s iv es)(a1:∀ i,em9 i iv→¬ eo8 i es):WI s iv es:=by
 refine ⟨?_,fun x hx=>⟨?_,?_⟩⟩
 ·have hall:=fun x hx=>(bg4 h x hx).1
  rcases h.row with ⟨h1,h2⟩|⟨id,h1,h2,h3⟩
  ·exact .inl ⟨List.map_eq_nil_iff.1 h2,h1⟩
  ·rw[List.length_map] at h1;have hfl:=ah3 hall;rw[List.length_map] at hfl;refine .inr ⟨id,_,h1,h2,hfl,fun j hj=>?_,a1 id ⟨_,_,h1⟩⟩;have hg:=fun m hm=>dd6 hall j m (by rw[List.length_map]; exact hj) hm
   have hd:∀ (l:List IV) (n:Nat) (v:IV),n<l.length→l.getD n .undef=v→(l.drop n).head? = some v:=fun l n v hn hv=>by
    rw[List.head?_drop,List.getElem?_eq_getElem hn,← hv,List.getD_eq_getElem?_getD,List.getElem?_eq_getElem hn]; rfl
   have he:(es.map cellsE).getD j []=cellsE es[j]:=by simp[List.getD_eq_getElem?_getD,hj]
   refine ⟨hd _ _ _ (by rw[hfl]; omega) ?_,hd _ _ _ (by rw[hfl]; omega) ?_⟩
   ·rw[hg 6 (by omega),he]; rfl
   ·rw[hg 7 (by omega),he]; rfl
 ·have:=dp5 (h.aw3 x hx) (bg5 _);rw[List.length_map] at this; exact this
 ·have:=dp5 (.inl (h.gd7 x hx)) (fun y hy=>(af5 _ y hy).1);rw[List.length_map] at this; exact this
theorem BI.kills {s:Store}{iv kv:IV}{es:List EP}{ks:List aa3}(h:BI s iv kv es ks):WI (s.kills fun j=>!isI kv j) iv es :=
 (h.inv.hg8 (t:=s.kills fun j=>!isI kv j) (Nat.le_refl _) fun i _ hn=>by
  have h1:¬ em9 i kv:=fun h2=>hn.elim (h.a2 i h2).1 (h.a2 i h2).2
  have h2:=fh6 (fun k e he=>h1 ⟨k,e,he⟩) (ad8 h.kr).1 ⟨_,_,_,.inl h.kr⟩;show (if (!isI kv i)=true then s.obj i else none)=_;rw[h2]; rfl).wi h.a1
theorem WI.len {s:Store}{iv:IV}{es:List EP}(h:WI s iv es)(σ:Store):bh7 0 σ iv=some (.int .i64 (es.length:Nat)):=by
 rcases h.row with ⟨rfl,rfl⟩|⟨id,cs,rfl,_,_⟩
 ·rfl
 ·exact al8
theorem WI.at {s:Store}{iv:IV}{es:List EP}(h:WI s iv es){i:Nat}(hi:i<es.length):∃ id cs,iv=.slice id 0 es.length 15∧s.obj id=some (.row cs)∧cs.length=es.length*15∧(cs.drop (i*15+6)).head? = some es[i].2.1∧(cs.drop (i*15+7)).head? = some es[i].2.2:=by
 rcases h.row with ⟨rfl,_⟩|⟨id,cs,h1,h2,h3,h4,_⟩
 ·exact absurd hi (Nat.not_lt_zero _)
 ·exact ⟨id,cs,h1,h2,h3,h4 i hi⟩
theorem WR.at {s:Store}{esz:Nat}{v:IV}{n k:Nat}(h:WR s esz v n)(hk:k<n):∃ id cs,v=.slice id 0 n esz∧s.obj id=some (.row cs)∧cs.length=n*esz:=by
 rcases h with ⟨rfl,_⟩|h
 ·exact absurd hk (Nat.not_lt_zero _)
 ·exact h
theorem WI.put {s:Store}{iv:IV}{es:List EP}(h:WI s iv es){id:Nat}{cs cs':List IV}(hn:eo8 id es)(ho:s.obj id=some (.row cs))(hl:cs'.length=cs.length):WI (s.put id (.row cs')) iv es:=by
 refine ⟨?_,fun x hx=>⟨(h.ws x hx).1.put ho hl,(h.ws x hx).2.put ho hl⟩⟩;rcases h.row with h1|⟨j,c,h1,h2,h3,h4,h5⟩
 ·exact .inl h1
 ·refine .inr ⟨j,c,h1,?_,h3,h4,h5⟩;have hne:¬ j=id:=fun e=>by subst e; exact h5 hn
  rw[aa2,if_neg hne]; exact h2
theorem fu6 {cs:List IV}{off:Nat}{v:IV}(h:off<cs.length):ao8 cs off [v]=cs.set off v:=by
 rw[List.set_eq_take_append_cons_drop,if_pos h,ao8];simp
theorem WI.iq4 {s:Store}{id:Nat}{es:List EP}{cs:List IV}(h:WI s (.slice id 0 es.length 15) es)(ho:s.obj id=some (.row cs)){i:Nat}(hi:i<es.length)(v:IV):WI (s.put id (.row (ao8 cs (i*15) [v]))) (.slice id 0 es.length 15) es:=by
 rcases h.row with ⟨h1,_⟩|⟨j,c,h1,h2,h3,h4,h5⟩
 ·subst h1; exact absurd hi (Nat.not_lt_zero _)
 cases h1;rw[ho] at h2;cases h2;have hlt:i*15<cs.length:=by omega
 rw[fu6 hlt];refine ⟨.inr ⟨id,cs.set (i*15) v,rfl,by rw[aa2,if_pos rfl],by rw[List.length_set]; exact h3,fun j hj=>?_,h5⟩,fun x hx=>⟨(h.ws x hx).1.put ho (by rw[List.length_set]),(h.ws x hx).2.put ho (by rw[List.length_set])⟩⟩;have:=h4 j hj;rw[List.head?_drop,List.head?_drop] at this ⊢;rw[List.getElem?_set_ne (by omega),List.getElem?_set_ne (by omega)];exact this
theorem fw6.frz {lo:Nat}{s:Store}{p:aa3}{v6 v7 v8 v9 v10 v11 v12 v13 v14:IV}(h:fw6 lo s p v6 v7 v8 v9 v10 v11 v12 v13 v14):bm9 s 0 (.agg (an6 p v6 v7 v8 v9 v10 v11 v12 v13 v14)) (.agg p.cs):=by
 have fD:∀ {v:IV} {l:List Dep},Grow s v 5 (l.map Dep.cs)∧an1 lo v→bm9 s 0 v (deps l):=fun {v l} h=>h.1.frz (bg5 _) (fun _ _=>Nat.not_lt_zero _) (ac7 (ak3 l))
 have fR:∀ {v:IV} {l:List aa8},Grow s v 7 (l.map aa8.cs)∧an1 lo v→bm9 s 0 v (ab7 l):=fun {v l} h=>h.1.frz (fun x hx=>(af5 _ x hx).1) (fun _ _=>Nat.not_lt_zero _) (ac7 (ad2 l))
 have fS:∀ {v:IV} {l:List Str},Grow s v 1 (l.map ap4)∧an1 lo v→bm9 s 0 v (strs l):=fun {v l} h=>h.1.frz (fh2 _) (fun _ _=>Nat.not_lt_zero _) (ac7 (an5 l))
 exact .gk2 (.cons (ag7 _) (.cons (ac8 _ _) (.cons (ag7 _) (.cons (ag7 _) (.cons (ac8 _ _) (.cons (ag7 _) (.cons (fD h.g6) (.cons (fR h.g7) (.cons (fR h.g8) (.cons (fD h.g9) (.cons (fR h.g10) (.cons (fR h.g11) (.cons (fR h.g12) (.cons (fR h.g13) (.cons (fS h.g14) .nil)))))))))))))))
theorem fw6.leaf {lo:Nat}{s:Store}{p:aa3}{v6 v7 v8 v9 v10 v11 v12 v13 v14:IV}(h:fw6 lo s p v6 v7 v8 v9 v10 v11 v12 v13 v14):(an6 p v6 v7 v8 v9 v10 v11 v12 v13 v14).all IV.leaf=true:=by
 simp only[an6,List.all_cons,(ad8 h.g6.1).1,(ad8 h.g7.1).1,(ad8 h.g8.1).1,(ad8 h.g9.1).1,(ad8 h.g10.1).1,(ad8 h.g11.1).1,(ad8 h.g12.1).1,(ad8 h.g13.1).1,(ad8 h.g14.1).1,List.all_nil,Bool.and_true,Bool.and_self];rfl
structure BX (s:Store) (b:Nat) (p:aa3) (cs:List IV) (v6 v7 v14:IV):Prop where
 box:s.obj b=some (.cells cs)
 w6:WR s 5 v6 p.provides.length
 w7:WR s 7 v7 p.requires.length
 w14:WR s 1 v14 p.files.length
theorem BX.put {s:Store}{b:Nat}{p:aa3}{c:List IV}{v6 v7 v14:IV}(h:BX s b p c v6 v7 v14){id:Nat}{cs cs':List IV}(ho:s.obj id=some (.row cs))(hl:cs'.length=cs.length):BX (s.put id (.row cs')) b p c v6 v7 v14:=by
 refine ⟨?_,h.w6.put ho hl,h.w7.put ho hl,h.w14.put ho hl⟩;have hne:¬ b=id:=fun e=>by subst e; rw[h.box] at ho; cases ho
 rw[aa2,if_neg hne]; exact h.box
theorem dw2 {s:Store}{esz:Nat}{v:IV}{α:Type}{f:α→List IV}{l:List α}(h:Grow s v esz (l.map f))(hall:∀ x,(f x).length=esz):WR s esz v l.length:=by
 have:=dp5 (.inl h) (fun x hx=>by obtain ⟨y,_,rfl⟩:=List.mem_map.1 hx; exact hall y);rw[List.length_map] at this; exact this
theorem dp6 (p:Pool)(k:Str)(h:af7 p.nm k≠[])(hl:(af7 p.nm k).length<2^30)(σ:Store):C Tryd.prog EE 10 [p.v,.str k] σ fun v s=>σ.next≤s.next∧Grow s v 1 ((af7 p.nm k).map Md.ar1):=by
 have hnil:∀ (d:TypeId) (cs:List IV) (c:IV),bk5 (.pointer d) (.af4 (c::cs))=some false:=fun _ _ _=>rfl
 have hk:=em8 p.nm k h;generalize af7 p.nm k=l at *
 have hc:∀ σ:Store,C Tryd.prog EE 26 [.aa4 (l.map Md.ar1)] σ fun v s=>σ.next≤s.next∧Grow s v 1 (l.map Md.ar1):=fun σ=>by
  refine C_f fok26 (nZ rfl) ?_
  have hnil:∀ (d:TypeId),bk5 (.slice d) (.aa4 (l.map Md.ar1))=some false:=fun d=>by
   cases l with
   | nil=>exact absurd rfl h
   | cons z zs=>rfl
  simp only[ic26,go_sem,hnil];have hg:Grow ((⟨σ.next+2,σ.obj⟩:Store).put σ.next (ah2.row [])) (.slice σ.next 0 0 1) 1 (([]:List Int).map Md.ar1):=.inr ⟨σ.next,rfl,by simp only[aa2,if_true]; rfl,by show σ.next<σ.next+2; omega⟩;obtain ⟨v',σ',ha,hn',hG⟩:=fx2 (nid:=σ.next+1) (xs:=l) hg (by simp only[List.length_nil]; omega);have hn2:σ'.next=σ.next+2:=hn';have hf:=hG σ' rfl (by omega) (Nat.le_of_eq hn'.symm);rw[List.nil_append] at hf;simp only[go_sem,ha];exact ⟨by omega,hf⟩
 refine C_f fok10 (nZ rfl) ?_;simp only[ic10,go_sem,Pool.v,hnil,hk];refine ae3 fok26 (hc _) ?_;rintro v s ⟨h1,h2⟩;refine ⟨h1,?_⟩;simp only[go_sem];exact ⟨h1,h2⟩
theorem dp7 (p:Pool)(hn:p.nm.length<2^30)(σ:Store):C Tryd.prog EE 11 [p.v] σ fun v s=>σ.next≤s.next∧∃ l:List Str,Grow s v 1 (l.map ap4)∧l.length=p.nm.length:=by
 refine C_f fok11 (nZ rfl) ?_;have hnil:∀ (d:TypeId) (cs:List IV) (c:IV),bk5 (.pointer d) (.af4 (c::cs))=some false:=fun _ _ _=>rfl
 simp only[ic11,go_sem,Pool.v,hnil];refine ac2 fok28 (gn7 _) ?_;simp only[go_sem];have hev:(nmV p.nm).map (fun e=>[e.1])=(p.nm.map (·.1)).map evK:=by simp only[nmV,List.map_map]; rfl
 have hT:=fi5 (nmV p.nm) (fun e he=>by
  obtain ⟨t,_,rfl⟩:=List.mem_map.1 he;exact .str _)
 rw[hev] at hT;refine ae3 fok27 (fu5 (p.nm.map (·.1)) _ hT (by rw[List.length_map]; exact hn) _) ?_;rintro v t ⟨zs,h1,h2,h3⟩;refine ⟨h2,?_⟩;simp only[go_sem];exact ⟨h2,_,h3,by rw[gn4,List.length_mergeSort,h1.length_eq,List.length_map]⟩
end Go.Id.Tryd
