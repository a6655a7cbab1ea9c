/- Data of a type,read: what they are. Conditions: none; over any program. -/
import Derived.Test.YtjpdjifjokldlaaDoorFwZ
import Derived.SizedLaws
set_option linter.all false
namespace Go.Id
open Go
variable {H:Type} {enc:TypeId×Value→H} {P:Program} {w:World} {base:Nat} {sp:Nat→Bool} {held:Bool}
def Rdg (enc:TypeId×Value→H)(P:Program)(w:World)(base:Nat)(sp:Nat→Bool)(held:Bool)(n:Nat)(t:TypeId)(d:DataW H):Prop :=
 ∃ cs ps,DataW.trod enc P w base sp held n t cs=some (d,ps)
def WT (P:Program)(t:TypeId)(d:DataW H):Prop:=∀ k∈d.weights P t,k≤reachBytes
theorem dg4 {n:Nat}{t:TypeId}{d:DataW H}{k:IntKind}(hu:P.underlying t=some (.int k))(h:Rdg enc P w base sp held n t d):∃ z,d=.lit (.int k z)∧(Lit.int k z).wf=true∧∀ m,n≤m→dv P m t d=some [.int k z]:=by
 obtain ⟨cs,ps,h⟩:=h;have hn:n≠0:=fun e=>by subst e; simp[DataW.trod] at h
 obtain ⟨z,rfl,hx,hw⟩:=DataW.trod_int hu h;cases hx;refine ⟨z,rfl,hw,fun m hm=>?_⟩
 cases m with
 | zero=>omega
 | succ m=>simp only[dv,hu]
theorem cr4 {n:Nat}{t:TypeId}{d:DataW H}(hu:P.underlying t=some .string)(h:Rdg enc P w base sp held n t d)(hw:WT P t d):∃ s:List UInt8,s.length<2^62∧∀ m,n≤m→dv P m t d=some [.str s]:=by
 obtain ⟨cs,ps,h⟩:=h;have hn:n≠0:=fun e=>by subst e; simp[DataW.trod] at h
 obtain ⟨s,rfl,hx,_⟩:=DataW.trod_string hu h;cases hx;refine ⟨s.data.toList,?_,fun m hm=>?_⟩
 ·have:=hw s.data.toList.length (by simp[DataW.weights]);have:=reachBytes_lt;omega
 ·cases m with
  | zero=>omega
  | succ m=>simp only[dv,hu]
theorem bb4 {n:Nat}{t:TypeId}{d:DataW H}{fs:Array Field}(hu:P.underlying t=some (.struct fs))(h:Rdg enc P w base sp held n t d)(hw:WT P t d) :
  ∃ n' ds,n=n'+1∧d=.agg ds∧ds.length=fs.size∧∀ (i:Nat) (f:Field) (d':DataW H),fs[i]? = some f→ds[i]? = some d'→Rdg enc P w base sp held n' f.type d'∧WT P f.type d':=by
 obtain ⟨cs,ps,h⟩:=h;obtain ⟨xs,n',rfl,hx,_,hl,hf⟩:=DataW.trod_struct hu h;cases hx;refine ⟨n',xs.map (·.1),rfl,rfl,by rw[List.length_map,hl],fun i f d' h1 h2=>⟨?_,fun k hk=>?_⟩⟩
 ·rw[List.getElem?_map] at h2
  cases hxi:xs[i]? with
  | none=>rw[hxi] at h2; cases h2
  | some x=>
   rw[hxi] at h2;cases h2;exact ⟨_,x.2,by rw[hf i f h1,hxi]⟩
 ·refine hw k ?_;simp only[DataW.weights,hu];exact DataW.weights_mem_each (j:=i) (t:=f.type) (d:=d') (by rw[List.getElem?_map]; simp[h1]) h2 k hk
theorem ch3 {e:TypeId}{k:Nat}:∀ {l:List (DataW H)} {d:DataW H},d∈l→k∈d.weights P e→k∈DataW.weightsAll P e l:=by
 intro l
 induction l with
 | nil=>intro d h; cases h
 | cons x xs ih=>
  intro d h hk;simp only[DataW.weightsAll,List.mem_append];rcases List.mem_cons.1 h with rfl|h
  ·exact .inl hk
  ·exact .inr (ih h hk)
theorem bf9 {α:Type}{n:Nat}{t e:TypeId}{d:DataW H}{c:Nat}(f:α→List IV)(ok:α→Prop)(hu:P.underlying t=some (.slice e))(hc:P.cellsOf e=c)(hc0:c≠0)(hb:1≤P.bytesOf e)(hl:∀ a,(f a).length=c)
  (ih:∀ n' d',n'<n→Rdg enc P w base sp held n' e d'→WT P e d'→∃ a,ok a∧∀ m,n'≤m→dv P m e d'=some (f a))
  (h:Rdg enc P w base sp held n t d) (hw:WT P t d):∃ l:List α,l.length<2^62∧(∀ a∈l,ok a)∧∀ m,n≤m→dv P m t d=some [.aa4 (l.map f)]:=by
 obtain ⟨cs,ps,h⟩:=h;have hn:n≠0:=fun e=>by subst e; simp[DataW.trod] at h
 rcases DataW.trod_slice hu h with ⟨rfl,hx⟩|⟨a,len,cap,elems,rest,n',rfl,rfl,hx,_,_,_,hlen,hel,_,_⟩
 ·cases hx;refine ⟨[],by simp,fun a ha=>(by cases ha),fun m hm=>?_⟩
  cases m with
  | zero=>omega
  | succ m=>simp only[dv,hu]; rfl
 ·cases hx
  have hsz:elems.length<2^62:=by
   have h1:=hw ((elems.length+rest.length)*P.bytesOf e) (by simp[DataW.weights,hu]);have h2:(elems.length+rest.length)*1≤(elems.length+rest.length)*P.bytesOf e:=Nat.mul_le_mul_left _ hb;have:=reachBytes_lt;omega
  have hel':∀ x∈elems,Rdg enc P w base sp held n' e x.1:=by
   intro x hx;obtain ⟨i,hi,he⟩:=List.mem_iff_getElem.1 hx;have h1:=hel i (by omega);rw[List.getElem?_eq_getElem hi,he] at h1;obtain ⟨ci,_,h2⟩:=Option.bind_eq_some_iff.1 h1;exact ⟨ci,x.2,h2⟩
  have hwe:∀ x∈elems,WT P e x.1:=by
   intro x hx k hk;refine hw k ?_;simp only[DataW.weights,hu,List.mem_cons,List.mem_append];exact .inr (.inl (ch3 (List.mem_map_of_mem (f:=fun x:DataW H×List MemPlace=>x.1) hx) hk))
  have key:∀ ys:List (DataW H×List MemPlace),(∀ x∈ys,x∈elems)→∃ l:List α,l.length=ys.length∧(∀ a∈l,ok a)∧∀ m,n'≤m→dvS (dv P m e) c (ys.map (·.1))=some (l.map f):=by
   intro ys
   induction ys with
   | nil=>intro _; exact ⟨[],rfl,fun a ha=>(by cases ha),fun m _=>rfl⟩
   | cons y ys ih2=>
    intro hin;obtain ⟨l,l1,l2,l3⟩:=ih2 fun x hx=>hin x (List.mem_cons_of_mem _ hx)
    have hy:=hin y (List.mem_cons_self ..);obtain ⟨a,a1,a2⟩:=ih n' y.1 (Nat.lt_succ_self _) (hel' y hy) (hwe y hy);refine ⟨a::l,by simp[l1],fun b hb=>?_,fun m hm=>?_⟩
    ·rcases List.mem_cons.1 hb with rfl|hb
     ·exact a1
     ·exact l2 b hb
    ·simp only[List.map_cons,dvS,a2 m hm,hl a,if_true,l3 m hm]
  obtain ⟨l,l1,l2,l3⟩:=key elems fun x hx=>hx
  refine ⟨l,by omega,l2,fun m hm=>?_⟩
  cases m with
  | zero=>omega
  | succ m=>
   subst hc;simp only[dv,hu,if_neg hc0,l3 m (by omega)]
end Go.Id
