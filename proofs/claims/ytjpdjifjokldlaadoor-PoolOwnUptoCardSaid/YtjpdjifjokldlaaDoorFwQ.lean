/- How an operator is written: what it gives,whatever the row in which the table is read. Conditions: the table is the given one. -/
import Derived.Test.YtjpdjifjokldlaaDoorFwZ
import Derived.Test.YtjpdjifjokldlaaDoorFwV
set_option linter.all false
namespace Go.Id
open Go
variable {P:Program} {E:Nat→IV}
def opsL:List (IV×IV):=[(.str [],.int .u8 0),(.str [60],.int .u8 1),(.str [60,61],.int .u8 3),(.str [61],.int .u8 2),(.str [62],.int .u8 4),(.str [62,61],.int .u8 6)]
def dh3 (op:Int):List UInt8:=if op=1 then [60] else if op=2 then [61] else if op=3 then [60,61] else if op=4 then [62] else if op=6 then [62,61] else []
def dv7 (g:Nat):IC :=
(.seq
 (.reg 0 [⟨(some 2),none,(.q (.mov (.c (.str []))))⟩] [0])
 (.seq
 (.seq
  (.reg 1 [⟨(some 5),none,(.q (.load none (.g g)))⟩,⟨(some 6),none,(.aq9 (.t 5))⟩] [0,6])
  (.block 0
  (.loop
   (.seq
   (.reg 2 [⟨(some 7),none,(.bj2 (.t 6))⟩,⟨(some 8),none,(.q (.ext 0 (.t 7)))⟩] [0,6,8])
   (.seq
    (.cond (.t 8)
    .skip
    (.exit 0))
    (.block 1
    (.seq
     (.reg 3 [⟨(some 9),none,(.dn5 (.t 6))⟩,⟨(some 10),none,(.q (.ext 0 (.t 9)))⟩,⟨(some 11),none,(.q (.ext 1 (.t 9)))⟩,⟨(some 3),none,(.q (.mov (.t 10)))⟩,⟨(some 4),none,(.q (.mov (.t 11)))⟩] [0,3,4,6])
     (.seq
     (.reg 4 [⟨(some 12),none,(.q (.mov (.t 4)))⟩,⟨(some 13),none,(.q (.mov (.t 0)))⟩,⟨(some 14),none,(.q (.bin .eql (.t 12) (.t 13)))⟩] [0,3,6,14])
     (.cond (.t 14)
      (.seq
      (.reg 5 [⟨(some 15),none,(.q (.mov (.t 3)))⟩,⟨(some 2),none,(.q (.mov (.t 15)))⟩] [2])
      .ret)
      .skip)))))))))
 (.seq
  (.reg 6 [⟨(some 2),none,(.q (.mov (.c (.str []))))⟩] [2])
  .ret)))
theorem dh4 {α:Type}{d:α}{e:α}:∀ {l:List α} {j:Nat},e∈l→e∈l.eraseIdx j∨e=l.getD j d:=by
 intro l
 induction l with
 | nil=>intro j h; cases h
 | cons x l ih=>
  intro j h
  cases j with
  | zero=>
   rcases List.mem_cons.1 h with rfl|h
   ·exact .inr rfl
   ·exact .inl h
  | succ j=>
   rcases List.mem_cons.1 h with rfl|h
   ·exact .inl (List.mem_cons_self ..)
   ·rcases ih (j:=j) h with h|h
    ·exact .inl (List.mem_cons_of_mem _ h)
    ·exact .inr h
structure TxI (σ0:Store) (n:Int) (id:Nat) (m:Nat) (fr:Frm) (σ:Store):Prop where
 f0:fr.get 0=.int .u8 n
 f6:fr.get 6=.ptr id 0
 next:σ0.next≤σ.next
 low:∀ i,i<σ0.next→σ.obj i=σ0.obj i
 lt:σ0.next≤id
 obj:∃ left cur,σ.obj id=some (.ai8 left cur)∧left.length=m∧(∀ e∈left,e∈opsL)∧∀ e∈opsL,e.2=.int .u8 n→e∈left
theorem fu1 {n:Int}{e:IV×IV}(h:e∈opsL)(hn:e.2=.int .u8 n):e.1=.str (dh3 n):=by
 simp only[opsL,List.mem_cons,List.not_mem_nil,or_false] at h;rcases h with rfl|rfl|rfl|rfl|rfl|rfl<;>cases hn<;>rfl
theorem fe6 {n:Int}(h:∀ e∈opsL,e.2≠.int .u8 n):dh3 n=[]:=by
 have h1:=h (.str [60],.int .u8 1) (by simp[opsL]);have h2:=h (.str [61],.int .u8 2) (by simp[opsL]);have h3:=h (.str [60,61],.int .u8 3) (by simp[opsL]);have h4:=h (.str [62],.int .u8 4) (by simp[opsL]);have h6:=h (.str [62,61],.int .u8 6) (by simp[opsL]);simp only[ne_eq,IV.int.injEq,true_and] at h1 h2 h3 h4 h6;simp[dh3,Ne.symm h1,Ne.symm h2,Ne.symm h3,Ne.symm h4,Ne.symm h6]
theorem fe7 {f g:Nat}{pf:List Nat}{an:Ann}{n:Int}(hf:fb3 P f 16 pf an (dv7 g) [.t 2])(hg:E g=.af4 [.al5 opsL]):PC P E f [.int .u8 n] (.str (dh3 n)):=by
 refine ic2 noT hf (Nat.le_of_ble_eq_true rfl) fun σ hb=>?_
 simp only[dv7,cj9,ck3,bq8,bc8,ck4,bq9,ck5,br1,ec6,gq9,ec3,ec4,ck6,br2,ck7,br3,br4,bc9,ck8,w_q,br5,ec7,ec8,br6,ec9,br8,bd1,br7,ck9,cl1,cl2,br9,bd2,ed1,cl3,ed2,cl4,bs1,bs2,cl5,ed3,ed4,ed5,ed6,ed7,ed8,ed9,ee1,ee2,ee3,cl6,ee4,cl7,ee5,cl8,bs3,cl9,cm4,ee6,gr3,gr4,ee7,ee8,ee9,ef1,ef2,ef3,ef4,ef5,ef6,ef7,cm5,bs4,bd3,ax3,bs5,bd4,cm1,cm2,cm3,bs6,gr1,gr2,ax5,bd8,bt8,bt9,bu1,bt7,cn8,e_t,e_c,e_g,e_f,ef8,cm6,ef9,eg1,eg2,ae8,eg3,cm7,bs7,eg4,bs8,eg5,bs9,bt1,eg6,cm8,eg7,cm9,eg8,eg9,eh1,eh2,cn1,cn2,do1,gb8,de7,dn9,bt2,bt3,cn3,cn4,bt4,bt5,gr5,bd5,cn5,cn6,cn7,bd6,bt6,ax4,bd7,bd9,bu2,be1,be2,cn9,co1,do2,do3,bu3,bu4,bu5,bu6,co2,co3,bu7,be3,eh3,eh4,eh5,eh6,eh7,eh8,eh9,ei1,ei2,ei3,ei4,ei5,ei6,co4,co5,co6,co7,co8,co9,cp1,cp3,cp4,cp5,al8,az1,bu8,bu9,bv1,cp6,cp7,cp8,cp9,ei7,ei8,cq1,ei9,bv2,bv3,bv4,ej3,az2,fr8,cq8,bv5,bv6,be4,bh3,bm8,ej1,bz3,be5,ej2,bz4,be6,be7,bv7,bv8,bv9,bw1,be8,bw2,bw3,be9,ax6,as5,bf1,bw4,bf2,cq2,cq3,cq4,bw5,bf3,bw6,bw7,bf4,ax7,as6,bf5,bw8,bf6,cq5,cq6,cq7,List.getElem?_cons_zero,List.getElem?_cons_succ,List.all_cons,List.all_nil,List.drop_zero,List.drop_succ_cons,List.head?_cons,Bool.and_true,Bool.and_self,Frm.ay8,Frm.get_nil,ac4,aa2,decide_true,decide_false,List.append_nil,List.nil_append,List.cons_append,Bool.false_eq_true,Bool.xor_false,Bool.xor_true,Bool.not_true,Bool.not_false,Nat.reduceEqDiff,Nat.reduceAdd,Nat.reduceMul,Nat.reduceLT,Nat.add_zero,Nat.zero_add,Nat.succ_ne_zero,if_true,if_false,↓reduceIte,reduceCtorEq,true_and,and_true,hg];refine gb5 noT (TxI σ n σ.next) opsL.length ⟨rfl,rfl,?_,?_,Nat.le_refl _,opsL,none,?_,rfl,fun _ h=>h,fun _ h _=>h⟩ ?_
 ·show σ.next≤σ.next+1; omega
 ·intro i hi; simp only[aa2]; rw[if_neg (by omega)]
 ·simp only[aa2,if_true]
 ·rintro m fr s ⟨f0,f6,h1,h2,h3,left,cur,h4,h5,h6,h7⟩;have hm:aq8 s (.ptr σ.next 0)=some (σ.next,left):=by simp only[aq8,h4]
  simp only[cj9,ck3,bq8,bc8,ck4,bq9,ck5,br1,ec6,gq9,ec3,ec4,ck6,br2,ck7,br3,br4,bc9,ck8,w_q,br5,ec7,ec8,br6,ec9,br8,bd1,br7,ck9,cl1,cl2,br9,bd2,ed1,cl3,ed2,cl4,bs1,bs2,cl5,ed3,ed4,ed5,ed6,ed7,ed8,ed9,ee1,ee2,ee3,cl6,ee4,cl7,ee5,cl8,bs3,cl9,cm4,ee6,gr3,gr4,ee7,ee8,ee9,ef1,ef2,ef3,ef4,ef5,ef6,ef7,cm5,bs4,bd3,ax3,bs5,bd4,cm1,cm2,cm3,bs6,gr1,gr2,ax5,bd8,bt8,bt9,bu1,bt7,cn8,e_t,e_c,e_g,e_f,ef8,cm6,ef9,eg1,eg2,ae8,eg3,cm7,bs7,eg4,bs8,eg5,bs9,bt1,eg6,cm8,eg7,cm9,eg8,eg9,eh1,eh2,cn1,cn2,do1,gb8,de7,dn9,bt2,bt3,cn3,cn4,bt4,bt5,gr5,bd5,cn5,cn6,cn7,bd6,bt6,ax4,bd7,bd9,bu2,be1,be2,cn9,co1,do2,do3,bu3,bu4,bu5,bu6,co2,co3,bu7,be3,eh3,eh4,eh5,eh6,eh7,eh8,eh9,ei1,ei2,ei3,ei4,ei5,ei6,co4,co5,co6,co7,co8,co9,cp1,cp3,cp4,cp5,al8,az1,bu8,bu9,bv1,cp6,cp7,cp8,cp9,ei7,ei8,cq1,ei9,bv2,bv3,bv4,ej3,az2,fr8,cq8,bv5,bv6,be4,bh3,bm8,ej1,bz3,be5,ej2,bz4,be6,be7,bv7,bv8,bv9,bw1,be8,bw2,bw3,be9,ax6,as5,bf1,bw4,bf2,cq2,cq3,cq4,bw5,bf3,bw6,bw7,bf4,ax7,as6,bf5,bw8,bf6,cq5,cq6,cq7,List.getElem?_cons_zero,List.getElem?_cons_succ,List.all_cons,List.all_nil,List.drop_zero,List.drop_succ_cons,List.head?_cons,Bool.and_true,Bool.and_self,Frm.ay8,Frm.get_nil,ac4,aa2,decide_true,decide_false,List.append_nil,List.nil_append,List.cons_append,Bool.false_eq_true,Bool.xor_false,Bool.xor_true,Bool.not_true,Bool.not_false,Nat.reduceEqDiff,Nat.reduceAdd,Nat.reduceMul,Nat.reduceLT,Nat.add_zero,Nat.zero_add,Nat.succ_ne_zero,if_true,if_false,↓reduceIte,reduceCtorEq,true_and,and_true,f0,f6,hm];constructor
  ·intro h0;subst h0;have hno:∀ e∈opsL,e.2≠.int .u8 n:=fun e he hn=>by have:=h7 e he hn; cases this
   refine ⟨fun i hi=>h2 i hi,h1,?_⟩;rw[fe6 hno];exact .keep _ (.str _)
  ·intro j hj;have hmem:left.getD j (.undef,.undef)∈left:=ad1 _ hj;have hops:=h6 _ hmem;have hment:∀ c x,ba5 ⟨x,(s.put σ.next (.ai8 (left.eraseIdx j) (some c))).obj⟩ (.ptr σ.next 0)=some (.tuple [c.1,c.2]):=fun c x=>by simp only[ba5,aa2,if_true]
   generalize hc:left.getD j (.undef,.undef)=c at hmem hops ⊢
   obtain ⟨k,hk⟩:∃ k,c.2=.int .u8 k:=by
    simp only[opsL,List.mem_cons,List.not_mem_nil,or_false] at hops;rcases hops with rfl|rfl|rfl|rfl|rfl|rfl<;>exact ⟨_,rfl⟩
   simp only[hment,cj9,ck3,bq8,bc8,ck4,bq9,ck5,br1,ec6,gq9,ec3,ec4,ck6,br2,ck7,br3,br4,bc9,ck8,w_q,br5,ec7,ec8,br6,ec9,br8,bd1,br7,ck9,cl1,cl2,br9,bd2,ed1,cl3,ed2,cl4,bs1,bs2,cl5,ed3,ed4,ed5,ed6,ed7,ed8,ed9,ee1,ee2,ee3,cl6,ee4,cl7,ee5,cl8,bs3,cl9,cm4,ee6,gr3,gr4,ee7,ee8,ee9,ef1,ef2,ef3,ef4,ef5,ef6,ef7,cm5,bs4,bd3,ax3,bs5,bd4,cm1,cm2,cm3,bs6,gr1,gr2,ax5,bd8,bt8,bt9,bu1,bt7,cn8,e_t,e_c,e_g,e_f,ef8,cm6,ef9,eg1,eg2,ae8,eg3,cm7,bs7,eg4,bs8,eg5,bs9,bt1,eg6,cm8,eg7,cm9,eg8,eg9,eh1,eh2,cn1,cn2,do1,gb8,de7,dn9,bt2,bt3,cn3,cn4,bt4,bt5,gr5,bd5,cn5,cn6,cn7,bd6,bt6,ax4,bd7,bd9,bu2,be1,be2,cn9,co1,do2,do3,bu3,bu4,bu5,bu6,co2,co3,bu7,be3,eh3,eh4,eh5,eh6,eh7,eh8,eh9,ei1,ei2,ei3,ei4,ei5,ei6,co4,co5,co6,co7,co8,co9,cp1,cp3,cp4,cp5,al8,az1,bu8,bu9,bv1,cp6,cp7,cp8,cp9,ei7,ei8,cq1,ei9,bv2,bv3,bv4,ej3,az2,fr8,cq8,bv5,bv6,be4,bh3,bm8,ej1,bz3,be5,ej2,bz4,be6,be7,bv7,bv8,bv9,bw1,be8,bw2,bw3,be9,ax6,as5,bf1,bw4,bf2,cq2,cq3,cq4,bw5,bf3,bw6,bw7,bf4,ax7,as6,bf5,bw8,bf6,cq5,cq6,cq7,List.getElem?_cons_zero,List.getElem?_cons_succ,List.all_cons,List.all_nil,List.drop_zero,List.drop_succ_cons,List.head?_cons,Bool.and_true,Bool.and_self,Frm.ay8,Frm.get_nil,ac4,aa2,decide_true,decide_false,List.append_nil,List.nil_append,List.cons_append,Bool.false_eq_true,Bool.xor_false,Bool.xor_true,Bool.not_true,Bool.not_false,Nat.reduceEqDiff,Nat.reduceAdd,Nat.reduceMul,Nat.reduceLT,Nat.add_zero,Nat.zero_add,Nat.succ_ne_zero,if_true,if_false,↓reduceIte,reduceCtorEq,true_and,and_true,hk];by_cases hkn:k=n
   ·subst hkn;simp only[cj9,ck3,bq8,bc8,ck4,bq9,ck5,br1,ec6,gq9,ec3,ec4,ck6,br2,ck7,br3,br4,bc9,ck8,w_q,br5,ec7,ec8,br6,ec9,br8,bd1,br7,ck9,cl1,cl2,br9,bd2,ed1,cl3,ed2,cl4,bs1,bs2,cl5,ed3,ed4,ed5,ed6,ed7,ed8,ed9,ee1,ee2,ee3,cl6,ee4,cl7,ee5,cl8,bs3,cl9,cm4,ee6,gr3,gr4,ee7,ee8,ee9,ef1,ef2,ef3,ef4,ef5,ef6,ef7,cm5,bs4,bd3,ax3,bs5,bd4,cm1,cm2,cm3,bs6,gr1,gr2,ax5,bd8,bt8,bt9,bu1,bt7,cn8,e_t,e_c,e_g,e_f,ef8,cm6,ef9,eg1,eg2,ae8,eg3,cm7,bs7,eg4,bs8,eg5,bs9,bt1,eg6,cm8,eg7,cm9,eg8,eg9,eh1,eh2,cn1,cn2,do1,gb8,de7,dn9,bt2,bt3,cn3,cn4,bt4,bt5,gr5,bd5,cn5,cn6,cn7,bd6,bt6,ax4,bd7,bd9,bu2,be1,be2,cn9,co1,do2,do3,bu3,bu4,bu5,bu6,co2,co3,bu7,be3,eh3,eh4,eh5,eh6,eh7,eh8,eh9,ei1,ei2,ei3,ei4,ei5,ei6,co4,co5,co6,co7,co8,co9,cp1,cp3,cp4,cp5,al8,az1,bu8,bu9,bv1,cp6,cp7,cp8,cp9,ei7,ei8,cq1,ei9,bv2,bv3,bv4,ej3,az2,fr8,cq8,bv5,bv6,be4,bh3,bm8,ej1,bz3,be5,ej2,bz4,be6,be7,bv7,bv8,bv9,bw1,be8,bw2,bw3,be9,ax6,as5,bf1,bw4,bf2,cq2,cq3,cq4,bw5,bf3,bw6,bw7,bf4,ax7,as6,bf5,bw8,bf6,cq5,cq6,cq7,List.getElem?_cons_zero,List.getElem?_cons_succ,List.all_cons,List.all_nil,List.drop_zero,List.drop_succ_cons,List.head?_cons,Bool.and_true,Bool.and_self,Frm.ay8,Frm.get_nil,ac4,aa2,decide_true,decide_false,List.append_nil,List.nil_append,List.cons_append,Bool.false_eq_true,Bool.xor_false,Bool.xor_true,Bool.not_true,Bool.not_false,Nat.reduceEqDiff,Nat.reduceAdd,Nat.reduceMul,Nat.reduceLT,Nat.add_zero,Nat.zero_add,Nat.succ_ne_zero,if_true,if_false,↓reduceIte,reduceCtorEq,true_and,and_true];refine ⟨fun i hi=>by rw[if_neg (by omega)]; exact h2 i hi,h1,?_⟩;rw[fu1 hops hk];exact .keep _ (.str _)
   ·simp only[cj9,ck3,bq8,bc8,ck4,bq9,ck5,br1,ec6,gq9,ec3,ec4,ck6,br2,ck7,br3,br4,bc9,ck8,w_q,br5,ec7,ec8,br6,ec9,br8,bd1,br7,ck9,cl1,cl2,br9,bd2,ed1,cl3,ed2,cl4,bs1,bs2,cl5,ed3,ed4,ed5,ed6,ed7,ed8,ed9,ee1,ee2,ee3,cl6,ee4,cl7,ee5,cl8,bs3,cl9,cm4,ee6,gr3,gr4,ee7,ee8,ee9,ef1,ef2,ef3,ef4,ef5,ef6,ef7,cm5,bs4,bd3,ax3,bs5,bd4,cm1,cm2,cm3,bs6,gr1,gr2,ax5,bd8,bt8,bt9,bu1,bt7,cn8,e_t,e_c,e_g,e_f,ef8,cm6,ef9,eg1,eg2,ae8,eg3,cm7,bs7,eg4,bs8,eg5,bs9,bt1,eg6,cm8,eg7,cm9,eg8,eg9,eh1,eh2,cn1,cn2,do1,gb8,de7,dn9,bt2,bt3,cn3,cn4,bt4,bt5,gr5,bd5,cn5,cn6,cn7,bd6,bt6,ax4,bd7,bd9,bu2,be1,be2,cn9,co1,do2,do3,bu3,bu4,bu5,bu6,co2,co3,bu7,be3,eh3,eh4,eh5,eh6,eh7,eh8,eh9,ei1,ei2,ei3,ei4,ei5,ei6,co4,co5,co6,co7,co8,co9,cp1,cp3,cp4,cp5,al8,az1,bu8,bu9,bv1,cp6,cp7,cp8,cp9,ei7,ei8,cq1,ei9,bv2,bv3,bv4,ej3,az2,fr8,cq8,bv5,bv6,be4,bh3,bm8,ej1,bz3,be5,ej2,bz4,be6,be7,bv7,bv8,bv9,bw1,be8,bw2,bw3,be9,ax6,as5,bf1,bw4,bf2,cq2,cq3,cq4,bw5,bf3,bw6,bw7,bf4,ax7,as6,bf5,bw8,bf6,cq5,cq6,cq7,List.getElem?_cons_zero,List.getElem?_cons_succ,List.all_cons,List.all_nil,List.drop_zero,List.drop_succ_cons,List.head?_cons,Bool.and_true,Bool.and_self,Frm.ay8,Frm.get_nil,ac4,aa2,decide_true,decide_false,List.append_nil,List.nil_append,List.cons_append,Bool.false_eq_true,Bool.xor_false,Bool.xor_true,Bool.not_true,Bool.not_false,Nat.reduceEqDiff,Nat.reduceAdd,Nat.reduceMul,Nat.reduceLT,Nat.add_zero,Nat.zero_add,Nat.succ_ne_zero,if_true,if_false,↓reduceIte,reduceCtorEq,true_and,and_true,hkn];refine ⟨left.length-1,by omega,rfl,rfl,h1,fun i hi=>?_,Nat.le_refl _,left.eraseIdx j,some c,?_,?_,fun e he=>h6 e (List.mem_of_mem_eraseIdx he),fun e he hn=>?_⟩
    ·simp only[aa2]; rw[if_neg (by omega)]; exact h2 i hi
    ·simp only[aa2,if_true]
    ·rw[List.length_eraseIdx_of_lt hj]
    ·have h8:=h7 e he hn;rcases dh4 (d:=(IV.undef,IV.undef)) (j:=j) h8 with h9|h9
     ·exact h9
     ·rw[h9] at hn; rw[hc,hk] at hn; cases hn; exact absurd rfl hkn
end Go.Id
set_option linter.all false
namespace Go.Id
open Go
variable {P:Program} {E:Nat→IV} {σ σ':Store} {N n0:Nat} {fr:Frm}
def upQ (I:Nat→Frm→Store→Prop)(i n:Nat)(Q:Exit→Frm→Store→Prop):Exit→Frm→Store→Prop
 | .normal,fr,σ=>i<n∧I (i+1) fr σ
 | e,fr,σ=>Q e fr σ
theorem il5 {I:Nat→Frm→Store→Prop}{i n:Nat}{Q:Exit→Frm→Store→Prop}:upQ I i n Q .normal fr σ=(i<n∧I (i+1) fr σ):=nr rfl
theorem il6 {I:Nat→Frm→Store→Prop}{i n k:Nat}{Q:Exit→Frm→Store→Prop}:upQ I i n Q (.exit k) fr σ=Q (.exit k) fr σ:=nr rfl
theorem il7 {I:Nat→Frm→Store→Prop}{i n:Nat}{Q:Exit→Frm→Store→Prop}:upQ I i n Q .ret fr σ=Q .ret fr σ:=nr rfl
theorem ac9 {pt:PT}{ct:CT}(hT:TOK P E pt ct){x:IC}{Q:Exit→Frm→Store→Prop}(I:Nat→Frm→Store→Prop)(n:Nat)(h:I 0 fr σ)
  (hI:∀ i fr σ,i≤n→I i fr σ→wpT pt ct P E N n0 x fr σ (upQ I i n Q)):RI P E N n0 (.loop x) fr σ Q:=by
 refine et9 (fun m fr σ=>∃ i,i≤n∧m=n-i∧I i fr σ) n ⟨0,Nat.zero_le _,rfl,h⟩ ?_;rintro m fr σ ⟨i,hi,rfl,hi0⟩;refine ay9 x fr σ _ _ ?_ (ap9 hT x fr σ _ (hI i fr σ hi hi0));intro e f s q
 cases e with
 | normal=>exact ⟨n-(i+1),by have:=q.1; omega,i+1,q.1,rfl,q.2⟩
 | _=>exact q
theorem ae9 {α:Type}(es:List α)(i:Nat)(h:i<es.length):∃ a,a∈es∧es[i]? = some a∧es.drop i=a::es.drop (i+1)∧(∀ (f:α→List IV),(es.map f).getD i []=f a)∧es.take (i+1)=es.take i++[a]:=
 ⟨es[i],List.getElem_mem h,List.getElem?_eq_getElem h,List.drop_eq_getElem_cons h,fun f=>by simp[List.getD_eq_getElem?_getD,h],by rw[List.take_add_one,List.getElem?_eq_getElem h]; rfl⟩
/-! ### Runes -/
theorem ey7 (s:List UInt8)(i:Nat)(h:i<s.length):((⟨s.toArray⟩:ByteArray).get! i)=s[i]:=by
 show (s.toArray)[i]! = s[i];simp[h]
theorem eb4 (s:List UInt8)(i:Nat)(h:i<s.length)(hb:s[i].toNat<128):Utf8.decode ⟨s.toArray⟩ i=(s[i].toNat,1):=by
 unfold Utf8.decode;simp only[Nat.add_zero,ey7 s i h];rw[if_pos hb]
theorem decode_high (s:List UInt8)(i:Nat)(h:i<s.length)(hb:¬ s[i].toNat<128):128≤(Utf8.decode ⟨s.toArray⟩ i).1:=by
 unfold Utf8.decode;simp only[Nat.add_zero,ey7 s i h];rw[if_neg hb];have e:Utf8.runeError=65533:=rfl
 repeat' split
 all_goals first|(rw[e]; omega)|(simp only[ge_iff_le,Bool.and_eq_true,decide_eq_true_eq] at *; omega)
/-! ### What a yield is told -/
def eb5 (P:Program)(E:Nat→IV)(id:Nat)(I:List (List IV)→Store→Prop)(S:Store→Prop):Prop :=
 ∀ a rest σ,I (a::rest) σ→CV P E (.yield id) a σ fun v s=>σ.next≤s.next∧((v=.bool true∧I rest s)∨(v=.bool false∧S s))
end Go.Id
/- The walk's rewriting rules,marked. Conditions: none; over any program. -/
namespace Go.Id
open Go
attribute [go_sem] cj9 ck3 bq8 bc8 ck4 bq9 ck5 br1 ec6 gq9 ec3 ec4 ck6 br2 ck7 br3 br4 bc9 ck8 w_q br5
 ec7 ec8 br6 ec9 br8 bd1 br7 ck9 cl1 cl2 br9 bd2 ed1 cl3 ed2 cl4 bs1 bs2 cl5 ed3
 ed4 ed5 ed6 ed7 ed8 ed9 ee1 ee2 ee3 cl6 ee4 cl7 ee5 cl8 bs3 cl9 cm4 ee6 gr3 gr4 ee7 ee8 ee9 ef1
 ef2 ef3 ef4 ef5 ef6 ef7 cm5 bs4 bd3 ax3 bs5 bd4 cm1 cm2 cm3 bs6 gr1 gr2 ax5 bd8
 bt8 bt9 bu1 bt7 cn8 e_t e_c e_g e_f ef8 cm6 ef9 eg1 eg2 ae8 eg3 cm7 bs7 eg4 bs8 eg5 bs9
 bt1 eg6 cm8 eg7 cm9 eg8 eg9 eh1 eh2 cn1 cn2 do1 gb8 de7 dn9 bt2 bt3 cn3 cn4 bt4 bt5 gr5
 bd5 cn5 cn6 cn7 bd6 bt6 ax4 bd7 bd9 bu2 be1 be2 cn9 co1 do2 do3 bu3 bu4
 bu5 bu6 co2 co3 bu7 be3 eh3 eh4 eh5 eh6 eh7 eh8 eh9 ei1 ei2 ei3 ei4 ei5 ei6 co4 co5 co6
 co7 co8 co9 cp1 cp3 cp4 cp5 he4 he5 he6 he7 al8 az1 bu8 bu9 bv1 cp6 cp7 cp8 cp9 ei7 ei8 cq1 ei9
 bv2 bv3 bv4 ej3 az2 fr8 cq8 bv5 bv6 be4 bh3 bm8 ej1 bz3 be5 ej2 bz4 be6 be7 bv7
 bv8 bv9 bw1 be8 bw2 bw3 be9 ax6 as5 bf1 bw4 bf2 cq2 cq3 cq4 bw5 bf3
 bw6 bw7 bf4 ax7 as6 bf5 bw8 bf6 cq5 cq6 cq7 Frm.ay8 Frm.get_nil ac4 aa2 il5 il6
 il7 do1 gb8 de7 dn9 ic1 he3 
attribute [go_sem] List.getElem?_cons_zero List.getElem?_cons_succ List.all_cons List.all_nil List.drop_zero List.drop_succ_cons List.head?_cons Bool.and_true Bool.and_self List.append_nil List.nil_append List.cons_append Bool.false_eq_true Bool.xor_false Bool.xor_true Bool.not_true Bool.not_false Nat.add_zero Nat.zero_add Nat.succ_ne_zero if_true if_false true_and and_true
end Go.Id
namespace Go.Id
open Go
variable {P:Program} {E:Nat→IV} {σ σ':Store} {N n0:Nat} {fr:Frm} {pf:List Nat}
/-! ### By the tables of the seat -/
theorem bp3 {f:Nat}{ic:IC}{irs:List IR}{args:List IV}{v:IV}(hf:FOK P f (N,ic,irs))(hl:args.length≤N)
  (h:∀ σ,wpT noP noC P E N σ.next ic (au2 args 0) σ (fb4 irs fun v' σ'=>v'=v∧σ'=σ)):PC P E f args v:=by
 obtain ⟨_,pf,an,h1⟩:=hf;exact io4 noT h1 hl h
theorem C_f {f:Nat}{ic:IC}{irs:List IR}{args:List IV}{Qc:IV→Store→Prop}(hf:FOK P f (N,ic,irs))(hl:args.length≤N)
  (h:wpT noP noC P E N σ.next ic (au2 args 0) σ (fb4 irs Qc)):C P E f args σ Qc:=by
 obtain ⟨_,pf,an,h1⟩:=hf;exact C_T noT h1 hl h
def emp:Store:=⟨0,fun _=>none⟩
theorem fp1:emp.next=0:=nr rfl
theorem gi2 {i:Nat}:emp.obj i=none:=nr rfl
attribute [go_sem] fp1 gi2
theorem bz1 {f:Nat}{ic:IC}{irs:List IR}{args:List IV}{v:IV}(hE:∀ g,Bnd 0 (E g))(hf:FOK P f (N,ic,irs))(hl:args.length≤N)(ha:∀ a∈args,Bnd 0 a)
  (h:wpT noP noC P E N 0 ic (au2 args 0) emp (fb4 irs fun v' σ'=>bm9 σ' 0 v' v)):PC P E f args v :=
 cw2 hE ha (C_f (σ:=emp) hf hl h)
theorem ac2 {f:Nat}{e:FE}{args:List IV}{v:IV}{K:IV→Store→Prop}(hf:FOK P f e)(h:PC P E f args v)(hk:K v σ):ch2 P E none f args σ K :=
 av4 hf.1 (gl4 h) fun _ _ ⟨h1,h2⟩=>by subst h1; subst h2; exact ⟨Nat.le_refl _,hk⟩
theorem ae3 {f:Nat}{e:FE}{args:List IV}{Qc:IV→Store→Prop}{K:IV→Store→Prop}(hf:FOK P f e)(h:C P E f args σ Qc)(hk:∀ v s,Qc v s→σ.next≤s.next∧K v s):ch2 P E none f args σ K :=
 av4 hf.1 h hk
theorem ab8 {S:Nat→Prop}(b:Bool):Frz σ S (.bool b) (.bool b):=.keep _ (.bool _)
theorem ac8 {S:Nat→Prop}(k:IntKind)(n:Int):Frz σ S (.int k n) (.int k n):=.keep _ (.int _ _)
theorem ag7 {S:Nat→Prop}(s:List UInt8):Frz σ S (.str s) (.str s):=.keep _ (.str _)
/-! ### Rows of which only the length is known to be nothing -/
theorem gb3 {ρ:Rho}{w:World}{v:IV}{rargs:Array Value}(h:CR ρ w [v] rargs):VR ρ w v (rargs.getD 0 undef):=by
 have:=h.2 0 (Nat.zero_lt_one)
 simpa using this
theorem du2 {ρ:Rho}{w:World}{u v:IV}{rargs:Array Value}(h:CR ρ w [u] rargs)(hv:VR ρ w v (rargs.getD 0 undef)):CR ρ w [v] rargs :=
 ⟨h.1,fun i hi=>by
  have:i=0:=by simp at hi; omega
  subst this
  simpa using hv⟩
theorem dd5 {f:Nat}{v:IV}(h1:PC P E f [.aa1] v)(h2:PC P E f [.ad4] v):PC P E f [.aa4 []] v:=by
 intro σ ρ w rargs hs hr;have hv:=gb3 hr;generalize hx:rargs.getD 0 undef=r at hv
 cases hv with
 | bp2=>exact h1 σ ρ w rargs hs (du2 hr (by rw[hx]; exact .aa1))
 | aa4 es b o cap esz sp vs hf hsz hc hv hle=>exact h2 σ ρ w rargs hs (du2 hr (by rw[hx]; exact .ad4 _ _))
theorem ag4 {i:Nat}(h:i<2^62):IntKind.i64.wrap ((i:Int)+1)=((i+1:Nat):Int):=by
 rw[wrap64 (by omega) (by omega)]; omega
/-! ### Lists that are laid out -/
theorem gi3 {cs:List IV}:ak7 cs []=some cs:=by simp only[ak7]
theorem gi4 {cs:List IV}{off n:Nat}{v:IV}{ps:List (Nat×Nat×IV)}:ak7 cs ((off,n,v)::ps)=if v.cs.length=n∧off+n≤cs.length∧v.cs.all IV.leaf=true then ak7 (ao8 cs off v.cs) ps else none:=by simp only[ak7]
theorem gx5 {c:IV}{cs:List IV}{vs:List IV}:ao8 (c::cs) 0 vs=vs++(c::cs).drop vs.length:=by simp[ao8]
theorem gx6 {c:IV}{cs vs:List IV}{n:Nat}:ao8 (c::cs) (n+1) vs=c::ao8 cs n vs:=by simp[ao8,Nat.add_right_comm]
theorem gx7 {d:TypeId}{a:List IV}{aZ:List (List IV)}:bk5 (.slice d) (.aa4 (a::aZ))=some false:=nr rfl
theorem gx8 {d:TypeId}:bk5 (.slice d) .aa1=some true:=nr rfl
theorem gx9 {d:TypeId}:bk5 (.slice d) .ad4=some false:=nr rfl
theorem gy1 {d:TypeId}:bk5 (.slice d) .ab4=some false:=nr rfl
theorem gy2 {d:TypeId}{i o l e:Nat}:bk5 (.slice d) (.slice i o l e)=some false:=nr rfl
theorem gy3 {d:TypeId}:bk5 (.pointer d) .ad3=some true:=nr rfl
theorem gi5 {d:TypeId}{cs:List IV}:bk5 (.pointer d) (.af4 cs)=some false:=nr rfl
theorem gi6 {d:TypeId}{i o:Nat}:bk5 (.pointer d) (.ptr i o)=some false:=nr rfl
theorem fp3 {e:Nat}{l:List IV}:chunk e 0 l=[]:=nr rfl
theorem fp4 {e n:Nat}{l:List IV}:chunk e (n+1) l=l.take e::chunk e n (l.drop e):=nr rfl
theorem gy4 {z:List IV}:rep z 0=[]:=nr rfl
theorem gy5 {z:List IV}{n:Nat}:rep z (n+1)=z++rep z n:=nr rfl
theorem gi7 {off:Nat}{cs:List IV}:aw5 none off cs=cs[off]?:=nr rfl
theorem gi8 {off n:Nat}{cs:List IV}:aw5 (some n) off cs=if off+n≤cs.length then some (.agg ((cs.drop off).take n)) else none:=nr rfl
theorem gy6 {ag:Option Nat}{off:Nat}{cs:List IV}:ge2 ag off (.agg cs)=aw5 ag off cs:=nr rfl
theorem gy7 {ag:Option Nat}{n esz:Nat}{cs:List IV}{k:IntKind}{i:Int}:fx6 ag n esz (.agg cs) (.int k i)=if 0≤i∧i<n then aw5 ag (i.toNat*esz) cs else none:=nr rfl
theorem fp5 {n esz:Nat}{v:IV}{k:IntKind}{i:Int}:cc1 n esz v (.int k i)=if 0≤i∧i<n then by9 (i.toNat*esz) v else none:=nr rfl
theorem gi9 {s:List UInt8}{k:IntKind}{i:Int}:da5 (.str s) (.int k i)=if 0≤i then (s[i.toNat]?).map fun b=>.int .u8 b.toNat else none:=nr rfl
theorem gy8 {tags:List Nat}{neg:Bool}{xs ys:List IV}:fy1 tags true neg (.agg xs) (.agg ys)=(allEq tags xs ys).map fun b=>.bool (b ^^ neg):=nr rfl
theorem gy9:allEq [] [] []=some true:=nr rfl
def ii4:Option Bool→Option Bool→Option Bool
 | some a,some b=>some (a&&b)
 | _,_=>none
theorem gz1 {a b:Bool}:ii4 (some a) (some b)=some (a&&b):=nr rfl
theorem gz2 {t:Nat}{ts:List Nat}{x y:IV}{xs ys:List IV}:allEq (t::ts) (x::xs) (y::ys)=ii4 (ai2 t x y) (allEq ts xs ys):=by
 simp only[allEq]; cases ai2 t x y<;>cases allEq ts xs ys<;>rfl
theorem gz3 {k:IntKind}{a b:Int}:ai2 1 (.int k a) (.int k b)=some (decide (a=b)):=by simp[ai2]
theorem gz4 {a b:List UInt8}:ai2 2 (.str a) (.str b)=some (decide (a=b)):=nr rfl
theorem ey8 {a b:List UInt8}:ai7 2 (.str a) (.str b)=some (decide (a=b)):=nr rfl
theorem gz5 {a b:Bool}:ai2 0 (.bool a) (.bool b)=some (a==b):=nr rfl
attribute [go_sem] gy8 gy9 gz2 gz1 gz5 gz3 gz4
attribute [go_sem] gi3 gi4 gx5 gx6 gx7 gx8 gx9 gy1 gy2 gy3 gi5 gi6 fp3 fp4 gy4 gy5 gi7 gi8 gy6 gy7 fp5 gi9
attribute [go_sem] Bool.true_or Bool.or_true Bool.false_or Bool.or_false Bool.true_and Bool.false_and Bool.and_false
attribute [go_sem] List.length_cons List.length_nil List.take_succ_cons List.take_zero List.length_map Int.toNat_natCast
end Go.Id
/- Ranging over functions that tell rows: tellers,and the loops over them. Conditions: none; over any program. -/
namespace Go.Id
open Go
variable {P:Program} {E:Nat→IV} {σ σ':Store} {N n0:Nat} {fr:Frm}
def gj1 (I:List (List IV)→Store→Prop):Prop:=∀ rest s s',I rest s→s.next≤s'.next→(∀ i,i<s.next→s'.obj i=s.obj i)→I rest s'
def gj2 (n:Nat)(I:List (List IV)→Store→Prop)(S:Store→Prop):IV→Store→Prop:=fun _ s=>n≤s.next∧(I [] s∨S s)
def ey9 (P:Program)(E:Nat→IV)(fv:IV)(evs:List (List IV))(own:Store→Prop):Prop :=
 ∀ (yid:Nat) (I:List (List IV)→Store→Prop) (S:Store→Prop) (σ:Store),(∀ rest s,I rest s→own s)→gj1 I→eb5 P E yid I S→I evs σ→CVf P E fv [.yield yid] σ (gj2 σ.next I S)
def hw6 (P:Program)(E:Nat→IV)(N n0:Nat)(id:Nat)(L:LoopState→Option JX→ah2)(x:IC)(K:IV→Store→Prop):Exit→Frm→Store→Prop
 | .normal,f,s=>s.obj id=some (L .ready none)∧wpT noP noC P E N n0 x f (s.put id (L .busy none)) (cd1 id L K)
 | _,_,_=>False
theorem hw9 {id:Nat}{L:LoopState→Option JX→ah2}{x:IC}{K:IV→Store→Prop}:hw6 P E N n0 id L x K .normal fr σ=(σ.obj id=some (L .ready none)∧wpT noP noC P E N n0 x fr (σ.put id (L .busy none)) (cd1 id L K)):=nr rfl
theorem hx8 {id:Nat}{L:LoopState→Option JX→ah2}{K:IV→Store→Prop}:cd1 id L K .normal fr σ=(σ.obj id=some (L .busy none)∧K (.bool true) (σ.put id (L .ready none))):=nr rfl
theorem hx9 {id:Nat}{L:LoopState→Option JX→ah2}{K:IV→Store→Prop}:cd1 id L K .ret fr σ=(σ.obj id=some (L .busy none)∧K (.bool false) (σ.put id (L .done (some .ret)))):=nr rfl
theorem hy5 {id i:Nat}{L:LoopState→Option JX→ah2}{K:IV→Store→Prop}:cd1 id L K (.exit i) fr σ=(σ.obj id=some (L .busy none)∧K (.bool false) (σ.put id (L .done (some (.exit i))))):=nr rfl
theorem gj3:bq5 fr [] []=fr:=nr rfl
theorem gj4 {p:Nat}{ps:List Nat}{v:IV}{vs:List IV}:bq5 fr (p::ps) (v::vs)=bq5 (fr.set p v) ps vs:=nr rfl
theorem hy6 {p:Nat}{v:IV}:fr.set p v=(p,v)::fr:=nr rfl
def goQ (id n:Nat)(L:LoopState→Option JX→ah2)(J:List (List IV)→Store→Prop)(Q:Exit→Frm→Store→Prop)(fr:Frm)(rest:List (List IV)):IV→Store→Prop:=fun v s=>
 n≤s.next∧((v=.bool true∧s.obj id=some (L .ready none)∧J rest s)∨(v=.bool false∧∃ st pend,st≠.busy∧s.obj id=some (L st pend)∧fm7 Q fr (s.kill id) pend))
theorem dm7 {id n:Nat}{L:LoopState→Option JX→ah2}{J:List (List IV)→Store→Prop}{Q:Exit→Frm→Store→Prop}{rest:List (List IV)}(h1:n≤σ.next)(h2:σ.obj id=some (L .ready none))(h3:J rest σ):goQ id n L J Q fr rest (.bool true) σ:=⟨h1,.inl ⟨rfl,h2,h3⟩⟩
theorem cd9 {id n:Nat}{L:LoopState→Option JX→ah2}{J:List (List IV)→Store→Prop}{Q:Exit→Frm→Store→Prop}{rest:List (List IV)}(h1:n≤σ.next)(h2:σ.obj id=some (L .done (some .ret)))(h3:Q .ret fr (σ.kill id)):goQ id n L J Q fr rest (.bool false) σ:=⟨h1,.inr ⟨rfl,.done,some .ret,(fun h=>by cases h),h2,h3⟩⟩
theorem dm8 {g:IX}{ps:List Nat}{y x:IC}{Q:Exit→Frm→Store→Prop}{evs:List (List IV)}{own:Store→Prop}(hT:ey9 P E (g.ev E fr) evs own)
  (J:List (List IV)→Store→Prop) (hown:∀ rest s,J rest s→own s) (hstab:gj1 J) (hlen:∀ a∈evs,a.length=ps.length)
  (hinit:∀ o,J evs ⟨σ.next+1,(σ.put σ.next o).obj⟩)
  (hbody:∀ (L:LoopState→Option JX→ah2) (pre:List (List IV)) (a:List IV) (rest:List (List IV)) (s:Store),evs=pre++a::rest→J (a::rest) s→s.obj σ.next=some (L .ready none)→σ.next<s.next →
   wpT noP noC P E N s.next y (bq5 fr ps a) s (hw6 P E N s.next σ.next L x (goQ σ.next s.next L J Q fr rest)))
  (hend:∀ s o,J [] s→σ.next<s.next→s.obj σ.next=some o→Q .normal fr (s.kill σ.next)) :
  RI P E N n0 (.rfunc g ps y x) fr σ Q:=by
 refine cu4 fun L hL=>?_
 let I:List (List IV)→Store→Prop:=fun rest s=>(∃ pre,evs=pre++rest)∧s.obj σ.next=some (L .ready none)∧σ.next<s.next∧J rest s
 let S:Store→Prop:=fun s=>∃ st pend,st≠.busy∧s.obj σ.next=some (L st pend)∧fm7 Q fr (s.kill σ.next) pend
 have hI:gj1 I:=by
  rintro rest s s' ⟨hp,h1,h2,h3⟩ hn hs;exact ⟨hp,by rw[hs _ h2]; exact h1,Nat.lt_of_lt_of_le h2 hn,hstab rest s s' h3 hn hs⟩
 have hst:eb5 P E σ.next I S:=by
  rintro a rest s ⟨⟨pre,hp⟩,h1,h2,h3⟩;refine ⟨by rw[h1]; rfl,?_⟩;have hb:=hbody L pre a rest s hp h3 h1 h2;refine hL s a _ (hlen a (by rw[hp]; simp)) h1 ?_;refine (ap7 y _ _ _ (ay9 y _ _ _ _ ?_ (ap9 noT y _ _ _ hb)));intro e f s1 q
  cases e with
  | normal=>
   refine ⟨rfl,q.1,?_⟩;refine (ap7 x _ _ _ (ay9 x _ _ _ _ ?_ (ap9 noT x _ _ _ q.2)))
   have hK:∀ v s2,goQ σ.next s.next L J Q fr rest v s2→s.next≤s2.next∧((v=.bool true∧I rest s2)∨(v=.bool false∧S s2)):=by
    rintro v s2 ⟨hn,h|h⟩
    ·exact ⟨hn,.inl ⟨h.1,⟨pre++[a],by rw[hp]; simp⟩,h.2.1,Nat.lt_of_lt_of_le h2 hn,h.2.2⟩⟩
    ·exact ⟨hn,.inr ⟨h.1,h.2⟩⟩
   intro e f s2 q2
   cases e with
   | normal=>exact ⟨q2.1,hK _ _ q2.2⟩
   | ret=>exact ⟨q2.1,hK _ _ q2.2⟩
   | exit i=>exact ⟨q2.1,hK _ _ q2.2⟩
   | _=>exact q2
  | _=>exact q.elim
 have h:=hT σ.next I S ⟨σ.next+1,(σ.put σ.next (L .ready none)).obj⟩ (fun rest s h=>hown rest s h.2.2.2) hI hst ⟨⟨[],rfl⟩,by simp only[aa2,if_true],Nat.lt_succ_self _,hinit _⟩;refine h.mono ?_;rintro v s ⟨hn,h|h⟩
 ·exact ⟨Nat.le_of_lt hn,.ready,none,(fun h=>by cases h),h.2.1,hend s _ h.2.2.2 h.2.2.1 h.2.1⟩
 ·exact ⟨Nat.le_of_lt hn,h⟩
theorem dm9 {yid:Nat}{I:List (List IV)→Store→Prop}{S:Store→Prop}{a:List IV}{rest:List (List IV)}{K:IV→Store→Prop}(h:eb5 P E yid I S)(hi:I (a::rest) σ)
  (h1:∀ s,σ.next≤s.next→I rest s→K (.bool true) s) (h2:∀ s,σ.next≤s.next→S s→K (.bool false) s):fb5 noC P E (.yield yid) a σ K:=by
 refine ⟨_,h a rest σ hi,?_⟩;rintro v s ⟨hn,⟨rfl,h⟩|⟨rfl,h⟩⟩
 ·exact ⟨hn,h1 s hn h⟩
 ·exact ⟨hn,h2 s hn h⟩
theorem ez1 {i:Nat}:(σ.kill i).next=σ.next:=nr rfl
theorem fp6 {i j:Nat}:(σ.kill i).obj j=if j=i then none else σ.obj j:=nr rfl
attribute [go_sem] ez1 fp6
attribute [go_sem] hw9 hx8 hx9 hy5 gj3 gj4 hy6
end Go.Id
/- Rows that grow,one by one; what is done with,aZ trees. Conditions: none; over any program. -/
namespace Go.Id
open Go
variable {P:Program} {E:Nat→IV} {σ σ':Store} {N n0:Nat} {fr:Frm}
def hy7 (σ:Store):IV→Prop
 | .af4 _=>True
 | .ptr i _=>match σ.obj i with
  | some (.cells _)=>True
  | _=>False
 | _=>False
def ii5:Option ah2→Prop
 | some (.cells _)=>True
 | _=>False
theorem gz6 {ag:Option Nat}{x:IX}:bk1 E fr σ (.q (.load ag x))=hy7 σ (x.ev E fr):=nr rfl
theorem b_t {cs:List IV}:hy7 σ (.af4 cs)=True:=nr rfl
theorem b_p {i o:Nat}:hy7 σ (.ptr i o)=ii5 (σ.obj i):=nr rfl
theorem b_o {cs:List IV}:ii5 (some (.cells cs))=True:=nr rfl
theorem hy8 {x:IX}:bk1 E fr σ (.q (.mov x))=True:=nr rfl
theorem gj5 {n:Nat}{x:IX}:bk1 E fr σ (.q (.aa9 n x))=True:=nr rfl
theorem gz7 {x:IX}:bk1 E fr σ (.q (.au1 x))=True:=nr rfl
theorem hy9 {n:Nat}{x:IX}:bk1 E fr σ (.q (.len n x))=True:=nr rfl
theorem hz4 {n:Nat}{z:IV}{b:Bool}{x y:IX}:bk1 E fr σ (.q (.lkp n z b x y))=True:=nr rfl
theorem hz5 {z:List IV}{ps:List (Nat×Nat×IX)}:bk1 E fr σ (.q (.bld z ps))=True:=nr rfl
theorem hz6 {op:BinOp}{x y:IX}:bk1 E fr σ (.q (.bin op x y))=True:=nr rfl
theorem gj6 {n:Nat}{x y:IX}:bk1 E fr σ (.q (.ab5 n x y))=True:=nr rfl
theorem gz8 {k:IntKind}{x:IX}:bk1 E fr σ (.q (.conv k x))=True:=nr rfl
theorem hz7 {n:Nat}{x:IX}:bk1 E fr σ (.q (.ext n x))=True:=nr rfl
theorem gz9 {x y z:IX}:bk1 E fr σ (.q (.pick x y z))=True:=nr rfl
theorem hz8 {x:IX}:bk1 E fr σ (.q (.not x))=True:=nr rfl
theorem gj7 {f:Nat}{xs:List IX}:bk1 E fr σ (.aj4 f xs)=True:=nr rfl
theorem ha5 {e n:Nat}{z:List IV}{ps:List (Nat×Nat×IX)}:bk1 E fr σ (.av2 e n z ps)=True:=nr rfl
theorem hz9 {e n:Nat}{z:List IV}{ps:List (Nat×Nat×IX)}:bk1 E fr σ (.bsl e n z ps)=True:=nr rfl
theorem ia1 {e:Nat}{x y:IX}:bk1 E fr σ (.app e x y)=True:=nr rfl
theorem gj8 {n:Nat}{x y:IX}:bk1 E fr σ (.store n x y)=True:=nr rfl
theorem ha6 {n:Nat}{x y z:IX}:bk1 E fr σ (.de4 n x y z)=True:=nr rfl
theorem gj9 {z:List IV}:bk1 E fr σ (.alloc z)=True:=nr rfl
attribute [go_sem] gz6 b_t b_p b_o hy8 gj5 gz7 hy9 hz4 hz5 hz6 gj6 gz8 hz7 gz9 hz8 gj7 ha5 hz9 ia1 gj8 ha6 gj9
def Grow (σ:Store)(v:IV)(esz:Nat)(es:List (List IV)):Prop :=
 (v=.aa1∧es=[])∨∃ id,v=.slice id 0 es.length esz∧σ.obj id=some (.row es.flatten)∧id<σ.next
def an4 (v:IV)(σ:Store):Store:=match v with
 | .slice id _ _ _=>σ.kill id
 | _=>σ
theorem ah3 {esz:Nat}{es:List (List IV)}(h:∀ e∈es,e.length=esz):es.flatten.length=es.length*esz:=by
 induction es with
 | nil=>simp
 | cons e es ih=>simp[ih (fun x hx=>h x (List.mem_cons_of_mem _ hx)),h e (List.mem_cons_self ..),Nat.add_mul]; omega
theorem dd6 {esz:Nat}{es:List (List IV)}(h:∀ e∈es,e.length=esz)(i j:Nat)(hi:i<es.length)(hj:j<esz):es.flatten.getD (i*esz+j) .undef=(es.getD i []).getD j .undef:=by
 induction es generalizing i with
 | nil=>simp at hi
 | cons e es ih=>
  have he:=h e (List.mem_cons_self ..)
  cases i with
  | zero=>simp[List.getD_eq_getElem?_getD,List.getElem?_append,he,hj]
  | succ i=>
   have h1:¬ ((i+1)*esz+j<e.length):=by rw[he,Nat.add_mul]; omega
   have h2:(i+1)*esz+j-e.length=i*esz+j:=by rw[he,Nat.add_mul]; omega
   have:=ih (fun x hx=>h x (List.mem_cons_of_mem _ hx)) i (by simpa using hi);simp only[List.getD_eq_getElem?_getD,List.flatten_cons,List.getElem?_append,if_neg h1,h2,List.getElem?_cons_succ] at this ⊢;exact this
theorem aw9 {es:List (List IV)}(h:∀ e∈es,e.all IV.leaf=true):es.flatten.all IV.leaf=true:=by
 simp only[List.all_eq_true,List.mem_flatten];rintro c ⟨e,he,hc⟩;exact List.all_eq_true.1 (h e he) c hc
theorem ap2 {v:IV}{esz nid:Nat}{es:List (List IV)}{e:List IV}(hg:Grow σ v esz es)(h:∀ x∈es,x.length=esz∧x.all IV.leaf=true)(he:e.length=esz∧e.all IV.leaf=true)(hn:es.length<2147483648) :
  aw1 σ nid esz v (.aa4 [e])=some (.slice nid 0 (es.length+1) esz,(an4 v σ).put nid (.row (es++[e]).flatten)):=by
 have hsrc:av9 σ esz (.aa4 [e])=some (1,e):=by simp[av9,he.1]
 have hl:e.all IV.leaf=true:=he.2;rcases hg with ⟨rfl,rfl⟩|⟨id,rfl,ho,hid⟩
 ·unfold aw1;rw[hsrc];simp[hl,an4]
 ·unfold aw1;rw[hsrc];have h1:es.flatten.all IV.leaf=true:=aw9 fun x hx=>(h x hx).2
  have h2:es.flatten.length=es.length*esz:=ah3 fun x hx=>(h x hx).1
  simp[hl,ho,an4,h1,h2];omega
theorem Grow.new {v:IV}{esz nid:Nat}{es:List (List IV)}{e:List IV}(hlt:nid<σ'.next)(ho:σ'.obj nid=some (.row (es++[e]).flatten)):Grow σ' (.slice nid 0 (es.length+1) esz) esz (es++[e]):=
 .inr ⟨nid,by simp,ho,hlt⟩
theorem ai9 (v:IV):(an4 v σ).next=σ.next:=by cases v<;>rfl
theorem ai5 {v:IV}{esz:Nat}{es:List (List IV)}(hg:Grow σ v esz es)(i:Nat)(o:ah2)(ho:σ.obj i=some o)(hr:∀ cs,o≠.row cs):(an4 v σ).obj i=some o:=by
 rcases hg with ⟨rfl,rfl⟩|⟨id,rfl,ho',hid⟩
 ·exact ho
 ·show (if i=id then none else σ.obj i)=some o;rw[if_neg]
  ·exact ho
  ·intro e; subst e; rw[ho] at ho'; cases ho'; exact hr _ rfl
theorem Grow.frz {S:Nat→Prop}{v:IV}{esz:Nat}{es:List (List IV)}(hg:Grow σ v esz es)(h:∀ x∈es,x.length=esz)(hS:∀ id,v=.slice id 0 es.length esz→¬ S id)(hb:∀ e∈es,∀ c∈e,Nm S c):Frz σ S v (.aa4 es):=by
 rcases hg with ⟨rfl,rfl⟩|⟨id,rfl,ho,hid⟩
 ·exact .gq6
 ·refine .slice id 0 es.length esz es.flatten es (hS id rfl) (.inr ho) rfl (by rw[ah3 h]; omega) (fun i hi=>h _ (ad1 _ hi)) (fun i hi j hj=>?_);rw[Nat.zero_add,dd6 h i j hi hj];exact .keep _ (hb _ (ad1 _ hi) _ (ad1 _ (by rw[h _ (ad1 _ hi)]; exact hj)))
theorem Grow.mono {v:IV}{esz:Nat}{es:List (List IV)}(hg:Grow σ v esz es)(hn:σ.next≤σ'.next)(h:∀ id,v=.slice id 0 es.length esz→id<σ.next→σ'.obj id=σ.obj id):Grow σ' v esz es:=by
 rcases hg with h0|⟨id,rfl,ho,hid⟩
 ·exact .inl h0
 ·exact .inr ⟨id,rfl,by rw[h id rfl hid]; exact ho,Nat.lt_of_lt_of_le hid hn⟩
theorem Grow.ne {v:IV}{esz id:Nat}{es:List (List IV)}{i:Nat}{o:ah2}(hg:Grow σ v esz es)(hv:v=.slice id 0 es.length esz)(ho:σ.obj i=some o)(hr:∀ cs,o≠.row cs):id≠i:=by
 intro e;subst e;rcases hg with ⟨rfl,_⟩|⟨id',rfl,ho',_⟩
 ·cases hv
 ·cases hv;rw[ho] at ho';cases ho';exact hr _ rfl
theorem bq2 {did esz nid:Nat}{es:List (List IV)}(ho:σ.obj did=some (.row []))(hne:es≠[])(h:∀ x∈es,x.length=esz∧x.all IV.leaf=true)(hn:es.length≤2147483648) :
  aw1 σ nid esz (.slice did 0 0 esz) (.aa4 es)=some (.slice nid 0 es.length esz,(σ.kill did).put nid (.row es.flatten)):=by
 have hsrc:av9 σ esz (.aa4 es)=some (es.length,es.flatten):=by
  simp only[av9];rw[if_pos (by simpa using fun x hx=>(h x hx).1)]
 have h1:es.flatten.all IV.leaf=true:=aw9 fun x hx=>(h x hx).2
 have h0:es.length≠0:=fun e=>hne (List.length_eq_zero_iff.1 e)
 unfold aw1;rw[hsrc];simp[h1,ho,h0,hn]
theorem ar5 {did esz nid:Nat}{x:IV}(ho:σ.obj did=some (.row []))(hx:av9 σ esz x=some (0,[])):aw1 σ nid esz (.slice did 0 0 esz) x=some (.slice did 0 0 esz,σ):=by
 unfold aw1;rw[hx];simp[ho]
theorem aj1 {esz:Nat}{es:List (List IV)}(h:∀ e∈es,e.length=esz)(j:Nat)(hj:j<es.length):(es.flatten.drop (j*esz)).take esz=es.getD j []:=by
 induction es generalizing j with
 | nil=>simp at hj
 | cons e es ih=>
  have he:=h e (List.mem_cons_self ..)
  cases j with
  | zero=>simp[he]
  | succ j=>
   have h2:(j+1)*esz=e.length+j*esz:=by rw[he,Nat.add_mul]; omega
   rw[List.flatten_cons,h2,List.drop_append,List.drop_of_length_le (by omega),List.nil_append,show e.length+j*esz-e.length=j*esz from by omega];exact ih (fun x hx=>h x (List.mem_cons_of_mem _ hx)) j (by simpa using hj)
theorem aj6 {l vs:List IV}{off:Nat}(h:(l.drop off).take vs.length=vs)(hl:off+vs.length≤l.length):ao8 l off vs=l:=by
 unfold ao8
 have h1:l.drop off=vs++l.drop (off+vs.length):=by
  rw[← List.drop_drop]
  conv=>lhs; rw[← List.take_append_drop vs.length (l.drop off)]
  rw[h]
 rw[List.append_assoc,← h1,List.take_append_drop]
theorem ca8 {f:Nat}{Q:IV→Store→Prop}(h1:C P E f [.aa1] σ Q)(h2:C P E f [.ad4] σ Q):C P E f [.aa4 []] σ Q:=by
 intro ρ w rargs hs hr;have hv:=gb3 hr;generalize hx:rargs.getD 0 undef=r at hv
 cases hv with
 | bp2=>exact h1 ρ w rargs hs (du2 hr (by rw[hx]; exact .aa1))
 | aa4 es b o cap esz sp vs hf hsz hc hv hle=>exact h2 ρ w rargs hs (du2 hr (by rw[hx]; exact .ad4 _ _))
inductive gk1 (σ:Store) (S:Nat→Prop):List IV→List IV→Prop
 | nil:gk1 σ S [] []
 | cons {v v':IV} {vs vs':List IV} (h:Frz σ S v v') (t:gk1 σ S vs vs'):gk1 σ S (v::vs) (v'::vs')
theorem gk1.at {S:Nat→Prop}{cs cs':List IV}(h:gk1 σ S cs cs'):cs'.length=cs.length∧∀ i,i<cs.length→Frz σ S (cs.getD i .undef) (cs'.getD i .undef):=by
 induction h with
 | nil=>exact ⟨rfl,fun i hi=>absurd hi (Nat.not_lt_zero _)⟩
 | cons h _ ih=>
  refine ⟨by simp only[List.length_cons,ih.1],fun i hi=>?_⟩
  cases i with
  | zero=>exact h
  | succ i=>exact ih.2 i (by simpa using hi)
theorem Frz.gk2 {S:Nat→Prop}{cs cs':List IV}(h:gk1 σ S cs cs'):Frz σ S (.agg cs) (.agg cs'):=.agg _ _ h.at.1 h.at.2
theorem Frz.bm2 {S:Nat→Prop}{cs cs':List IV}(h:gk1 σ S cs cs'):Frz σ S (.tuple cs) (.tuple cs'):=.tuple _ _ h.at.1 h.at.2
theorem il8:((0:Nat):Int)=0:=nr rfl
theorem il9:((1:Nat):Int)=1:=nr rfl
theorem im1:((2:Nat):Int)=2:=nr rfl
theorem im2:((3:Nat):Int)=3:=nr rfl
theorem im3:((4:Nat):Int)=4:=nr rfl
theorem im4:((5:Nat):Int)=5:=nr rfl
theorem im5:((6:Nat):Int)=6:=nr rfl
theorem im6:((7:Nat):Int)=7:=nr rfl
theorem im7:((8:Nat):Int)=8:=nr rfl
theorem im8:((9:Nat):Int)=9:=nr rfl
theorem ia2:((10:Nat):Int)=10:=nr rfl
theorem ia3:((11:Nat):Int)=11:=nr rfl
theorem ia4:((12:Nat):Int)=12:=nr rfl
theorem ia5:((13:Nat):Int)=13:=nr rfl
theorem ia6:((14:Nat):Int)=14:=nr rfl
theorem ia7:((15:Nat):Int)=15:=nr rfl
theorem ia8:((16:Nat):Int)=16:=nr rfl
attribute [go_sem] il8 il9 im1 im2 im3 im4 im5 im6 im7 im8 ia2 ia3 ia4 ia5 ia6 ia7 ia8 List.getD_cons_zero List.getD_cons_succ
theorem im9:IntKind.i64.wrap 0=0:=nr rfl
theorem in1:IntKind.i64.wrap 1=1:=nr rfl
theorem in2:IntKind.i64.wrap 2=2:=nr rfl
theorem in3:IntKind.i64.wrap 3=3:=nr rfl
theorem in4:IntKind.i64.wrap 4=4:=nr rfl
theorem in5:IntKind.i64.wrap 5=5:=nr rfl
theorem in6:IntKind.i64.wrap 6=6:=nr rfl
theorem in7:IntKind.i64.wrap 7=7:=nr rfl
theorem in8:IntKind.i64.wrap 8=8:=nr rfl
theorem in9:IntKind.i64.wrap 9=9:=nr rfl
theorem ia9:IntKind.i64.wrap 10=10:=nr rfl
theorem ib1:IntKind.i64.wrap 11=11:=nr rfl
theorem ib2:IntKind.i64.wrap 12=12:=nr rfl
theorem ib3:IntKind.i64.wrap 13=13:=nr rfl
theorem ib4:IntKind.i64.wrap 14=14:=nr rfl
theorem ib5:IntKind.i64.wrap 15=15:=nr rfl
theorem ib6:IntKind.i64.wrap 16=16:=nr rfl
attribute [go_sem] im9 in1 in2 in3 in4 in5 in6 in7 in8 in9 ia9 ib1 ib2 ib3 ib4 ib5 ib6
theorem ha7 {ag:Option Nat}{n m:Nat}:irL σ fr [.cell ag n,.t m]=(am9 σ ag (fr.get n)).map fun v=>[v,fr.get m]:=by
 simp only[irL,irV]; cases am9 σ ag (fr.get n)<;>rfl
attribute [go_sem] ha7 ae8
end Go.Id
/- Answers that are known,looked up; and what they are good for. Conditions: none; over any program. -/
namespace Go.Id
open Go
variable {P:Program} {E:Nat→IV}
def ce1 (r:IV→IV→Bool):List IV→List IV→Bool
 | [],[]=>true
 | a::x,b::y=>r a b&&ce1 r x y
 | _,_=>false
theorem au9 {r:IV→IV→Bool}(hr:∀ a b,r a b=true→a=b):∀ x y:List IV,ce1 r x y=true→x=y:=by
 intro x
 induction x with
 | nil=>intro y h; cases y with
  | nil=>rfl
  | cons b y=>cases h
 | cons a x ih=>intro y h; cases y with
  | nil=>cases h
  | cons b y=>
   simp only[ce1,Bool.and_eq_true] at h;rw[hr a b h.1,ih y h.2]
def dd7 (r:IV→IV→Bool):List (List IV)→List (List IV)→Bool
 | [],[]=>true
 | a::x,b::y=>ce1 r a b&&dd7 r x y
 | _,_=>false
theorem dd8 {r:IV→IV→Bool}(hr:∀ a b,r a b=true→a=b):∀ x y:List (List IV),dd7 r x y=true→x=y:=by
 intro x
 induction x with
 | nil=>intro y h; cases y with
  | nil=>rfl
  | cons b y=>cases h
 | cons a x ih=>intro y h; cases y with
  | nil=>cases h
  | cons b y=>
   simp only[dd7,Bool.and_eq_true] at h;rw[au9 hr a b h.1,ih y h.2]
def fp7:List UInt8→List UInt8→Bool
 | [],[]=>true
 | a::x,b::y=>Nat.beq a.toNat b.toNat&&fp7 x y
 | _,_=>false
theorem fp8:∀ x y:List UInt8,fp7 x y=true→x=y:=by
 intro x
 induction x with
 | nil=>intro y h; cases y with
  | nil=>rfl
  | cons b y=>cases h
 | cons a x ih=>intro y h; cases y with
  | nil=>cases h
  | cons b y=>
   simp only[fp7,Bool.and_eq_true] at h;rw[UInt8.toNat_inj.1 (Nat.eq_of_beq_eq_true h.1),ih y h.2]
def fp9:Nat→IV→IV→Bool
 | 0,_,_=>false
 | n+1,a,b=>match a with
  | .bool x=>match b with
   | .bool y=>match x,y with
    | true,true=>true
    | false,false=>true
    | _,_=>false
   | _=>false
  | .int k x=>match b with
   | .int k' y=>decide (k=k')&&decide (x=y)
   | _=>false
  | .str x=>match b with
   | .str y=>fp7 x y
   | _=>false
  | .ad3=>match b with
   | .ad3=>true
   | _=>false
  | .af4 x=>match b with
   | .af4 y=>ce1 (fp9 n) x y
   | _=>false
  | .aa4 x=>match b with
   | .aa4 y=>dd7 (fp9 n) x y
   | _=>false
  | .agg x=>match b with
   | .agg y=>ce1 (fp9 n) x y
   | _=>false
  | .tuple x=>match b with
   | .tuple y=>ce1 (fp9 n) x y
   | _=>false
  | .iface t x=>match b with
   | .iface t' y=>Nat.beq t t'&&fp9 n x y
   | _=>false
  | .ae1=>match b with
   | .ae1=>true
   | _=>false
  | .af9=>match b with
   | .af9=>true
   | _=>false
  | .ae6=>match b with
   | .ae6=>true
   | _=>false
  | .aa1=>match b with
   | .aa1=>true
   | _=>false
  | _=>false
theorem ez2:∀ (n:Nat) (a b:IV),fp9 n a b=true→a=b:=by
 intro n
 induction n with
 | zero=>intro a b h; cases h
 | succ n ih=>
  intro a b h;cases a<;>simp only[fp9] at h<;>(try cases h)<;>split at h<;>(try cases h)<;>(try rfl)
  ·split at h<;>(try cases h)<;>rfl
  ·simp only[Bool.and_eq_true,decide_eq_true_eq] at h; rw[h.1,h.2]
  ·rw[fp8 _ _ h]
  ·rw[au9 ih _ _ h]
  ·rw[dd8 ih _ _ h]
  ·simp only[Bool.and_eq_true] at h; rw[Nat.eq_of_beq_eq_true h.1,ih _ _ h.2]
  ·rw[au9 ih _ _ h]
  ·rw[au9 ih _ _ h]
abbrev du3:=List (Nat×List IV×IV)
def du3.get:du3→Nat→List IV→Option IV
 | [],_,_=>none
 | (k,aZ,v)::r,f,args=>match Nat.beq k f with
  | true=>match ce1 (fp9 1000) aZ args with
   | true=>some v
   | false=>du3.get r f args
  | false=>du3.get r f args
def MOK (P:Program)(E:Nat→IV)(M:du3):Prop:=∀ e∈M,okF P e.1=true∧PC P E e.1 e.2.1 e.2.2
theorem MOK.nil:MOK P E []:=fun _ h=>by cases h
theorem MOK.cons {M:du3}{k:Nat}{aZ:List IV}{v:IV}(hk:okF P k=true)(h:PC P E k aZ v)(hM:MOK P E M):MOK P E ((k,aZ,v)::M):=fun e he=>by
 rcases List.mem_cons.1 he with rfl|he
 ·exact ⟨hk,h⟩
 ·exact hM e he
theorem fq1 {f:Nat}{args:List IV}{v:IV}:∀ {M:du3},MOK P E M→M.get f args=some v→okF P f=true∧PC P E f args v:=by
 intro M
 induction M with
 | nil=>intro _ h; cases h
 | cons e r ih=>
  intro hM h;obtain ⟨k,aZ,v'⟩:=e;have hr:MOK P E r:=fun e he=>hM e (List.mem_cons_of_mem _ he)
  simp only[du3.get] at h;split at h
  ·rename_i hk;split at h
   ·rename_i ha;cases h;have h1:=hM _ (List.mem_cons_self ..);rw[← Nat.eq_of_beq_eq_true hk,← au9 (ez2 1000) _ _ ha];exact h1
   ·exact ih hr h
  ·exact ih hr h
def fq2 (txt:Nat)(M:du3):Nat→List IV→Option IV:=fun k args=>match Nat.beq k txt with
 | true=>match args with
  | [.int .u8 n]=>some (.str (dh3 n))
  | _=>none
 | false=>M.get k args
theorem tabM_ok {t:BT FE}{pure:Nat→Bool}{fz:Nat→Nat→List Nat}{txt g:Nat}{M:du3}(h:t.All (FOK P))(ht:FOK P txt (16,dv7 g,[.t 2]))(hg:E g=.af4 [.al5 opsL])(hM:MOK P E M):fc4 P E (tabOf t pure (fq2 txt M) fz):=
 tabOf_ok h fun f args v hp=>by
  unfold fq2 at hp;split at hp
  ·rename_i hk;rw[Nat.eq_of_beq_eq_true hk];obtain ⟨ho,pf,an,hf⟩:=ht;split at hp
   ·cases hp; exact ⟨ho,fe7 hf hg⟩
   ·cases hp
  ·exact fq1 hM hp
theorem fq3 {t:BT FE}{pure:Nat→Bool}{fz:Nat→Nat→List Nat}{txt g lf d k:Nat}{M:du3}{aZ:List IV}{v:IV}(h:t.All (FOK P))(ht:FOK P txt (16,dv7 g,[.t 2]))(hg:E g=.af4 [.al5 opsL])(hE:∀ g,Bnd 0 (E g))
  (hk:okF P k=true) (hM:MOK P E M) (hr:(cr3 (tabOf t pure (fq2 txt M) fz) E lf d 0 k aZ ⟨0,.e⟩).map (·.1)=some v):MOK P E ((k,aZ,v)::M):=
 .cons hk (hf5 (xs:=⟨0,.e⟩) (tabM_ok h ht hg hM) hE hr) hM
theorem gk3 {l:List (Nat×List IV)}(h:l.all (fun x=>x.2.all (af1 1000))=true):∀ g,Bnd 0 (el7 l g):=by
 intro g;unfold el7
 cases hg:l.lookup g with
 | none=>exact .undef
 | some cs=>
  have hm:∃ x∈l,x.2=cs:=by
   clear h
   induction l with
   | nil=>cases hg
   | cons x l ih=>
    obtain ⟨a,b⟩:=x;simp only[List.lookup] at hg;split at hg
    ·cases hg; exact ⟨_,List.mem_cons_self ..,rfl⟩
    ·obtain ⟨x,h1,h2⟩:=ih hg; exact ⟨x,List.mem_cons_of_mem _ h1,h2⟩
  obtain ⟨x,h1,rfl⟩:=hm;exact .af4 _ fun c hc=>aj5 1000 c (List.all_eq_true.1 (List.all_eq_true.1 h x h1) c hc)
end Go.Id
