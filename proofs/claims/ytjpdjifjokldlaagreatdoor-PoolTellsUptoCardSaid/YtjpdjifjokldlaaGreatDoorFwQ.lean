/- How an operator is written: what it gives,whatever the row in which the table is read. Conditions: the table is the given one. -/
import Derived.Test.YtjpdjifjokldlaaGreatDoorFwZ
import Derived.Test.YtjpdjifjokldlaaGreatDoorFwV
set_option linter.all false
namespace Go.Id
open Go
variable {P:Program} {E:Nat->IV}
def opsL:List (IV×IV):=[(.str [],.int .u8 0),(.str [60],.int .u8 1),(.str [60,61],.int .u8 3),(.str [61],.int .u8 2),(.str [62],.int .u8 4),(.str [62,61],.int .u8 6)]
def do8 (op:Int):List UInt8:=if op=1 then [60] else if op=2 then [61] else if op=3 then [60,61] else if op=4 then [62] else if op=6 then [62,61] else []
def eg2 (g:Nat):IC :=
(.seq
 (.reg 0 [⟨(some 2),none,(.q (.mov (.c (.str []))))⟩] [0])
 (.seq
 (.seq
  (.reg 1 [⟨(some 5),none,(.q (.load none (.g g)))⟩,⟨(some 6),none,(.at7 (.t 5))⟩] [0,6])
  (.block 0
  (.loop
   (.seq
   (.reg 2 [⟨(some 7),none,(.bm7 (.t 6))⟩,⟨(some 8),none,(.q (.ext 0 (.t 7)))⟩] [0,6,8])
   (.seq
    (.cond (.t 8)
    .skip
    (.exit 0))
    (.block 1
    (.seq
     (.reg 3 [⟨(some 9),none,(.dv4 (.t 6))⟩,⟨(some 10),none,(.q (.ext 0 (.t 9)))⟩,⟨(some 11),none,(.q (.ext 1 (.t 9)))⟩,⟨(some 3),none,(.q (.mov (.t 10)))⟩,⟨(some 4),none,(.q (.mov (.t 11)))⟩] [0,3,4,6])
     (.seq
     (.reg 4 [⟨(some 12),none,(.q (.mov (.t 4)))⟩,⟨(some 13),none,(.q (.mov (.t 0)))⟩,⟨(some 14),none,(.q (.bin .eql (.t 12) (.t 13)))⟩] [0,3,6,14])
     (.cond (.t 14)
      (.seq
      (.reg 5 [⟨(some 15),none,(.q (.mov (.t 3)))⟩,⟨(some 2),none,(.q (.mov (.t 15)))⟩] [2])
      .ret)
      .skip)))))))))
 (.seq
  (.reg 6 [⟨(some 2),none,(.q (.mov (.c (.str []))))⟩] [2])
  .ret)))
theorem do9 {α:Type}{d:α}{e:α}:∀ {l:List α} {j:Nat},e∈l->e∈l.eraseIdx j\/e=l.getD j d:=by
 intro l
 induction l with
 | nil=>intro j h; cases h
 | cons x l ih=>
  intro j h
  cases j with
  | zero=>
   rcases List.mem_cons.1 h with rfl|h
   ·exact .inr rfl
   ·exact .inl h
  | succ j=>
   rcases List.mem_cons.1 h with rfl|h
   ·exact .inl (List.mem_cons_self ..)
   ·rcases ih (j:=j) h with h|h
    ·exact .inl (List.mem_cons_of_mem _ h)
    ·exact .inr h
structure TxI (σ0:Store) (n:Int) (id:Nat) (m:Nat) (fr:Frm) (σ:Store):Prop where
 f0:fr.get 0=.int .u8 n
 f6:fr.get 6=.ptr id 0
 next:σ0.next<=σ.next
 low:∀ i,i<σ0.next->σ.obj i=σ0.obj i
 lt:σ0.next<=id
 obj:∃ left cur,σ.obj id=some (.aj5 left cur)/\left.length=m/\(∀ e∈left,e∈opsL)/\∀ e∈opsL,e.2=.int .u8 n->e∈left
theorem gj9 {n:Int}{e:IV×IV}(h:e∈opsL)(hn:e.2=.int .u8 n):e.1=.str (do8 n):=by
 simp only[opsL,List.mem_cons,List.not_mem_nil,or_false] at h;rcases h with rfl|rfl|rfl|rfl|rfl|rfl<;>cases hn<;>rfl
theorem fr6 {n:Int}(h:∀ e∈opsL,e.2≠.int .u8 n):do8 n=[]:=by
 have h1:=h (.str [60],.int .u8 1) (by simp[opsL]);have h2:=h (.str [61],.int .u8 2) (by simp[opsL]);have h3:=h (.str [60,61],.int .u8 3) (by simp[opsL]);have h4:=h (.str [62],.int .u8 4) (by simp[opsL]);have h6:=h (.str [62,61],.int .u8 6) (by simp[opsL]);simp only[ne_eq,IV.int.injEq,true_and] at h1 h2 h3 h4 h6;simp[do8,Ne.symm h1,Ne.symm h2,Ne.symm h3,Ne.symm h4,Ne.symm h6]
theorem fr7 {f g:Nat}{pf:List Nat}{an:Ann}{n:Int}(hf:fo4 P f 16 pf an (eg2 g) [.t 2])(hg:E g=.ad4 [.am4 opsL]):PC P E f [.int .u8 n] (.str (do8 n)):=by
 refine iv5 noT hf (Nat.le_of_ble_eq_true rfl) fun σ hb=>?_
 simp only[eg2,cq3,cq4,bt4,bg5,cq5,bt5,cq6,bt6,eo4,hs9,eo1,eo2,cq7,bt7,cq8,bt8,bt9,bg6,cq9,w_q,bu1,eo5,eo6,bu2,eo7,bu4,bg7,bu3,cr1,cr2,cr3,bu5,bg8,eo8,cr4,eo9,cr5,bu6,bu7,cr6,ep1,ep2,ep3,ep4,ep5,ep6,ep7,ep8,ep9,eq1,cr7,eq2,cr8,eq3,cr9,bu8,cs3,cs7,eq4,ht6,ht7,eq5,eq6,eq7,eq8,eq9,er1,er2,er3,er4,er5,cs8,bu9,bg9,az6,bv1,bh2,cs4,cs5,cs6,bv2,ht4,ht5,az8,bh6,bw4,bw5,bw6,bw3,cu2,e_t,e_c,e_g,e_f,er6,cs9,er7,er8,er9,ak4,es3,ct1,bv3,es4,bv4,es5,bv5,bv6,es6,ct2,es7,ct3,es8,es9,et1,et2,ct4,ct5,dw4,gt1,dm4,dw3,bv7,bv8,ct6,ct7,bv9,bw1,ht8,bh3,ct8,ct9,cu1,bh4,bw2,az7,bh5,bh7,bw7,bh8,bh9,cu3,cu4,dw5,dw6,bw8,bw9,bx2,bx3,cu5,cu6,bx4,bi1,et3,et4,et5,et6,et7,et8,et9,eu1,eu2,eu3,eu4,eu5,eu6,cu7,cu8,cu9,cv2,cv3,cv4,cv5,cv6,cv7,cv8,az9,bb6,bx5,bx6,bx7,cv9,cw1,cw2,cw3,eu7,eu8,cw4,eu9,bx8,bx9,by1,ev3,bb7,gg9,cx2,by2,by3,bi2,bk6,bq5,ev1,cb9,bi3,ev2,cc1,bi4,bi5,by4,by5,by6,by7,bi6,by8,by9,bi7,ba1,av5,bi8,bz1,bi9,cw5,cw6,cw7,bz2,bj1,bz3,bz4,bj2,ba2,av6,bj3,bz5,bj4,cw8,cw9,cx1,List.getElem?_cons_zero,List.getElem?_cons_succ,List.all_cons,List.all_nil,List.drop_zero,List.drop_succ_cons,List.head?_cons,Bool.and_true,Bool.and_self,Frm.bb4,Frm.get_nil,ab4,aa5,decide_true,decide_false,List.append_nil,List.nil_append,List.cons_append,Bool.false_eq_true,Bool.xor_false,Bool.xor_true,Bool.not_true,Bool.not_false,Nat.reduceEqDiff,Nat.reduceAdd,Nat.reduceMul,Nat.reduceLT,Nat.add_zero,Nat.zero_add,Nat.succ_ne_zero,if_true,if_false,↓reduceIte,reduceCtorEq,true_and,and_true,hg];refine gs8 noT (TxI σ n σ.next) opsL.length ⟨rfl,rfl,?_,?_,Nat.le_refl _,opsL,none,?_,rfl,fun _ h=>h,fun _ h _=>h⟩ ?_
 ·show σ.next<=σ.next+1; omega
 ·intro i hi; simp only[aa5]; rw[if_neg (by omega)]
 ·simp only[aa5,if_true]
 ·rintro m fr s ⟨f0,f6,h1,h2,h3,left,cur,h4,h5,h6,h7⟩;have hm:at6 s (.ptr σ.next 0)=some (σ.next,left):=by simp only[at6,h4]
  simp only[cq3,cq4,bt4,bg5,cq5,bt5,cq6,bt6,eo4,hs9,eo1,eo2,cq7,bt7,cq8,bt8,bt9,bg6,cq9,w_q,bu1,eo5,eo6,bu2,eo7,bu4,bg7,bu3,cr1,cr2,cr3,bu5,bg8,eo8,cr4,eo9,cr5,bu6,bu7,cr6,ep1,ep2,ep3,ep4,ep5,ep6,ep7,ep8,ep9,eq1,cr7,eq2,cr8,eq3,cr9,bu8,cs3,cs7,eq4,ht6,ht7,eq5,eq6,eq7,eq8,eq9,er1,er2,er3,er4,er5,cs8,bu9,bg9,az6,bv1,bh2,cs4,cs5,cs6,bv2,ht4,ht5,az8,bh6,bw4,bw5,bw6,bw3,cu2,e_t,e_c,e_g,e_f,er6,cs9,er7,er8,er9,ak4,es3,ct1,bv3,es4,bv4,es5,bv5,bv6,es6,ct2,es7,ct3,es8,es9,et1,et2,ct4,ct5,dw4,gt1,dm4,dw3,bv7,bv8,ct6,ct7,bv9,bw1,ht8,bh3,ct8,ct9,cu1,bh4,bw2,az7,bh5,bh7,bw7,bh8,bh9,cu3,cu4,dw5,dw6,bw8,bw9,bx2,bx3,cu5,cu6,bx4,bi1,et3,et4,et5,et6,et7,et8,et9,eu1,eu2,eu3,eu4,eu5,eu6,cu7,cu8,cu9,cv2,cv3,cv4,cv5,cv6,cv7,cv8,az9,bb6,bx5,bx6,bx7,cv9,cw1,cw2,cw3,eu7,eu8,cw4,eu9,bx8,bx9,by1,ev3,bb7,gg9,cx2,by2,by3,bi2,bk6,bq5,ev1,cb9,bi3,ev2,cc1,bi4,bi5,by4,by5,by6,by7,bi6,by8,by9,bi7,ba1,av5,bi8,bz1,bi9,cw5,cw6,cw7,bz2,bj1,bz3,bz4,bj2,ba2,av6,bj3,bz5,bj4,cw8,cw9,cx1,List.getElem?_cons_zero,List.getElem?_cons_succ,List.all_cons,List.all_nil,List.drop_zero,List.drop_succ_cons,List.head?_cons,Bool.and_true,Bool.and_self,Frm.bb4,Frm.get_nil,ab4,aa5,decide_true,decide_false,List.append_nil,List.nil_append,List.cons_append,Bool.false_eq_true,Bool.xor_false,Bool.xor_true,Bool.not_true,Bool.not_false,Nat.reduceEqDiff,Nat.reduceAdd,Nat.reduceMul,Nat.reduceLT,Nat.add_zero,Nat.zero_add,Nat.succ_ne_zero,if_true,if_false,↓reduceIte,reduceCtorEq,true_and,and_true,f0,f6,hm];constructor
  ·intro h0;subst h0;have hno:∀ e∈opsL,e.2≠.int .u8 n:=fun e he hn=>by have:=h7 e he hn; cases this
   refine ⟨fun i hi=>h2 i hi,h1,?_⟩;rw[fr6 hno];exact .keep _ (.str _)
  ·intro j hj;have hmem:left.getD j (.undef,.undef)∈left:=ad3 _ hj;have hops:=h6 _ hmem;have hment:∀ c x,be1 ⟨x,(s.put σ.next (.aj5 (left.eraseIdx j) (some c))).obj⟩ (.ptr σ.next 0)=some (.tuple [c.1,c.2]):=fun c x=>by simp only[be1,aa5,if_true]
   generalize hc:left.getD j (.undef,.undef)=c at hmem hops ⊢
   obtain ⟨k,hk⟩:∃ k,c.2=.int .u8 k:=by
    simp only[opsL,List.mem_cons,List.not_mem_nil,or_false] at hops;rcases hops with rfl|rfl|rfl|rfl|rfl|rfl<;>exact ⟨_,rfl⟩
   simp only[hment,cq3,cq4,bt4,bg5,cq5,bt5,cq6,bt6,eo4,hs9,eo1,eo2,cq7,bt7,cq8,bt8,bt9,bg6,cq9,w_q,bu1,eo5,eo6,bu2,eo7,bu4,bg7,bu3,cr1,cr2,cr3,bu5,bg8,eo8,cr4,eo9,cr5,bu6,bu7,cr6,ep1,ep2,ep3,ep4,ep5,ep6,ep7,ep8,ep9,eq1,cr7,eq2,cr8,eq3,cr9,bu8,cs3,cs7,eq4,ht6,ht7,eq5,eq6,eq7,eq8,eq9,er1,er2,er3,er4,er5,cs8,bu9,bg9,az6,bv1,bh2,cs4,cs5,cs6,bv2,ht4,ht5,az8,bh6,bw4,bw5,bw6,bw3,cu2,e_t,e_c,e_g,e_f,er6,cs9,er7,er8,er9,ak4,es3,ct1,bv3,es4,bv4,es5,bv5,bv6,es6,ct2,es7,ct3,es8,es9,et1,et2,ct4,ct5,dw4,gt1,dm4,dw3,bv7,bv8,ct6,ct7,bv9,bw1,ht8,bh3,ct8,ct9,cu1,bh4,bw2,az7,bh5,bh7,bw7,bh8,bh9,cu3,cu4,dw5,dw6,bw8,bw9,bx2,bx3,cu5,cu6,bx4,bi1,et3,et4,et5,et6,et7,et8,et9,eu1,eu2,eu3,eu4,eu5,eu6,cu7,cu8,cu9,cv2,cv3,cv4,cv5,cv6,cv7,cv8,az9,bb6,bx5,bx6,bx7,cv9,cw1,cw2,cw3,eu7,eu8,cw4,eu9,bx8,bx9,by1,ev3,bb7,gg9,cx2,by2,by3,bi2,bk6,bq5,ev1,cb9,bi3,ev2,cc1,bi4,bi5,by4,by5,by6,by7,bi6,by8,by9,bi7,ba1,av5,bi8,bz1,bi9,cw5,cw6,cw7,bz2,bj1,bz3,bz4,bj2,ba2,av6,bj3,bz5,bj4,cw8,cw9,cx1,List.getElem?_cons_zero,List.getElem?_cons_succ,List.all_cons,List.all_nil,List.drop_zero,List.drop_succ_cons,List.head?_cons,Bool.and_true,Bool.and_self,Frm.bb4,Frm.get_nil,ab4,aa5,decide_true,decide_false,List.append_nil,List.nil_append,List.cons_append,Bool.false_eq_true,Bool.xor_false,Bool.xor_true,Bool.not_true,Bool.not_false,Nat.reduceEqDiff,Nat.reduceAdd,Nat.reduceMul,Nat.reduceLT,Nat.add_zero,Nat.zero_add,Nat.succ_ne_zero,if_true,if_false,↓reduceIte,reduceCtorEq,true_and,and_true,hk];by_cases hkn:k=n
   ·subst hkn;simp only[cq3,cq4,bt4,bg5,cq5,bt5,cq6,bt6,eo4,hs9,eo1,eo2,cq7,bt7,cq8,bt8,bt9,bg6,cq9,w_q,bu1,eo5,eo6,bu2,eo7,bu4,bg7,bu3,cr1,cr2,cr3,bu5,bg8,eo8,cr4,eo9,cr5,bu6,bu7,cr6,ep1,ep2,ep3,ep4,ep5,ep6,ep7,ep8,ep9,eq1,cr7,eq2,cr8,eq3,cr9,bu8,cs3,cs7,eq4,ht6,ht7,eq5,eq6,eq7,eq8,eq9,er1,er2,er3,er4,er5,cs8,bu9,bg9,az6,bv1,bh2,cs4,cs5,cs6,bv2,ht4,ht5,az8,bh6,bw4,bw5,bw6,bw3,cu2,e_t,e_c,e_g,e_f,er6,cs9,er7,er8,er9,ak4,es3,ct1,bv3,es4,bv4,es5,bv5,bv6,es6,ct2,es7,ct3,es8,es9,et1,et2,ct4,ct5,dw4,gt1,dm4,dw3,bv7,bv8,ct6,ct7,bv9,bw1,ht8,bh3,ct8,ct9,cu1,bh4,bw2,az7,bh5,bh7,bw7,bh8,bh9,cu3,cu4,dw5,dw6,bw8,bw9,bx2,bx3,cu5,cu6,bx4,bi1,et3,et4,et5,et6,et7,et8,et9,eu1,eu2,eu3,eu4,eu5,eu6,cu7,cu8,cu9,cv2,cv3,cv4,cv5,cv6,cv7,cv8,az9,bb6,bx5,bx6,bx7,cv9,cw1,cw2,cw3,eu7,eu8,cw4,eu9,bx8,bx9,by1,ev3,bb7,gg9,cx2,by2,by3,bi2,bk6,bq5,ev1,cb9,bi3,ev2,cc1,bi4,bi5,by4,by5,by6,by7,bi6,by8,by9,bi7,ba1,av5,bi8,bz1,bi9,cw5,cw6,cw7,bz2,bj1,bz3,bz4,bj2,ba2,av6,bj3,bz5,bj4,cw8,cw9,cx1,List.getElem?_cons_zero,List.getElem?_cons_succ,List.all_cons,List.all_nil,List.drop_zero,List.drop_succ_cons,List.head?_cons,Bool.and_true,Bool.and_self,Frm.bb4,Frm.get_nil,ab4,aa5,decide_true,decide_false,List.append_nil,List.nil_append,List.cons_append,Bool.false_eq_true,Bool.xor_false,Bool.xor_true,Bool.not_true,Bool.not_false,Nat.reduceEqDiff,Nat.reduceAdd,Nat.reduceMul,Nat.reduceLT,Nat.add_zero,Nat.zero_add,Nat.succ_ne_zero,if_true,if_false,↓reduceIte,reduceCtorEq,true_and,and_true];refine ⟨fun i hi=>by rw[if_neg (by omega)]; exact h2 i hi,h1,?_⟩;rw[gj9 hops hk];exact .keep _ (.str _)
   ·simp only[cq3,cq4,bt4,bg5,cq5,bt5,cq6,bt6,eo4,hs9,eo1,eo2,cq7,bt7,cq8,bt8,bt9,bg6,cq9,w_q,bu1,eo5,eo6,bu2,eo7,bu4,bg7,bu3,cr1,cr2,cr3,bu5,bg8,eo8,cr4,eo9,cr5,bu6,bu7,cr6,ep1,ep2,ep3,ep4,ep5,ep6,ep7,ep8,ep9,eq1,cr7,eq2,cr8,eq3,cr9,bu8,cs3,cs7,eq4,ht6,ht7,eq5,eq6,eq7,eq8,eq9,er1,er2,er3,er4,er5,cs8,bu9,bg9,az6,bv1,bh2,cs4,cs5,cs6,bv2,ht4,ht5,az8,bh6,bw4,bw5,bw6,bw3,cu2,e_t,e_c,e_g,e_f,er6,cs9,er7,er8,er9,ak4,es3,ct1,bv3,es4,bv4,es5,bv5,bv6,es6,ct2,es7,ct3,es8,es9,et1,et2,ct4,ct5,dw4,gt1,dm4,dw3,bv7,bv8,ct6,ct7,bv9,bw1,ht8,bh3,ct8,ct9,cu1,bh4,bw2,az7,bh5,bh7,bw7,bh8,bh9,cu3,cu4,dw5,dw6,bw8,bw9,bx2,bx3,cu5,cu6,bx4,bi1,et3,et4,et5,et6,et7,et8,et9,eu1,eu2,eu3,eu4,eu5,eu6,cu7,cu8,cu9,cv2,cv3,cv4,cv5,cv6,cv7,cv8,az9,bb6,bx5,bx6,bx7,cv9,cw1,cw2,cw3,eu7,eu8,cw4,eu9,bx8,bx9,by1,ev3,bb7,gg9,cx2,by2,by3,bi2,bk6,bq5,ev1,cb9,bi3,ev2,cc1,bi4,bi5,by4,by5,by6,by7,bi6,by8,by9,bi7,ba1,av5,bi8,bz1,bi9,cw5,cw6,cw7,bz2,bj1,bz3,bz4,bj2,ba2,av6,bj3,bz5,bj4,cw8,cw9,cx1,List.getElem?_cons_zero,List.getElem?_cons_succ,List.all_cons,List.all_nil,List.drop_zero,List.drop_succ_cons,List.head?_cons,Bool.and_true,Bool.and_self,Frm.bb4,Frm.get_nil,ab4,aa5,decide_true,decide_false,List.append_nil,List.nil_append,List.cons_append,Bool.false_eq_true,Bool.xor_false,Bool.xor_true,Bool.not_true,Bool.not_false,Nat.reduceEqDiff,Nat.reduceAdd,Nat.reduceMul,Nat.reduceLT,Nat.add_zero,Nat.zero_add,Nat.succ_ne_zero,if_true,if_false,↓reduceIte,reduceCtorEq,true_and,and_true,hkn];refine ⟨left.length-1,by omega,rfl,rfl,h1,fun i hi=>?_,Nat.le_refl _,left.eraseIdx j,some c,?_,?_,fun e he=>h6 e (List.mem_of_mem_eraseIdx he),fun e he hn=>?_⟩
    ·simp only[aa5]; rw[if_neg (by omega)]; exact h2 i hi
    ·simp only[aa5,if_true]
    ·rw[List.length_eraseIdx_of_lt hj]
    ·have h8:=h7 e he hn;rcases do9 (d:=(IV.undef,IV.undef)) (j:=j) h8 with h9|h9
     ·exact h9
     ·rw[h9] at hn; rw[hc,hk] at hn; cases hn; exact absurd rfl hkn
end Go.Id
set_option linter.all false
namespace Go.Id
open Go
variable {P:Program} {E:Nat->IV} {σ σ':Store} {N n0:Nat} {fr:Frm}
def upQ (I:Nat->Frm->Store->Prop)(i n:Nat)(Q:Exit->Frm->Store->Prop):Exit->Frm->Store->Prop
 | .normal,fr,σ=>i<n/\I (i+1) fr σ
 | e,fr,σ=>Q e fr σ
theorem jc5 {I:Nat->Frm->Store->Prop}{i n:Nat}{Q:Exit->Frm->Store->Prop}:upQ I i n Q .normal fr σ=(i<n/\I (i+1) fr σ):=nr rfl
theorem jc6 {I:Nat->Frm->Store->Prop}{i n k:Nat}{Q:Exit->Frm->Store->Prop}:upQ I i n Q (.exit k) fr σ=Q (.exit k) fr σ:=nr rfl
theorem jc7 {I:Nat->Frm->Store->Prop}{i n:Nat}{Q:Exit->Frm->Store->Prop}:upQ I i n Q .ret fr σ=Q .ret fr σ:=nr rfl
theorem ac2 {pt:PT}{ct:CT}(hT:TOK P E pt ct){x:IC}{Q:Exit->Frm->Store->Prop}(I:Nat->Frm->Store->Prop)(n:Nat)(h:I 0 fr σ)
  (hI:∀ i fr σ,i<=n->I i fr σ->wpT pt ct P E N n0 x fr σ (upQ I i n Q)):RI P E N n0 (.loop x) fr σ Q:=by
 refine fh7 (fun m fr σ=>∃ i,i<=n/\m=n-i/\I i fr σ) n ⟨0,Nat.zero_le _,rfl,h⟩ ?_;rintro m fr σ ⟨i,hi,rfl,hi0⟩;refine bb5 x fr σ _ _ ?_ (as6 hT x fr σ _ (hI i fr σ hi hi0));intro e f s q
 cases e with
 | normal=>exact ⟨n-(i+1),by have:=q.1; omega,i+1,q.1,rfl,q.2⟩
 | _=>exact q
theorem ad2 {α:Type}(es:List α)(i:Nat)(h:i<es.length):∃ a,a∈es/\es[i]? = some a/\es.drop i=a::es.drop (i+1)/\(∀ (f:α->List IV),(es.map f).getD i []=f a)/\es.take (i+1)=es.take i++[a]:=
 ⟨es[i],List.getElem_mem h,List.getElem?_eq_getElem h,List.drop_eq_getElem_cons h,fun f=>by simp[List.getD_eq_getElem?_getD,h],by rw[List.take_add_one,List.getElem?_eq_getElem h]; rfl⟩
theorem fk5 (s:List UInt8)(i:Nat)(h:i<s.length):((⟨s.toArray⟩:ByteArray).get! i)=s[i]:=by
 show (s.toArray)[i]! = s[i];simp[h]
theorem en1 (s:List UInt8)(i:Nat)(h:i<s.length)(hb:s[i].toNat<128):Utf8.decode ⟨s.toArray⟩ i=(s[i].toNat,1):=by
 unfold Utf8.decode;simp only[Nat.add_zero,fk5 s i h];rw[if_pos hb]
theorem decode_high (s:List UInt8)(i:Nat)(h:i<s.length)(hb:¬ s[i].toNat<128):128<=(Utf8.decode ⟨s.toArray⟩ i).1:=by
 unfold Utf8.decode;simp only[Nat.add_zero,fk5 s i h];rw[if_neg hb];have e:Utf8.runeError=65533:=rfl
 repeat' split
 all_goals first|(rw[e]; omega)|(simp only[ge_iff_le,Bool.and_eq_true,decide_eq_true_eq] at *; omega)
def en2 (P:Program)(E:Nat->IV)(id:Nat)(I:List (List IV)->Store->Prop)(S:Store->Prop):Prop :=
 ∀ a rest σ,I (a::rest) σ->CV P E (.yield id) a σ fun v s=>σ.next<=s.next/\((v=.bool true/\I rest s)\/(v=.bool false/\S s))
end Go.Id
/- The walk's rewriting rules,marked. Conditions: none; over any program. -/
namespace Go.Id
open Go
attribute [go_sem] cq3 cq4 bt4 bg5 cq5 bt5 cq6 bt6 eo4 hs9 eo1 eo2 cq7 bt7 cq8 bt8 bt9 bg6 cq9 w_q bu1
 eo5 eo6 bu2 eo7 bu4 bg7 bu3 cr1 cr2 cr3 bu5 bg8 eo8 cr4 eo9 cr5 bu6 bu7 cr6 ep1
 ep2 ep3 ep4 ep5 ep6 ep7 ep8 ep9 eq1 cr7 eq2 cr8 eq3 cr9 bu8 cs3 cs7 eq4 ht6 ht7 eq5 eq6 eq7 eq8
 eq9 er1 er2 er3 er4 er5 cs8 bu9 bg9 az6 bv1 bh2 cs4 cs5 cs6 bv2 ht4 ht5 az8 bh6
 bw4 bw5 bw6 bw3 cu2 e_t e_c e_g e_f er6 cs9 er7 er8 er9 ak4 es3 ct1 bv3 es4 bv4 es5 bv5
 bv6 es6 ct2 es7 ct3 es8 es9 et1 et2 ct4 ct5 dw4 gt1 dm4 dw3 bv7 bv8 ct6 ct7 bv9 bw1 ht8
 bh3 ct8 ct9 cu1 bh4 bw2 az7 bh5 bh7 bw7 bh8 bh9 cu3 cu4 dw5 dw6 bw8 bw9
 bx2 bx3 cu5 cu6 bx4 bi1 et3 et4 et5 et6 et7 et8 et9 eu1 eu2 eu3 eu4 eu5 eu6 cu7 cu8 cu9
 cv2 cv3 cv4 cv5 cv6 cv7 cv8 ih9 ii1 ii2 ii3 az9 bb6 bx5 bx6 bx7 cv9 cw1 cw2 cw3 eu7 eu8 cw4 eu9
 bx8 bx9 by1 ev3 bb7 gg9 cx2 by2 by3 bi2 bk6 bq5 ev1 cb9 bi3 ev2 cc1 bi4 bi5 by4
 by5 by6 by7 bi6 by8 by9 bi7 ba1 av5 bi8 bz1 bi9 cw5 cw6 cw7 bz2 bj1
 bz3 bz4 bj2 ba2 av6 bj3 bz5 bj4 cw8 cw9 cx1 Frm.bb4 Frm.get_nil ab4 aa5 jc5 jc6
 jc7 dw4 gt1 dm4 dw3 iv3 ih8 
attribute [go_sem] List.getElem?_cons_zero List.getElem?_cons_succ List.all_cons List.all_nil List.drop_zero List.drop_succ_cons List.head?_cons Bool.and_true Bool.and_self List.append_nil List.nil_append List.cons_append Bool.false_eq_true Bool.xor_false Bool.xor_true Bool.not_true Bool.not_false Nat.add_zero Nat.zero_add Nat.succ_ne_zero if_true if_false true_and and_true
end Go.Id
namespace Go.Id
open Go
variable {P:Program} {E:Nat->IV} {σ σ':Store} {N n0:Nat} {fr:Frm} {pf:List Nat}
theorem aw2 {f:Nat}{ic:IC}{irs:List IR}{args:List IV}{v:IV}(hf:FOK P f (N,ic,irs))(hl:args.length<=N)
  (h:∀ σ,wpT noP noC P E N σ.next ic (ax2 args 0) σ (fo5 irs fun v' σ'=>v'=v/\σ'=σ)):PC P E f args v:=by
 obtain ⟨_,pf,an,h1⟩:=hf;exact jf6 noT h1 hl h
theorem C_f {f:Nat}{ic:IC}{irs:List IR}{args:List IV}{Qc:IV->Store->Prop}(hf:FOK P f (N,ic,irs))(hl:args.length<=N)
  (h:wpT noP noC P E N σ.next ic (ax2 args 0) σ (fo5 irs Qc)):C P E f args σ Qc:=by
 obtain ⟨_,pf,an,h1⟩:=hf;exact C_T noT h1 hl h
def emp:Store:=⟨0,fun _=>none⟩
theorem gd2:emp.next=0:=nr rfl
theorem gy3 {i:Nat}:emp.obj i=none:=nr rfl
attribute [go_sem] gd2 gy3
theorem aj6 {f:Nat}{ic:IC}{irs:List IR}{args:List IV}{v:IV}(hE:∀ g,Bnd 0 (E g))(hf:FOK P f (N,ic,irs))(hl:args.length<=N)(ha:∀ a∈args,Bnd 0 a)
  (h:wpT noP noC P E N 0 ic (ax2 args 0) emp (fo5 irs fun v' σ'=>dh8 σ' 0 v' v)):PC P E f args v :=
 dc9 hE ha (C_f (σ:=emp) hf hl h)
theorem aa4 {f:Nat}{e:FE}{args:List IV}{v:IV}{K:IV->Store->Prop}(hf:FOK P f e)(h:PC P E f args v)(hk:K v σ):ci4 P E none f args σ K :=
 au5 hf.1 (gt3 h) fun _ _ ⟨h1,h2⟩=>by subst h1; subst h2; exact ⟨Nat.le_refl _,hk⟩
theorem am1 {f:Nat}{e:FE}{args:List IV}{Qc:IV->Store->Prop}{K:IV->Store->Prop}(hf:FOK P f e)(h:C P E f args σ Qc)(hk:∀ v s,Qc v s->σ.next<=s.next/\K v s):ci4 P E none f args σ K :=
 au5 hf.1 h hk
theorem ab1 {S:Nat->Prop}(b:Bool):Frz σ S (.bool b) (.bool b):=.keep _ (.bool _)
theorem ac4 {S:Nat->Prop}(k:IntKind)(n:Int):Frz σ S (.int k n) (.int k n):=.keep _ (.int _ _)
theorem ar1 {S:Nat->Prop}(s:List UInt8):Frz σ S (.str s) (.str s):=.keep _ (.str _)
theorem gq4 {ρ:Rho}{w:World}{v:IV}{rargs:Array Value}(h:CR ρ w [v] rargs):VR ρ w v (rargs.getD 0 undef):=by
 have:=h.2 0 (Nat.zero_lt_one)
 simpa using this
theorem ec9 {ρ:Rho}{w:World}{u v:IV}{rargs:Array Value}(h:CR ρ w [u] rargs)(hv:VR ρ w v (rargs.getD 0 undef)):CR ρ w [v] rargs :=
 ⟨h.1,fun i hi=>by
  have:i=0:=by simp at hi; omega
  subst this
  simpa using hv⟩
theorem ch8 {f:Nat}{v:IV}(h1:PC P E f [.aa1] v)(h2:PC P E f [.ad6] v):PC P E f [.aa3 []] v:=by
 intro σ ρ w rargs hs hr;have hv:=gq4 hr;generalize hx:rargs.getD 0 undef=r at hv
 cases hv with
 | br9=>exact h1 σ ρ w rargs hs (ec9 hr (by rw[hx]; exact .aa1))
 | aa3 es b o cap esz sp vs hf hsz hc hv hle=>exact h2 σ ρ w rargs hs (ec9 hr (by rw[hx]; exact .ad6 _ _))
theorem af6 {i:Nat}(h:i<2^62):IntKind.i64.wrap ((i:Int)+1)=((i+1:Nat):Int):=by
 rw[wrap64 (by omega) (by omega)]; omega
theorem gy4 {cs:List IV}:an2 cs []=some cs:=by simp only[an2]
theorem gy5 {cs:List IV}{off n:Nat}{v:IV}{ps:List (Nat×Nat×IV)}:an2 cs ((off,n,v)::ps)=if v.cs.length=n/\off+n<=cs.length/\v.cs.all IV.leaf=true then an2 (ax1 cs off v.cs) ps else none:=by simp only[an2]
theorem hy9 {c:IV}{cs:List IV}{vs:List IV}:ax1 (c::cs) 0 vs=vs++(c::cs).drop vs.length:=by simp[ax1]
theorem hz4 {c:IV}{cs vs:List IV}{n:Nat}:ax1 (c::cs) (n+1) vs=c::ax1 cs n vs:=by simp[ax1,Nat.add_right_comm]
theorem hz5 {d:TypeId}{a:List IV}{aZ:List (List IV)}:bs3 (.slice d) (.aa3 (a::aZ))=some false:=nr rfl
theorem hz6 {d:TypeId}:bs3 (.slice d) .aa1=some true:=nr rfl
theorem hz7 {d:TypeId}:bs3 (.slice d) .ad6=some false:=nr rfl
theorem hz8 {d:TypeId}:bs3 (.slice d) .ab9=some false:=nr rfl
theorem hz9 {d:TypeId}{i o l e:Nat}:bs3 (.slice d) (.slice i o l e)=some false:=nr rfl
theorem gq5 {d:TypeId}:bs3 (.pointer d) .ad5=some true:=nr rfl
theorem gy6 {d:TypeId}{cs:List IV}:bs3 (.pointer d) (.ad4 cs)=some false:=nr rfl
theorem gy7 {d:TypeId}{i o:Nat}:bs3 (.pointer d) (.ptr i o)=some false:=nr rfl
theorem gd3 {e:Nat}{l:List IV}:chunk e 0 l=[]:=nr rfl
theorem gd4 {e n:Nat}{l:List IV}:chunk e (n+1) l=l.take e::chunk e n (l.drop e):=nr rfl
theorem ia1 {z:List IV}:rep z 0=[]:=nr rfl
theorem ia2 {z:List IV}{n:Nat}:rep z (n+1)=z++rep z n:=nr rfl
theorem gy8 {off:Nat}{cs:List IV}:ay9 none off cs=cs[off]?:=nr rfl
theorem gy9 {off n:Nat}{cs:List IV}:ay9 (some n) off cs=if off+n<=cs.length then some (.agg ((cs.drop off).take n)) else none:=nr rfl
theorem ia3 {ag:Option Nat}{off:Nat}{cs:List IV}:gw4 ag off (.agg cs)=ay9 ag off cs:=nr rfl
theorem ia4 {ag:Option Nat}{n esz:Nat}{cs:List IV}{k:IntKind}{i:Int}:go9 ag n esz (.agg cs) (.int k i)=if 0<=i/\i<n then ay9 ag (i.toNat*esz) cs else none:=nr rfl
theorem gd5 {n esz:Nat}{v:IV}{k:IntKind}{i:Int}:cf6 n esz v (.int k i)=if 0<=i/\i<n then cb5 (i.toNat*esz) v else none:=nr rfl
theorem aw3 {s:List UInt8}{k:IntKind}{i:Int}:cz9 (.str s) (.int k i)=if 0<=i then (s[i.toNat]?).map fun b=>.int .u8 b.toNat else none:=nr rfl
theorem ia5 {tags:List Nat}{neg:Bool}{xs ys:List IV}:fy2 tags true neg (.agg xs) (.agg ys)=(allEq tags xs ys).map fun b=>.bool (b ^^ neg):=nr rfl
theorem ia6:allEq [] [] []=some true:=nr rfl
def iy3:Option Bool->Option Bool->Option Bool
 | some a,some b=>some (a&&b)
 | _,_=>none
theorem ia7 {a b:Bool}:iy3 (some a) (some b)=some (a&&b):=nr rfl
theorem ia8 {t:Nat}{ts:List Nat}{x y:IV}{xs ys:List IV}:allEq (t::ts) (x::xs) (y::ys)=iy3 (ah8 t x y) (allEq ts xs ys):=by
 simp only[allEq]; cases ah8 t x y<;>cases allEq ts xs ys<;>rfl
theorem ia9 {k:IntKind}{a b:Int}:ah8 1 (.int k a) (.int k b)=some (decide (a=b)):=by simp[ah8]
theorem ib1 {a b:List UInt8}:ah8 2 (.str a) (.str b)=some (decide (a=b)):=nr rfl
theorem fk6 {a b:List UInt8}:aj4 2 (.str a) (.str b)=some (decide (a=b)):=nr rfl
theorem ib2 {a b:Bool}:ah8 0 (.bool a) (.bool b)=some (a==b):=nr rfl
attribute [go_sem] ia5 ia6 ia8 ia7 ib2 ia9 ib1
attribute [go_sem] gy4 gy5 hy9 hz4 hz5 hz6 hz7 hz8 hz9 gq5 gy6 gy7 gd3 gd4 ia1 ia2 gy8 gy9 ia3 ia4 gd5 aw3
attribute [go_sem] Bool.true_or Bool.or_true Bool.false_or Bool.or_false Bool.true_and Bool.false_and Bool.and_false
attribute [go_sem] List.length_cons List.length_nil List.take_succ_cons List.take_zero List.length_map Int.toNat_natCast
end Go.Id
/- Ranging over functions that tell rows: tellers,and the loops over them. Conditions: none; over any program. -/
namespace Go.Id
open Go
variable {P:Program} {E:Nat->IV} {σ σ':Store} {N n0:Nat} {fr:Frm}
def gz1 (I:List (List IV)->Store->Prop):Prop:=∀ rest s s',I rest s->s.next<=s'.next->(∀ i,i<s.next->s'.obj i=s.obj i)->I rest s'
def gz2 (n:Nat)(I:List (List IV)->Store->Prop)(S:Store->Prop):IV->Store->Prop:=fun _ s=>n<=s.next/\(I [] s\/S s)
def ed1 (P:Program)(E:Nat->IV)(fv:IV)(evs:List (List IV))(own:Store->Prop):Prop :=
 ∀ (yid:Nat) (I:List (List IV)->Store->Prop) (S:Store->Prop) (σ:Store),(∀ rest s,I rest s->own s)->gz1 I->en2 P E yid I S->I evs σ->CVf P E fv [.yield yid] σ (gz2 σ.next I S)
def iq3 (P:Program)(E:Nat->IV)(N n0:Nat)(id:Nat)(L:LoopState->Option JX->ak2)(x:IC)(K:IV->Store->Prop):Exit->Frm->Store->Prop
 | .normal,f,s=>s.obj id=some (L .ready none)/\wpT noP noC P E N n0 x f (s.put id (L .busy none)) (cg8 id L K)
 | _,_,_=>False
theorem iq4 {id:Nat}{L:LoopState->Option JX->ak2}{x:IC}{K:IV->Store->Prop}:iq3 P E N n0 id L x K .normal fr σ=(σ.obj id=some (L .ready none)/\wpT noP noC P E N n0 x fr (σ.put id (L .busy none)) (cg8 id L K)):=nr rfl
theorem iq5 {id:Nat}{L:LoopState->Option JX->ak2}{K:IV->Store->Prop}:cg8 id L K .normal fr σ=(σ.obj id=some (L .busy none)/\K (.bool true) (σ.put id (L .ready none))):=nr rfl
theorem iq6 {id:Nat}{L:LoopState->Option JX->ak2}{K:IV->Store->Prop}:cg8 id L K .ret fr σ=(σ.obj id=some (L .busy none)/\K (.bool false) (σ.put id (L .done (some .ret)))):=nr rfl
theorem iq7 {id i:Nat}{L:LoopState->Option JX->ak2}{K:IV->Store->Prop}:cg8 id L K (.exit i) fr σ=(σ.obj id=some (L .busy none)/\K (.bool false) (σ.put id (L .done (some (.exit i))))):=nr rfl
theorem gz3:bt2 fr [] []=fr:=nr rfl
theorem gz4 {p:Nat}{ps:List Nat}{v:IV}{vs:List IV}:bt2 fr (p::ps) (v::vs)=bt2 (fr.set p v) ps vs:=nr rfl
theorem iq8 {p:Nat}{v:IV}:fr.set p v=(p,v)::fr:=nr rfl
def goQ (id n:Nat)(L:LoopState->Option JX->ak2)(J:List (List IV)->Store->Prop)(Q:Exit->Frm->Store->Prop)(fr:Frm)(rest:List (List IV)):IV->Store->Prop:=fun v s=>
 n<=s.next/\((v=.bool true/\s.obj id=some (L .ready none)/\J rest s)\/(v=.bool false/\∃ st pend,st≠.busy/\s.obj id=some (L st pend)/\gb9 Q fr (s.kill id) pend))
theorem dl4 {id n:Nat}{L:LoopState->Option JX->ak2}{J:List (List IV)->Store->Prop}{Q:Exit->Frm->Store->Prop}{rest:List (List IV)}(h1:n<=σ.next)(h2:σ.obj id=some (L .ready none))(h3:J rest σ):goQ id n L J Q fr rest (.bool true) σ:=⟨h1,.inl ⟨rfl,h2,h3⟩⟩
theorem ch9 {id n:Nat}{L:LoopState->Option JX->ak2}{J:List (List IV)->Store->Prop}{Q:Exit->Frm->Store->Prop}{rest:List (List IV)}(h1:n<=σ.next)(h2:σ.obj id=some (L .done (some .ret)))(h3:Q .ret fr (σ.kill id)):goQ id n L J Q fr rest (.bool false) σ:=⟨h1,.inr ⟨rfl,.done,some .ret,(fun h=>by cases h),h2,h3⟩⟩
theorem db6 {g:IX}{ps:List Nat}{y x:IC}{Q:Exit->Frm->Store->Prop}{evs:List (List IV)}{own:Store->Prop}(hT:ed1 P E (g.ev E fr) evs own)
  (J:List (List IV)->Store->Prop) (hown:∀ rest s,J rest s->own s) (hstab:gz1 J) (hlen:∀ a∈evs,a.length=ps.length)
  (hinit:∀ o,J evs ⟨σ.next+1,(σ.put σ.next o).obj⟩)
  (hbody:∀ (L:LoopState->Option JX->ak2) (pre:List (List IV)) (a:List IV) (rest:List (List IV)) (s:Store),evs=pre++a::rest->J (a::rest) s->s.obj σ.next=some (L .ready none)->σ.next<s.next ->
   wpT noP noC P E N s.next y (bt2 fr ps a) s (iq3 P E N s.next σ.next L x (goQ σ.next s.next L J Q fr rest)))
  (hend:∀ s o,J [] s->σ.next<s.next->s.obj σ.next=some o->Q .normal fr (s.kill σ.next)) :
  RI P E N n0 (.rfunc g ps y x) fr σ Q:=by
 refine db1 fun L hL=>?_
 let I:List (List IV)->Store->Prop:=fun rest s=>(∃ pre,evs=pre++rest)/\s.obj σ.next=some (L .ready none)/\σ.next<s.next/\J rest s
 let S:Store->Prop:=fun s=>∃ st pend,st≠.busy/\s.obj σ.next=some (L st pend)/\gb9 Q fr (s.kill σ.next) pend
 have hI:gz1 I:=by
  rintro rest s s' ⟨hp,h1,h2,h3⟩ hn hs;exact ⟨hp,by rw[hs _ h2]; exact h1,Nat.lt_of_lt_of_le h2 hn,hstab rest s s' h3 hn hs⟩
 have hst:en2 P E σ.next I S:=by
  rintro a rest s ⟨⟨pre,hp⟩,h1,h2,h3⟩;refine ⟨by rw[h1]; rfl,?_⟩;have hb:=hbody L pre a rest s hp h3 h1 h2;refine hL s a _ (hlen a (by rw[hp]; simp)) h1 ?_;refine (as3 y _ _ _ (bb5 y _ _ _ _ ?_ (as6 noT y _ _ _ hb)));intro e f s1 q
  cases e with
  | normal=>
   refine ⟨rfl,q.1,?_⟩;refine (as3 x _ _ _ (bb5 x _ _ _ _ ?_ (as6 noT x _ _ _ q.2)))
   have hK:∀ v s2,goQ σ.next s.next L J Q fr rest v s2->s.next<=s2.next/\((v=.bool true/\I rest s2)\/(v=.bool false/\S s2)):=by
    rintro v s2 ⟨hn,h|h⟩
    ·exact ⟨hn,.inl ⟨h.1,⟨pre++[a],by rw[hp]; simp⟩,h.2.1,Nat.lt_of_lt_of_le h2 hn,h.2.2⟩⟩
    ·exact ⟨hn,.inr ⟨h.1,h.2⟩⟩
   intro e f s2 q2
   cases e with
   | normal=>exact ⟨q2.1,hK _ _ q2.2⟩
   | ret=>exact ⟨q2.1,hK _ _ q2.2⟩
   | exit i=>exact ⟨q2.1,hK _ _ q2.2⟩
   | _=>exact q2
  | _=>exact q.elim
 have h:=hT σ.next I S ⟨σ.next+1,(σ.put σ.next (L .ready none)).obj⟩ (fun rest s h=>hown rest s h.2.2.2) hI hst ⟨⟨[],rfl⟩,by simp only[aa5,if_true],Nat.lt_succ_self _,hinit _⟩;refine h.mono ?_;rintro v s ⟨hn,h|h⟩
 ·exact ⟨Nat.le_of_lt hn,.ready,none,(fun h=>by cases h),h.2.1,hend s _ h.2.2.2 h.2.2.1 h.2.1⟩
 ·exact ⟨Nat.le_of_lt hn,h⟩
theorem cb7 {yid:Nat}{I:List (List IV)->Store->Prop}{S:Store->Prop}{a:List IV}{rest:List (List IV)}{K:IV->Store->Prop}(h:en2 P E yid I S)(hi:I (a::rest) σ)
  (h1:∀ s,σ.next<=s.next->I rest s->K (.bool true) s) (h2:∀ s,σ.next<=s.next->S s->K (.bool false) s):fo6 noC P E (.yield yid) a σ K:=by
 refine ⟨_,h a rest σ hi,?_⟩;rintro v s ⟨hn,⟨rfl,h⟩|⟨rfl,h⟩⟩
 ·exact ⟨hn,h1 s hn h⟩
 ·exact ⟨hn,h2 s hn h⟩
theorem fk7 {i:Nat}:(σ.kill i).next=σ.next:=nr rfl
theorem gd6 {i j:Nat}:(σ.kill i).obj j=if j=i then none else σ.obj j:=nr rfl
attribute [go_sem] fk7 gd6
attribute [go_sem] iq4 iq5 iq6 iq7 gz3 gz4 iq8
end Go.Id
/- Rows that grow,one by one; what is done with,aZ trees. Conditions: none; over any program. -/
namespace Go.Id
open Go
variable {P:Program} {E:Nat->IV} {σ σ':Store} {N n0:Nat} {fr:Frm}
def iq9 (σ:Store):IV->Prop
 | .ad4 _=>True
 | .ptr i _=>match σ.obj i with
  | some (.cells _)=>True
  | _=>False
 | _=>False
def iy4:Option ak2->Prop
 | some (.cells _)=>True
 | _=>False
theorem ib3 {ag:Option Nat}{x:IX}:bm8 E fr σ (.q (.load ag x))=iq9 σ (x.ev E fr):=nr rfl
theorem b_t {cs:List IV}:iq9 σ (.ad4 cs)=True:=nr rfl
theorem b_p {i o:Nat}:iq9 σ (.ptr i o)=iy4 (σ.obj i):=nr rfl
theorem b_o {cs:List IV}:iy4 (some (.cells cs))=True:=nr rfl
theorem ir1 {x:IX}:bm8 E fr σ (.q (.mov x))=True:=nr rfl
theorem gz5 {n:Nat}{x:IX}:bm8 E fr σ (.q (.aa7 n x))=True:=nr rfl
theorem ib4 {x:IX}:bm8 E fr σ (.q (.am7 x))=True:=nr rfl
theorem ir2 {n:Nat}{x:IX}:bm8 E fr σ (.q (.len n x))=True:=nr rfl
theorem ir3 {n:Nat}{z:IV}{b:Bool}{x y:IX}:bm8 E fr σ (.q (.lkp n z b x y))=True:=nr rfl
theorem ir4 {z:List IV}{ps:List (Nat×Nat×IX)}:bm8 E fr σ (.q (.bld z ps))=True:=nr rfl
theorem ir5 {op:BinOp}{x y:IX}:bm8 E fr σ (.q (.bin op x y))=True:=nr rfl
theorem gz6 {n:Nat}{x y:IX}:bm8 E fr σ (.q (.ab5 n x y))=True:=nr rfl
theorem ib5 {k:IntKind}{x:IX}:bm8 E fr σ (.q (.conv k x))=True:=nr rfl
theorem ir6 {n:Nat}{x:IX}:bm8 E fr σ (.q (.ext n x))=True:=nr rfl
theorem ib6 {x y z:IX}:bm8 E fr σ (.q (.pick x y z))=True:=nr rfl
theorem ir7 {x:IX}:bm8 E fr σ (.q (.not x))=True:=nr rfl
theorem gz7 {f:Nat}{xs:List IX}:bm8 E fr σ (.ae7 f xs)=True:=nr rfl
theorem ib7 {e n:Nat}{z:List IV}{ps:List (Nat×Nat×IX)}:bm8 E fr σ (.as5 e n z ps)=True:=nr rfl
theorem ir8 {e n:Nat}{z:List IV}{ps:List (Nat×Nat×IX)}:bm8 E fr σ (.bsl e n z ps)=True:=nr rfl
theorem ir9 {e:Nat}{x y:IX}:bm8 E fr σ (.app e x y)=True:=nr rfl
theorem gz8 {n:Nat}{x y:IX}:bm8 E fr σ (.store n x y)=True:=nr rfl
theorem ib8 {n:Nat}{x y z:IX}:bm8 E fr σ (.dv3 n x y z)=True:=nr rfl
theorem gz9 {z:List IV}:bm8 E fr σ (.alloc z)=True:=nr rfl
attribute [go_sem] ib3 b_t b_p b_o ir1 gz5 ib4 ir2 ir3 ir4 ir5 gz6 ib5 ir6 ib6 ir7 gz7 ib7 ir8 ir9 gz8 ib8 gz9
def Grow (σ:Store)(v:IV)(esz:Nat)(es:List (List IV)):Prop :=
 (v=.aa1/\es=[])\/∃ id,v=.slice id 0 es.length esz/\σ.obj id=some (.row es.flatten)/\id<σ.next
def ai3 (v:IV)(σ:Store):Store:=match v with
 | .slice id _ _ _=>σ.kill id
 | _=>σ
theorem ap6 {esz:Nat}{es:List (List IV)}(h:∀ e∈es,e.length=esz):es.flatten.length=es.length*esz:=by
 induction es with
 | nil=>simp
 | cons e es ih=>simp[ih (fun x hx=>h x (List.mem_cons_of_mem _ hx)),h e (List.mem_cons_self ..),Nat.add_mul]; omega
theorem fk8 {esz:Nat}{es:List (List IV)}(h:∀ e∈es,e.length=esz)(i j:Nat)(hi:i<es.length)(hj:j<esz):es.flatten.getD (i*esz+j) .undef=(es.getD i []).getD j .undef:=by
 induction es generalizing i with
 | nil=>simp at hi
 | cons e es ih=>
  have he:=h e (List.mem_cons_self ..)
  cases i with
  | zero=>simp[List.getD_eq_getElem?_getD,List.getElem?_append,he,hj]
  | succ i=>
   have h1:¬ ((i+1)*esz+j<e.length):=by rw[he,Nat.add_mul]; omega
   have h2:(i+1)*esz+j-e.length=i*esz+j:=by rw[he,Nat.add_mul]; omega
   have:=ih (fun x hx=>h x (List.mem_cons_of_mem _ hx)) i (by simpa using hi);simp only[List.getD_eq_getElem?_getD,List.flatten_cons,List.getElem?_append,if_neg h1,h2,List.getElem?_cons_succ] at this ⊢;exact this
theorem az3 {es:List (List IV)}(h:∀ e∈es,e.all IV.leaf=true):es.flatten.all IV.leaf=true:=by
 simp only[List.all_eq_true,List.mem_flatten];rintro c ⟨e,he,hc⟩;exact List.all_eq_true.1 (h e he) c hc
theorem al1 {v:IV}{esz nid:Nat}{es:List (List IV)}{e:List IV}(hg:Grow σ v esz es)(h:∀ x∈es,x.length=esz/\x.all IV.leaf=true)(he:e.length=esz/\e.all IV.leaf=true)(hn:es.length<2147483648) :
  aq2 σ nid esz v (.aa3 [e])=some (.slice nid 0 (es.length+1) esz,(ai3 v σ).put nid (.row (es++[e]).flatten)):=by
 have hsrc:av8 σ esz (.aa3 [e])=some (1,e):=by simp[av8,he.1]
 have hl:e.all IV.leaf=true:=he.2;rcases hg with ⟨rfl,rfl⟩|⟨id,rfl,ho,hid⟩
 ·unfold aq2;rw[hsrc];simp[hl,ai3]
 ·unfold aq2;rw[hsrc];have h1:es.flatten.all IV.leaf=true:=az3 fun x hx=>(h x hx).2
  have h2:es.flatten.length=es.length*esz:=ap6 fun x hx=>(h x hx).1
  simp[hl,ho,ai3,h1,h2];omega
theorem Grow.new {v:IV}{esz nid:Nat}{es:List (List IV)}{e:List IV}(hlt:nid<σ'.next)(ho:σ'.obj nid=some (.row (es++[e]).flatten)):Grow σ' (.slice nid 0 (es.length+1) esz) esz (es++[e]):=
 .inr ⟨nid,by simp,ho,hlt⟩
theorem ae1 (v:IV):(ai3 v σ).next=σ.next:=by cases v<;>rfl
theorem ah6 {v:IV}{esz:Nat}{es:List (List IV)}(hg:Grow σ v esz es)(i:Nat)(o:ak2)(ho:σ.obj i=some o)(hr:∀ cs,o≠.row cs):(ai3 v σ).obj i=some o:=by
 rcases hg with ⟨rfl,rfl⟩|⟨id,rfl,ho',hid⟩
 ·exact ho
 ·show (if i=id then none else σ.obj i)=some o;rw[if_neg]
  ·exact ho
  ·intro e; subst e; rw[ho] at ho'; cases ho'; exact hr _ rfl
theorem Grow.frz {S:Nat->Prop}{v:IV}{esz:Nat}{es:List (List IV)}(hg:Grow σ v esz es)(h:∀ x∈es,x.length=esz)(hS:∀ id,v=.slice id 0 es.length esz->¬ S id)(hb:∀ e∈es,∀ c∈e,Nm S c):Frz σ S v (.aa3 es):=by
 rcases hg with ⟨rfl,rfl⟩|⟨id,rfl,ho,hid⟩
 ·exact .dr9
 ·refine .slice id 0 es.length esz es.flatten es (hS id rfl) (.inr ho) rfl (by rw[ap6 h]; omega) (fun i hi=>h _ (ad3 _ hi)) (fun i hi j hj=>?_);rw[Nat.zero_add,fk8 h i j hi hj];exact .keep _ (hb _ (ad3 _ hi) _ (ad3 _ (by rw[h _ (ad3 _ hi)]; exact hj)))
theorem Grow.mono {v:IV}{esz:Nat}{es:List (List IV)}(hg:Grow σ v esz es)(hn:σ.next<=σ'.next)(h:∀ id,v=.slice id 0 es.length esz->id<σ.next->σ'.obj id=σ.obj id):Grow σ' v esz es:=by
 rcases hg with h0|⟨id,rfl,ho,hid⟩
 ·exact .inl h0
 ·exact .inr ⟨id,rfl,by rw[h id rfl hid]; exact ho,Nat.lt_of_lt_of_le hid hn⟩
theorem Grow.ne {v:IV}{esz id:Nat}{es:List (List IV)}{i:Nat}{o:ak2}(hg:Grow σ v esz es)(hv:v=.slice id 0 es.length esz)(ho:σ.obj i=some o)(hr:∀ cs,o≠.row cs):id≠i:=by
 intro e;subst e;rcases hg with ⟨rfl,_⟩|⟨id',rfl,ho',_⟩
 ·cases hv
 ·cases hv;rw[ho] at ho';cases ho';exact hr _ rfl
theorem db7 {did esz nid:Nat}{es:List (List IV)}(ho:σ.obj did=some (.row []))(hne:es≠[])(h:∀ x∈es,x.length=esz/\x.all IV.leaf=true)(hn:es.length<=2147483648) :
  aq2 σ nid esz (.slice did 0 0 esz) (.aa3 es)=some (.slice nid 0 es.length esz,(σ.kill did).put nid (.row es.flatten)):=by
 have hsrc:av8 σ esz (.aa3 es)=some (es.length,es.flatten):=by
  simp only[av8];rw[if_pos (by simpa using fun x hx=>(h x hx).1)]
 have h1:es.flatten.all IV.leaf=true:=az3 fun x hx=>(h x hx).2
 have h0:es.length≠0:=fun e=>hne (List.length_eq_zero_iff.1 e)
 unfold aq2;rw[hsrc];simp[h1,ho,h0,hn]
theorem ce2 {did esz nid:Nat}{x:IV}(ho:σ.obj did=some (.row []))(hx:av8 σ esz x=some (0,[])):aq2 σ nid esz (.slice did 0 0 esz) x=some (.slice did 0 0 esz,σ):=by
 unfold aq2;rw[hx];simp[ho]
theorem aw4 {esz:Nat}{es:List (List IV)}(h:∀ e∈es,e.length=esz)(j:Nat)(hj:j<es.length):(es.flatten.drop (j*esz)).take esz=es.getD j []:=by
 induction es generalizing j with
 | nil=>simp at hj
 | cons e es ih=>
  have he:=h e (List.mem_cons_self ..)
  cases j with
  | zero=>simp[he]
  | succ j=>
   have h2:(j+1)*esz=e.length+j*esz:=by rw[he,Nat.add_mul]; omega
   rw[List.flatten_cons,h2,List.drop_append,List.drop_of_length_le (by omega),List.nil_append,show e.length+j*esz-e.length=j*esz from by omega];exact ih (fun x hx=>h x (List.mem_cons_of_mem _ hx)) j (by simpa using hj)
theorem az4 {l vs:List IV}{off:Nat}(h:(l.drop off).take vs.length=vs)(hl:off+vs.length<=l.length):ax1 l off vs=l:=by
 unfold ax1
 have h1:l.drop off=vs++l.drop (off+vs.length):=by
  rw[<- List.drop_drop]
  conv=>lhs; rw[<- List.take_append_drop vs.length (l.drop off)]
  rw[h]
 rw[List.append_assoc,<- h1,List.take_append_drop]
theorem gd7 {f:Nat}{Q:IV->Store->Prop}(h1:C P E f [.aa1] σ Q)(h2:C P E f [.ad6] σ Q):C P E f [.aa3 []] σ Q:=by
 intro ρ w rargs hs hr;have hv:=gq4 hr;generalize hx:rargs.getD 0 undef=r at hv
 cases hv with
 | br9=>exact h1 ρ w rargs hs (ec9 hr (by rw[hx]; exact .aa1))
 | aa3 es b o cap esz sp vs hf hsz hc hv hle=>exact h2 ρ w rargs hs (ec9 hr (by rw[hx]; exact .ad6 _ _))
inductive ha5 (σ:Store) (S:Nat->Prop):List IV->List IV->Prop
 | nil:ha5 σ S [] []
 | cons {v v':IV} {vs vs':List IV} (h:Frz σ S v v') (t:ha5 σ S vs vs'):ha5 σ S (v::vs) (v'::vs')
theorem ha5.at {S:Nat->Prop}{cs cs':List IV}(h:ha5 σ S cs cs'):cs'.length=cs.length/\∀ i,i<cs.length->Frz σ S (cs.getD i .undef) (cs'.getD i .undef):=by
 induction h with
 | nil=>exact ⟨rfl,fun i hi=>absurd hi (Nat.not_lt_zero _)⟩
 | cons h _ ih=>
  refine ⟨by simp only[List.length_cons,ih.1],fun i hi=>?_⟩
  cases i with
  | zero=>exact h
  | succ i=>exact ih.2 i (by simpa using hi)
theorem Frz.in2 {S:Nat->Prop}{cs cs':List IV}(h:ha5 σ S cs cs'):Frz σ S (.agg cs) (.agg cs'):=.agg _ _ h.at.1 h.at.2
theorem Frz.ci1 {S:Nat->Prop}{cs cs':List IV}(h:ha5 σ S cs cs'):Frz σ S (.tuple cs) (.tuple cs'):=.tuple _ _ h.at.1 h.at.2
theorem jc8:((0:Nat):Int)=0:=nr rfl
theorem jc9:((1:Nat):Int)=1:=nr rfl
theorem jd1:((2:Nat):Int)=2:=nr rfl
theorem jd2:((3:Nat):Int)=3:=nr rfl
theorem jd3:((4:Nat):Int)=4:=nr rfl
theorem jd4:((5:Nat):Int)=5:=nr rfl
theorem jd5:((6:Nat):Int)=6:=nr rfl
theorem jd6:((7:Nat):Int)=7:=nr rfl
theorem jd7:((8:Nat):Int)=8:=nr rfl
theorem jd8:((9:Nat):Int)=9:=nr rfl
theorem is1:((10:Nat):Int)=10:=nr rfl
theorem is2:((11:Nat):Int)=11:=nr rfl
theorem is3:((12:Nat):Int)=12:=nr rfl
theorem is4:((13:Nat):Int)=13:=nr rfl
theorem is5:((14:Nat):Int)=14:=nr rfl
theorem is6:((15:Nat):Int)=15:=nr rfl
theorem is7:((16:Nat):Int)=16:=nr rfl
attribute [go_sem] jc8 jc9 jd1 jd2 jd3 jd4 jd5 jd6 jd7 jd8 is1 is2 is3 is4 is5 is6 is7 List.getD_cons_zero List.getD_cons_succ
theorem jd9:IntKind.i64.wrap 0=0:=nr rfl
theorem je1:IntKind.i64.wrap 1=1:=nr rfl
theorem je2:IntKind.i64.wrap 2=2:=nr rfl
theorem je3:IntKind.i64.wrap 3=3:=nr rfl
theorem je4:IntKind.i64.wrap 4=4:=nr rfl
theorem je5:IntKind.i64.wrap 5=5:=nr rfl
theorem je6:IntKind.i64.wrap 6=6:=nr rfl
theorem je7:IntKind.i64.wrap 7=7:=nr rfl
theorem je8:IntKind.i64.wrap 8=8:=nr rfl
theorem je9:IntKind.i64.wrap 9=9:=nr rfl
theorem is8:IntKind.i64.wrap 10=10:=nr rfl
theorem is9:IntKind.i64.wrap 11=11:=nr rfl
theorem it1:IntKind.i64.wrap 12=12:=nr rfl
theorem it2:IntKind.i64.wrap 13=13:=nr rfl
theorem it3:IntKind.i64.wrap 14=14:=nr rfl
theorem it4:IntKind.i64.wrap 15=15:=nr rfl
theorem it5:IntKind.i64.wrap 16=16:=nr rfl
attribute [go_sem] jd9 je1 je2 je3 je4 je5 je6 je7 je8 je9 is8 is9 it1 it2 it3 it4 it5
theorem ib9 {ag:Option Nat}{n m:Nat}:irL σ fr [.cell ag n,.t m]=(ap4 σ ag (fr.get n)).map fun v=>[v,fr.get m]:=by
 simp only[irL,irV]; cases ap4 σ ag (fr.get n)<;>rfl
attribute [go_sem] ib9 ak4
end Go.Id
/- Answers that are known,looked up; and what they are good for. Conditions: none; over any program. -/
namespace Go.Id
open Go
variable {P:Program} {E:Nat->IV}
def ci2 (r:IV->IV->Bool):List IV->List IV->Bool
 | [],[]=>true
 | a::x,b::y=>r a b&&ci2 r x y
 | _,_=>false
theorem ax8 {r:IV->IV->Bool}(hr:∀ a b,r a b=true->a=b):∀ x y:List IV,ci2 r x y=true->x=y:=by
 intro x
 induction x with
 | nil=>intro y h; cases y with
  | nil=>rfl
  | cons b y=>cases h
 | cons a x ih=>intro y h; cases y with
  | nil=>cases h
  | cons b y=>
   simp only[ci2,Bool.and_eq_true] at h;rw[hr a b h.1,ih y h.2]
def dl5 (r:IV->IV->Bool):List (List IV)->List (List IV)->Bool
 | [],[]=>true
 | a::x,b::y=>ci2 r a b&&dl5 r x y
 | _,_=>false
theorem dl6 {r:IV->IV->Bool}(hr:∀ a b,r a b=true->a=b):∀ x y:List (List IV),dl5 r x y=true->x=y:=by
 intro x
 induction x with
 | nil=>intro y h; cases y with
  | nil=>rfl
  | cons b y=>cases h
 | cons a x ih=>intro y h; cases y with
  | nil=>cases h
  | cons b y=>
   simp only[dl5,Bool.and_eq_true] at h;rw[ax8 hr a b h.1,ih y h.2]
def gd8:List UInt8->List UInt8->Bool
 | [],[]=>true
 | a::x,b::y=>Nat.beq a.toNat b.toNat&&gd8 x y
 | _,_=>false
theorem gd9:∀ x y:List UInt8,gd8 x y=true->x=y:=by
 intro x
 induction x with
 | nil=>intro y h; cases y with
  | nil=>rfl
  | cons b y=>cases h
 | cons a x ih=>intro y h; cases y with
  | nil=>cases h
  | cons b y=>
   simp only[gd8,Bool.and_eq_true] at h;rw[UInt8.toNat_inj.1 (Nat.eq_of_beq_eq_true h.1),ih y h.2]
def ge1:Nat->IV->IV->Bool
 | 0,_,_=>false
 | n+1,a,b=>match a with
  | .bool x=>match b with
   | .bool y=>match x,y with
    | true,true=>true
    | false,false=>true
    | _,_=>false
   | _=>false
  | .int k x=>match b with
   | .int k' y=>decide (k=k')&&decide (x=y)
   | _=>false
  | .str x=>match b with
   | .str y=>gd8 x y
   | _=>false
  | .ad5=>match b with
   | .ad5=>true
   | _=>false
  | .ad4 x=>match b with
   | .ad4 y=>ci2 (ge1 n) x y
   | _=>false
  | .aa3 x=>match b with
   | .aa3 y=>dl5 (ge1 n) x y
   | _=>false
  | .agg x=>match b with
   | .agg y=>ci2 (ge1 n) x y
   | _=>false
  | .tuple x=>match b with
   | .tuple y=>ci2 (ge1 n) x y
   | _=>false
  | .iface t x=>match b with
   | .iface t' y=>Nat.beq t t'&&ge1 n x y
   | _=>false
  | .ae2=>match b with
   | .ae2=>true
   | _=>false
  | .ag2=>match b with
   | .ag2=>true
   | _=>false
  | .ae4=>match b with
   | .ae4=>true
   | _=>false
  | .aa1=>match b with
   | .aa1=>true
   | _=>false
  | _=>false
theorem fk9:∀ (n:Nat) (a b:IV),ge1 n a b=true->a=b:=by
 intro n
 induction n with
 | zero=>intro a b h; cases h
 | succ n ih=>
  intro a b h;cases a<;>simp only[ge1] at h<;>(try cases h)<;>split at h<;>(try cases h)<;>(try rfl)
  ·split at h<;>(try cases h)<;>rfl
  ·simp only[Bool.and_eq_true,decide_eq_true_eq] at h; rw[h.1,h.2]
  ·rw[gd9 _ _ h]
  ·rw[ax8 ih _ _ h]
  ·rw[dl6 ih _ _ h]
  ·simp only[Bool.and_eq_true] at h; rw[Nat.eq_of_beq_eq_true h.1,ih _ _ h.2]
  ·rw[ax8 ih _ _ h]
  ·rw[ax8 ih _ _ h]
abbrev ed2:=List (Nat×List IV×IV)
def ed2.get:ed2->Nat->List IV->Option IV
 | [],_,_=>none
 | (k,aZ,v)::r,f,args=>match Nat.beq k f with
  | true=>match ci2 (ge1 1000) aZ args with
   | true=>some v
   | false=>ed2.get r f args
  | false=>ed2.get r f args
def MOK (P:Program)(E:Nat->IV)(M:ed2):Prop:=∀ e∈M,okF P e.1=true/\PC P E e.1 e.2.1 e.2.2
theorem MOK.nil:MOK P E []:=fun _ h=>by cases h
theorem MOK.cons {M:ed2}{k:Nat}{aZ:List IV}{v:IV}(hk:okF P k=true)(h:PC P E k aZ v)(hM:MOK P E M):MOK P E ((k,aZ,v)::M):=fun e he=>by
 rcases List.mem_cons.1 he with rfl|he
 ·exact ⟨hk,h⟩
 ·exact hM e he
theorem ge2 {f:Nat}{args:List IV}{v:IV}:∀ {M:ed2},MOK P E M->M.get f args=some v->okF P f=true/\PC P E f args v:=by
 intro M
 induction M with
 | nil=>intro _ h; cases h
 | cons e r ih=>
  intro hM h;obtain ⟨k,aZ,v'⟩:=e;have hr:MOK P E r:=fun e he=>hM e (List.mem_cons_of_mem _ he)
  simp only[ed2.get] at h;split at h
  ·rename_i hk;split at h
   ·rename_i ha;cases h;have h1:=hM _ (List.mem_cons_self ..);rw[<- Nat.eq_of_beq_eq_true hk,<- ax8 (fk9 1000) _ _ ha];exact h1
   ·exact ih hr h
  ·exact ih hr h
def ge3 (txt:Nat)(M:ed2):Nat->List IV->Option IV:=fun k args=>match Nat.beq k txt with
 | true=>match args with
  | [.int .u8 n]=>some (.str (do8 n))
  | _=>none
 | false=>M.get k args
theorem tabM_ok {t:BT FE}{pure:Nat->Bool}{fz:Nat->Nat->List Nat}{txt g:Nat}{M:ed2}(h:t.All (FOK P))(ht:FOK P txt (16,eg2 g,[.t 2]))(hg:E g=.ad4 [.am4 opsL])(hM:MOK P E M):fp5 P E (tabOf t pure (ge3 txt M) fz):=
 tabOf_ok h fun f args v hp=>by
  unfold ge3 at hp;split at hp
  ·rename_i hk;rw[Nat.eq_of_beq_eq_true hk];obtain ⟨ho,pf,an,hf⟩:=ht;split at hp
   ·cases hp; exact ⟨ho,fr7 hf hg⟩
   ·cases hp
  ·exact ge2 hM hp
theorem ge4 {t:BT FE}{pure:Nat->Bool}{fz:Nat->Nat->List Nat}{txt g lf d k:Nat}{M:ed2}{aZ:List IV}{v:IV}(h:t.All (FOK P))(ht:FOK P txt (16,eg2 g,[.t 2]))(hg:E g=.ad4 [.am4 opsL])(hE:∀ g,Bnd 0 (E g))
  (hk:okF P k=true) (hM:MOK P E M) (hr:(cx6 (tabOf t pure (ge3 txt M) fz) E lf d 0 k aZ ⟨0,.e⟩).map (·.1)=some v):MOK P E ((k,aZ,v)::M):=
 .cons hk (ii8 (xs:=⟨0,.e⟩) (tabM_ok h ht hg hM) hE hr) hM
theorem ha6 {l:List (Nat×List IV)}(h:l.all (fun x=>x.2.all (af2 1000))=true):∀ g,Bnd 0 (ex5 l g):=by
 intro g;unfold ex5
 cases hg:l.lookup g with
 | none=>exact .undef
 | some cs=>
  have hm:∃ x∈l,x.2=cs:=by
   clear h
   induction l with
   | nil=>cases hg
   | cons x l ih=>
    obtain ⟨a,b⟩:=x;simp only[List.lookup] at hg;split at hg
    ·cases hg; exact ⟨_,List.mem_cons_self ..,rfl⟩
    ·obtain ⟨x,h1,h2⟩:=ih hg; exact ⟨x,List.mem_cons_of_mem _ h1,h2⟩
  obtain ⟨x,h1,rfl⟩:=hm;exact .ad4 _ fun c hc=>ak5 1000 c (List.all_eq_true.1 (List.all_eq_true.1 h x h1) c hc)
end Go.Id
