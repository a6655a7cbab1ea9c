/- How an operator is written: what it gives,whatever the row in which the table is read. Conditions: the table is the given one. -/
import Derived.Test.YteomphdgniepbaaGreatDoorFwZ
set_option linter.all false
namespace Go.Id
open Go
variable {P:Program} {E:Nat→IV}
def opsL:List (IV×IV):=[(.str [],.int .u8 0),(.str [60],.int .u8 1),(.str [60,61],.int .u8 3),(.str [61],.int .u8 2),(.str [62],.int .u8 4),(.str [62,61],.int .u8 6)]
def ec6 (op:Int):List UInt8:=if op=1 then [60] else if op=2 then [61] else if op=3 then [60,61] else if op=4 then [62] else if op=6 then [62,61] else []
def gs9 (g:Nat):IC :=
(.seq
 (.reg 0 [⟨(some 2),none,(.q (.mov (.c (.str []))))⟩] [0])
 (.seq
 (.seq
  (.reg 1 [⟨(some 5),none,(.q (.load none (.g g)))⟩,⟨(some 6),none,(.ba1 (.t 5))⟩] [0,6])
  (.block 0
  (.loop
   (.seq
   (.reg 2 [⟨(some 7),none,(.bz5 (.t 6))⟩,⟨(some 8),none,(.q (.ext 0 (.t 7)))⟩] [0,6,8])
   (.seq
    (.cond (.t 8)
    .skip
    (.exit 0))
    (.block 1
    (.seq
     (.reg 3 [⟨(some 9),none,(.es8 (.t 6))⟩,⟨(some 10),none,(.q (.ext 0 (.t 9)))⟩,⟨(some 11),none,(.q (.ext 1 (.t 9)))⟩,⟨(some 3),none,(.q (.mov (.t 10)))⟩,⟨(some 4),none,(.q (.mov (.t 11)))⟩] [0,3,4,6])
     (.seq
     (.reg 4 [⟨(some 12),none,(.q (.mov (.t 4)))⟩,⟨(some 13),none,(.q (.mov (.t 0)))⟩,⟨(some 14),none,(.q (.bin .eql (.t 12) (.t 13)))⟩] [0,3,6,14])
     (.cond (.t 14)
      (.seq
      (.reg 5 [⟨(some 15),none,(.q (.mov (.t 3)))⟩,⟨(some 2),none,(.q (.mov (.t 15)))⟩] [2])
      .ret)
      .skip)))))))))
 (.seq
  (.reg 6 [⟨(some 2),none,(.q (.mov (.c (.str []))))⟩] [2])
  .ret)))
theorem ds6 {α:Type}{d:α}{e:α}:∀ {l:List α} {j:Nat},e∈l→e∈l.eraseIdx j∨e=l.getD j d:=by
 intro l
 induction l with
 | nil=>intro j h; cases h
 | cons x l ih=>
  intro j h
  cases j with
  | zero=>
   rcases List.mem_cons.1 h with rfl|h
   ·exact .inr rfl
   ·exact .inl h
  | succ j=>
   rcases List.mem_cons.1 h with rfl|h
   ·exact .inl (List.mem_cons_self ..)
   ·rcases ih (j:=j) h with h|h
    ·exact .inl (List.mem_cons_of_mem _ h)
    ·exact .inr h
structure TxI (σ0:Store) (n:Int) (id:Nat) (m:Nat) (fr:Frm) (σ:Store):Prop where
 f0:fr.get 0=.int .u8 n
 f6:fr.get 6=.ptr id 0
 next:σ0.next≤σ.next
 low:∀ i,i<σ0.next→σ.obj i=σ0.obj i
 lt:σ0.next≤id
 obj:∃ left cur,σ.obj id=some (.ap8 left cur)∧left.length=m∧(∀ e∈left,e∈opsL)∧∀ e∈opsL,e.2=.int .u8 n→e∈left
theorem gi9 {n:Int}{e:IV×IV}(h:e∈opsL)(hn:e.2=.int .u8 n):e.1=.str (ec6 n):=by
 simp only[opsL,List.mem_cons,List.not_mem_nil,or_false] at h;rcases h with rfl|rfl|rfl|rfl|rfl|rfl<;>cases hn<;>rfl
theorem fq8 {n:Int}(h:∀ e∈opsL,e.2≠.int .u8 n):ec6 n=[]:=by
 have h1:=h (.str [60],.int .u8 1) (by simp[opsL]);have h2:=h (.str [61],.int .u8 2) (by simp[opsL]);have h3:=h (.str [60,61],.int .u8 3) (by simp[opsL]);have h4:=h (.str [62],.int .u8 4) (by simp[opsL]);have h6:=h (.str [62,61],.int .u8 6) (by simp[opsL]);simp only[ne_eq,IV.int.injEq,true_and] at h1 h2 h3 h4 h6;simp[ec6,Ne.symm h1,Ne.symm h2,Ne.symm h3,Ne.symm h4,Ne.symm h6]
theorem hd9 {f g:Nat}{pf:List Nat}{an:Ann}{n:Int}(hf:gr7 P f 16 pf an (gs9 g) [.t 2])(hg:E g=.ac2 [.ap7 opsL]):PC P E f [.int .u8 n] (.str (ec6 n)):=by
 refine ir9 noT hf (Nat.le_of_ble_eq_true rfl) fun σ hb=>?_
 simp only[gs9,cw4,cw5,cw6,bz6,cw7,hr9,et2,et3,cw8,bz7,cw9,bz8,bz9,bk9,cx1,w_q,ca1,et5,et6,ca2,et7,ca4,bl4,ca3,cx2,cx3,cx4,ca5,bl5,et8,cx5,et9,cx6,ca6,ca7,cx7,eu1,eu2,eu3,eu4,eu5,eu6,eu7,eu8,cx8,eu9,cx9,ev1,cy1,ca8,cy2,cy6,ev2,ht4,ht5,ev3,ev4,ev5,ev6,ev7,ev8,ev9,ew1,ew2,ew3,cy7,ca9,bl6,bc1,cb1,bl7,cy3,cy4,cy5,cb2,hs8,hs9,bc3,bm2,cc4,cc5,cc6,cc3,da1,e_t,e_c,e_g,e_f,ew4,cy8,ew5,ew6,ew7,ai2,ew8,cy9,cb3,ew9,cb4,ex1,cb5,cb6,ex2,cz1,ex3,cz2,ex4,ex5,ex6,ex8,cz3,cz4,ea6,gs4,dq5,ea5,cb7,cb8,cz5,cz6,cb9,cc1,ht6,bl8,cz7,cz8,cz9,bl9,cc2,bc2,bm1,bm3,cc7,bm4,bm5,da2,da3,ea7,ea8,cc8,cc9,cd1,cd2,da4,da5,cd3,bm6,ex9,ey1,ey2,ey3,ey4,ey5,ey6,ey8,ey9,ez1,dq6,ea9,da6,da7,da8,da9,db1,db2,db3,db4,bf2,bm7,cd4,cd5,cd6,db5,db6,db7,db8,ez2,ez3,db9,ez4,cd7,cd8,cd9,ez7,bh8,gs5,dc7,ce1,ce2,bm8,be2,bu8,ez5,cj1,bm9,ez6,cj3,bn1,bn2,ce3,ce4,ce5,ce6,bn3,ce7,ce8,bn4,bc4,ax6,bn5,ce9,bn6,dc1,dc2,dc3,cf1,bn7,cf2,cf3,bn8,bc5,ax7,bn9,cf4,bo1,dc4,dc5,dc6,List.getElem?_cons_zero,List.getElem?_cons_succ,List.all_cons,List.all_nil,List.drop_zero,List.drop_succ_cons,List.head?_cons,Bool.and_true,Bool.and_self,Frm.bk8,ab1,aa4,decide_true,decide_false,List.append_nil,List.nil_append,List.cons_append,Bool.false_eq_true,Bool.xor_false,Bool.xor_true,Bool.not_true,Bool.not_false,Nat.reduceEqDiff,Nat.reduceAdd,Nat.reduceMul,Nat.reduceLT,Nat.add_zero,Nat.zero_add,Nat.succ_ne_zero,if_true,if_false,↓reduceIte,reduceCtorEq,true_and,and_true,hg];refine gr9 noT (TxI σ n σ.next) opsL.length ⟨rfl,rfl,?_,?_,Nat.le_refl _,opsL,none,?_,rfl,fun _ h=>h,fun _ h _=>h⟩ ?_
 ·show σ.next≤σ.next+1; omega
 ·intro i hi; simp only[aa4]; rw[if_neg (by omega)]
 ·simp only[aa4,if_true]
 ·rintro m fr s ⟨f0,f6,h1,h2,h3,left,cur,h4,h5,h6,h7⟩;have hm:bg8 s (.ptr σ.next 0)=some (σ.next,left):=by simp only[bg8,h4]
  simp only[cw4,cw5,cw6,bz6,cw7,hr9,et2,et3,cw8,bz7,cw9,bz8,bz9,bk9,cx1,w_q,ca1,et5,et6,ca2,et7,ca4,bl4,ca3,cx2,cx3,cx4,ca5,bl5,et8,cx5,et9,cx6,ca6,ca7,cx7,eu1,eu2,eu3,eu4,eu5,eu6,eu7,eu8,cx8,eu9,cx9,ev1,cy1,ca8,cy2,cy6,ev2,ht4,ht5,ev3,ev4,ev5,ev6,ev7,ev8,ev9,ew1,ew2,ew3,cy7,ca9,bl6,bc1,cb1,bl7,cy3,cy4,cy5,cb2,hs8,hs9,bc3,bm2,cc4,cc5,cc6,cc3,da1,e_t,e_c,e_g,e_f,ew4,cy8,ew5,ew6,ew7,ai2,ew8,cy9,cb3,ew9,cb4,ex1,cb5,cb6,ex2,cz1,ex3,cz2,ex4,ex5,ex6,ex8,cz3,cz4,ea6,gs4,dq5,ea5,cb7,cb8,cz5,cz6,cb9,cc1,ht6,bl8,cz7,cz8,cz9,bl9,cc2,bc2,bm1,bm3,cc7,bm4,bm5,da2,da3,ea7,ea8,cc8,cc9,cd1,cd2,da4,da5,cd3,bm6,ex9,ey1,ey2,ey3,ey4,ey5,ey6,ey8,ey9,ez1,dq6,ea9,da6,da7,da8,da9,db1,db2,db3,db4,bf2,bm7,cd4,cd5,cd6,db5,db6,db7,db8,ez2,ez3,db9,ez4,cd7,cd8,cd9,ez7,bh8,gs5,dc7,ce1,ce2,bm8,be2,bu8,ez5,cj1,bm9,ez6,cj3,bn1,bn2,ce3,ce4,ce5,ce6,bn3,ce7,ce8,bn4,bc4,ax6,bn5,ce9,bn6,dc1,dc2,dc3,cf1,bn7,cf2,cf3,bn8,bc5,ax7,bn9,cf4,bo1,dc4,dc5,dc6,List.getElem?_cons_zero,List.getElem?_cons_succ,List.all_cons,List.all_nil,List.drop_zero,List.drop_succ_cons,List.head?_cons,Bool.and_true,Bool.and_self,Frm.bk8,ab1,aa4,decide_true,decide_false,List.append_nil,List.nil_append,List.cons_append,Bool.false_eq_true,Bool.xor_false,Bool.xor_true,Bool.not_true,Bool.not_false,Nat.reduceEqDiff,Nat.reduceAdd,Nat.reduceMul,Nat.reduceLT,Nat.add_zero,Nat.zero_add,Nat.succ_ne_zero,if_true,if_false,↓reduceIte,reduceCtorEq,true_and,and_true,f0,f6,hm];constructor
  ·intro h0;subst h0;have hno:∀ e∈opsL,e.2≠.int .u8 n:=fun e he hn=>by have:=h7 e he hn; cases this
   refine ⟨fun i hi=>h2 i hi,h1,?_⟩;rw[fq8 hno];exact .keep _ (.str _)
  ·intro j hj;have hmem:left.getD j (.undef,.undef)∈left:=ad5 _ hj;have hops:=h6 _ hmem;have hment:∀ c x,ci7 ⟨x,(s.put σ.next (.ap8 (left.eraseIdx j) (some c))).obj⟩ (.ptr σ.next 0)=some (.tuple [c.1,c.2]):=fun c x=>by simp only[ci7,aa4,if_true]
   generalize hc:left.getD j (.undef,.undef)=c at hmem hops ⊢
   obtain ⟨k,hk⟩:∃ k,c.2=.int .u8 k:=by
    simp only[opsL,List.mem_cons,List.not_mem_nil,or_false] at hops;rcases hops with rfl|rfl|rfl|rfl|rfl|rfl<;>exact ⟨_,rfl⟩
   simp only[hment,cw4,cw5,cw6,bz6,cw7,hr9,et2,et3,cw8,bz7,cw9,bz8,bz9,bk9,cx1,w_q,ca1,et5,et6,ca2,et7,ca4,bl4,ca3,cx2,cx3,cx4,ca5,bl5,et8,cx5,et9,cx6,ca6,ca7,cx7,eu1,eu2,eu3,eu4,eu5,eu6,eu7,eu8,cx8,eu9,cx9,ev1,cy1,ca8,cy2,cy6,ev2,ht4,ht5,ev3,ev4,ev5,ev6,ev7,ev8,ev9,ew1,ew2,ew3,cy7,ca9,bl6,bc1,cb1,bl7,cy3,cy4,cy5,cb2,hs8,hs9,bc3,bm2,cc4,cc5,cc6,cc3,da1,e_t,e_c,e_g,e_f,ew4,cy8,ew5,ew6,ew7,ai2,ew8,cy9,cb3,ew9,cb4,ex1,cb5,cb6,ex2,cz1,ex3,cz2,ex4,ex5,ex6,ex8,cz3,cz4,ea6,gs4,dq5,ea5,cb7,cb8,cz5,cz6,cb9,cc1,ht6,bl8,cz7,cz8,cz9,bl9,cc2,bc2,bm1,bm3,cc7,bm4,bm5,da2,da3,ea7,ea8,cc8,cc9,cd1,cd2,da4,da5,cd3,bm6,ex9,ey1,ey2,ey3,ey4,ey5,ey6,ey8,ey9,ez1,dq6,ea9,da6,da7,da8,da9,db1,db2,db3,db4,bf2,bm7,cd4,cd5,cd6,db5,db6,db7,db8,ez2,ez3,db9,ez4,cd7,cd8,cd9,ez7,bh8,gs5,dc7,ce1,ce2,bm8,be2,bu8,ez5,cj1,bm9,ez6,cj3,bn1,bn2,ce3,ce4,ce5,ce6,bn3,ce7,ce8,bn4,bc4,ax6,bn5,ce9,bn6,dc1,dc2,dc3,cf1,bn7,cf2,cf3,bn8,bc5,ax7,bn9,cf4,bo1,dc4,dc5,dc6,List.getElem?_cons_zero,List.getElem?_cons_succ,List.all_cons,List.all_nil,List.drop_zero,List.drop_succ_cons,List.head?_cons,Bool.and_true,Bool.and_self,Frm.bk8,ab1,aa4,decide_true,decide_false,List.append_nil,List.nil_append,List.cons_append,Bool.false_eq_true,Bool.xor_false,Bool.xor_true,Bool.not_true,Bool.not_false,Nat.reduceEqDiff,Nat.reduceAdd,Nat.reduceMul,Nat.reduceLT,Nat.add_zero,Nat.zero_add,Nat.succ_ne_zero,if_true,if_false,↓reduceIte,reduceCtorEq,true_and,and_true,hk];by_cases hkn:k=n
   ·subst hkn;simp only[cw4,cw5,cw6,bz6,cw7,hr9,et2,et3,cw8,bz7,cw9,bz8,bz9,bk9,cx1,w_q,ca1,et5,et6,ca2,et7,ca4,bl4,ca3,cx2,cx3,cx4,ca5,bl5,et8,cx5,et9,cx6,ca6,ca7,cx7,eu1,eu2,eu3,eu4,eu5,eu6,eu7,eu8,cx8,eu9,cx9,ev1,cy1,ca8,cy2,cy6,ev2,ht4,ht5,ev3,ev4,ev5,ev6,ev7,ev8,ev9,ew1,ew2,ew3,cy7,ca9,bl6,bc1,cb1,bl7,cy3,cy4,cy5,cb2,hs8,hs9,bc3,bm2,cc4,cc5,cc6,cc3,da1,e_t,e_c,e_g,e_f,ew4,cy8,ew5,ew6,ew7,ai2,ew8,cy9,cb3,ew9,cb4,ex1,cb5,cb6,ex2,cz1,ex3,cz2,ex4,ex5,ex6,ex8,cz3,cz4,ea6,gs4,dq5,ea5,cb7,cb8,cz5,cz6,cb9,cc1,ht6,bl8,cz7,cz8,cz9,bl9,cc2,bc2,bm1,bm3,cc7,bm4,bm5,da2,da3,ea7,ea8,cc8,cc9,cd1,cd2,da4,da5,cd3,bm6,ex9,ey1,ey2,ey3,ey4,ey5,ey6,ey8,ey9,ez1,dq6,ea9,da6,da7,da8,da9,db1,db2,db3,db4,bf2,bm7,cd4,cd5,cd6,db5,db6,db7,db8,ez2,ez3,db9,ez4,cd7,cd8,cd9,ez7,bh8,gs5,dc7,ce1,ce2,bm8,be2,bu8,ez5,cj1,bm9,ez6,cj3,bn1,bn2,ce3,ce4,ce5,ce6,bn3,ce7,ce8,bn4,bc4,ax6,bn5,ce9,bn6,dc1,dc2,dc3,cf1,bn7,cf2,cf3,bn8,bc5,ax7,bn9,cf4,bo1,dc4,dc5,dc6,List.getElem?_cons_zero,List.getElem?_cons_succ,List.all_cons,List.all_nil,List.drop_zero,List.drop_succ_cons,List.head?_cons,Bool.and_true,Bool.and_self,Frm.bk8,ab1,aa4,decide_true,decide_false,List.append_nil,List.nil_append,List.cons_append,Bool.false_eq_true,Bool.xor_false,Bool.xor_true,Bool.not_true,Bool.not_false,Nat.reduceEqDiff,Nat.reduceAdd,Nat.reduceMul,Nat.reduceLT,Nat.add_zero,Nat.zero_add,Nat.succ_ne_zero,if_true,if_false,↓reduceIte,reduceCtorEq,true_and,and_true];refine ⟨fun i hi=>by rw[if_neg (by omega)]; exact h2 i hi,h1,?_⟩;rw[gi9 hops hk];exact .keep _ (.str _)
   ·simp only[cw4,cw5,cw6,bz6,cw7,hr9,et2,et3,cw8,bz7,cw9,bz8,bz9,bk9,cx1,w_q,ca1,et5,et6,ca2,et7,ca4,bl4,ca3,cx2,cx3,cx4,ca5,bl5,et8,cx5,et9,cx6,ca6,ca7,cx7,eu1,eu2,eu3,eu4,eu5,eu6,eu7,eu8,cx8,eu9,cx9,ev1,cy1,ca8,cy2,cy6,ev2,ht4,ht5,ev3,ev4,ev5,ev6,ev7,ev8,ev9,ew1,ew2,ew3,cy7,ca9,bl6,bc1,cb1,bl7,cy3,cy4,cy5,cb2,hs8,hs9,bc3,bm2,cc4,cc5,cc6,cc3,da1,e_t,e_c,e_g,e_f,ew4,cy8,ew5,ew6,ew7,ai2,ew8,cy9,cb3,ew9,cb4,ex1,cb5,cb6,ex2,cz1,ex3,cz2,ex4,ex5,ex6,ex8,cz3,cz4,ea6,gs4,dq5,ea5,cb7,cb8,cz5,cz6,cb9,cc1,ht6,bl8,cz7,cz8,cz9,bl9,cc2,bc2,bm1,bm3,cc7,bm4,bm5,da2,da3,ea7,ea8,cc8,cc9,cd1,cd2,da4,da5,cd3,bm6,ex9,ey1,ey2,ey3,ey4,ey5,ey6,ey8,ey9,ez1,dq6,ea9,da6,da7,da8,da9,db1,db2,db3,db4,bf2,bm7,cd4,cd5,cd6,db5,db6,db7,db8,ez2,ez3,db9,ez4,cd7,cd8,cd9,ez7,bh8,gs5,dc7,ce1,ce2,bm8,be2,bu8,ez5,cj1,bm9,ez6,cj3,bn1,bn2,ce3,ce4,ce5,ce6,bn3,ce7,ce8,bn4,bc4,ax6,bn5,ce9,bn6,dc1,dc2,dc3,cf1,bn7,cf2,cf3,bn8,bc5,ax7,bn9,cf4,bo1,dc4,dc5,dc6,List.getElem?_cons_zero,List.getElem?_cons_succ,List.all_cons,List.all_nil,List.drop_zero,List.drop_succ_cons,List.head?_cons,Bool.and_true,Bool.and_self,Frm.bk8,ab1,aa4,decide_true,decide_false,List.append_nil,List.nil_append,List.cons_append,Bool.false_eq_true,Bool.xor_false,Bool.xor_true,Bool.not_true,Bool.not_false,Nat.reduceEqDiff,Nat.reduceAdd,Nat.reduceMul,Nat.reduceLT,Nat.add_zero,Nat.zero_add,Nat.succ_ne_zero,if_true,if_false,↓reduceIte,reduceCtorEq,true_and,and_true,hkn];refine ⟨left.length-1,by omega,rfl,rfl,h1,fun i hi=>?_,Nat.le_refl _,left.eraseIdx j,some c,?_,?_,fun e he=>h6 e (List.mem_of_mem_eraseIdx he),fun e he hn=>?_⟩
    ·simp only[aa4]; rw[if_neg (by omega)]; exact h2 i hi
    ·simp only[aa4,if_true]
    ·rw[List.length_eraseIdx_of_lt hj]
    ·have h8:=h7 e he hn;rcases ds6 (d:=(IV.undef,IV.undef)) (j:=j) h8 with h9|h9
     ·exact h9
     ·rw[h9] at hn; rw[hc,hk] at hn; cases hn; exact absurd rfl hkn
end Go.Id
