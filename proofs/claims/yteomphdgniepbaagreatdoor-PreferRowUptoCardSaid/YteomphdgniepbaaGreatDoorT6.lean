/- How an operator is written: what it gives,whatever the row in which the table is read. Conditions: the table is the given one. -/
import Derived.Test.YteomphdgniepbaaGreatDoorFwZ
set_option linter.all false
namespace Go.Id
open Go
variable {P:Program} {E:Nat→IV}
def opsL:List (IV×IV):=[(.str [],.int .u8 0),(.str [60],.int .u8 1),(.str [60,61],.int .u8 3),(.str [61],.int .u8 2),(.str [62],.int .u8 4),(.str [62,61],.int .u8 6)]
def ec5 (op:Int):List UInt8:=if op=1 then [60] else if op=2 then [61] else if op=3 then [60,61] else if op=4 then [62] else if op=6 then [62,61] else []
def gs6 (g:Nat):IC :=
(.seq
 (.reg 0 [⟨(some 2),none,(.q (.mov (.c (.str []))))⟩] [0])
 (.seq
 (.seq
  (.reg 1 [⟨(some 5),none,(.q (.load none (.g g)))⟩,⟨(some 6),none,(.ba1 (.t 5))⟩] [0,6])
  (.block 0
  (.loop
   (.seq
   (.reg 2 [⟨(some 7),none,(.bz3 (.t 6))⟩,⟨(some 8),none,(.q (.ext 0 (.t 7)))⟩] [0,6,8])
   (.seq
    (.cond (.t 8)
    .skip
    (.exit 0))
    (.block 1
    (.seq
     (.reg 3 [⟨(some 9),none,(.es7 (.t 6))⟩,⟨(some 10),none,(.q (.ext 0 (.t 9)))⟩,⟨(some 11),none,(.q (.ext 1 (.t 9)))⟩,⟨(some 3),none,(.q (.mov (.t 10)))⟩,⟨(some 4),none,(.q (.mov (.t 11)))⟩] [0,3,4,6])
     (.seq
     (.reg 4 [⟨(some 12),none,(.q (.mov (.t 4)))⟩,⟨(some 13),none,(.q (.mov (.t 0)))⟩,⟨(some 14),none,(.q (.bin .eql (.t 12) (.t 13)))⟩] [0,3,6,14])
     (.cond (.t 14)
      (.seq
      (.reg 5 [⟨(some 15),none,(.q (.mov (.t 3)))⟩,⟨(some 2),none,(.q (.mov (.t 15)))⟩] [2])
      .ret)
      .skip)))))))))
 (.seq
  (.reg 6 [⟨(some 2),none,(.q (.mov (.c (.str []))))⟩] [2])
  .ret)))
theorem ds5 {α:Type}{d:α}{e:α}:∀ {l:List α} {j:Nat},e∈l→e∈l.eraseIdx j∨e=l.getD j d:=by
 intro l
 induction l with
 | nil=>intro j h; cases h
 | cons x l ih=>
  intro j h
  cases j with
  | zero=>
   rcases List.mem_cons.1 h with rfl|h
   ·exact .inr rfl
   ·exact .inl h
  | succ j=>
   rcases List.mem_cons.1 h with rfl|h
   ·exact .inl (List.mem_cons_self ..)
   ·rcases ih (j:=j) h with h|h
    ·exact .inl (List.mem_cons_of_mem _ h)
    ·exact .inr h
structure TxI (σ0:Store) (n:Int) (id:Nat) (m:Nat) (fr:Frm) (σ:Store):Prop where
 f0:fr.get 0=.int .u8 n
 f6:fr.get 6=.ptr id 0
 next:σ0.next≤σ.next
 low:∀ i,i<σ0.next→σ.obj i=σ0.obj i
 lt:σ0.next≤id
 obj:∃ left cur,σ.obj id=some (.ap8 left cur)∧left.length=m∧(∀ e∈left,e∈opsL)∧∀ e∈opsL,e.2=.int .u8 n→e∈left
theorem gi6 {n:Int}{e:IV×IV}(h:e∈opsL)(hn:e.2=.int .u8 n):e.1=.str (ec5 n):=by
 simp only[opsL,List.mem_cons,List.not_mem_nil,or_false] at h;rcases h with rfl|rfl|rfl|rfl|rfl|rfl<;>cases hn<;>rfl
theorem fq7 {n:Int}(h:∀ e∈opsL,e.2≠.int .u8 n):ec5 n=[]:=by
 have h1:=h (.str [60],.int .u8 1) (by simp[opsL]);have h2:=h (.str [61],.int .u8 2) (by simp[opsL]);have h3:=h (.str [60,61],.int .u8 3) (by simp[opsL]);have h4:=h (.str [62],.int .u8 4) (by simp[opsL]);have h6:=h (.str [62,61],.int .u8 6) (by simp[opsL]);simp only[ne_eq,IV.int.injEq,true_and] at h1 h2 h3 h4 h6;simp[ec5,Ne.symm h1,Ne.symm h2,Ne.symm h3,Ne.symm h4,Ne.symm h6]
theorem hc7 {f g:Nat}{pf:List Nat}{an:Ann}{n:Int}(hf:gr4 P f 16 pf an (gs6 g) [.t 2])(hg:E g=.ac2 [.ap7 opsL]):PC P E f [.int .u8 n] (.str (ec5 n)):=by
 refine ir4 noT hf (Nat.le_of_ble_eq_true rfl) fun σ hb=>?_
 simp only[gs6,cw3,cw4,cw5,bz4,cw6,hr6,et1,et2,cw7,bz5,cw8,bz6,bz7,bk8,cw9,w_q,bz8,et4,et5,bz9,et6,ca2,bk9,ca1,cx1,cx2,cx3,ca3,bl4,et7,cx4,et8,cx5,ca4,ca5,cx6,et9,eu1,eu2,eu3,eu4,eu5,eu6,eu7,cx7,eu8,cx8,eu9,cx9,ca6,cy1,cy5,ev1,hr9,hs8,ev2,ev3,ev4,ev5,ev6,ev7,ev8,ev9,ew1,ew2,cy6,ca7,bl5,bb9,ca8,bl6,cy2,cy3,cy4,ca9,hr7,hr8,bc2,bm1,cc2,cc3,cc4,cc1,cz9,e_t,e_c,e_g,e_f,ew3,cy7,ew4,ew5,ew6,ai2,ew7,cy8,cb1,ew8,cb2,ew9,cb3,cb4,ex1,cy9,ex2,cz1,ex3,ex4,ex5,ex6,cz2,cz3,ea5,gr9,dq4,ea4,cb5,cb6,cz4,cz5,cb7,cb8,hs9,bl7,cz6,cz7,cz8,bl8,cb9,bc1,bl9,bm2,cc5,bm3,bm4,da1,da2,ea6,ea7,cc6,cc7,cc8,cc9,da3,da4,cd1,bm5,ex8,ex9,ey1,ey2,ey3,ey4,ey5,ey6,ey8,ey9,dq5,ea8,da5,da6,da7,da8,da9,db1,db2,db3,bf1,bm6,cd2,cd3,cd4,db4,db5,db6,db7,ez1,ez2,db8,ez3,cd5,cd6,cd7,ez6,bh7,gs2,dc6,cd8,cd9,bm7,be1,bu7,ez4,ci9,bm8,ez5,cj1,bm9,bn1,ce1,ce2,ce3,ce4,bn2,ce5,ce6,bn3,bc3,ax6,bn4,ce7,bn5,db9,dc1,dc2,ce8,bn6,ce9,cf1,bn7,bc4,ax7,bn8,cf2,bn9,dc3,dc4,dc5,List.getElem?_cons_zero,List.getElem?_cons_succ,List.all_cons,List.all_nil,List.drop_zero,List.drop_succ_cons,List.head?_cons,Bool.and_true,Bool.and_self,Frm.bk7,ab1,aa4,decide_true,decide_false,List.append_nil,List.nil_append,List.cons_append,Bool.false_eq_true,Bool.xor_false,Bool.xor_true,Bool.not_true,Bool.not_false,Nat.reduceEqDiff,Nat.reduceAdd,Nat.reduceMul,Nat.reduceLT,Nat.add_zero,Nat.zero_add,Nat.succ_ne_zero,if_true,if_false,↓reduceIte,reduceCtorEq,true_and,and_true,hg];refine gr6 noT (TxI σ n σ.next) opsL.length ⟨rfl,rfl,?_,?_,Nat.le_refl _,opsL,none,?_,rfl,fun _ h=>h,fun _ h _=>h⟩ ?_
 ·show σ.next≤σ.next+1; omega
 ·intro i hi; simp only[aa4]; rw[if_neg (by omega)]
 ·simp only[aa4,if_true]
 ·rintro m fr s ⟨f0,f6,h1,h2,h3,left,cur,h4,h5,h6,h7⟩;have hm:bg7 s (.ptr σ.next 0)=some (σ.next,left):=by simp only[bg7,h4]
  simp only[cw3,cw4,cw5,bz4,cw6,hr6,et1,et2,cw7,bz5,cw8,bz6,bz7,bk8,cw9,w_q,bz8,et4,et5,bz9,et6,ca2,bk9,ca1,cx1,cx2,cx3,ca3,bl4,et7,cx4,et8,cx5,ca4,ca5,cx6,et9,eu1,eu2,eu3,eu4,eu5,eu6,eu7,cx7,eu8,cx8,eu9,cx9,ca6,cy1,cy5,ev1,hr9,hs8,ev2,ev3,ev4,ev5,ev6,ev7,ev8,ev9,ew1,ew2,cy6,ca7,bl5,bb9,ca8,bl6,cy2,cy3,cy4,ca9,hr7,hr8,bc2,bm1,cc2,cc3,cc4,cc1,cz9,e_t,e_c,e_g,e_f,ew3,cy7,ew4,ew5,ew6,ai2,ew7,cy8,cb1,ew8,cb2,ew9,cb3,cb4,ex1,cy9,ex2,cz1,ex3,ex4,ex5,ex6,cz2,cz3,ea5,gr9,dq4,ea4,cb5,cb6,cz4,cz5,cb7,cb8,hs9,bl7,cz6,cz7,cz8,bl8,cb9,bc1,bl9,bm2,cc5,bm3,bm4,da1,da2,ea6,ea7,cc6,cc7,cc8,cc9,da3,da4,cd1,bm5,ex8,ex9,ey1,ey2,ey3,ey4,ey5,ey6,ey8,ey9,dq5,ea8,da5,da6,da7,da8,da9,db1,db2,db3,bf1,bm6,cd2,cd3,cd4,db4,db5,db6,db7,ez1,ez2,db8,ez3,cd5,cd6,cd7,ez6,bh7,gs2,dc6,cd8,cd9,bm7,be1,bu7,ez4,ci9,bm8,ez5,cj1,bm9,bn1,ce1,ce2,ce3,ce4,bn2,ce5,ce6,bn3,bc3,ax6,bn4,ce7,bn5,db9,dc1,dc2,ce8,bn6,ce9,cf1,bn7,bc4,ax7,bn8,cf2,bn9,dc3,dc4,dc5,List.getElem?_cons_zero,List.getElem?_cons_succ,List.all_cons,List.all_nil,List.drop_zero,List.drop_succ_cons,List.head?_cons,Bool.and_true,Bool.and_self,Frm.bk7,ab1,aa4,decide_true,decide_false,List.append_nil,List.nil_append,List.cons_append,Bool.false_eq_true,Bool.xor_false,Bool.xor_true,Bool.not_true,Bool.not_false,Nat.reduceEqDiff,Nat.reduceAdd,Nat.reduceMul,Nat.reduceLT,Nat.add_zero,Nat.zero_add,Nat.succ_ne_zero,if_true,if_false,↓reduceIte,reduceCtorEq,true_and,and_true,f0,f6,hm];constructor
  ·intro h0;subst h0;have hno:∀ e∈opsL,e.2≠.int .u8 n:=fun e he hn=>by have:=h7 e he hn; cases this
   refine ⟨fun i hi=>h2 i hi,h1,?_⟩;rw[fq7 hno];exact .keep _ (.str _)
  ·intro j hj;have hmem:left.getD j (.undef,.undef)∈left:=ad5 _ hj;have hops:=h6 _ hmem;have hment:∀ c x,ci6 ⟨x,(s.put σ.next (.ap8 (left.eraseIdx j) (some c))).obj⟩ (.ptr σ.next 0)=some (.tuple [c.1,c.2]):=fun c x=>by simp only[ci6,aa4,if_true]
   generalize hc:left.getD j (.undef,.undef)=c at hmem hops ⊢
   obtain ⟨k,hk⟩:∃ k,c.2=.int .u8 k:=by
    simp only[opsL,List.mem_cons,List.not_mem_nil,or_false] at hops;rcases hops with rfl|rfl|rfl|rfl|rfl|rfl<;>exact ⟨_,rfl⟩
   simp only[hment,cw3,cw4,cw5,bz4,cw6,hr6,et1,et2,cw7,bz5,cw8,bz6,bz7,bk8,cw9,w_q,bz8,et4,et5,bz9,et6,ca2,bk9,ca1,cx1,cx2,cx3,ca3,bl4,et7,cx4,et8,cx5,ca4,ca5,cx6,et9,eu1,eu2,eu3,eu4,eu5,eu6,eu7,cx7,eu8,cx8,eu9,cx9,ca6,cy1,cy5,ev1,hr9,hs8,ev2,ev3,ev4,ev5,ev6,ev7,ev8,ev9,ew1,ew2,cy6,ca7,bl5,bb9,ca8,bl6,cy2,cy3,cy4,ca9,hr7,hr8,bc2,bm1,cc2,cc3,cc4,cc1,cz9,e_t,e_c,e_g,e_f,ew3,cy7,ew4,ew5,ew6,ai2,ew7,cy8,cb1,ew8,cb2,ew9,cb3,cb4,ex1,cy9,ex2,cz1,ex3,ex4,ex5,ex6,cz2,cz3,ea5,gr9,dq4,ea4,cb5,cb6,cz4,cz5,cb7,cb8,hs9,bl7,cz6,cz7,cz8,bl8,cb9,bc1,bl9,bm2,cc5,bm3,bm4,da1,da2,ea6,ea7,cc6,cc7,cc8,cc9,da3,da4,cd1,bm5,ex8,ex9,ey1,ey2,ey3,ey4,ey5,ey6,ey8,ey9,dq5,ea8,da5,da6,da7,da8,da9,db1,db2,db3,bf1,bm6,cd2,cd3,cd4,db4,db5,db6,db7,ez1,ez2,db8,ez3,cd5,cd6,cd7,ez6,bh7,gs2,dc6,cd8,cd9,bm7,be1,bu7,ez4,ci9,bm8,ez5,cj1,bm9,bn1,ce1,ce2,ce3,ce4,bn2,ce5,ce6,bn3,bc3,ax6,bn4,ce7,bn5,db9,dc1,dc2,ce8,bn6,ce9,cf1,bn7,bc4,ax7,bn8,cf2,bn9,dc3,dc4,dc5,List.getElem?_cons_zero,List.getElem?_cons_succ,List.all_cons,List.all_nil,List.drop_zero,List.drop_succ_cons,List.head?_cons,Bool.and_true,Bool.and_self,Frm.bk7,ab1,aa4,decide_true,decide_false,List.append_nil,List.nil_append,List.cons_append,Bool.false_eq_true,Bool.xor_false,Bool.xor_true,Bool.not_true,Bool.not_false,Nat.reduceEqDiff,Nat.reduceAdd,Nat.reduceMul,Nat.reduceLT,Nat.add_zero,Nat.zero_add,Nat.succ_ne_zero,if_true,if_false,↓reduceIte,reduceCtorEq,true_and,and_true,hk];by_cases hkn:k=n
   ·subst hkn;simp only[cw3,cw4,cw5,bz4,cw6,hr6,et1,et2,cw7,bz5,cw8,bz6,bz7,bk8,cw9,w_q,bz8,et4,et5,bz9,et6,ca2,bk9,ca1,cx1,cx2,cx3,ca3,bl4,et7,cx4,et8,cx5,ca4,ca5,cx6,et9,eu1,eu2,eu3,eu4,eu5,eu6,eu7,cx7,eu8,cx8,eu9,cx9,ca6,cy1,cy5,ev1,hr9,hs8,ev2,ev3,ev4,ev5,ev6,ev7,ev8,ev9,ew1,ew2,cy6,ca7,bl5,bb9,ca8,bl6,cy2,cy3,cy4,ca9,hr7,hr8,bc2,bm1,cc2,cc3,cc4,cc1,cz9,e_t,e_c,e_g,e_f,ew3,cy7,ew4,ew5,ew6,ai2,ew7,cy8,cb1,ew8,cb2,ew9,cb3,cb4,ex1,cy9,ex2,cz1,ex3,ex4,ex5,ex6,cz2,cz3,ea5,gr9,dq4,ea4,cb5,cb6,cz4,cz5,cb7,cb8,hs9,bl7,cz6,cz7,cz8,bl8,cb9,bc1,bl9,bm2,cc5,bm3,bm4,da1,da2,ea6,ea7,cc6,cc7,cc8,cc9,da3,da4,cd1,bm5,ex8,ex9,ey1,ey2,ey3,ey4,ey5,ey6,ey8,ey9,dq5,ea8,da5,da6,da7,da8,da9,db1,db2,db3,bf1,bm6,cd2,cd3,cd4,db4,db5,db6,db7,ez1,ez2,db8,ez3,cd5,cd6,cd7,ez6,bh7,gs2,dc6,cd8,cd9,bm7,be1,bu7,ez4,ci9,bm8,ez5,cj1,bm9,bn1,ce1,ce2,ce3,ce4,bn2,ce5,ce6,bn3,bc3,ax6,bn4,ce7,bn5,db9,dc1,dc2,ce8,bn6,ce9,cf1,bn7,bc4,ax7,bn8,cf2,bn9,dc3,dc4,dc5,List.getElem?_cons_zero,List.getElem?_cons_succ,List.all_cons,List.all_nil,List.drop_zero,List.drop_succ_cons,List.head?_cons,Bool.and_true,Bool.and_self,Frm.bk7,ab1,aa4,decide_true,decide_false,List.append_nil,List.nil_append,List.cons_append,Bool.false_eq_true,Bool.xor_false,Bool.xor_true,Bool.not_true,Bool.not_false,Nat.reduceEqDiff,Nat.reduceAdd,Nat.reduceMul,Nat.reduceLT,Nat.add_zero,Nat.zero_add,Nat.succ_ne_zero,if_true,if_false,↓reduceIte,reduceCtorEq,true_and,and_true];refine ⟨fun i hi=>by rw[if_neg (by omega)]; exact h2 i hi,h1,?_⟩;rw[gi6 hops hk];exact .keep _ (.str _)
   ·simp only[cw3,cw4,cw5,bz4,cw6,hr6,et1,et2,cw7,bz5,cw8,bz6,bz7,bk8,cw9,w_q,bz8,et4,et5,bz9,et6,ca2,bk9,ca1,cx1,cx2,cx3,ca3,bl4,et7,cx4,et8,cx5,ca4,ca5,cx6,et9,eu1,eu2,eu3,eu4,eu5,eu6,eu7,cx7,eu8,cx8,eu9,cx9,ca6,cy1,cy5,ev1,hr9,hs8,ev2,ev3,ev4,ev5,ev6,ev7,ev8,ev9,ew1,ew2,cy6,ca7,bl5,bb9,ca8,bl6,cy2,cy3,cy4,ca9,hr7,hr8,bc2,bm1,cc2,cc3,cc4,cc1,cz9,e_t,e_c,e_g,e_f,ew3,cy7,ew4,ew5,ew6,ai2,ew7,cy8,cb1,ew8,cb2,ew9,cb3,cb4,ex1,cy9,ex2,cz1,ex3,ex4,ex5,ex6,cz2,cz3,ea5,gr9,dq4,ea4,cb5,cb6,cz4,cz5,cb7,cb8,hs9,bl7,cz6,cz7,cz8,bl8,cb9,bc1,bl9,bm2,cc5,bm3,bm4,da1,da2,ea6,ea7,cc6,cc7,cc8,cc9,da3,da4,cd1,bm5,ex8,ex9,ey1,ey2,ey3,ey4,ey5,ey6,ey8,ey9,dq5,ea8,da5,da6,da7,da8,da9,db1,db2,db3,bf1,bm6,cd2,cd3,cd4,db4,db5,db6,db7,ez1,ez2,db8,ez3,cd5,cd6,cd7,ez6,bh7,gs2,dc6,cd8,cd9,bm7,be1,bu7,ez4,ci9,bm8,ez5,cj1,bm9,bn1,ce1,ce2,ce3,ce4,bn2,ce5,ce6,bn3,bc3,ax6,bn4,ce7,bn5,db9,dc1,dc2,ce8,bn6,ce9,cf1,bn7,bc4,ax7,bn8,cf2,bn9,dc3,dc4,dc5,List.getElem?_cons_zero,List.getElem?_cons_succ,List.all_cons,List.all_nil,List.drop_zero,List.drop_succ_cons,List.head?_cons,Bool.and_true,Bool.and_self,Frm.bk7,ab1,aa4,decide_true,decide_false,List.append_nil,List.nil_append,List.cons_append,Bool.false_eq_true,Bool.xor_false,Bool.xor_true,Bool.not_true,Bool.not_false,Nat.reduceEqDiff,Nat.reduceAdd,Nat.reduceMul,Nat.reduceLT,Nat.add_zero,Nat.zero_add,Nat.succ_ne_zero,if_true,if_false,↓reduceIte,reduceCtorEq,true_and,and_true,hkn];refine ⟨left.length-1,by omega,rfl,rfl,h1,fun i hi=>?_,Nat.le_refl _,left.eraseIdx j,some c,?_,?_,fun e he=>h6 e (List.mem_of_mem_eraseIdx he),fun e he hn=>?_⟩
    ·simp only[aa4]; rw[if_neg (by omega)]; exact h2 i hi
    ·simp only[aa4,if_true]
    ·rw[List.length_eraseIdx_of_lt hj]
    ·have h8:=h7 e he hn;rcases ds5 (d:=(IV.undef,IV.undef)) (j:=j) h8 with h9|h9
     ·exact h9
     ·rw[h9] at hn; rw[hc,hk] at hn; cases hn; exact absurd rfl hkn
end Go.Id
