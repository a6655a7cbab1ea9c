/- How an operator is written: what it gives,whatever the row in which the table is read. Conditions: the table is the given one. -/
import Derived.Test.YtiallonafbejaaaGreatDoorFwZ
set_option linter.all false
namespace Go.Id
open Go
variable {P:Program} {E:Nat→IV}
def opsL:List (IV×IV):=[(.str [],.int .u8 0),(.str [60],.int .u8 1),(.str [60,61],.int .u8 3),(.str [61],.int .u8 2),(.str [62],.int .u8 4),(.str [62,61],.int .u8 6)]
def dt7 (op:Int):List UInt8:=if op=1 then [60] else if op=2 then [61] else if op=3 then [60,61] else if op=4 then [62] else if op=6 then [62,61] else []
def icText (g:Nat):IC :=
(.seq
 (.reg 0 [⟨(some 2),none,(.q (.mov (.c (.str []))))⟩] [0])
 (.seq
 (.seq
  (.reg 1 [⟨(some 5),none,(.q (.load none (.g g)))⟩,⟨(some 6),none,(.mrange (.t 5))⟩] [0,6])
  (.block 0
  (.loop
   (.seq
   (.reg 2 [⟨(some 7),none,(.mnext (.t 6))⟩,⟨(some 8),none,(.q (.ext 0 (.t 7)))⟩] [0,6,8])
   (.seq
    (.cond (.t 8)
    .skip
    (.exit 0))
    (.block 1
    (.seq
     (.reg 3 [⟨(some 9),none,(.ment (.t 6))⟩,⟨(some 10),none,(.q (.ext 0 (.t 9)))⟩,⟨(some 11),none,(.q (.ext 1 (.t 9)))⟩,⟨(some 3),none,(.q (.mov (.t 10)))⟩,⟨(some 4),none,(.q (.mov (.t 11)))⟩] [0,3,4,6])
     (.seq
     (.reg 4 [⟨(some 12),none,(.q (.mov (.t 4)))⟩,⟨(some 13),none,(.q (.mov (.t 0)))⟩,⟨(some 14),none,(.q (.bin .eql (.t 12) (.t 13)))⟩] [0,3,6,14])
     (.cond (.t 14)
      (.seq
      (.reg 5 [⟨(some 15),none,(.q (.mov (.t 3)))⟩,⟨(some 2),none,(.q (.mov (.t 15)))⟩] [2])
      .ret)
      .skip)))))))))
 (.seq
  (.reg 6 [⟨(some 2),none,(.q (.mov (.c (.str []))))⟩] [2])
  .ret)))
theorem dj7 {α:Type}{d:α}{e:α}:∀ {l:List α} {j:Nat},e∈l→e∈l.eraseIdx j∨e=l.getD j d:=by
 intro l
 induction l with
 | nil=>intro j h; cases h
 | cons x l ih=>
  intro j h
  cases j with
  | zero=>
   rcases List.mem_cons.1 h with rfl|h
   ·exact .inr rfl
   ·exact .inl h
  | succ j=>
   rcases List.mem_cons.1 h with rfl|h
   ·exact .inl (List.mem_cons_self ..)
   ·rcases ih (j:=j) h with h|h
    ·exact .inl (List.mem_cons_of_mem _ h)
    ·exact .inr h
structure TxI (σ0:Store) (n:Int) (id:Nat) (m:Nat) (fr:Frm) (σ:Store):Prop where
 f0:fr.get 0=.int .u8 n
 f6:fr.get 6=.ptr id 0
 next:σ0.next≤σ.next
 low:∀ i,i<σ0.next→σ.obj i=σ0.obj i
 lt:σ0.next≤id
 obj:∃ left cur,σ.obj id=some (.miter left cur)∧left.length=m∧(∀ e∈left,e∈opsL)∧∀ e∈opsL,e.2=.int .u8 n→e∈left
theorem fz3 {n:Int}{e:IV×IV}(h:e∈opsL)(hn:e.2=.int .u8 n):e.1=.str (dt7 n):=by
 simp only[opsL,List.mem_cons,List.not_mem_nil,or_false] at h
 rcases h with rfl|rfl|rfl|rfl|rfl|rfl<;>cases hn<;>rfl
theorem fh9 {n:Int}(h:∀ e∈opsL,e.2≠.int .u8 n):dt7 n=[]:=by
 have h1:=h (.str [60],.int .u8 1) (by simp[opsL])
 have h2:=h (.str [61],.int .u8 2) (by simp[opsL])
 have h3:=h (.str [60,61],.int .u8 3) (by simp[opsL])
 have h4:=h (.str [62],.int .u8 4) (by simp[opsL])
 have h6:=h (.str [62,61],.int .u8 6) (by simp[opsL])
 simp only[ne_eq,IV.int.injEq,true_and] at h1 h2 h3 h4 h6
 simp[dt7,Ne.symm h1,Ne.symm h2,Ne.symm h3,Ne.symm h4,Ne.symm h6]
theorem gp7 {f g:Nat}{pf:List Nat}{an:Ann}{n:Int}(hf:fw9 P f 16 pf an (icText g) [.t 2])(hg:E g=.tptr [.tmap opsL]):PC P E f [.int .u8 n] (.str (dt7 n)):=by
 refine ie1 noT hf (Nat.le_of_ble_eq_true rfl) fun σ hb=>?_
 simp only[icText,cn8,cn9,bs1,be2,co1,bs2,co2,bs3,ek1,gw7,ej6,ej7,co3,bs4,co4,bs5,bs6,be3,co5,w_q,bs7,ek2,ek3,bs8,ek4,bt1,be4,bs9,co6,co7,co8,bt2,be5,
  ek5,co9,ek6,cp1,bt3,bt4,cp3,ek7,ek8,ek9,el1,el5,el6,el7,el8,el9,em1,cp4,em2,cp5,em3,cp6,bt5,cp7,cq2,em4,gx1,gx2,em5,em6,em7,em8,em9,en1,en2,en3,en4,en5,cq3,bt6,be6,av7,bt7,be7,cp8,cp9,cq1,bt8,gw8,gw9,av9,bf2,bv1,bv2,bv3,bu9,cr6,
  e_t,e_c,e_g,e_f,en6,cq4,en7,en8,en9,ag1,eo1,cq5,bt9,eo2,bu1,eo3,bu2,bu3,eo4,cq6,eo5,cq7,eo6,eo7,eo8,eo9,cq8,cq9,dr8,gh5,dh8,dr7,bu4,bu5,cr1,cr2,bu6,bu7,
  gx3,be8,cr3,cr4,cr5,be9,bu8,av8,bf1,bf3,bv4,bf4,bf5,cr7,cr8,dr9,ds2,bv5,bv6,bv7,bv8,cr9,cs3,bv9,bf6,ep1,ep2,ep3,ep4,ep5,ep6,ep7,ep8,ep9,eq1,eq2,eq3,eq4,
  cs4,cs5,cs6,cs7,cs8,cs9,ct1,ct2,ct3,ct4,ay8,bf7,bw1,bw2,bw3,ct5,ct6,ct7,ct8,eq5,eq6,ct9,eq7,bw4,bw5,bw6,er1,bb7,gh6,cu7,bw7,bw8,bf8,ay2,bo1,eq8,cb8,bf9,eq9,cb9,bg1,bg2,bw9,bx2,bx3,bx4,bg3,bx5,bx6,bg4,aw1,ar7,bg5,bx7,bg6,cu1,cu2,cu3,bx8,bg7,bx9,by1,bg8,aw2,ar8,bg9,by2,bh2,cu4,cu5,cu6,
  List.getElem?_cons_zero,List.getElem?_cons_succ,List.all_cons,List.all_nil,List.drop_zero,List.drop_succ_cons,List.head?_cons,Bool.and_true,Bool.and_self,Frm.get_cons,Frm.get_nil,aa5,aa2,
  decide_true,decide_false,List.append_nil,List.nil_append,List.cons_append,Bool.false_eq_true,Bool.xor_false,Bool.xor_true,Bool.not_true,Bool.not_false,Nat.reduceEqDiff,Nat.reduceAdd,Nat.reduceMul,Nat.reduceLT,Nat.add_zero,Nat.zero_add,Nat.succ_ne_zero,if_true,if_false,↓reduceIte,reduceCtorEq,true_and,and_true,hg]
 refine gh3 noT (TxI σ n σ.next) opsL.length ⟨rfl,rfl,?_,?_,Nat.le_refl _,opsL,none,?_,rfl,fun _ h=>h,fun _ h _=>h⟩ ?_
 ·show σ.next≤σ.next+1; omega
 ·intro i hi; simp only[aa2]; rw[if_neg (by omega)]
 ·simp only[aa2,if_true]
 ·rintro m fr s ⟨f0,f6,h1,h2,h3,left,cur,h4,h5,h6,h7⟩
  have hm:ba6 s (.ptr σ.next 0)=some (σ.next,left):=by simp only[ba6,h4]
  simp only[cn8,cn9,bs1,be2,co1,bs2,co2,bs3,ek1,gw7,ej6,ej7,co3,bs4,co4,bs5,bs6,be3,co5,w_q,bs7,ek2,ek3,bs8,ek4,bt1,be4,bs9,co6,co7,co8,bt2,be5,
  ek5,co9,ek6,cp1,bt3,bt4,cp3,ek7,ek8,ek9,el1,el5,el6,el7,el8,el9,em1,cp4,em2,cp5,em3,cp6,bt5,cp7,cq2,em4,gx1,gx2,em5,em6,em7,em8,em9,en1,en2,en3,en4,en5,cq3,bt6,be6,av7,bt7,be7,cp8,cp9,cq1,bt8,gw8,gw9,av9,bf2,bv1,bv2,bv3,bu9,cr6,
  e_t,e_c,e_g,e_f,en6,cq4,en7,en8,en9,ag1,eo1,cq5,bt9,eo2,bu1,eo3,bu2,bu3,eo4,cq6,eo5,cq7,eo6,eo7,eo8,eo9,cq8,cq9,dr8,gh5,dh8,dr7,bu4,bu5,cr1,cr2,bu6,bu7,
  gx3,be8,cr3,cr4,cr5,be9,bu8,av8,bf1,bf3,bv4,bf4,bf5,cr7,cr8,dr9,ds2,bv5,bv6,bv7,bv8,cr9,cs3,bv9,bf6,ep1,ep2,ep3,ep4,ep5,ep6,ep7,ep8,ep9,eq1,eq2,eq3,eq4,
  cs4,cs5,cs6,cs7,cs8,cs9,ct1,ct2,ct3,ct4,ay8,bf7,bw1,bw2,bw3,ct5,ct6,ct7,ct8,eq5,eq6,ct9,eq7,bw4,bw5,bw6,er1,bb7,gh6,cu7,bw7,bw8,bf8,ay2,bo1,eq8,cb8,bf9,eq9,cb9,bg1,bg2,bw9,bx2,bx3,bx4,bg3,bx5,bx6,bg4,aw1,ar7,bg5,bx7,bg6,cu1,cu2,cu3,bx8,bg7,bx9,by1,bg8,aw2,ar8,bg9,by2,bh2,cu4,cu5,cu6,
  List.getElem?_cons_zero,List.getElem?_cons_succ,List.all_cons,List.all_nil,List.drop_zero,List.drop_succ_cons,List.head?_cons,Bool.and_true,Bool.and_self,Frm.get_cons,Frm.get_nil,aa5,aa2,
  decide_true,decide_false,List.append_nil,List.nil_append,List.cons_append,Bool.false_eq_true,Bool.xor_false,Bool.xor_true,Bool.not_true,Bool.not_false,Nat.reduceEqDiff,Nat.reduceAdd,Nat.reduceMul,Nat.reduceLT,Nat.add_zero,Nat.zero_add,Nat.succ_ne_zero,if_true,if_false,↓reduceIte,reduceCtorEq,true_and,and_true,f0,f6,hm]
  constructor
  ·intro h0
   subst h0
   have hno:∀ e∈opsL,e.2≠.int .u8 n:=fun e he hn=>by have:=h7 e he hn; cases this
   refine ⟨fun i hi=>h2 i hi,h1,?_⟩
   rw[fh9 hno]
   exact .keep _ (.str _)
  ·intro j hj
   have hmem:left.getD j (.undef,.undef)∈left:=aa7 _ hj
   have hops:=h6 _ hmem
   have hment:∀ c x,cb5 ⟨x,(s.put σ.next (.miter (left.eraseIdx j) (some c))).obj⟩ (.ptr σ.next 0)=some (.tuple [c.1,c.2]):=fun c x=>by simp only[cb5,aa2,if_true]
   generalize hc:left.getD j (.undef,.undef)=c at hmem hops ⊢
   obtain ⟨k,hk⟩:∃ k,c.2=.int .u8 k:=by
    simp only[opsL,List.mem_cons,List.not_mem_nil,or_false] at hops
    rcases hops with rfl|rfl|rfl|rfl|rfl|rfl<;>exact ⟨_,rfl⟩
   simp only[hment,cn8,cn9,bs1,be2,co1,bs2,co2,bs3,ek1,gw7,ej6,ej7,co3,bs4,co4,bs5,bs6,be3,co5,w_q,bs7,ek2,ek3,bs8,ek4,bt1,be4,bs9,co6,co7,co8,bt2,be5,
  ek5,co9,ek6,cp1,bt3,bt4,cp3,ek7,ek8,ek9,el1,el5,el6,el7,el8,el9,em1,cp4,em2,cp5,em3,cp6,bt5,cp7,cq2,em4,gx1,gx2,em5,em6,em7,em8,em9,en1,en2,en3,en4,en5,cq3,bt6,be6,av7,bt7,be7,cp8,cp9,cq1,bt8,gw8,gw9,av9,bf2,bv1,bv2,bv3,bu9,cr6,
  e_t,e_c,e_g,e_f,en6,cq4,en7,en8,en9,ag1,eo1,cq5,bt9,eo2,bu1,eo3,bu2,bu3,eo4,cq6,eo5,cq7,eo6,eo7,eo8,eo9,cq8,cq9,dr8,gh5,dh8,dr7,bu4,bu5,cr1,cr2,bu6,bu7,
  gx3,be8,cr3,cr4,cr5,be9,bu8,av8,bf1,bf3,bv4,bf4,bf5,cr7,cr8,dr9,ds2,bv5,bv6,bv7,bv8,cr9,cs3,bv9,bf6,ep1,ep2,ep3,ep4,ep5,ep6,ep7,ep8,ep9,eq1,eq2,eq3,eq4,
  cs4,cs5,cs6,cs7,cs8,cs9,ct1,ct2,ct3,ct4,ay8,bf7,bw1,bw2,bw3,ct5,ct6,ct7,ct8,eq5,eq6,ct9,eq7,bw4,bw5,bw6,er1,bb7,gh6,cu7,bw7,bw8,bf8,ay2,bo1,eq8,cb8,bf9,eq9,cb9,bg1,bg2,bw9,bx2,bx3,bx4,bg3,bx5,bx6,bg4,aw1,ar7,bg5,bx7,bg6,cu1,cu2,cu3,bx8,bg7,bx9,by1,bg8,aw2,ar8,bg9,by2,bh2,cu4,cu5,cu6,
  List.getElem?_cons_zero,List.getElem?_cons_succ,List.all_cons,List.all_nil,List.drop_zero,List.drop_succ_cons,List.head?_cons,Bool.and_true,Bool.and_self,Frm.get_cons,Frm.get_nil,aa5,aa2,
  decide_true,decide_false,List.append_nil,List.nil_append,List.cons_append,Bool.false_eq_true,Bool.xor_false,Bool.xor_true,Bool.not_true,Bool.not_false,Nat.reduceEqDiff,Nat.reduceAdd,Nat.reduceMul,Nat.reduceLT,Nat.add_zero,Nat.zero_add,Nat.succ_ne_zero,if_true,if_false,↓reduceIte,reduceCtorEq,true_and,and_true,hk]
   by_cases hkn:k=n
   ·subst hkn
    simp only[cn8,cn9,bs1,be2,co1,bs2,co2,bs3,ek1,gw7,ej6,ej7,co3,bs4,co4,bs5,bs6,be3,co5,w_q,bs7,ek2,ek3,bs8,ek4,bt1,be4,bs9,co6,co7,co8,bt2,be5,
  ek5,co9,ek6,cp1,bt3,bt4,cp3,ek7,ek8,ek9,el1,el5,el6,el7,el8,el9,em1,cp4,em2,cp5,em3,cp6,bt5,cp7,cq2,em4,gx1,gx2,em5,em6,em7,em8,em9,en1,en2,en3,en4,en5,cq3,bt6,be6,av7,bt7,be7,cp8,cp9,cq1,bt8,gw8,gw9,av9,bf2,bv1,bv2,bv3,bu9,cr6,
  e_t,e_c,e_g,e_f,en6,cq4,en7,en8,en9,ag1,eo1,cq5,bt9,eo2,bu1,eo3,bu2,bu3,eo4,cq6,eo5,cq7,eo6,eo7,eo8,eo9,cq8,cq9,dr8,gh5,dh8,dr7,bu4,bu5,cr1,cr2,bu6,bu7,
  gx3,be8,cr3,cr4,cr5,be9,bu8,av8,bf1,bf3,bv4,bf4,bf5,cr7,cr8,dr9,ds2,bv5,bv6,bv7,bv8,cr9,cs3,bv9,bf6,ep1,ep2,ep3,ep4,ep5,ep6,ep7,ep8,ep9,eq1,eq2,eq3,eq4,
  cs4,cs5,cs6,cs7,cs8,cs9,ct1,ct2,ct3,ct4,ay8,bf7,bw1,bw2,bw3,ct5,ct6,ct7,ct8,eq5,eq6,ct9,eq7,bw4,bw5,bw6,er1,bb7,gh6,cu7,bw7,bw8,bf8,ay2,bo1,eq8,cb8,bf9,eq9,cb9,bg1,bg2,bw9,bx2,bx3,bx4,bg3,bx5,bx6,bg4,aw1,ar7,bg5,bx7,bg6,cu1,cu2,cu3,bx8,bg7,bx9,by1,bg8,aw2,ar8,bg9,by2,bh2,cu4,cu5,cu6,
  List.getElem?_cons_zero,List.getElem?_cons_succ,List.all_cons,List.all_nil,List.drop_zero,List.drop_succ_cons,List.head?_cons,Bool.and_true,Bool.and_self,Frm.get_cons,Frm.get_nil,aa5,aa2,
  decide_true,decide_false,List.append_nil,List.nil_append,List.cons_append,Bool.false_eq_true,Bool.xor_false,Bool.xor_true,Bool.not_true,Bool.not_false,Nat.reduceEqDiff,Nat.reduceAdd,Nat.reduceMul,Nat.reduceLT,Nat.add_zero,Nat.zero_add,Nat.succ_ne_zero,if_true,if_false,↓reduceIte,reduceCtorEq,true_and,and_true]
    refine ⟨fun i hi=>by rw[if_neg (by omega)]; exact h2 i hi,h1,?_⟩
    rw[fz3 hops hk]
    exact .keep _ (.str _)
   ·simp only[cn8,cn9,bs1,be2,co1,bs2,co2,bs3,ek1,gw7,ej6,ej7,co3,bs4,co4,bs5,bs6,be3,co5,w_q,bs7,ek2,ek3,bs8,ek4,bt1,be4,bs9,co6,co7,co8,bt2,be5,
  ek5,co9,ek6,cp1,bt3,bt4,cp3,ek7,ek8,ek9,el1,el5,el6,el7,el8,el9,em1,cp4,em2,cp5,em3,cp6,bt5,cp7,cq2,em4,gx1,gx2,em5,em6,em7,em8,em9,en1,en2,en3,en4,en5,cq3,bt6,be6,av7,bt7,be7,cp8,cp9,cq1,bt8,gw8,gw9,av9,bf2,bv1,bv2,bv3,bu9,cr6,
  e_t,e_c,e_g,e_f,en6,cq4,en7,en8,en9,ag1,eo1,cq5,bt9,eo2,bu1,eo3,bu2,bu3,eo4,cq6,eo5,cq7,eo6,eo7,eo8,eo9,cq8,cq9,dr8,gh5,dh8,dr7,bu4,bu5,cr1,cr2,bu6,bu7,
  gx3,be8,cr3,cr4,cr5,be9,bu8,av8,bf1,bf3,bv4,bf4,bf5,cr7,cr8,dr9,ds2,bv5,bv6,bv7,bv8,cr9,cs3,bv9,bf6,ep1,ep2,ep3,ep4,ep5,ep6,ep7,ep8,ep9,eq1,eq2,eq3,eq4,
  cs4,cs5,cs6,cs7,cs8,cs9,ct1,ct2,ct3,ct4,ay8,bf7,bw1,bw2,bw3,ct5,ct6,ct7,ct8,eq5,eq6,ct9,eq7,bw4,bw5,bw6,er1,bb7,gh6,cu7,bw7,bw8,bf8,ay2,bo1,eq8,cb8,bf9,eq9,cb9,bg1,bg2,bw9,bx2,bx3,bx4,bg3,bx5,bx6,bg4,aw1,ar7,bg5,bx7,bg6,cu1,cu2,cu3,bx8,bg7,bx9,by1,bg8,aw2,ar8,bg9,by2,bh2,cu4,cu5,cu6,
  List.getElem?_cons_zero,List.getElem?_cons_succ,List.all_cons,List.all_nil,List.drop_zero,List.drop_succ_cons,List.head?_cons,Bool.and_true,Bool.and_self,Frm.get_cons,Frm.get_nil,aa5,aa2,
  decide_true,decide_false,List.append_nil,List.nil_append,List.cons_append,Bool.false_eq_true,Bool.xor_false,Bool.xor_true,Bool.not_true,Bool.not_false,Nat.reduceEqDiff,Nat.reduceAdd,Nat.reduceMul,Nat.reduceLT,Nat.add_zero,Nat.zero_add,Nat.succ_ne_zero,if_true,if_false,↓reduceIte,reduceCtorEq,true_and,and_true,hkn]
    refine ⟨left.length-1,by omega,rfl,rfl,h1,fun i hi=>?_,Nat.le_refl _,left.eraseIdx j,some c,?_,?_,fun e he=>h6 e (List.mem_of_mem_eraseIdx he),fun e he hn=>?_⟩
    ·simp only[aa2]; rw[if_neg (by omega)]; exact h2 i hi
    ·simp only[aa2,if_true]
    ·rw[List.length_eraseIdx_of_lt hj]
    ·have h8:=h7 e he hn
     rcases dj7 (d:=(IV.undef,IV.undef)) (j:=j) h8 with h9|h9
     ·exact h9
     ·rw[h9] at hn; rw[hc,hk] at hn; cases hn; exact absurd rfl hkn
end Go.Id
