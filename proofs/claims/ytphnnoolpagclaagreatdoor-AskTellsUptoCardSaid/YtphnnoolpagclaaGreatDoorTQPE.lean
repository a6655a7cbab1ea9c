/- Rows that are looked through; packages,as they may be. Conditions: none. -/
import Derived.Test.YtphnnoolpagclaaGreatDoorTQPB
import Derived.Test.YtphnnoolpagclaaGreatDoorFwQ
set_option linter.all false
namespace Go.Id.Tryz
open Go Go.Id Go.Proofs Go.Id.Md
def ah8 {α:Type}(q:α->Bool):List α->Int->Int
 | [],_=>-1
 | e::es,i=>if q e then i else ah8 q es (i+1)
theorem fm6 {α:Type}(q:α->Bool):∀ (l:List α) (i:Nat),decide (0<=ah8 q l i)=l.any q:=by
 intro l
 induction l with
 | nil=>intro i; rfl
 | cons x l ih=>
  intro i;simp only[ah8,List.any_cons];by_cases h:q x=true
  ·simp only[h,if_true,Bool.true_or]; exact decide_eq_true (by omega)
  ·have h':q x=false:=by simpa using h
   have e:=ih (i+1);rw[Int.natCast_add,Int.natCast_one] at e;simp only[h',Bool.false_eq_true,if_false,Bool.false_or];exact e
theorem ar2 {α:Type}(q:α->Bool)(l:List α):decide (0<=ah8 q l 0)=l.any q:=fm6 q l 0
theorem ai9 (d:Dep):d.cs.length=5:=rfl
theorem af9 (d:Dep):d.cs.all IV.leaf=true:=rfl
theorem ag5 (d:Dep):d.cs.take 5=d.cs:=rfl
theorem ag6 (r:ab1):r.cs.all IV.leaf=true:=by rw[ab1.bb1]; rfl
theorem ao3 (r:ab1):r.cs.take 7=r.cs:=List.take_of_length_le (by rw[ae3]; exact Nat.le_refl _)
theorem dg9 (s:Str):(bm3 s).length=1:=rfl
theorem bu2 (l:List Dep):Bnd 0 (.aa5 (l.map Dep.cs)):=.aa5 _ fun e he c hc=>by
 obtain ⟨d,_,rfl⟩:=List.mem_map.1 he; exact fm2 d c hc
theorem ci1 (l:List Str):Bnd 0 (.aa5 (l.map bm3)):=.aa5 _ fun e he c hc=>by
 obtain ⟨d,_,rfl⟩:=List.mem_map.1 he; cases hc with|head=>exact .str _|tail _ h=>cases h
theorem bm7 (l:List ab1):Bnd 0 (.aa5 (l.map ab1.cs)):=.aa5 _ fun e he c hc=>by
 obtain ⟨d,_,rfl⟩:=List.mem_map.1 he; exact eh5 d c hc
theorem fm7 (xs:List Dep)(g:Nat)(first cap:List IV)(q:Dep->Bool)(hn:xs.length<2^62)(hok:okF Tryz.prog g=true)
  (hq:∀ x∈xs,PC Tryz.prog EE g (first++[IV.agg (Dep.cs x)]++cap) (.bool (q x))):PC Tryz.prog EE 146 [.aa5 (xs.map Dep.cs),.func (.func g) first cap] (.int .i64 (ah8 q xs 0)):=by
 refine av4 fok146 (nZ rfl) fun σ=>?_
 simp only[ic146,go_sem];refine ab5 noT (fun i fr s=>s=σ/\fr=[(0,.aa5 (xs.map Dep.cs)),(1,.func (.func g) first cap),(7,.int .i64 xs.length),(8,.int .i64 i)]/\ah8 q xs 0=ah8 q (xs.drop i) i) xs.length ⟨rfl,rfl,rfl⟩ ?_;rintro i fr s hi ⟨rfl,rfl,hf⟩;by_cases hlt:i<xs.length
 ·obtain ⟨x,ha,_,hdr,hget,_⟩:=ad5 xs i hlt;have c1:(i:Int)<xs.length:=by omega
  have c2:(0:Int)<=i:=by omega
  have w1:=ad9 (i:=i) (by omega);rw[hdr] at hf;simp only[go_sem,c1,c2,hget,ai9,ag5,af9];refine an2 hok (ew4 (hq x ha)) ?_;rintro v s ⟨rfl,rfl⟩;refine ⟨Nat.le_refl _,?_⟩
  cases hqe:q x with
  | true=>simp only[go_sem,hf,ah8,hqe,and_self]
  | false=>
   simp only[go_sem,w1];exact ⟨hlt,by rw[hf]; simp only[ah8,hqe,Bool.false_eq_true,if_false,Int.natCast_add,Int.natCast_one]⟩
 ·have hi':i=xs.length:=by omega
  subst hi';have c1:¬ (xs.length:Int)<xs.length:=by omega
  rw[List.drop_length] at hf;simp only[go_sem,c1,hf,ah8,and_self]
theorem cm8 (xs:List Dep)(g:Nat)(first cap:List IV)(q:Dep->Bool)(hn:xs.length<2^62)(hok:okF Tryz.prog g=true)
  (hq:∀ x∈xs,PC Tryz.prog EE g (first++[IV.agg (Dep.cs x)]++cap) (.bool (q x))):PC Tryz.prog EE 102 [.aa5 (xs.map Dep.cs),.func (.func g) first cap] (.bool (xs.any q)):=by
 refine av4 fok102 (nZ rfl) fun σ=>?_
 simp only[ic102,go_sem];refine aa4 fok146 (fm7 xs g first cap q hn hok hq) ?_;simp only[go_sem,ar2,and_self]
theorem fm8 (x:Dep)(g:Nat)(first cap:List IV)(b:Bool)(hb:∀ c∈first,Bnd 0 c)(hb2:∀ c∈cap,Bnd 0 c)(hok:okF Tryz.prog g=true)(hq:PC Tryz.prog EE g (first++[IV.agg (Dep.cs x)]++cap) (.bool b)) :
  PC Tryz.prog EE 175 [IV.agg (Dep.cs x),.ab7 [.func (.func g) first cap]] (.bool !b):=by
 refine av4 fok175 (nZ rfl) fun σ=>?_
 simp only[ic175,go_sem,ai9,ag5,af9];refine an2 hok (ew4 hq) ?_;rintro v s ⟨rfl,rfl⟩;refine ⟨Nat.le_refl _,?_⟩;simp only[go_sem,and_self]
theorem eh6 (xs:List Dep)(n:Int)(g:Nat)(first cap:List IV)(p:Dep->Bool)(hn:xs.length<2^62)(hb:∀ c∈first,Bnd 0 c)(hb2:∀ c∈cap,Bnd 0 c)(hok:okF Tryz.prog g=true)
  (hq:∀ x∈xs,PC Tryz.prog EE g (first++[IV.agg (Dep.cs x)]++cap) (.bool (p x))):PC Tryz.prog EE 129 [.aa5 (xs.map Dep.cs),.int .i64 n,.func (.func g) first cap] (.bool (decide ((xs.length:Int)<=n)&&xs.all p)):=by
 refine av4 fok129 (nZ rfl) fun σ=>?_
 by_cases hle:(xs.length:Int)<=n
 ·simp only[ic129,go_sem,hle];refine aa4 fok102 (cm8 xs 175 [] [.ab7 [.func (.func g) first cap]] (fun x=>!p x) hn fok175.1 fun x hx=>fm8 x g first cap (p x) hb hb2 hok (hq x hx)) ?_;have:(!xs.any fun x=>!p x)=xs.all p:=by rw[List.not_any_eq_all_not]; simp
  simp only[go_sem,hle,this,and_self]
 ·simp only[ic129,go_sem,hle,and_self]
theorem fm9 (xs:List Str)(g:Nat)(first cap:List IV)(q:Str->Bool)(hn:xs.length<2^62)(hok:okF Tryz.prog g=true)
  (hq:∀ x∈xs,PC Tryz.prog EE g (first++[IV.str x]++cap) (.bool (q x))):PC Tryz.prog EE 201 [.aa5 (xs.map bm3),.func (.func g) first cap] (.int .i64 (ah8 q xs 0)):=by
 refine av4 fok201 (nZ rfl) fun σ=>?_
 simp only[ic201,go_sem];refine ab5 noT (fun i fr s=>s=σ/\fr=[(0,.aa5 (xs.map bm3)),(1,.func (.func g) first cap),(7,.int .i64 xs.length),(8,.int .i64 i)]/\ah8 q xs 0=ah8 q (xs.drop i) i) xs.length ⟨rfl,rfl,rfl⟩ ?_;rintro i fr s hi ⟨rfl,rfl,hf⟩;by_cases hlt:i<xs.length
 ·obtain ⟨x,ha,_,hdr,hget,_⟩:=ad5 xs i hlt;have c1:(i:Int)<xs.length:=by omega
  have c2:(0:Int)<=i:=by omega
  have w1:=ad9 (i:=i) (by omega);rw[hdr] at hf;simp only[go_sem,c1,c2,hget,dg9,bm3];refine an2 hok (ew4 (hq x ha)) ?_;rintro v s ⟨rfl,rfl⟩;refine ⟨Nat.le_refl _,?_⟩
  cases hqe:q x with
  | true=>simp only[go_sem,hf,ah8,hqe,and_self]
  | false=>
   simp only[go_sem,w1];exact ⟨hlt,by rw[hf]; simp only[ah8,hqe,Bool.false_eq_true,if_false,Int.natCast_add,Int.natCast_one]⟩
 ·have hi':i=xs.length:=by omega
  subst hi';have c1:¬ (xs.length:Int)<xs.length:=by omega
  rw[List.drop_length] at hf;simp only[go_sem,c1,hf,ah8,and_self]
theorem fn1 (xs:List Str)(g:Nat)(first cap:List IV)(q:Str->Bool)(hn:xs.length<2^62)(hok:okF Tryz.prog g=true)
  (hq:∀ x∈xs,PC Tryz.prog EE g (first++[IV.str x]++cap) (.bool (q x))):PC Tryz.prog EE 176 [.aa5 (xs.map bm3),.func (.func g) first cap] (.bool (xs.any q)):=by
 refine av4 fok176 (nZ rfl) fun σ=>?_
 simp only[ic176,go_sem];refine aa4 fok201 (fm9 xs g first cap q hn hok hq) ?_;simp only[go_sem,ar2,and_self]
theorem fn2 (x:Str)(g:Nat)(first cap:List IV)(b:Bool)(hb:∀ c∈first,Bnd 0 c)(hb2:∀ c∈cap,Bnd 0 c)(hok:okF Tryz.prog g=true)(hq:PC Tryz.prog EE g (first++[IV.str x]++cap) (.bool b)) :
  PC Tryz.prog EE 177 [IV.str x,.ab7 [.func (.func g) first cap]] (.bool !b):=by
 refine av4 fok177 (nZ rfl) fun σ=>?_
 simp only[ic177,go_sem,dg9,bm3];refine an2 hok (ew4 hq) ?_;rintro v s ⟨rfl,rfl⟩;refine ⟨Nat.le_refl _,?_⟩;simp only[go_sem,and_self]
theorem gd1 (xs:List Str)(n:Int)(g:Nat)(first cap:List IV)(p:Str->Bool)(hn:xs.length<2^62)(hb:∀ c∈first,Bnd 0 c)(hb2:∀ c∈cap,Bnd 0 c)(hok:okF Tryz.prog g=true)
  (hq:∀ x∈xs,PC Tryz.prog EE g (first++[IV.str x]++cap) (.bool (p x))):PC Tryz.prog EE 130 [.aa5 (xs.map bm3),.int .i64 n,.func (.func g) first cap] (.bool (decide ((xs.length:Int)<=n)&&xs.all p)):=by
 refine av4 fok130 (nZ rfl) fun σ=>?_
 by_cases hle:(xs.length:Int)<=n
 ·simp only[ic130,go_sem,hle];refine aa4 fok176 (fn1 xs 177 [] [.ab7 [.func (.func g) first cap]] (fun x=>!p x) hn fok177.1 fun x hx=>fn2 x g first cap (p x) hb hb2 hok (hq x hx)) ?_;have:(!xs.any fun x=>!p x)=xs.all p:=by rw[List.not_any_eq_all_not]; simp
  simp only[go_sem,hle,this,and_self]
 ·simp only[ic130,go_sem,hle,and_self]
theorem ey4 (xs:List ab1)(g:Nat)(first cap:List IV)(q:ab1->Bool)(hn:xs.length<2^62)(hok:okF Tryz.prog g=true)
  (hq:∀ x∈xs,PC Tryz.prog EE g (first++[IV.agg (ab1.cs x)]++cap) (.bool (q x))):PC Tryz.prog EE 202 [.aa5 (xs.map ab1.cs),.func (.func g) first cap] (.int .i64 (ah8 q xs 0)):=by
 refine av4 fok202 (nZ rfl) fun σ=>?_
 simp only[ic202,go_sem];refine ab5 noT (fun i fr s=>s=σ/\fr=[(0,.aa5 (xs.map ab1.cs)),(1,.func (.func g) first cap),(7,.int .i64 xs.length),(8,.int .i64 i)]/\ah8 q xs 0=ah8 q (xs.drop i) i) xs.length ⟨rfl,rfl,rfl⟩ ?_;rintro i fr s hi ⟨rfl,rfl,hf⟩;by_cases hlt:i<xs.length
 ·obtain ⟨x,ha,_,hdr,hget,_⟩:=ad5 xs i hlt;have c1:(i:Int)<xs.length:=by omega
  have c2:(0:Int)<=i:=by omega
  have w1:=ad9 (i:=i) (by omega);rw[hdr] at hf;simp only[go_sem,c1,c2,hget,ae3,ao3,ag6];refine an2 hok (ew4 (hq x ha)) ?_;rintro v s ⟨rfl,rfl⟩;refine ⟨Nat.le_refl _,?_⟩
  cases hqe:q x with
  | true=>simp only[go_sem,hf,ah8,hqe,and_self]
  | false=>
   simp only[go_sem,w1];exact ⟨hlt,by rw[hf]; simp only[ah8,hqe,Bool.false_eq_true,if_false,Int.natCast_add,Int.natCast_one]⟩
 ·have hi':i=xs.length:=by omega
  subst hi';have c1:¬ (xs.length:Int)<xs.length:=by omega
  rw[List.drop_length] at hf;simp only[go_sem,c1,hf,ah8,and_self]
theorem ey5 (xs:List ab1)(g:Nat)(first cap:List IV)(q:ab1->Bool)(hn:xs.length<2^62)(hok:okF Tryz.prog g=true)
  (hq:∀ x∈xs,PC Tryz.prog EE g (first++[IV.agg (ab1.cs x)]++cap) (.bool (q x))):PC Tryz.prog EE 179 [.aa5 (xs.map ab1.cs),.func (.func g) first cap] (.bool (xs.any q)):=by
 refine av4 fok179 (nZ rfl) fun σ=>?_
 simp only[ic179,go_sem];refine aa4 fok202 (ey4 xs g first cap q hn hok hq) ?_;simp only[go_sem,ar2,and_self]
theorem ey6 (x:ab1)(g:Nat)(first cap:List IV)(b:Bool)(hb:∀ c∈first,Bnd 0 c)(hb2:∀ c∈cap,Bnd 0 c)(hok:okF Tryz.prog g=true)(hq:PC Tryz.prog EE g (first++[IV.agg (ab1.cs x)]++cap) (.bool b)) :
  PC Tryz.prog EE 180 [IV.agg (ab1.cs x),.ab7 [.func (.func g) first cap]] (.bool !b):=by
 refine av4 fok180 (nZ rfl) fun σ=>?_
 simp only[ic180,go_sem,ae3,ao3,ag6];refine an2 hok (ew4 hq) ?_;rintro v s ⟨rfl,rfl⟩;refine ⟨Nat.le_refl _,?_⟩;simp only[go_sem,and_self]
theorem fn3 (xs:List ab1)(n:Int)(g:Nat)(first cap:List IV)(p:ab1->Bool)(hn:xs.length<2^62)(hb:∀ c∈first,Bnd 0 c)(hb2:∀ c∈cap,Bnd 0 c)(hok:okF Tryz.prog g=true)
  (hq:∀ x∈xs,PC Tryz.prog EE g (first++[IV.agg (ab1.cs x)]++cap) (.bool (p x))):PC Tryz.prog EE 132 [.aa5 (xs.map ab1.cs),.int .i64 n,.func (.func g) first cap] (.bool (decide ((xs.length:Int)<=n)&&xs.all p)):=by
 refine av4 fok132 (nZ rfl) fun σ=>?_
 by_cases hle:(xs.length:Int)<=n
 ·simp only[ic132,go_sem,hle];refine aa4 fok179 (ey5 xs 180 [] [.ab7 [.func (.func g) first cap]] (fun x=>!p x) hn fok180.1 fun x hx=>ey6 x g first cap (p x) hb hb2 hok (hq x hx)) ?_;have:(!xs.any fun x=>!p x)=xs.all p:=by rw[List.not_any_eq_all_not]; simp
  simp only[go_sem,hle,this,and_self]
 ·simp only[ic132,go_sem,hle,and_self]
def eh7 (x:Int×List ab1):List IV:=[.int .u8 x.1,af8 x.2]
def fn4 (p:aa3):List (List IV):=p.rows.map eh7
theorem ay6 (p:aa3):∀ c∈p.cs,Bnd 0 c:=by
 intro c hc;simp only[aa3.cs,List.mem_cons,List.not_mem_nil,or_false] at hc;rcases hc with rfl|rfl|rfl|rfl|rfl|rfl|rfl|rfl|rfl|rfl|rfl|rfl|rfl|rfl|rfl<;>first|exact .str _|exact .int _ _|exact bu2 _|exact bm7 _|exact ci1 _
theorem aj7 (p:aa3):Bnd 0 (.agg p.cs):=.agg _ (ay6 p)
theorem al9 (p:aa3):p.cs.length=15:=rfl
theorem al2 (p:aa3):p.cs.take 15=p.cs:=rfl
theorem ah9 (p:aa3):p.cs.all IV.leaf=true:=rfl
theorem gd2 (p:aa3):PC Tryz.prog EE 131 [.agg p.cs] (.func (.func 178) [] [.ab7 p.cs]):=by
 refine av4 fok131 (nZ rfl) fun σ=>?_
 simp only[ic131,go_sem,ah9,and_self]
theorem ey8 (p:aa3):ee2 Tryz.prog EE (.func (.func 178) [] [.ab7 p.cs]) (fn4 p) (fun _=>True):=by
 intro yid I S σ hown hstab hy hi;refine ⟨fok178.1,?_⟩;refine C_f fok178 (nZ rfl) ?_;simp only[ic178,go_sem,aa3.cs];simp only[fn4,aa3.rows,List.map_cons,List.map_nil,eh7] at hi;have stop:∀ s,σ.next<=s.next->S s->hh4 σ.next I S (.tuple []) s:=fun s hn hs=>⟨hn,.inr hs⟩
 refine cg2 hy hi (fun s1 n1 i1=>?_) (fun s1 n1 h1=>by simp only[go_sem]; exact stop _ n1 h1);simp only[go_sem];refine cg2 hy i1 (fun s2 n2 i2=>?_) (fun s2 n2 h2=>by simp only[go_sem]; exact stop _ (by omega) h2);simp only[go_sem];refine cg2 hy i2 (fun s3 n3 i3=>?_) (fun s3 n3 h3=>by simp only[go_sem]; exact stop _ (by omega) h3);simp only[go_sem];refine cg2 hy i3 (fun s4 n4 i4=>?_) (fun s4 n4 h4=>by simp only[go_sem]; exact stop _ (by omega) h4);simp only[go_sem];refine cg2 hy i4 (fun s5 n5 i5=>?_) (fun s5 n5 h5=>by simp only[go_sem]; exact stop _ (by omega) h5);simp only[go_sem];refine cg2 hy i5 (fun s6 n6 i6=>?_) (fun s6 n6 h6=>by simp only[go_sem]; exact stop _ (by omega) h6);simp only[go_sem];exact ⟨by omega,.inl i6⟩
theorem gv1 (r:ab1)(wh:Int)(hf:r.fit)(hc:r.count<2^62):PC Tryz.prog EE 133 [.agg r.cs,.ab7 [.int .u8 wh]] (.bool (decide (bb2 r wh=0))):=by
 refine av4 fok133 (nZ rfl) fun σ=>?_
 simp only[ic133,go_sem,ae3,ao3,ag6];refine aa4 fok134 (dz1 r wh hf hc) ?_;simp only[go_sem,and_self]
theorem gd3 (l:List ab1)(wh:Int)(hn:l.length<2^62)(hf:∀ r∈l,r.fit/\r.count<2^31):PC Tryz.prog EE 132 [af8 l,.int .i64 32,.func (.func 133) [] [.ab7 [.int .u8 wh]]] (.bool (an9 l wh)):=by
 have h:=fn3 l 32 133 [] [.ab7 [.int .u8 wh]] (fun r=>decide (bb2 r wh=0)) hn (fun c hc=>by cases hc) (ae6 (.ab7 _ (ae6 (.int _ _)))) fok133.1 fun x hx=>gv1 x wh (hf x hx).1 (by have:=(hf x hx).2; omega)
 have e:decide ((l.length:Int)<=32)=decide (l.length<=32):=decide_eq_decide.2 (by omega);rw[e] at h;exact h
theorem fn5 {σ:Store}{f id:Nat}{cs:List IV}(ho:σ.obj id=some (.cells cs))(hb:∀ c∈cs,Bnd 0 c):dj1 σ 0 (.func (.func f) [] [.ptr id 0]) (.func (.func f) [] [.ab7 cs]):=by
 refine .func _ [] [] _ _ rfl rfl (fun i hi=>absurd hi (Nat.not_lt_zero _)) (fun i hi=>?_)
 match i,hi with
 | 0,_=>
  refine .ptr id 0 cs cs (Nat.not_lt_zero _) (.inl ho) (by omega) (fun j hj=>?_);rw[Nat.zero_add];exact .keep _ (hb _ (ac9 _ hj))
theorem dz2 {l:List Str}{i:Nat}{f:Str}(h0:0<i)(h:l.drop i=f::l.drop (i+1)):∃ a,l[i-1]? = some a/\rising (l.drop (i-1))=(Op.bytesLess a f&&rising (l.drop i)):=by
 have hlt:i<l.length:=by
  rcases Nat.lt_or_ge i l.length with h1|h1
  ·exact h1
  ·rw[List.drop_of_length_le h1] at h; cases h
 have h2:i-1<l.length:=by omega
 refine ⟨l[i-1],List.getElem?_eq_getElem h2,?_⟩;rw[List.drop_eq_getElem_cons h2,show i-1+1=i from by omega,h];rfl
theorem fn6 (p:aa3)(hf:p.Fit):PC Tryz.prog EE 84 [.agg p.cs] (.bool (am5 p)):=by
 refine af5 hE fok84 (nZ rfl) (ae6 (aj7 _)) ?_;simp only[ic84,go_sem,ah9,aa3.cs];refine aa4 fok88 (cd3 p.name hf.name) ?_
 cases h1:ap6 p.name with
 | false=>simp only[go_sem,am5,h1]; exact ab6 _
 | true=>
 simp only[go_sem];refine aa4 fok90 (cd4 p.name hf.name) ?_
 cases h2:bd1 p.name with
 | true=>simp only[go_sem,am5,h1,h2]; exact ab6 _
 | false=>
 simp only[go_sem];refine aa4 (v:=.bool (bd2 p.evr false)) fok91 (dq2 p.evr false hf.evr.1 hf.evr.2) ?_
 cases h3:bd2 p.evr false with
 | false=>simp only[go_sem,am5,h1,h2,h3]; exact ab6 _
 | true=>
 simp only[go_sem];refine aa4 fok128 (dy6 p.ao9) ?_;have h4':=bt7 p.ao9
 cases h4:ai7 p.ao9 with
 | false=>
  rw[h4] at h4'
  simp only[go_sem,h4',am5,h1,h2,h3,h4]; exact ab6 _
 | true=>
 rw[h4] at h4';simp only[go_sem,h4'];by_cases h5:p.vendor.length<=64
 case neg=>
  have h5':(64:Int)<p.vendor.length:=by omega
  simp only[go_sem,h5',am5,h1,h2,h3,h4,h5]; exact ab6 _
 have h5':¬ (64:Int)<p.vendor.length:=by omega
 simp only[go_sem,h5'];have e32:∀ n:Nat,decide ((n:Int)<=32)=decide (n<=32):=fun n=>decide_eq_decide.2 (by omega)
 have hp6:=eh6 p.provides 32 38 [] [] an8 (by have:=hf.as2.1; omega) (fun c hc=>by cases hc) (fun c hc=>by cases hc) fok38.1 fun x hx=>bt8 x (hf.as2.2 x hx).1 (hf.as2.2 x hx).2.1 (hf.as2.2 x hx).2.2
 have hp7:=eh6 p.aa8 32 38 [] [] an8 (by have:=hf.obs.1; omega) (fun c hc=>by cases hc) (fun c hc=>by cases hc) fok38.1 fun x hx=>bt8 x (hf.obs.2 x hx).1 (hf.obs.2 x hx).2.1 (hf.obs.2 x hx).2.2
 have hp8:=gd1 p.files 32 90 [] [] bd1 (by have:=hf.files.1; omega) (fun c hc=>by cases hc) (fun c hc=>by cases hc) fok90.1 fun x hx=>cd4 x (hf.files.2 x hx)
 rw[e32] at hp6 hp7 hp8;refine aa4 fok129 hp6 ?_
 cases h6:(decide (p.provides.length<=32)&&p.provides.all an8) with
 | false=>simp only[go_sem,am5,h1,h2,h3,h4,h5,h6]; exact ab6 _
 | true=>
 simp only[go_sem];refine aa4 fok129 hp7 ?_
 cases h7:(decide (p.aa8.length<=32)&&p.aa8.all an8) with
 | false=>simp only[go_sem,am5,h1,h2,h3,h4,h5,h6,h7]; exact ab6 _
 | true=>
 simp only[go_sem];refine aa4 fok130 hp8 ?_
 cases h8:(decide (p.files.length<=32)&&p.files.all bd1) with
 | false=>simp only[go_sem,am5,h1,h2,h3,h4,h5,h6,h7,h8]; exact ab6 _
 | true=>
 have hmay:am5 p=(rising p.files&&p.rows.all fun x=>an9 x.2 x.1):=by
  simp only[am5,h1,h2,h3,h4,h5,h6,h7,h8,aa3.rows,List.all_cons,List.all_nil,decide_true,Bool.not_false,Bool.and_true,Bool.true_and,Bool.and_assoc]
 simp only[go_sem];rw[hmay];refine ab5 noT (fun i fr s=>fr=[(1,.ab7 p.cs),(2,.ptr 0 0),(52,strs p.files),(53,.int .i64 p.files.length),(54,.int .i64 i)]/\(s.obj 0=some (.cells [.bool false])/\0<s.next)/\rising p.files=rising (p.files.drop (i-1))) p.files.length ⟨rfl,⟨?_,?_⟩,rfl⟩ ?_
 ·simp only[aa7,if_true]
 ·exact Nat.zero_lt_one
 rintro i fr s hi ⟨rfl,⟨q1,q2⟩,hr⟩;by_cases hlt:i<p.files.length
 ·obtain ⟨f,ha,hfi,hdr,hget,_⟩:=ad5 p.files i hlt;have c1:(i:Int)<p.files.length:=by omega
  have c2:(0:Int)<=i:=by omega
  have w1:=ad9 (i:=i) (by have:=hf.files.1; omega);by_cases h0:0<i
  ·have c0:(0:Int)<i:=by omega
   obtain ⟨a,ha1,ha2⟩:=dz2 h0 hdr;have hget':(p.files.map bm3).getD (i-1) []=bm3 a:=by simp[List.getD_eq_getElem?_getD,ha1]
   have w0:IntKind.i64.wrap ((i:Int)-1)=((i-1:Nat):Int):=by
    have:=hf.files.1;rw[wrap64 (by omega) (by omega)]; omega
   have c3:(0:Int)<=((i-1:Nat):Int):=by omega
   have c4:((i-1:Nat):Int)<p.files.length:=by omega
   rw[ha2] at hr;simp only[go_sem,c0,c1,c2,c3,c4,w0,w1,hget,hget',bm3,aa3.cs]
   cases hb:Op.bytesLess a f with
   | true=>
    rw[hb,Bool.true_and] at hr;simp only[go_sem,w1]
    exact ⟨hlt,⟨q1,q2⟩,hr⟩
   | false=>
    rw[hb,Bool.false_and] at hr;simp only[go_sem,q1,hr];exact ab6 _
  ·have c0:¬ (0:Int)<i:=by omega
   simp only[go_sem,c0,c1,c2,w1,hget,bm3];refine ⟨hlt,⟨q1,q2⟩,?_⟩;have:i=0:=by omega
   subst this; exact hr
 ·have hi':i=p.files.length:=by omega
  subst hi';have c1:¬ (p.files.length:Int)<p.files.length:=by omega
  have hrt:rising p.files=true:=by
   rw[hr]
   cases hl:p.files.drop (p.files.length-1) with
   | nil=>rfl
   | cons x l=>
    have h1:=congrArg List.length hl;rw[List.length_drop,List.length_cons] at h1;have h2:l=[]:=List.length_eq_zero_iff.1 (by omega);rw[h2]; rfl
  rw[hrt,Bool.true_and];simp only[go_sem,c1,al9,al2];refine aa4 fok131 (gd2 p) ?_;simp only[go_sem];have e0:¬ 0=s.next:=by omega
  have e1:¬ s.next=0:=by omega
  refine de1 (ey8 p) (fun rest s=>(0<s.next/\s.obj 0=some (.cells [.bool false]))/\∃ ts:List (Int×List ab1),rest=ts.map eh7/\(∀ x∈ts,x∈p.rows)/\(p.rows.all fun x:Int×List ab1=>an9 x.2 x.1)=ts.all fun x:Int×List ab1=>an9 x.2 x.1) (fun _ _ h=>trivial) ?_ ?_ ?_ ?_ ?_
  ·rintro rest s s' ⟨⟨q1,q2⟩,q4⟩ hn' hs';exact ⟨⟨by omega,by rw[hs' 0 q1]; exact q2⟩,q4⟩
  ·intro a ha;obtain ⟨x,_,rfl⟩:=List.mem_map.1 ha;rfl
  ·intro o;exact ⟨⟨by show 0<s.next+1; omega,by simp only[aa7,e0,if_false]; exact q1⟩,_,rfl,fun x hx=>hx,rfl⟩
  ·rintro L pre a rest t hev ⟨⟨q3,q4⟩,ts,hts,hin,hall⟩ hL hlt
   cases ts with
   | nil=>cases hts
   | cons x ts=>
    simp only[List.map_cons,List.cons.injEq] at hts;obtain ⟨rfl,rfl⟩:=hts;obtain ⟨wh,l⟩:=x;simp only[List.all_cons] at hall;have hfx:=hf.dx5 _ (hin _ (List.mem_cons_self ..));have hin':∀ y∈ts,y∈p.rows:=fun y hy=>hin y (List.mem_cons_of_mem _ hy)
    have u0:¬ 0=t.next:=by omega
    have u1:¬ s.next=t.next:=by omega
    have u2:¬ t.next=s.next:=by omega
    have u3:¬ t.next=0:=by omega
    simp only[eh7,go_sem,hL,q4,e0,e1,u0,u1,u2,u3];refine aj9 fok132 (de9 (args':=[af8 l,.int .i64 32,.func (.func 133) [] [.ab7 [.int .u8 wh]]]) hE rfl ?_ (by unfold IV.plain; rfl) (gd3 l wh (Nat.lt_of_lt_of_le hfx.1 (by decide)) hfx.2)) ?_
    ·intro i hi
     match i,hi with
     | 0,_=>exact .keep _ (bm7 l)
     | 1,_=>exact .keep _ (.int _ _)
     | 2,_=>exact fn5 (by simp only[aa7,u2,if_false,if_true]) (ae6 (.int _ _))
    ·rintro v s2 ⟨rfl,rfl⟩;refine ⟨Nat.le_refl _,?_⟩
     cases hok:an9 l wh with
     | true=>
      simp only[go_sem]
      refine dv5 (by simp only[ab4]; omega) (by simp only[aa7,if_true]) ⟨⟨by simp only[ab4]; omega,by simp only[aa7,e0,u0,if_false]; exact q4⟩,ts,rfl,hin',by rw[hall,hok,Bool.true_and]⟩
     | false=>
      simp only[go_sem,q4,e0,e1,u0,u1,u2,u3];refine ck3 (by simp only[ab4]; omega) (by simp only[aa7,if_true]) ?_;simp only[go_sem,e0,u0];rw[hall,hok]; exact ab6 _
  ·rintro t o ⟨⟨q3,q4⟩,ts,hts,_,hall⟩ hlt ho;have:ts=[]:=by cases ts with|nil=>rfl|cons _ _=>cases hts
   subst this;rw[hall];simp only[go_sem,e0,q4,List.all_nil];exact ab6 _
end Go.Id.Tryz
set_option linter.all false
namespace Go.Id.Tryz
open Go Go.Id Go.Proofs Go.Id.Md
def af2 (n:Int):List IV:=[.int .i64 n]
theorem ag1 (l:List Int):Bnd 0 (.aa5 (l.map af2)):=.aa5 _ fun e he c hc=>by
 obtain ⟨d,_,rfl⟩:=List.mem_map.1 he; cases hc with|head=>exact .int _ _|tail _ h=>cases h
theorem am4 {es:List (List IV)}(h:Bnd 0 (.aa5 es)):∀ e∈es,∀ c∈e,Bnd 0 c:=by
 cases h with|aa5 _ h=>exact h
theorem cm9 (xs:List Dep)(hn:xs.length<=2147483648):PC Tryz.prog EE 135 [.aa5 (xs.map Dep.cs)] (.aa5 (xs.map Dep.cs)):=by
 cases hx:xs with
 | nil=>
  rw[List.map_nil];refine br7 ?_ ?_
  ·refine af5 hE fok135 (nZ rfl) (ae6 .aa1) ?_;simp only[ic135,go_sem,ak2];exact .dd3
  ·refine af5 hE fok135 (nZ rfl) (ae6 .ae7) ?_;simp only[ic135,go_sem,ak2];rw[br9 (by simp only[aa7,if_true]) rfl];simp only[go_sem]
   exact .dl9 _ _ _ (by simp only[aa7,if_true]; exact fun h=>(by cases h))
 | cons a as'=>
  have hne:xs.map Dep.cs≠[]:=by rw[hx]; exact fun h=>(by cases h)
  have hall:∀ e∈xs.map Dep.cs,e.length=5/\e.all IV.leaf=true:=fun e he=>by
   obtain ⟨x,_,rfl⟩:=List.mem_map.1 he;exact ⟨ai9 x,af9 x⟩
  have hnil:co9 (.slice 0) (.aa5 (xs.map Dep.cs))=some false:=by rw[hx]; rfl
  rw[<- hx];refine af5 hE fok135 (nZ rfl) (ae6 (bu2 xs)) ?_;have hnil:∀ d,co9 (.slice d) (.aa5 (xs.map Dep.cs))=some false:=fun d=>by rw[hx]; rfl
  simp only[ic135,go_sem,ak2,hnil];rw[ck4 (by simp only[aa7,if_true]) hne hall (by rw[List.length_map]; exact hn)];simp only[go_sem];refine Grow.frz (esz:=5) (es:=xs.map Dep.cs) (.inr ⟨1,by rw[List.length_map],by simp only[aa7,if_true],Nat.lt_succ_self _⟩) (fun x hx=>(hall x hx).1) (fun _ _=>Nat.not_lt_zero _) (am4 (bu2 xs))
theorem dz3 (xs:List Str)(hn:xs.length<=2147483648):PC Tryz.prog EE 136 [.aa5 (xs.map bm3)] (.aa5 (xs.map bm3)):=by
 cases hx:xs with
 | nil=>
  rw[List.map_nil];refine br7 ?_ ?_
  ·refine af5 hE fok136 (nZ rfl) (ae6 .aa1) ?_;simp only[ic136,go_sem,ak2];exact .dd3
  ·refine af5 hE fok136 (nZ rfl) (ae6 .ae7) ?_;simp only[ic136,go_sem,ak2];rw[br9 (by simp only[aa7,if_true]) rfl];simp only[go_sem]
   exact .dl9 _ _ _ (by simp only[aa7,if_true]; exact fun h=>(by cases h))
 | cons a as'=>
  have hne:xs.map bm3≠[]:=by rw[hx]; exact fun h=>(by cases h)
  have hall:∀ e∈xs.map bm3,e.length=1/\e.all IV.leaf=true:=fun e he=>by
   obtain ⟨x,_,rfl⟩:=List.mem_map.1 he;exact ⟨rfl,rfl⟩
  have hnil:co9 (.slice 0) (.aa5 (xs.map bm3))=some false:=by rw[hx]; rfl
  rw[<- hx];refine af5 hE fok136 (nZ rfl) (ae6 (ci1 xs)) ?_;have hnil:∀ d,co9 (.slice d) (.aa5 (xs.map bm3))=some false:=fun d=>by rw[hx]; rfl
  simp only[ic136,go_sem,ak2,hnil];rw[ck4 (by simp only[aa7,if_true]) hne hall (by rw[List.length_map]; exact hn)];simp only[go_sem];refine Grow.frz (esz:=1) (es:=xs.map bm3) (.inr ⟨1,by rw[List.length_map],by simp only[aa7,if_true],Nat.lt_succ_self _⟩) (fun x hx=>(hall x hx).1) (fun _ _=>Nat.not_lt_zero _) (am4 (ci1 xs))
theorem au3 (xs:List ab1):∀ e∈xs.map ab1.cs,e.length=7/\e.all IV.leaf=true:=fun e he=>by
 obtain ⟨x,_,rfl⟩:=List.mem_map.1 he;exact ⟨ae3 x,ag6 x⟩
def dz4:List IV:=[.int .u8 0,.str [],.int .u8 0,.int .i64 0,.str [],.str [],.aa1]
theorem ar3 (r:ab1):r.fit->PC Tryz.prog EE 138 [.agg r.cs] (.agg r.cs):=by
 induction r using ab1.ind with
 | h k d xs ih=>
  intro hf;obtain ⟨f1,f2,f3,f4,f5⟩:=ab1.cz7.1 hf;refine af5 hE fok138 (nZ rfl) (ae6 (bt9 _)) ?_;rw[ab1.bb1];simp only[ic138,go_sem,ab1.kind,ab1.dep,ab1.args,bs8];refine ab5 noT (fun i fr s=>fr=[(2,.ptr 0 0),(3,.ptr 1 0),(12,.aa5 (xs.map ab1.cs)),(13,.int .i64 xs.length),(14,.int .i64 i)]/\∃ v,s.obj 0=some (.cells dz4)/\s.obj 1=some (.cells [.int .u8 k,.str d.name,.int .u8 d.op,.int .i64 d.evr.ao4,.str d.evr.ver,.str d.evr.rel,v])/\Grow s v 7 ((xs.take i).map ab1.cs)/\1<s.next) xs.length ⟨rfl,.aa1,?_,?_,.inl ⟨rfl,rfl⟩,?_⟩ ?_
  ·simp only[aa7,reduceCtorEq,Int.reduceLT,Int.reduceLE,Int.reduceToNat,Int.reduceAdd,Nat.reduceEqDiff,Nat.reduceAdd,Nat.reduceMul,Nat.reduceLT,Nat.reduceLeDiff,decide_true,decide_false,↓reduceIte,if_true,if_false]; rfl
  ·simp only[aa7,reduceCtorEq,Int.reduceLT,Int.reduceLE,Int.reduceToNat,Int.reduceAdd,Nat.reduceEqDiff,Nat.reduceAdd,Nat.reduceMul,Nat.reduceLT,Nat.reduceLeDiff,decide_true,decide_false,↓reduceIte,if_true,if_false]
  ·show 1<2; omega
  rintro i fr s hle ⟨rfl,v,q0,q1,hg,hn⟩;by_cases hlt:i<xs.length
  ·obtain ⟨a,ha,_,hdr,hget,htk⟩:=ad5 xs i hlt;have c1:(i:Int)<xs.length:=by omega
   have c2:(0:Int)<=i:=by omega
   have w1:=ad9 (i:=i) (by omega);have u0:¬ 1=s.next:=by omega
   have u1:¬ 0=s.next:=by omega
   simp only[go_sem,c1,c2,hget,ae3,ao3,ag6,q1,u0,bs8];refine aa2 (ih a ha (f5 a ha)) ?_;simp only[go_sem,ae3,ao3,ag6]
   have hg1:Grow ⟨s.next+1+8,((Store.put ⟨s.next+1,s.obj⟩ s.next (al1.cells dz4)).put s.next (al1.cells a.cs)).obj⟩ v 7 ((xs.take i).map ab1.cs):=hg.mono (by show s.next<=s.next+1+8; omega) fun id _ hid=>by
    have:¬ id=s.next:=by omega
    simp only[aa7,this,if_false]
   have hl0:((xs.take i).map ab1.cs).length=i:=by rw[List.length_map,List.length_take]; omega
   have ha2:=am2 (nid:=s.next+1+1+1+1+1+1) (e:=a.cs) hg1 (au3 _) ⟨ae3 a,ag6 a⟩ (by rw[hl0]; omega);have k1:=ai6 hg1 1 (.cells [.int .u8 k,.str d.name,.int .u8 d.op,.int .i64 d.evr.ao4,.str d.evr.ver,.str d.evr.rel,v]) (by simp only[aa7,u0,if_false]; exact q1) (fun _ h=>by cases h);have k0:=ai6 hg1 0 (.cells dz4) (by simp only[aa7,u1,if_false]; exact q0) (fun _ h=>by cases h);have kn:=ad8 (σ:=⟨s.next+1+8,((Store.put ⟨s.next+1,s.obj⟩ s.next (al1.cells dz4)).put s.next (al1.cells a.cs)).obj⟩) v;simp only[dz4] at ha2 k1 k0 kn;rw[ha2,hl0];have u2:¬ 1=s.next+1+1+1+1+1+1:=by omega
   have u3:¬ 0=s.next+1+1+1+1+1+1:=by omega
   have u4:¬ s.next+1+1+1+1+1+1=1:=by omega
   simp only[go_sem,u2,k1,w1];refine ⟨hlt,_,?_,rfl,?_,?_⟩
   ·simp only[u3,if_false,dz4]; exact k0
   ·rw[htk,List.map_append,List.map_cons,List.map_nil];refine .inr ⟨_,by rw[List.length_append,hl0]; rfl,?_,?_⟩
    ·simp only[aa7,u4,if_false,if_true]
    ·simp only[ab4,kn]; omega
   ·rw[kn]; show 1<s.next+1+8; omega
  ·have hi':i=xs.length:=by omega
   subst hi';have c1:¬ (xs.length:Int)<xs.length:=by omega
   rw[List.take_length] at hg
   have hvl:v.leaf=true:=by
    rcases hg with ⟨rfl,_⟩|⟨id,rfl,_⟩<;>rfl
   simp only[go_sem,c1,q0,q1,bs8,dz4,hvl];refine .agg _ _ rfl fun j hj=>?_
   have:j=0\/j=1\/j=2\/j=3\/j=4\/j=5\/j=6:=by
    simp only[List.length_cons,List.length_nil] at hj; omega
   rcases this with rfl|rfl|rfl|rfl|rfl|rfl|rfl
   ·exact ac7 _ _
   ·exact be3 _
   ·exact ac7 _ _
   ·exact ac7 _ _
   ·exact be3 _
   ·exact be3 _
   ·have hne:∀ id,v=.slice id 0 (xs.map ab1.cs).length 7->id≠0:=fun id hv=>hg.ne hv q0 (fun _ h=>by cases h)
    refine Grow.frz (hg.mono (Nat.le_refl _) fun id hv _=>?_) (fun x hx=>(au3 xs x hx).1) (fun _ _=>Nat.not_lt_zero _) (am4 (bm7 xs));have:¬ id=0:=hne id hv;simp only[aa7,this,if_false]
theorem at7 (xs:List ab1)(σ:Store)(hn:xs.length<=2147483648):C Tryz.prog EE 137 [.aa5 (xs.map ab1.cs)] σ fun v s=>(∀ i,i<σ.next->s.obj i=σ.obj i)/\σ.next<=s.next/\Grow s v 7 (xs.map ab1.cs)/\∀ id,v=.slice id 0 xs.length 7->σ.next<=id:=by
 cases hx:xs with
 | nil=>
  rw[List.map_nil];refine fy2 ?_ ?_
  ·refine C_f fok137 (nZ rfl) ?_;simp only[ic137,go_sem,ak2];exact ⟨fun _ _=>trivial,Nat.le_refl _,.inl ⟨rfl,rfl⟩,fun id h=>by cases h⟩
  ·refine C_f fok137 (nZ rfl) ?_;simp only[ic137,go_sem,ak2];rw[br9 (by simp only[aa7,if_true]) rfl];simp only[go_sem];refine ⟨fun i hi=>?_,by omega,.inr ⟨σ.next,rfl,by simp only[aa7,if_true]; rfl,by show σ.next<σ.next+2; omega⟩,fun id h=>by cases h; exact Nat.le_refl _⟩;have:¬ i=σ.next:=by omega
   simp only[this,if_false]
 | cons a as'=>
  have hne:xs.map ab1.cs≠[]:=by rw[hx]; exact fun h=>(by cases h)
  rw[<- hx];refine C_f fok137 (nZ rfl) ?_;have hnil:∀ d,co9 (.slice d) (.aa5 (xs.map ab1.cs))=some false:=fun d=>by rw[hx]; rfl
  simp only[ic137,go_sem,ak2,hnil];rw[ck4 (by simp only[aa7,if_true]) hne (au3 xs) (by rw[List.length_map]; exact hn)];simp only[go_sem];refine ⟨fun i hi=>?_,by omega,.inr ⟨σ.next+1,by rw[List.length_map],by simp only[aa7,if_true],by show σ.next+1<σ.next+2; omega⟩,fun id h=>by cases h; omega⟩;have h1:¬ i=σ.next:=by omega
  have h2:¬ i=σ.next+1:=by omega
  simp only[h1,h2,if_false]
def an3 (s:Store)(done:Prop)(v:IV)(l:List ab1):Prop:=(done/\Grow s v 7 (l.map ab1.cs))\/(¬ done/\v=af8 l)
theorem an3.mono {s s':Store}{done done':Prop}{v:IV}{l:List ab1}(h:an3 s done v l)(hd:done↔done')(hn:s.next<=s'.next)(ho:∀ id cs,id<s.next->s.obj id=some (.row cs)->s'.obj id=some (.row cs)):an3 s' done' v l:=by
 rcases h with ⟨h1,h2⟩|⟨h1,h2⟩
 ·refine .inl ⟨hd.1 h1,?_⟩;rcases h2 with h2|⟨id,hv,hr,hlt⟩
  ·exact .inl h2
  ·exact .inr ⟨id,hv,ho _ _ hlt hr,Nat.lt_of_lt_of_le hlt hn⟩
 ·exact .inr ⟨fun h=>h1 (hd.2 h),h2⟩
theorem an3.leaf {s:Store}{done:Prop}{v:IV}{l:List ab1}(h:an3 s done v l):v.leaf=true:=by
 rcases h with ⟨_,⟨rfl,_⟩|⟨id,rfl,_⟩⟩|⟨_,rfl⟩<;>rfl
def pcs (p:aa3)(v7 v8 v10 v11 v12 v13:IV):List IV :=
 [.str p.name,.int .i64 p.evr.ao4,.str p.evr.ver,.str p.evr.rel,.int .u8 p.ao9,.str p.vendor,deps p.provides,v7,v8,deps p.aa8,v10,v11,v12,v13,strs p.files]
def ba1:List IV:=[.str [],.int .i64 0,.str [],.str [],.int .u8 0,.str [],.aa1,.aa1,.aa1,.aa1,.aa1,.aa1,.aa1,.aa1,.aa1]
def cd5:List (List IV):=[[.ptr 0 7],[.ptr 0 8],[.ptr 0 10],[.ptr 0 11],[.ptr 0 12],[.ptr 0 13]]
theorem da6 (p:aa3)(hf:p.Fit):PC Tryz.prog EE 85 [.agg p.cs] (.agg p.cs):=by
 refine af5 hE fok85 (nZ rfl) (ae6 (aj7 _)) ?_;simp only[ic85,go_sem,ah9,aa3.cs,be5];refine aa2 (cm9 p.provides (by have:=hf.as2.1; omega)) ?_;simp only[go_sem,be5];refine aa2 (cm9 p.aa8 (by have:=hf.obs.1; omega)) ?_;simp only[go_sem,be5];refine aa2 (dz3 p.files (by have:=hf.files.1; omega)) ?_;simp only[go_sem,be5]
 refine ab5 noT (fun i fr s=>fr=[(1,.ptr 0 0),(2,.ptr 1 0),(25,.aa5 cd5),(26,.int .i64 6),(27,.int .i64 i)]/\(s.obj 1=some (.cells ba1)/\1<s.next)/\∃ v7 v8 v10 v11 v12 v13,s.obj 0=some (.cells (pcs p v7 v8 v10 v11 v12 v13)) /\
  an3 s (0<i) v7 p.requires/\an3 s (1<i) v8 p.conflicts/\an3 s (2<i) v10 p.ac1/\an3 s (3<i) v11 p.ab8/\an3 s (4<i) v12 p.suggests/\an3 s (5<i) v13 p.ad6) 6 ?_ ?_
 ·refine ⟨rfl,⟨?_,?_⟩,_,_,_,_,_,_,?_,.inr ⟨by omega,rfl⟩,.inr ⟨by omega,rfl⟩,.inr ⟨by omega,rfl⟩,.inr ⟨by omega,rfl⟩,.inr ⟨by omega,rfl⟩,.inr ⟨by omega,rfl⟩⟩
  ·simp only[aa7,reduceCtorEq,Int.reduceLT,Int.reduceLE,Int.reduceToNat,Int.reduceAdd,Nat.reduceEqDiff,Nat.reduceAdd,Nat.reduceMul,Nat.reduceLT,Nat.reduceLeDiff,decide_true,decide_false,↓reduceIte,if_true,if_false]; rfl
  ·simp only[ab4]; omega
  ·simp only[aa7,reduceCtorEq,Int.reduceLT,Int.reduceLE,Int.reduceToNat,Int.reduceAdd,Nat.reduceEqDiff,Nat.reduceAdd,Nat.reduceMul,Nat.reduceLT,Nat.reduceLeDiff,decide_true,decide_false,↓reduceIte,if_true,if_false]; rfl
 rintro i fr s hle ⟨rfl,⟨q1,hn⟩,v7,v8,v10,v11,v12,v13,q0,o7,o8,o10,o11,o12,o13⟩;by_cases hlt:i<6
 ·have hcase:i=0\/i=1\/i=2\/i=3\/i=4\/i=5:=by omega
  rcases hcase with rfl|rfl|rfl|rfl|rfl|rfl
  ·have hv:v7=af8 p.requires:=by
    rcases o7 with ⟨h,_⟩|⟨_,h⟩
    ·exact absurd h (by omega)
    ·exact h
   subst hv;have hfl:p.requires.length<2^31/\∀ r∈p.requires,r.fit/\r.count<2^31:=hf.dx5 (1,p.requires) (by simp[aa3.rows]);simp only[go_sem,cd5,q0,pcs,be5];refine aj9 fok137 (at7 p.requires _ (by have:=hfl.1; omega)) ?_;rintro v s2 ⟨hs2,hn2,hg,hid⟩;refine ⟨hn2,?_⟩;have q02:s2.obj 0=some (.cells (pcs p (af8 p.requires) v8 v10 v11 v12 v13)):=by rw[hs2 0 (by omega)]; exact q0
   have q12:s2.obj 1=some (.cells ba1):=by rw[hs2 1 (by omega)]; exact q1
   have hvl:v.leaf=true:=by rcases hg with ⟨rfl,_⟩|⟨id,rfl,_⟩<;>rfl
   have hvc:v.cs=[v]:=by rcases hg with ⟨rfl,_⟩|⟨id,rfl,_⟩<;>rfl
   have hlen:∀ s,cp5 0 s v=some (.int .i64 (p.requires.length:Nat)):=fun s=>by
    rcases hg with ⟨rfl,he⟩|⟨id,rfl,_⟩
    ·have:p.requires=[]:=by simpa using he
     rw[this]; rfl
    ·rw[bf2,List.length_map]
   simp only[go_sem,q02,pcs,hvl,hvc,hlen]
   refine ab5 noT (fun j fr t=>fr=[(1,.ptr 0 0),(2,.ptr 1 0),(4,.ptr 0 7),(25,.aa5 cd5),(26,.int .i64 6),(27,.int .i64 0),(39,v),(40,.int .i64 p.requires.length),(41,.int .i64 j)] /\
    s2.next<=t.next/\t.obj 0=some (.cells (pcs p v v8 v10 v11 v12 v13))/\t.obj 1=some (.cells ba1)/\∀ id cs,id<s2.next->s2.obj id=some (.row cs)->t.obj id=some (.row cs)) p.requires.length ⟨rfl,Nat.le_refl _,?_,?_,?_⟩ ?_
   ·simp only[aa7,if_true]; rfl
   ·simp only[aa7,reduceCtorEq,Int.reduceLT,Int.reduceLE,Int.reduceToNat,Int.reduceAdd,Nat.reduceEqDiff,Nat.reduceAdd,Nat.reduceMul,Nat.reduceLT,Nat.reduceLeDiff,decide_true,decide_false,↓reduceIte,if_false]; exact q12
   ·intro id cs hlt' h;have:¬ id=0:=fun e=>by subst e; rw[q02] at h; cases h
    simp only[aa7,this,if_false]; exact h
   rintro j fr t hle' ⟨rfl,t0,t1,t2,t3⟩;by_cases hjl:j<p.requires.length
   ·obtain ⟨a,ha,_,hdr,hget,_⟩:=ad5 p.requires j hjl;rcases hg with ⟨_,he⟩|⟨id,rfl,ho,hil⟩
    ·have:p.requires=[]:=by simpa using he
     rw[this] at hjl; cases hjl
    have hrow:=t3 _ _ hil ho;have c1:(j:Int)<p.requires.length:=by omega
    have c2:(0:Int)<=j:=by omega
    have w1:=ad9 (i:=j) (by have:=hfl.1; omega);have hid0:¬ id=0:=fun e=>by subst e; rw[t1] at hrow; cases hrow
    have hid1:¬ id=1:=fun e=>by subst e; rw[t2] at hrow; cases hrow
    have u0:¬ 0=t.next:=by omega
    have u1:¬ 1=t.next:=by omega
    have u2:¬ id=t.next:=by omega
    have u3:¬ t.next=id:=by omega
    have u4:¬ 0=id:=by omega
    have u5:¬ 1=id:=by omega
    have hall:=fun x hx=>(au3 p.requires x hx).1
    have hfl2:=au2 hall;have hpart:=ax3 hall j (by rw[List.length_map]; exact hjl);rw[hget] at hpart;rw[List.length_map] at hfl2;have hin:7<=((p.requires.map ab1.cs).flatten.drop (j*7)).length:=by rw[List.length_drop,hfl2]; omega
    have hin2:j*7+7<=(p.requires.map ab1.cs).flatten.length:=by rw[hfl2]; omega
    have hsame:az3 (p.requires.map ab1.cs).flatten (j*7) a.cs=(p.requires.map ab1.cs).flatten:=bc1 (by rw[ae3]; exact hpart) (by rw[ae3]; exact hin2);simp only[go_sem,c1,c2,hrow,hin,hpart,cg6,ae3,ag6,ao3,t1,pcs,u0,u2,u3,hid0];refine aa2 (ar3 a (hfl.2 a ha).1) ?_;simp only[go_sem,c1,c2,hrow,hin2,cg7,ae3,ag6,hsame,t1,pcs,u0,u2,w1];refine ⟨hjl,by omega,?_,?_,?_⟩
    ·simp only[u4,if_false]
    ·simp only[u5,u1,if_false]; exact t2
    ·intro id' cs hlt' h;have h':=t3 id' cs hlt' h;have u6:¬ id'=t.next:=by omega
     by_cases e:id'=id
     ·subst e;rw[hrow] at h';simp only[if_true]; exact h'
     ·simp only[e,u6,if_false]; exact h'
   ·have hj':j=p.requires.length:=by omega
    subst hj';have c1:¬ (p.requires.length:Int)<p.requires.length:=by omega
    have hgt:Grow t v 7 (p.requires.map ab1.cs):=by
     rcases hg with h|⟨id,rfl,ho,hil⟩
     ·exact .inl h
     ·exact .inr ⟨id,rfl,t3 _ _ hil ho,by omega⟩
    have hrows:∀ id cs,id<s.next->s.obj id=some (.row cs)->t.obj id=some (.row cs):=fun id cs hlt' h=>t3 id cs (by omega) (by rw[hs2 id hlt']; exact h)
    have mm:∀ {d d':Prop} (u:IV) (l:List ab1),an3 s d u l->(d↔d')->an3 t d' u l:=fun u l h hd=>h.mono hd (by omega) hrows
    simp only[go_sem,c1];exact ⟨rfl,⟨t2,by omega⟩,v,v8,v10,v11,v12,v13,t1,.inl ⟨by simp,hgt⟩,mm _ _ o8 (by simp),mm _ _ o10 (by simp),mm _ _ o11 (by simp),mm _ _ o12 (by simp),mm _ _ o13 (by simp)⟩
  ·have hv:v8=af8 p.conflicts:=by
    rcases o8 with ⟨h,_⟩|⟨_,h⟩
    ·exact absurd h (by omega)
    ·exact h
   subst hv;have hfl:p.conflicts.length<2^31/\∀ r∈p.conflicts,r.fit/\r.count<2^31:=hf.dx5 (2,p.conflicts) (by simp[aa3.rows]);simp only[go_sem,cd5,q0,pcs,be5];refine aj9 fok137 (at7 p.conflicts _ (by have:=hfl.1; omega)) ?_;rintro v s2 ⟨hs2,hn2,hg,hid⟩;refine ⟨hn2,?_⟩;have q02:s2.obj 0=some (.cells (pcs p v7 (af8 p.conflicts) v10 v11 v12 v13)):=by rw[hs2 0 (by omega)]; exact q0
   have q12:s2.obj 1=some (.cells ba1):=by rw[hs2 1 (by omega)]; exact q1
   have hvl:v.leaf=true:=by rcases hg with ⟨rfl,_⟩|⟨id,rfl,_⟩<;>rfl
   have hvc:v.cs=[v]:=by rcases hg with ⟨rfl,_⟩|⟨id,rfl,_⟩<;>rfl
   have hlen:∀ s,cp5 0 s v=some (.int .i64 (p.conflicts.length:Nat)):=fun s=>by
    rcases hg with ⟨rfl,he⟩|⟨id,rfl,_⟩
    ·have:p.conflicts=[]:=by simpa using he
     rw[this]; rfl
    ·rw[bf2,List.length_map]
   simp only[go_sem,q02,pcs,hvl,hvc,hlen]
   refine ab5 noT (fun j fr t=>fr=[(1,.ptr 0 0),(2,.ptr 1 0),(4,.ptr 0 8),(25,.aa5 cd5),(26,.int .i64 6),(27,.int .i64 1),(39,v),(40,.int .i64 p.conflicts.length),(41,.int .i64 j)] /\
    s2.next<=t.next/\t.obj 0=some (.cells (pcs p v7 v v10 v11 v12 v13))/\t.obj 1=some (.cells ba1)/\∀ id cs,id<s2.next->s2.obj id=some (.row cs)->t.obj id=some (.row cs)) p.conflicts.length ⟨rfl,Nat.le_refl _,?_,?_,?_⟩ ?_
   ·simp only[aa7,if_true]; rfl
   ·simp only[aa7,reduceCtorEq,Int.reduceLT,Int.reduceLE,Int.reduceToNat,Int.reduceAdd,Nat.reduceEqDiff,Nat.reduceAdd,Nat.reduceMul,Nat.reduceLT,Nat.reduceLeDiff,decide_true,decide_false,↓reduceIte,if_false]; exact q12
   ·intro id cs hlt' h;have:¬ id=0:=fun e=>by subst e; rw[q02] at h; cases h
    simp only[aa7,this,if_false]; exact h
   rintro j fr t hle' ⟨rfl,t0,t1,t2,t3⟩;by_cases hjl:j<p.conflicts.length
   ·obtain ⟨a,ha,_,hdr,hget,_⟩:=ad5 p.conflicts j hjl;rcases hg with ⟨_,he⟩|⟨id,rfl,ho,hil⟩
    ·have:p.conflicts=[]:=by simpa using he
     rw[this] at hjl; cases hjl
    have hrow:=t3 _ _ hil ho;have c1:(j:Int)<p.conflicts.length:=by omega
    have c2:(0:Int)<=j:=by omega
    have w1:=ad9 (i:=j) (by have:=hfl.1; omega);have hid0:¬ id=0:=fun e=>by subst e; rw[t1] at hrow; cases hrow
    have hid1:¬ id=1:=fun e=>by subst e; rw[t2] at hrow; cases hrow
    have u0:¬ 0=t.next:=by omega
    have u1:¬ 1=t.next:=by omega
    have u2:¬ id=t.next:=by omega
    have u3:¬ t.next=id:=by omega
    have u4:¬ 0=id:=by omega
    have u5:¬ 1=id:=by omega
    have hall:=fun x hx=>(au3 p.conflicts x hx).1
    have hfl2:=au2 hall;have hpart:=ax3 hall j (by rw[List.length_map]; exact hjl);rw[hget] at hpart;rw[List.length_map] at hfl2;have hin:7<=((p.conflicts.map ab1.cs).flatten.drop (j*7)).length:=by rw[List.length_drop,hfl2]; omega
    have hin2:j*7+7<=(p.conflicts.map ab1.cs).flatten.length:=by rw[hfl2]; omega
    have hsame:az3 (p.conflicts.map ab1.cs).flatten (j*7) a.cs=(p.conflicts.map ab1.cs).flatten:=bc1 (by rw[ae3]; exact hpart) (by rw[ae3]; exact hin2);simp only[go_sem,c1,c2,hrow,hin,hpart,cg6,ae3,ag6,ao3,t1,pcs,u0,u2,u3,hid0];refine aa2 (ar3 a (hfl.2 a ha).1) ?_;simp only[go_sem,c1,c2,hrow,hin2,cg7,ae3,ag6,hsame,t1,pcs,u0,u2,w1];refine ⟨hjl,by omega,?_,?_,?_⟩
    ·simp only[u4,if_false]
    ·simp only[u5,u1,if_false]; exact t2
    ·intro id' cs hlt' h;have h':=t3 id' cs hlt' h;have u6:¬ id'=t.next:=by omega
     by_cases e:id'=id
     ·subst e;rw[hrow] at h';simp only[if_true]; exact h'
     ·simp only[e,u6,if_false]; exact h'
   ·have hj':j=p.conflicts.length:=by omega
    subst hj';have c1:¬ (p.conflicts.length:Int)<p.conflicts.length:=by omega
    have hgt:Grow t v 7 (p.conflicts.map ab1.cs):=by
     rcases hg with h|⟨id,rfl,ho,hil⟩
     ·exact .inl h
     ·exact .inr ⟨id,rfl,t3 _ _ hil ho,by omega⟩
    have hrows:∀ id cs,id<s.next->s.obj id=some (.row cs)->t.obj id=some (.row cs):=fun id cs hlt' h=>t3 id cs (by omega) (by rw[hs2 id hlt']; exact h)
    have mm:∀ {d d':Prop} (u:IV) (l:List ab1),an3 s d u l->(d↔d')->an3 t d' u l:=fun u l h hd=>h.mono hd (by omega) hrows
    simp only[go_sem,c1];exact ⟨rfl,⟨t2,by omega⟩,v7,v,v10,v11,v12,v13,t1,mm _ _ o7 (by simp),.inl ⟨by simp,hgt⟩,mm _ _ o10 (by simp),mm _ _ o11 (by simp),mm _ _ o12 (by simp),mm _ _ o13 (by simp)⟩
  ·have hv:v10=af8 p.ac1:=by
    rcases o10 with ⟨h,_⟩|⟨_,h⟩
    ·exact absurd h (by omega)
    ·exact h
   subst hv;have hfl:p.ac1.length<2^31/\∀ r∈p.ac1,r.fit/\r.count<2^31:=hf.dx5 (1,p.ac1) (by simp[aa3.rows]);simp only[go_sem,cd5,q0,pcs,be5];refine aj9 fok137 (at7 p.ac1 _ (by have:=hfl.1; omega)) ?_;rintro v s2 ⟨hs2,hn2,hg,hid⟩;refine ⟨hn2,?_⟩;have q02:s2.obj 0=some (.cells (pcs p v7 v8 (af8 p.ac1) v11 v12 v13)):=by rw[hs2 0 (by omega)]; exact q0
   have q12:s2.obj 1=some (.cells ba1):=by rw[hs2 1 (by omega)]; exact q1
   have hvl:v.leaf=true:=by rcases hg with ⟨rfl,_⟩|⟨id,rfl,_⟩<;>rfl
   have hvc:v.cs=[v]:=by rcases hg with ⟨rfl,_⟩|⟨id,rfl,_⟩<;>rfl
   have hlen:∀ s,cp5 0 s v=some (.int .i64 (p.ac1.length:Nat)):=fun s=>by
    rcases hg with ⟨rfl,he⟩|⟨id,rfl,_⟩
    ·have:p.ac1=[]:=by simpa using he
     rw[this]; rfl
    ·rw[bf2,List.length_map]
   simp only[go_sem,q02,pcs,hvl,hvc,hlen]
   refine ab5 noT (fun j fr t=>fr=[(1,.ptr 0 0),(2,.ptr 1 0),(4,.ptr 0 10),(25,.aa5 cd5),(26,.int .i64 6),(27,.int .i64 2),(39,v),(40,.int .i64 p.ac1.length),(41,.int .i64 j)] /\
    s2.next<=t.next/\t.obj 0=some (.cells (pcs p v7 v8 v v11 v12 v13))/\t.obj 1=some (.cells ba1)/\∀ id cs,id<s2.next->s2.obj id=some (.row cs)->t.obj id=some (.row cs)) p.ac1.length ⟨rfl,Nat.le_refl _,?_,?_,?_⟩ ?_
   ·simp only[aa7,if_true]; rfl
   ·simp only[aa7,reduceCtorEq,Int.reduceLT,Int.reduceLE,Int.reduceToNat,Int.reduceAdd,Nat.reduceEqDiff,Nat.reduceAdd,Nat.reduceMul,Nat.reduceLT,Nat.reduceLeDiff,decide_true,decide_false,↓reduceIte,if_false]; exact q12
   ·intro id cs hlt' h;have:¬ id=0:=fun e=>by subst e; rw[q02] at h; cases h
    simp only[aa7,this,if_false]; exact h
   rintro j fr t hle' ⟨rfl,t0,t1,t2,t3⟩;by_cases hjl:j<p.ac1.length
   ·obtain ⟨a,ha,_,hdr,hget,_⟩:=ad5 p.ac1 j hjl;rcases hg with ⟨_,he⟩|⟨id,rfl,ho,hil⟩
    ·have:p.ac1=[]:=by simpa using he
     rw[this] at hjl; cases hjl
    have hrow:=t3 _ _ hil ho;have c1:(j:Int)<p.ac1.length:=by omega
    have c2:(0:Int)<=j:=by omega
    have w1:=ad9 (i:=j) (by have:=hfl.1; omega);have hid0:¬ id=0:=fun e=>by subst e; rw[t1] at hrow; cases hrow
    have hid1:¬ id=1:=fun e=>by subst e; rw[t2] at hrow; cases hrow
    have u0:¬ 0=t.next:=by omega
    have u1:¬ 1=t.next:=by omega
    have u2:¬ id=t.next:=by omega
    have u3:¬ t.next=id:=by omega
    have u4:¬ 0=id:=by omega
    have u5:¬ 1=id:=by omega
    have hall:=fun x hx=>(au3 p.ac1 x hx).1
    have hfl2:=au2 hall;have hpart:=ax3 hall j (by rw[List.length_map]; exact hjl);rw[hget] at hpart;rw[List.length_map] at hfl2;have hin:7<=((p.ac1.map ab1.cs).flatten.drop (j*7)).length:=by rw[List.length_drop,hfl2]; omega
    have hin2:j*7+7<=(p.ac1.map ab1.cs).flatten.length:=by rw[hfl2]; omega
    have hsame:az3 (p.ac1.map ab1.cs).flatten (j*7) a.cs=(p.ac1.map ab1.cs).flatten:=bc1 (by rw[ae3]; exact hpart) (by rw[ae3]; exact hin2);simp only[go_sem,c1,c2,hrow,hin,hpart,cg6,ae3,ag6,ao3,t1,pcs,u0,u2,u3,hid0];refine aa2 (ar3 a (hfl.2 a ha).1) ?_;simp only[go_sem,c1,c2,hrow,hin2,cg7,ae3,ag6,hsame,t1,pcs,u0,u2,w1];refine ⟨hjl,by omega,?_,?_,?_⟩
    ·simp only[u4,if_false]
    ·simp only[u5,u1,if_false]; exact t2
    ·intro id' cs hlt' h;have h':=t3 id' cs hlt' h;have u6:¬ id'=t.next:=by omega
     by_cases e:id'=id
     ·subst e;rw[hrow] at h';simp only[if_true]; exact h'
     ·simp only[e,u6,if_false]; exact h'
   ·have hj':j=p.ac1.length:=by omega
    subst hj';have c1:¬ (p.ac1.length:Int)<p.ac1.length:=by omega
    have hgt:Grow t v 7 (p.ac1.map ab1.cs):=by
     rcases hg with h|⟨id,rfl,ho,hil⟩
     ·exact .inl h
     ·exact .inr ⟨id,rfl,t3 _ _ hil ho,by omega⟩
    have hrows:∀ id cs,id<s.next->s.obj id=some (.row cs)->t.obj id=some (.row cs):=fun id cs hlt' h=>t3 id cs (by omega) (by rw[hs2 id hlt']; exact h)
    have mm:∀ {d d':Prop} (u:IV) (l:List ab1),an3 s d u l->(d↔d')->an3 t d' u l:=fun u l h hd=>h.mono hd (by omega) hrows
    simp only[go_sem,c1];exact ⟨rfl,⟨t2,by omega⟩,v7,v8,v,v11,v12,v13,t1,mm _ _ o7 (by simp),mm _ _ o8 (by simp),.inl ⟨by simp,hgt⟩,mm _ _ o11 (by simp),mm _ _ o12 (by simp),mm _ _ o13 (by simp)⟩
  ·have hv:v11=af8 p.ab8:=by
    rcases o11 with ⟨h,_⟩|⟨_,h⟩
    ·exact absurd h (by omega)
    ·exact h
   subst hv;have hfl:p.ab8.length<2^31/\∀ r∈p.ab8,r.fit/\r.count<2^31:=hf.dx5 (3,p.ab8) (by simp[aa3.rows]);simp only[go_sem,cd5,q0,pcs,be5];refine aj9 fok137 (at7 p.ab8 _ (by have:=hfl.1; omega)) ?_;rintro v s2 ⟨hs2,hn2,hg,hid⟩;refine ⟨hn2,?_⟩;have q02:s2.obj 0=some (.cells (pcs p v7 v8 v10 (af8 p.ab8) v12 v13)):=by rw[hs2 0 (by omega)]; exact q0
   have q12:s2.obj 1=some (.cells ba1):=by rw[hs2 1 (by omega)]; exact q1
   have hvl:v.leaf=true:=by rcases hg with ⟨rfl,_⟩|⟨id,rfl,_⟩<;>rfl
   have hvc:v.cs=[v]:=by rcases hg with ⟨rfl,_⟩|⟨id,rfl,_⟩<;>rfl
   have hlen:∀ s,cp5 0 s v=some (.int .i64 (p.ab8.length:Nat)):=fun s=>by
    rcases hg with ⟨rfl,he⟩|⟨id,rfl,_⟩
    ·have:p.ab8=[]:=by simpa using he
     rw[this]; rfl
    ·rw[bf2,List.length_map]
   simp only[go_sem,q02,pcs,hvl,hvc,hlen]
   refine ab5 noT (fun j fr t=>fr=[(1,.ptr 0 0),(2,.ptr 1 0),(4,.ptr 0 11),(25,.aa5 cd5),(26,.int .i64 6),(27,.int .i64 3),(39,v),(40,.int .i64 p.ab8.length),(41,.int .i64 j)] /\
    s2.next<=t.next/\t.obj 0=some (.cells (pcs p v7 v8 v10 v v12 v13))/\t.obj 1=some (.cells ba1)/\∀ id cs,id<s2.next->s2.obj id=some (.row cs)->t.obj id=some (.row cs)) p.ab8.length ⟨rfl,Nat.le_refl _,?_,?_,?_⟩ ?_
   ·simp only[aa7,if_true]; rfl
   ·simp only[aa7,reduceCtorEq,Int.reduceLT,Int.reduceLE,Int.reduceToNat,Int.reduceAdd,Nat.reduceEqDiff,Nat.reduceAdd,Nat.reduceMul,Nat.reduceLT,Nat.reduceLeDiff,decide_true,decide_false,↓reduceIte,if_false]; exact q12
   ·intro id cs hlt' h;have:¬ id=0:=fun e=>by subst e; rw[q02] at h; cases h
    simp only[aa7,this,if_false]; exact h
   rintro j fr t hle' ⟨rfl,t0,t1,t2,t3⟩;by_cases hjl:j<p.ab8.length
   ·obtain ⟨a,ha,_,hdr,hget,_⟩:=ad5 p.ab8 j hjl;rcases hg with ⟨_,he⟩|⟨id,rfl,ho,hil⟩
    ·have:p.ab8=[]:=by simpa using he
     rw[this] at hjl; cases hjl
    have hrow:=t3 _ _ hil ho;have c1:(j:Int)<p.ab8.length:=by omega
    have c2:(0:Int)<=j:=by omega
    have w1:=ad9 (i:=j) (by have:=hfl.1; omega);have hid0:¬ id=0:=fun e=>by subst e; rw[t1] at hrow; cases hrow
    have hid1:¬ id=1:=fun e=>by subst e; rw[t2] at hrow; cases hrow
    have u0:¬ 0=t.next:=by omega
    have u1:¬ 1=t.next:=by omega
    have u2:¬ id=t.next:=by omega
    have u3:¬ t.next=id:=by omega
    have u4:¬ 0=id:=by omega
    have u5:¬ 1=id:=by omega
    have hall:=fun x hx=>(au3 p.ab8 x hx).1
    have hfl2:=au2 hall;have hpart:=ax3 hall j (by rw[List.length_map]; exact hjl);rw[hget] at hpart;rw[List.length_map] at hfl2;have hin:7<=((p.ab8.map ab1.cs).flatten.drop (j*7)).length:=by rw[List.length_drop,hfl2]; omega
    have hin2:j*7+7<=(p.ab8.map ab1.cs).flatten.length:=by rw[hfl2]; omega
    have hsame:az3 (p.ab8.map ab1.cs).flatten (j*7) a.cs=(p.ab8.map ab1.cs).flatten:=bc1 (by rw[ae3]; exact hpart) (by rw[ae3]; exact hin2);simp only[go_sem,c1,c2,hrow,hin,hpart,cg6,ae3,ag6,ao3,t1,pcs,u0,u2,u3,hid0];refine aa2 (ar3 a (hfl.2 a ha).1) ?_;simp only[go_sem,c1,c2,hrow,hin2,cg7,ae3,ag6,hsame,t1,pcs,u0,u2,w1];refine ⟨hjl,by omega,?_,?_,?_⟩
    ·simp only[u4,if_false]
    ·simp only[u5,u1,if_false]; exact t2
    ·intro id' cs hlt' h;have h':=t3 id' cs hlt' h;have u6:¬ id'=t.next:=by omega
     by_cases e:id'=id
     ·subst e;rw[hrow] at h';simp only[if_true]; exact h'
     ·simp only[e,u6,if_false]; exact h'
   ·have hj':j=p.ab8.length:=by omega
    subst hj';have c1:¬ (p.ab8.length:Int)<p.ab8.length:=by omega
    have hgt:Grow t v 7 (p.ab8.map ab1.cs):=by
     rcases hg with h|⟨id,rfl,ho,hil⟩
     ·exact .inl h
     ·exact .inr ⟨id,rfl,t3 _ _ hil ho,by omega⟩
    have hrows:∀ id cs,id<s.next->s.obj id=some (.row cs)->t.obj id=some (.row cs):=fun id cs hlt' h=>t3 id cs (by omega) (by rw[hs2 id hlt']; exact h)
    have mm:∀ {d d':Prop} (u:IV) (l:List ab1),an3 s d u l->(d↔d')->an3 t d' u l:=fun u l h hd=>h.mono hd (by omega) hrows
    simp only[go_sem,c1];exact ⟨rfl,⟨t2,by omega⟩,v7,v8,v10,v,v12,v13,t1,mm _ _ o7 (by simp),mm _ _ o8 (by simp),mm _ _ o10 (by simp),.inl ⟨by simp,hgt⟩,mm _ _ o12 (by simp),mm _ _ o13 (by simp)⟩
  ·have hv:v12=af8 p.suggests:=by
    rcases o12 with ⟨h,_⟩|⟨_,h⟩
    ·exact absurd h (by omega)
    ·exact h
   subst hv;have hfl:p.suggests.length<2^31/\∀ r∈p.suggests,r.fit/\r.count<2^31:=hf.dx5 (1,p.suggests) (by simp[aa3.rows]);simp only[go_sem,cd5,q0,pcs,be5];refine aj9 fok137 (at7 p.suggests _ (by have:=hfl.1; omega)) ?_;rintro v s2 ⟨hs2,hn2,hg,hid⟩;refine ⟨hn2,?_⟩;have q02:s2.obj 0=some (.cells (pcs p v7 v8 v10 v11 (af8 p.suggests) v13)):=by rw[hs2 0 (by omega)]; exact q0
   have q12:s2.obj 1=some (.cells ba1):=by rw[hs2 1 (by omega)]; exact q1
   have hvl:v.leaf=true:=by rcases hg with ⟨rfl,_⟩|⟨id,rfl,_⟩<;>rfl
   have hvc:v.cs=[v]:=by rcases hg with ⟨rfl,_⟩|⟨id,rfl,_⟩<;>rfl
   have hlen:∀ s,cp5 0 s v=some (.int .i64 (p.suggests.length:Nat)):=fun s=>by
    rcases hg with ⟨rfl,he⟩|⟨id,rfl,_⟩
    ·have:p.suggests=[]:=by simpa using he
     rw[this]; rfl
    ·rw[bf2,List.length_map]
   simp only[go_sem,q02,pcs,hvl,hvc,hlen]
   refine ab5 noT (fun j fr t=>fr=[(1,.ptr 0 0),(2,.ptr 1 0),(4,.ptr 0 12),(25,.aa5 cd5),(26,.int .i64 6),(27,.int .i64 4),(39,v),(40,.int .i64 p.suggests.length),(41,.int .i64 j)] /\
    s2.next<=t.next/\t.obj 0=some (.cells (pcs p v7 v8 v10 v11 v v13))/\t.obj 1=some (.cells ba1)/\∀ id cs,id<s2.next->s2.obj id=some (.row cs)->t.obj id=some (.row cs)) p.suggests.length ⟨rfl,Nat.le_refl _,?_,?_,?_⟩ ?_
   ·simp only[aa7,if_true]; rfl
   ·simp only[aa7,reduceCtorEq,Int.reduceLT,Int.reduceLE,Int.reduceToNat,Int.reduceAdd,Nat.reduceEqDiff,Nat.reduceAdd,Nat.reduceMul,Nat.reduceLT,Nat.reduceLeDiff,decide_true,decide_false,↓reduceIte,if_false]; exact q12
   ·intro id cs hlt' h;have:¬ id=0:=fun e=>by subst e; rw[q02] at h; cases h
    simp only[aa7,this,if_false]; exact h
   rintro j fr t hle' ⟨rfl,t0,t1,t2,t3⟩;by_cases hjl:j<p.suggests.length
   ·obtain ⟨a,ha,_,hdr,hget,_⟩:=ad5 p.suggests j hjl;rcases hg with ⟨_,he⟩|⟨id,rfl,ho,hil⟩
    ·have:p.suggests=[]:=by simpa using he
     rw[this] at hjl; cases hjl
    have hrow:=t3 _ _ hil ho;have c1:(j:Int)<p.suggests.length:=by omega
    have c2:(0:Int)<=j:=by omega
    have w1:=ad9 (i:=j) (by have:=hfl.1; omega);have hid0:¬ id=0:=fun e=>by subst e; rw[t1] at hrow; cases hrow
    have hid1:¬ id=1:=fun e=>by subst e; rw[t2] at hrow; cases hrow
    have u0:¬ 0=t.next:=by omega
    have u1:¬ 1=t.next:=by omega
    have u2:¬ id=t.next:=by omega
    have u3:¬ t.next=id:=by omega
    have u4:¬ 0=id:=by omega
    have u5:¬ 1=id:=by omega
    have hall:=fun x hx=>(au3 p.suggests x hx).1
    have hfl2:=au2 hall;have hpart:=ax3 hall j (by rw[List.length_map]; exact hjl);rw[hget] at hpart;rw[List.length_map] at hfl2;have hin:7<=((p.suggests.map ab1.cs).flatten.drop (j*7)).length:=by rw[List.length_drop,hfl2]; omega
    have hin2:j*7+7<=(p.suggests.map ab1.cs).flatten.length:=by rw[hfl2]; omega
    have hsame:az3 (p.suggests.map ab1.cs).flatten (j*7) a.cs=(p.suggests.map ab1.cs).flatten:=bc1 (by rw[ae3]; exact hpart) (by rw[ae3]; exact hin2);simp only[go_sem,c1,c2,hrow,hin,hpart,cg6,ae3,ag6,ao3,t1,pcs,u0,u2,u3,hid0];refine aa2 (ar3 a (hfl.2 a ha).1) ?_;simp only[go_sem,c1,c2,hrow,hin2,cg7,ae3,ag6,hsame,t1,pcs,u0,u2,w1];refine ⟨hjl,by omega,?_,?_,?_⟩
    ·simp only[u4,if_false]
    ·simp only[u5,u1,if_false]; exact t2
    ·intro id' cs hlt' h;have h':=t3 id' cs hlt' h;have u6:¬ id'=t.next:=by omega
     by_cases e:id'=id
     ·subst e;rw[hrow] at h';simp only[if_true]; exact h'
     ·simp only[e,u6,if_false]; exact h'
   ·have hj':j=p.suggests.length:=by omega
    subst hj';have c1:¬ (p.suggests.length:Int)<p.suggests.length:=by omega
    have hgt:Grow t v 7 (p.suggests.map ab1.cs):=by
     rcases hg with h|⟨id,rfl,ho,hil⟩
     ·exact .inl h
     ·exact .inr ⟨id,rfl,t3 _ _ hil ho,by omega⟩
    have hrows:∀ id cs,id<s.next->s.obj id=some (.row cs)->t.obj id=some (.row cs):=fun id cs hlt' h=>t3 id cs (by omega) (by rw[hs2 id hlt']; exact h)
    have mm:∀ {d d':Prop} (u:IV) (l:List ab1),an3 s d u l->(d↔d')->an3 t d' u l:=fun u l h hd=>h.mono hd (by omega) hrows
    simp only[go_sem,c1];exact ⟨rfl,⟨t2,by omega⟩,v7,v8,v10,v11,v,v13,t1,mm _ _ o7 (by simp),mm _ _ o8 (by simp),mm _ _ o10 (by simp),mm _ _ o11 (by simp),.inl ⟨by simp,hgt⟩,mm _ _ o13 (by simp)⟩
  ·have hv:v13=af8 p.ad6:=by
    rcases o13 with ⟨h,_⟩|⟨_,h⟩
    ·exact absurd h (by omega)
    ·exact h
   subst hv;have hfl:p.ad6.length<2^31/\∀ r∈p.ad6,r.fit/\r.count<2^31:=hf.dx5 (3,p.ad6) (by simp[aa3.rows]);simp only[go_sem,cd5,q0,pcs,be5];refine aj9 fok137 (at7 p.ad6 _ (by have:=hfl.1; omega)) ?_;rintro v s2 ⟨hs2,hn2,hg,hid⟩;refine ⟨hn2,?_⟩;have q02:s2.obj 0=some (.cells (pcs p v7 v8 v10 v11 v12 (af8 p.ad6))):=by rw[hs2 0 (by omega)]; exact q0
   have q12:s2.obj 1=some (.cells ba1):=by rw[hs2 1 (by omega)]; exact q1
   have hvl:v.leaf=true:=by rcases hg with ⟨rfl,_⟩|⟨id,rfl,_⟩<;>rfl
   have hvc:v.cs=[v]:=by rcases hg with ⟨rfl,_⟩|⟨id,rfl,_⟩<;>rfl
   have hlen:∀ s,cp5 0 s v=some (.int .i64 (p.ad6.length:Nat)):=fun s=>by
    rcases hg with ⟨rfl,he⟩|⟨id,rfl,_⟩
    ·have:p.ad6=[]:=by simpa using he
     rw[this]; rfl
    ·rw[bf2,List.length_map]
   simp only[go_sem,q02,pcs,hvl,hvc,hlen]
   refine ab5 noT (fun j fr t=>fr=[(1,.ptr 0 0),(2,.ptr 1 0),(4,.ptr 0 13),(25,.aa5 cd5),(26,.int .i64 6),(27,.int .i64 5),(39,v),(40,.int .i64 p.ad6.length),(41,.int .i64 j)] /\
    s2.next<=t.next/\t.obj 0=some (.cells (pcs p v7 v8 v10 v11 v12 v))/\t.obj 1=some (.cells ba1)/\∀ id cs,id<s2.next->s2.obj id=some (.row cs)->t.obj id=some (.row cs)) p.ad6.length ⟨rfl,Nat.le_refl _,?_,?_,?_⟩ ?_
   ·simp only[aa7,if_true]; rfl
   ·simp only[aa7,reduceCtorEq,Int.reduceLT,Int.reduceLE,Int.reduceToNat,Int.reduceAdd,Nat.reduceEqDiff,Nat.reduceAdd,Nat.reduceMul,Nat.reduceLT,Nat.reduceLeDiff,decide_true,decide_false,↓reduceIte,if_false]; exact q12
   ·intro id cs hlt' h;have:¬ id=0:=fun e=>by subst e; rw[q02] at h; cases h
    simp only[aa7,this,if_false]; exact h
   rintro j fr t hle' ⟨rfl,t0,t1,t2,t3⟩;by_cases hjl:j<p.ad6.length
   ·obtain ⟨a,ha,_,hdr,hget,_⟩:=ad5 p.ad6 j hjl;rcases hg with ⟨_,he⟩|⟨id,rfl,ho,hil⟩
    ·have:p.ad6=[]:=by simpa using he
     rw[this] at hjl; cases hjl
    have hrow:=t3 _ _ hil ho;have c1:(j:Int)<p.ad6.length:=by omega
    have c2:(0:Int)<=j:=by omega
    have w1:=ad9 (i:=j) (by have:=hfl.1; omega);have hid0:¬ id=0:=fun e=>by subst e; rw[t1] at hrow; cases hrow
    have hid1:¬ id=1:=fun e=>by subst e; rw[t2] at hrow; cases hrow
    have u0:¬ 0=t.next:=by omega
    have u1:¬ 1=t.next:=by omega
    have u2:¬ id=t.next:=by omega
    have u3:¬ t.next=id:=by omega
    have u4:¬ 0=id:=by omega
    have u5:¬ 1=id:=by omega
    have hall:=fun x hx=>(au3 p.ad6 x hx).1
    have hfl2:=au2 hall;have hpart:=ax3 hall j (by rw[List.length_map]; exact hjl);rw[hget] at hpart;rw[List.length_map] at hfl2;have hin:7<=((p.ad6.map ab1.cs).flatten.drop (j*7)).length:=by rw[List.length_drop,hfl2]; omega
    have hin2:j*7+7<=(p.ad6.map ab1.cs).flatten.length:=by rw[hfl2]; omega
    have hsame:az3 (p.ad6.map ab1.cs).flatten (j*7) a.cs=(p.ad6.map ab1.cs).flatten:=bc1 (by rw[ae3]; exact hpart) (by rw[ae3]; exact hin2);simp only[go_sem,c1,c2,hrow,hin,hpart,cg6,ae3,ag6,ao3,t1,pcs,u0,u2,u3,hid0];refine aa2 (ar3 a (hfl.2 a ha).1) ?_;simp only[go_sem,c1,c2,hrow,hin2,cg7,ae3,ag6,hsame,t1,pcs,u0,u2,w1];refine ⟨hjl,by omega,?_,?_,?_⟩
    ·simp only[u4,if_false]
    ·simp only[u5,u1,if_false]; exact t2
    ·intro id' cs hlt' h;have h':=t3 id' cs hlt' h;have u6:¬ id'=t.next:=by omega
     by_cases e:id'=id
     ·subst e;rw[hrow] at h';simp only[if_true]; exact h'
     ·simp only[e,u6,if_false]; exact h'
   ·have hj':j=p.ad6.length:=by omega
    subst hj';have c1:¬ (p.ad6.length:Int)<p.ad6.length:=by omega
    have hgt:Grow t v 7 (p.ad6.map ab1.cs):=by
     rcases hg with h|⟨id,rfl,ho,hil⟩
     ·exact .inl h
     ·exact .inr ⟨id,rfl,t3 _ _ hil ho,by omega⟩
    have hrows:∀ id cs,id<s.next->s.obj id=some (.row cs)->t.obj id=some (.row cs):=fun id cs hlt' h=>t3 id cs (by omega) (by rw[hs2 id hlt']; exact h)
    have mm:∀ {d d':Prop} (u:IV) (l:List ab1),an3 s d u l->(d↔d')->an3 t d' u l:=fun u l h hd=>h.mono hd (by omega) hrows
    simp only[go_sem,c1];exact ⟨rfl,⟨t2,by omega⟩,v7,v8,v10,v11,v12,v,t1,mm _ _ o7 (by simp),mm _ _ o8 (by simp),mm _ _ o10 (by simp),mm _ _ o11 (by simp),mm _ _ o12 (by simp),.inl ⟨by simp,hgt⟩⟩
 ·have hi':i=6:=by omega
  subst hi';have c1:¬ ((6:Nat):Int)<6:=by omega
  simp only[go_sem,c1,q0,q1,pcs,ba1,bs8,o7.leaf,o8.leaf,o10.leaf,o11.leaf,o12.leaf,o13.leaf]
  have fz:∀ (v:IV) (l:List ab1) (k:Nat) (s':Store),k<6->an3 s (k<6) v l->(∀ id cs,s.obj id=some (.row cs)->s'.obj id=some (.row cs))->s.next<=s'.next->dj1 s' 0 v (af8 l):=by
   intro v l k s' hk ho h1 h2;rcases ho.mono Iff.rfl h2 (fun id cs _ h=>h1 id cs h) with ⟨_,h⟩|⟨h,_⟩
   ·exact h.frz (fun x hx=>(au3 l x hx).1) (fun _ _=>Nat.not_lt_zero _) (am4 (bm7 l))
   ·exact absurd hk h
  have hr:∀ id cs,s.obj id=some (.row cs)->(s.put 1 (al1.cells (pcs p v7 v8 v10 v11 v12 v13))).obj id=some (.row cs):=fun id cs h=>by
   have:¬ id=1:=fun e=>by subst e; rw[q1] at h; cases h
   simp only[aa7,this,if_false]; exact h
  have b1:=fun v hv=>Frz.keep (σ:=s.put 1 (al1.cells (pcs p v7 v8 v10 v11 v12 v13))) (S:=fun i=>i<0) v hv
  exact .il2 (.cons (be3 _) (.cons (ac7 _ _) (.cons (be3 _) (.cons (be3 _) (.cons (ac7 _ _) (.cons (be3 _) (.cons (b1 _ (bu2 _))
   (.cons (fz v7 _ 0 _ (by omega) o7 hr (Nat.le_refl _)) (.cons (fz v8 _ 1 _ (by omega) o8 hr (Nat.le_refl _)) (.cons (b1 _ (bu2 _)) (.cons (fz v10 _ 2 _ (by omega) o10 hr (Nat.le_refl _)) (.cons (fz v11 _ 3 _ (by omega) o11 hr (Nat.le_refl _))
   (.cons (fz v12 _ 4 _ (by omega) o12 hr (Nat.le_refl _)) (.cons (fz v13 _ 5 _ (by omega) o13 hr (Nat.le_refl _)) (.cons (b1 _ (ci1 _)) .nil)))))))))))))))
end Go.Id.Tryz
