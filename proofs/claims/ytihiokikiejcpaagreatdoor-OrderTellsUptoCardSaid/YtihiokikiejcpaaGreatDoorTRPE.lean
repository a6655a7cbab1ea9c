/- Rows that are looked through; packages,as they may be. Conditions: none. -/
import Derived.Test.YtihiokikiejcpaaGreatDoorTRPB
import Derived.Test.YtihiokikiejcpaaGreatDoorFwQ
set_option linter.all false
namespace Go.Id.Tryz
open Go Go.Id Go.Proofs Go.Id.Md
def al3 {α:Type}(q:α->Bool):List α->Int->Int
 | [],_=>-1
 | e::es,i=>if q e then i else al3 q es (i+1)
theorem fs5 {α:Type}(q:α->Bool):∀ (l:List α) (i:Nat),decide (0<=al3 q l i)=l.any q:=by
 intro l
 induction l with
 | nil=>intro i; rfl
 | cons x l ih=>
  intro i;simp only[al3,List.any_cons];by_cases h:q x=true
  ·simp only[h,if_true,Bool.true_or]; exact decide_eq_true (by omega)
  ·have h':q x=false:=by simpa using h
   have e:=ih (i+1);rw[Int.natCast_add,Int.natCast_one] at e;simp only[h',Bool.false_eq_true,if_false,Bool.false_or];exact e
theorem bc3 {α:Type}(q:α->Bool)(l:List α):decide (0<=al3 q l 0)=l.any q:=fs5 q l 0
theorem ak5 (d:Dep):d.cs.length=5:=rfl
theorem ah7 (d:Dep):d.cs.all IV.leaf=true:=rfl
theorem ai9 (d:Dep):d.cs.take 5=d.cs:=rfl
theorem ae3 (r:aa9):r.cs.all IV.leaf=true:=by rw[aa9.au9]; rfl
theorem ag7 (r:aa9):r.cs.take 7=r.cs:=List.take_of_length_le (by rw[ad5]; exact Nat.le_refl _)
theorem di3 (s:Str):(bn7 s).length=1:=rfl
theorem bv1 (l:List Dep):Bnd 0 (.aa3 (l.map Dep.cs)):=.aa3 _ fun e he c hc=>by
 obtain ⟨d,_,rfl⟩:=List.mem_map.1 he; exact hj6 d c hc
theorem ck5 (l:List Str):Bnd 0 (.aa3 (l.map bn7)):=.aa3 _ fun e he c hc=>by
 obtain ⟨d,_,rfl⟩:=List.mem_map.1 he; cases hc with|head=>exact .str _|tail _ h=>cases h
theorem bn1 (l:List aa9):Bnd 0 (.aa3 (l.map aa9.cs)):=.aa3 _ fun e he c hc=>by
 obtain ⟨d,_,rfl⟩:=List.mem_map.1 he; exact ei6 d c hc
theorem fs6 (xs:List Dep)(g:Nat)(first cap:List IV)(q:Dep->Bool)(hn:xs.length<2^62)(hok:okF Tryz.prog g=true)
  (hq:∀ x∈xs,PC Tryz.prog EE g (first++[IV.agg (Dep.cs x)]++cap) (.bool (q x))):PC Tryz.prog EE 83 [.aa3 (xs.map Dep.cs),.func (.func g) first cap] (.int .i64 (al3 q xs 0)):=by
 refine av1 fok83 (nZ rfl) fun σ=>?_
 simp only[ic83,go_sem];refine ab3 noT (fun i fr s=>s=σ/\fr=[(0,.aa3 (xs.map Dep.cs)),(1,.func (.func g) first cap),(7,.int .i64 xs.length),(8,.int .i64 i)]/\al3 q xs 0=al3 q (xs.drop i) i) xs.length ⟨rfl,rfl,rfl⟩ ?_;rintro i fr s hi ⟨rfl,rfl,hf⟩;by_cases hlt:i<xs.length
 ·obtain ⟨x,ha,_,hdr,hget,_⟩:=ae8 xs i hlt;have c1:(i:Int)<xs.length:=by omega
  have c2:(0:Int)<=i:=by omega
  have w1:=ad2 (i:=i) (by omega);rw[hdr] at hf;simp only[go_sem,c1,c2,hget,ak5,ai9,ah7];refine as5 hok (gf5 (hq x ha)) ?_;rintro v s ⟨rfl,rfl⟩;refine ⟨Nat.le_refl _,?_⟩
  cases hqe:q x with
  | true=>simp only[go_sem,hf,al3,hqe,and_self]
  | false=>
   simp only[go_sem,w1];exact ⟨hlt,by rw[hf]; simp only[al3,hqe,Bool.false_eq_true,if_false,Int.natCast_add,Int.natCast_one]⟩
 ·have hi':i=xs.length:=by omega
  subst hi';have c1:¬ (xs.length:Int)<xs.length:=by omega
  rw[List.drop_length] at hf;simp only[go_sem,c1,hf,al3,and_self]
theorem cp5 (xs:List Dep)(g:Nat)(first cap:List IV)(q:Dep->Bool)(hn:xs.length<2^62)(hok:okF Tryz.prog g=true)
  (hq:∀ x∈xs,PC Tryz.prog EE g (first++[IV.agg (Dep.cs x)]++cap) (.bool (q x))):PC Tryz.prog EE 47 [.aa3 (xs.map Dep.cs),.func (.func g) first cap] (.bool (xs.any q)):=by
 refine av1 fok47 (nZ rfl) fun σ=>?_
 simp only[ic47,go_sem];refine aa5 fok83 (fs6 xs g first cap q hn hok hq) ?_;simp only[go_sem,bc3,and_self]
theorem fs7 (x:Dep)(g:Nat)(first cap:List IV)(b:Bool)(hb:∀ c∈first,Bnd 0 c)(hb2:∀ c∈cap,Bnd 0 c)(hok:okF Tryz.prog g=true)(hq:PC Tryz.prog EE g (first++[IV.agg (Dep.cs x)]++cap) (.bool b)) :
  PC Tryz.prog EE 96 [IV.agg (Dep.cs x),.ad4 [.func (.func g) first cap]] (.bool !b):=by
 refine av1 fok96 (nZ rfl) fun σ=>?_
 simp only[ic96,go_sem,ak5,ai9,ah7];refine as5 hok (gf5 hq) ?_;rintro v s ⟨rfl,rfl⟩;refine ⟨Nat.le_refl _,?_⟩;simp only[go_sem,and_self]
theorem ei7 (xs:List Dep)(n:Int)(g:Nat)(first cap:List IV)(p:Dep->Bool)(hn:xs.length<2^62)(hb:∀ c∈first,Bnd 0 c)(hb2:∀ c∈cap,Bnd 0 c)(hok:okF Tryz.prog g=true)
  (hq:∀ x∈xs,PC Tryz.prog EE g (first++[IV.agg (Dep.cs x)]++cap) (.bool (p x))):PC Tryz.prog EE 57 [.aa3 (xs.map Dep.cs),.int .i64 n,.func (.func g) first cap] (.bool (decide ((xs.length:Int)<=n)&&xs.all p)):=by
 refine av1 fok57 (nZ rfl) fun σ=>?_
 by_cases hle:(xs.length:Int)<=n
 ·simp only[ic57,go_sem,hle];refine aa5 fok47 (cp5 xs 96 [] [.ad4 [.func (.func g) first cap]] (fun x=>!p x) hn fok96.1 fun x hx=>fs7 x g first cap (p x) hb hb2 hok (hq x hx)) ?_;have:(!xs.any fun x=>!p x)=xs.all p:=by rw[List.not_any_eq_all_not]; simp
  simp only[go_sem,hle,this,and_self]
 ·simp only[ic57,go_sem,hle,and_self]
theorem fs8 (xs:List Str)(g:Nat)(first cap:List IV)(q:Str->Bool)(hn:xs.length<2^62)(hok:okF Tryz.prog g=true)
  (hq:∀ x∈xs,PC Tryz.prog EE g (first++[IV.str x]++cap) (.bool (q x))):PC Tryz.prog EE 122 [.aa3 (xs.map bn7),.func (.func g) first cap] (.int .i64 (al3 q xs 0)):=by
 refine av1 fok122 (nZ rfl) fun σ=>?_
 simp only[ic122,go_sem];refine ab3 noT (fun i fr s=>s=σ/\fr=[(0,.aa3 (xs.map bn7)),(1,.func (.func g) first cap),(7,.int .i64 xs.length),(8,.int .i64 i)]/\al3 q xs 0=al3 q (xs.drop i) i) xs.length ⟨rfl,rfl,rfl⟩ ?_;rintro i fr s hi ⟨rfl,rfl,hf⟩;by_cases hlt:i<xs.length
 ·obtain ⟨x,ha,_,hdr,hget,_⟩:=ae8 xs i hlt;have c1:(i:Int)<xs.length:=by omega
  have c2:(0:Int)<=i:=by omega
  have w1:=ad2 (i:=i) (by omega);rw[hdr] at hf;simp only[go_sem,c1,c2,hget,di3,bn7];refine as5 hok (gf5 (hq x ha)) ?_;rintro v s ⟨rfl,rfl⟩;refine ⟨Nat.le_refl _,?_⟩
  cases hqe:q x with
  | true=>simp only[go_sem,hf,al3,hqe,and_self]
  | false=>
   simp only[go_sem,w1];exact ⟨hlt,by rw[hf]; simp only[al3,hqe,Bool.false_eq_true,if_false,Int.natCast_add,Int.natCast_one]⟩
 ·have hi':i=xs.length:=by omega
  subst hi';have c1:¬ (xs.length:Int)<xs.length:=by omega
  rw[List.drop_length] at hf;simp only[go_sem,c1,hf,al3,and_self]
theorem fs9 (xs:List Str)(g:Nat)(first cap:List IV)(q:Str->Bool)(hn:xs.length<2^62)(hok:okF Tryz.prog g=true)
  (hq:∀ x∈xs,PC Tryz.prog EE g (first++[IV.str x]++cap) (.bool (q x))):PC Tryz.prog EE 98 [.aa3 (xs.map bn7),.func (.func g) first cap] (.bool (xs.any q)):=by
 refine av1 fok98 (nZ rfl) fun σ=>?_
 simp only[ic98,go_sem];refine aa5 fok122 (fs8 xs g first cap q hn hok hq) ?_;simp only[go_sem,bc3,and_self]
theorem ft1 (x:Str)(g:Nat)(first cap:List IV)(b:Bool)(hb:∀ c∈first,Bnd 0 c)(hb2:∀ c∈cap,Bnd 0 c)(hok:okF Tryz.prog g=true)(hq:PC Tryz.prog EE g (first++[IV.str x]++cap) (.bool b)) :
  PC Tryz.prog EE 99 [IV.str x,.ad4 [.func (.func g) first cap]] (.bool !b):=by
 refine av1 fok99 (nZ rfl) fun σ=>?_
 simp only[ic99,go_sem,di3,bn7];refine as5 hok (gf5 hq) ?_;rintro v s ⟨rfl,rfl⟩;refine ⟨Nat.le_refl _,?_⟩;simp only[go_sem,and_self]
theorem gl6 (xs:List Str)(n:Int)(g:Nat)(first cap:List IV)(p:Str->Bool)(hn:xs.length<2^62)(hb:∀ c∈first,Bnd 0 c)(hb2:∀ c∈cap,Bnd 0 c)(hok:okF Tryz.prog g=true)
  (hq:∀ x∈xs,PC Tryz.prog EE g (first++[IV.str x]++cap) (.bool (p x))):PC Tryz.prog EE 59 [.aa3 (xs.map bn7),.int .i64 n,.func (.func g) first cap] (.bool (decide ((xs.length:Int)<=n)&&xs.all p)):=by
 refine av1 fok59 (nZ rfl) fun σ=>?_
 by_cases hle:(xs.length:Int)<=n
 ·simp only[ic59,go_sem,hle];refine aa5 fok98 (fs9 xs 99 [] [.ad4 [.func (.func g) first cap]] (fun x=>!p x) hn fok99.1 fun x hx=>ft1 x g first cap (p x) hb hb2 hok (hq x hx)) ?_;have:(!xs.any fun x=>!p x)=xs.all p:=by rw[List.not_any_eq_all_not]; simp
  simp only[go_sem,hle,this,and_self]
 ·simp only[ic59,go_sem,hle,and_self]
theorem fb1 (xs:List aa9)(g:Nat)(first cap:List IV)(q:aa9->Bool)(hn:xs.length<2^62)(hok:okF Tryz.prog g=true)
  (hq:∀ x∈xs,PC Tryz.prog EE g (first++[IV.agg (aa9.cs x)]++cap) (.bool (q x))):PC Tryz.prog EE 82 [.aa3 (xs.map aa9.cs),.func (.func g) first cap] (.int .i64 (al3 q xs 0)):=by
 refine av1 fok82 (nZ rfl) fun σ=>?_
 simp only[ic82,go_sem];refine ab3 noT (fun i fr s=>s=σ/\fr=[(0,.aa3 (xs.map aa9.cs)),(1,.func (.func g) first cap),(7,.int .i64 xs.length),(8,.int .i64 i)]/\al3 q xs 0=al3 q (xs.drop i) i) xs.length ⟨rfl,rfl,rfl⟩ ?_;rintro i fr s hi ⟨rfl,rfl,hf⟩;by_cases hlt:i<xs.length
 ·obtain ⟨x,ha,_,hdr,hget,_⟩:=ae8 xs i hlt;have c1:(i:Int)<xs.length:=by omega
  have c2:(0:Int)<=i:=by omega
  have w1:=ad2 (i:=i) (by omega);rw[hdr] at hf;simp only[go_sem,c1,c2,hget,ad5,ag7,ae3];refine as5 hok (gf5 (hq x ha)) ?_;rintro v s ⟨rfl,rfl⟩;refine ⟨Nat.le_refl _,?_⟩
  cases hqe:q x with
  | true=>simp only[go_sem,hf,al3,hqe,and_self]
  | false=>
   simp only[go_sem,w1];exact ⟨hlt,by rw[hf]; simp only[al3,hqe,Bool.false_eq_true,if_false,Int.natCast_add,Int.natCast_one]⟩
 ·have hi':i=xs.length:=by omega
  subst hi';have c1:¬ (xs.length:Int)<xs.length:=by omega
  rw[List.drop_length] at hf;simp only[go_sem,c1,hf,al3,and_self]
theorem dc2 (xs:List aa9)(g:Nat)(first cap:List IV)(q:aa9->Bool)(hn:xs.length<2^62)(hok:okF Tryz.prog g=true)
  (hq:∀ x∈xs,PC Tryz.prog EE g (first++[IV.agg (aa9.cs x)]++cap) (.bool (q x))):PC Tryz.prog EE 45 [.aa3 (xs.map aa9.cs),.func (.func g) first cap] (.bool (xs.any q)):=by
 refine av1 fok45 (nZ rfl) fun σ=>?_
 simp only[ic45,go_sem];refine aa5 fok82 (fb1 xs g first cap q hn hok hq) ?_;simp only[go_sem,bc3,and_self]
theorem fb2 (x:aa9)(g:Nat)(first cap:List IV)(b:Bool)(hb:∀ c∈first,Bnd 0 c)(hb2:∀ c∈cap,Bnd 0 c)(hok:okF Tryz.prog g=true)(hq:PC Tryz.prog EE g (first++[IV.agg (aa9.cs x)]++cap) (.bool b)) :
  PC Tryz.prog EE 101 [IV.agg (aa9.cs x),.ad4 [.func (.func g) first cap]] (.bool !b):=by
 refine av1 fok101 (nZ rfl) fun σ=>?_
 simp only[ic101,go_sem,ad5,ag7,ae3];refine as5 hok (gf5 hq) ?_;rintro v s ⟨rfl,rfl⟩;refine ⟨Nat.le_refl _,?_⟩;simp only[go_sem,and_self]
theorem ft2 (xs:List aa9)(n:Int)(g:Nat)(first cap:List IV)(p:aa9->Bool)(hn:xs.length<2^62)(hb:∀ c∈first,Bnd 0 c)(hb2:∀ c∈cap,Bnd 0 c)(hok:okF Tryz.prog g=true)
  (hq:∀ x∈xs,PC Tryz.prog EE g (first++[IV.agg (aa9.cs x)]++cap) (.bool (p x))):PC Tryz.prog EE 61 [.aa3 (xs.map aa9.cs),.int .i64 n,.func (.func g) first cap] (.bool (decide ((xs.length:Int)<=n)&&xs.all p)):=by
 refine av1 fok61 (nZ rfl) fun σ=>?_
 by_cases hle:(xs.length:Int)<=n
 ·simp only[ic61,go_sem,hle];refine aa5 fok45 (dc2 xs 101 [] [.ad4 [.func (.func g) first cap]] (fun x=>!p x) hn fok101.1 fun x hx=>fb2 x g first cap (p x) hb hb2 hok (hq x hx)) ?_;have:(!xs.any fun x=>!p x)=xs.all p:=by rw[List.not_any_eq_all_not]; simp
  simp only[go_sem,hle,this,and_self]
 ·simp only[ic61,go_sem,hle,and_self]
def ei8 (x:Int×List aa9):List IV:=[.int .u8 x.1,ae6 x.2]
def ft3 (p:aa4):List (List IV):=p.rows.map ei8
theorem az8 (p:aa4):∀ c∈p.cs,Bnd 0 c:=by
 intro c hc;simp only[aa4.cs,List.mem_cons,List.not_mem_nil,or_false] at hc;rcases hc with rfl|rfl|rfl|rfl|rfl|rfl|rfl|rfl|rfl|rfl|rfl|rfl|rfl|rfl|rfl<;>first|exact .str _|exact .int _ _|exact bv1 _|exact bn1 _|exact ck5 _
theorem av7 (p:aa4):Bnd 0 (.agg p.cs):=.agg _ (az8 p)
theorem al9 (p:aa4):p.cs.length=15:=rfl
theorem aj7 (p:aa4):p.cs.take 15=p.cs:=rfl
theorem ah2 (p:aa4):p.cs.all IV.leaf=true:=rfl
theorem gl7 (p:aa4):PC Tryz.prog EE 60 [.agg p.cs] (.func (.func 100) [] [.ad4 p.cs]):=by
 refine av1 fok60 (nZ rfl) fun σ=>?_
 simp only[ic60,go_sem,ah2,and_self]
theorem fb3 (p:aa4):cm9 Tryz.prog EE (.func (.func 100) [] [.ad4 p.cs]) (ft3 p) (fun _=>True):=by
 intro yid I S σ hown hstab hy hi;refine ⟨fok100.1,?_⟩;refine C_f fok100 (nZ rfl) ?_;simp only[ic100,go_sem,aa4.cs];simp only[ft3,aa4.rows,List.map_cons,List.map_nil,ei8] at hi;have stop:∀ s,σ.next<=s.next->S s->hz7 σ.next I S (.tuple []) s:=fun s hn hs=>⟨hn,.inr hs⟩
 refine bx4 hy hi (fun s1 n1 i1=>?_) (fun s1 n1 h1=>by simp only[go_sem]; exact stop _ n1 h1);simp only[go_sem];refine bx4 hy i1 (fun s2 n2 i2=>?_) (fun s2 n2 h2=>by simp only[go_sem]; exact stop _ (by omega) h2);simp only[go_sem];refine bx4 hy i2 (fun s3 n3 i3=>?_) (fun s3 n3 h3=>by simp only[go_sem]; exact stop _ (by omega) h3);simp only[go_sem];refine bx4 hy i3 (fun s4 n4 i4=>?_) (fun s4 n4 h4=>by simp only[go_sem]; exact stop _ (by omega) h4);simp only[go_sem];refine bx4 hy i4 (fun s5 n5 i5=>?_) (fun s5 n5 h5=>by simp only[go_sem]; exact stop _ (by omega) h5);simp only[go_sem];refine bx4 hy i5 (fun s6 n6 i6=>?_) (fun s6 n6 h6=>by simp only[go_sem]; exact stop _ (by omega) h6);simp only[go_sem];exact ⟨by omega,.inl i6⟩
theorem hj9 (r:aa9)(wh:Int)(hf:r.fit)(hc:r.count<2^62):PC Tryz.prog EE 62 [.agg r.cs,.ad4 [.int .u8 wh]] (.bool (decide (ar7 r wh=0))):=by
 refine av1 fok62 (nZ rfl) fun σ=>?_
 simp only[ic62,go_sem,ad5,ag7,ae3];refine aa5 fok63 (ea9 r wh hf hc) ?_;simp only[go_sem,and_self]
theorem gl8 (l:List aa9)(wh:Int)(hn:l.length<2^62)(hf:∀ r∈l,r.fit/\r.count<2^31):PC Tryz.prog EE 61 [ae6 l,.int .i64 32,.func (.func 62) [] [.ad4 [.int .u8 wh]]] (.bool (ak8 l wh)):=by
 have h:=ft2 l 32 62 [] [.ad4 [.int .u8 wh]] (fun r=>decide (ar7 r wh=0)) hn (fun c hc=>by cases hc) (ah6 (.ad4 _ (ah6 (.int _ _)))) fok62.1 fun x hx=>hj9 x wh (hf x hx).1 (by have:=(hf x hx).2; omega)
 have e:decide ((l.length:Int)<=32)=decide (l.length<=32):=decide_eq_decide.2 (by omega);rw[e] at h;exact h
theorem ft4 {σ:Store}{f id:Nat}{cs:List IV}(ho:σ.obj id=some (.cells cs))(hb:∀ c∈cs,Bnd 0 c):dk5 σ 0 (.func (.func f) [] [.ptr id 0]) (.func (.func f) [] [.ad4 cs]):=by
 refine .func _ [] [] _ _ rfl rfl (fun i hi=>absurd hi (Nat.not_lt_zero _)) (fun i hi=>?_)
 match i,hi with
 | 0,_=>
  refine .ptr id 0 cs cs (Nat.not_lt_zero _) (.inl ho) (by omega) (fun j hj=>?_);rw[Nat.zero_add];exact .keep _ (hb _ (ad6 _ hj))
theorem eb1 {l:List Str}{i:Nat}{f:Str}(h0:0<i)(h:l.drop i=f::l.drop (i+1)):∃ a,l[i-1]? = some a/\rising (l.drop (i-1))=(Op.bytesLess a f&&rising (l.drop i)):=by
 have hlt:i<l.length:=by
  rcases Nat.lt_or_ge i l.length with h1|h1
  ·exact h1
  ·rw[List.drop_of_length_le h1] at h; cases h
 have h2:i-1<l.length:=by omega
 refine ⟨l[i-1],List.getElem?_eq_getElem h2,?_⟩;rw[List.drop_eq_getElem_cons h2,show i-1+1=i from by omega,h];rfl
theorem ft5 (p:aa4)(hf:p.Fit):PC Tryz.prog EE 29 [.agg p.cs] (.bool (ah1 p)):=by
 refine ao4 hE fok29 (nZ rfl) (ah6 (av7 _)) ?_;simp only[ic29,go_sem,ah2,aa4.cs];refine aa5 fok53 (cf1 p.name hf.name) ?_
 cases h1:av2 p.name with
 | false=>simp only[go_sem,ah1,h1]; exact ac4 _
 | true=>
 simp only[go_sem];refine aa5 fok54 (cf2 p.name hf.name) ?_
 cases h2:bo3 p.name with
 | true=>simp only[go_sem,ah1,h1,h2]; exact ac4 _
 | false=>
 simp only[go_sem];refine aa5 (v:=.bool (bh2 p.evr false)) fok55 (dr8 p.evr false hf.evr.1 hf.evr.2) ?_
 cases h3:bh2 p.evr false with
 | false=>simp only[go_sem,ah1,h1,h2,h3]; exact ac4 _
 | true=>
 simp only[go_sem];refine aa5 fok56 (ea5 p.ex2) ?_;have h4':=bu7 p.ex2
 cases h4:bt4 p.ex2 with
 | false=>
  rw[h4] at h4'
  simp only[go_sem,h4',ah1,h1,h2,h3,h4]; exact ac4 _
 | true=>
 rw[h4] at h4';simp only[go_sem,h4'];by_cases h5:p.vendor.length<=64
 case neg=>
  have h5':(64:Int)<p.vendor.length:=by omega
  simp only[go_sem,h5',ah1,h1,h2,h3,h4,h5]; exact ac4 _
 have h5':¬ (64:Int)<p.vendor.length:=by omega
 simp only[go_sem,h5'];have e32:∀ n:Nat,decide ((n:Int)<=32)=decide (n<=32):=fun n=>decide_eq_decide.2 (by omega)
 have hp6:=ei7 p.provides 32 58 [] [] an8 (by have:=hf.bp7.1; omega) (fun c hc=>by cases hc) (fun c hc=>by cases hc) fok58.1 fun x hx=>cp4 x (hf.bp7.2 x hx).1 (hf.bp7.2 x hx).2.1 (hf.bp7.2 x hx).2.2
 have hp7:=ei7 p.ac6 32 58 [] [] an8 (by have:=hf.obs.1; omega) (fun c hc=>by cases hc) (fun c hc=>by cases hc) fok58.1 fun x hx=>cp4 x (hf.obs.2 x hx).1 (hf.obs.2 x hx).2.1 (hf.obs.2 x hx).2.2
 have hp8:=gl6 p.files 32 54 [] [] bo3 (by have:=hf.files.1; omega) (fun c hc=>by cases hc) (fun c hc=>by cases hc) fok54.1 fun x hx=>cf2 x (hf.files.2 x hx)
 rw[e32] at hp6 hp7 hp8;refine aa5 fok57 hp6 ?_
 cases h6:(decide (p.provides.length<=32)&&p.provides.all an8) with
 | false=>simp only[go_sem,ah1,h1,h2,h3,h4,h5,h6]; exact ac4 _
 | true=>
 simp only[go_sem];refine aa5 fok57 hp7 ?_
 cases h7:(decide (p.ac6.length<=32)&&p.ac6.all an8) with
 | false=>simp only[go_sem,ah1,h1,h2,h3,h4,h5,h6,h7]; exact ac4 _
 | true=>
 simp only[go_sem];refine aa5 fok59 hp8 ?_
 cases h8:(decide (p.files.length<=32)&&p.files.all bo3) with
 | false=>simp only[go_sem,ah1,h1,h2,h3,h4,h5,h6,h7,h8]; exact ac4 _
 | true=>
 have hmay:ah1 p=(rising p.files&&p.rows.all fun x=>ak8 x.2 x.1):=by
  simp only[ah1,h1,h2,h3,h4,h5,h6,h7,h8,aa4.rows,List.all_cons,List.all_nil,decide_true,Bool.not_false,Bool.and_true,Bool.true_and,Bool.and_assoc]
 simp only[go_sem];rw[hmay];refine ab3 noT (fun i fr s=>fr=[(1,.ad4 p.cs),(2,.ptr 0 0),(52,strs p.files),(53,.int .i64 p.files.length),(54,.int .i64 i)]/\(s.obj 0=some (.cells [.bool false])/\0<s.next)/\rising p.files=rising (p.files.drop (i-1))) p.files.length ⟨rfl,⟨?_,?_⟩,rfl⟩ ?_
 ·simp only[aa2,if_true]
 ·exact Nat.zero_lt_one
 rintro i fr s hi ⟨rfl,⟨q1,q2⟩,hr⟩;by_cases hlt:i<p.files.length
 ·obtain ⟨f,ha,hfi,hdr,hget,_⟩:=ae8 p.files i hlt;have c1:(i:Int)<p.files.length:=by omega
  have c2:(0:Int)<=i:=by omega
  have w1:=ad2 (i:=i) (by have:=hf.files.1; omega);by_cases h0:0<i
  ·have c0:(0:Int)<i:=by omega
   obtain ⟨a,ha1,ha2⟩:=eb1 h0 hdr;have hget':(p.files.map bn7).getD (i-1) []=bn7 a:=by simp[List.getD_eq_getElem?_getD,ha1]
   have w0:IntKind.i64.wrap ((i:Int)-1)=((i-1:Nat):Int):=by
    have:=hf.files.1;rw[wrap64 (by omega) (by omega)]; omega
   have c3:(0:Int)<=((i-1:Nat):Int):=by omega
   have c4:((i-1:Nat):Int)<p.files.length:=by omega
   rw[ha2] at hr;simp only[go_sem,c0,c1,c2,c3,c4,w0,w1,hget,hget',bn7,aa4.cs]
   cases hb:Op.bytesLess a f with
   | true=>
    rw[hb,Bool.true_and] at hr;simp only[go_sem,w1]
    exact ⟨hlt,⟨q1,q2⟩,hr⟩
   | false=>
    rw[hb,Bool.false_and] at hr;simp only[go_sem,q1,hr];exact ac4 _
  ·have c0:¬ (0:Int)<i:=by omega
   simp only[go_sem,c0,c1,c2,w1,hget,bn7];refine ⟨hlt,⟨q1,q2⟩,?_⟩;have:i=0:=by omega
   subst this; exact hr
 ·have hi':i=p.files.length:=by omega
  subst hi';have c1:¬ (p.files.length:Int)<p.files.length:=by omega
  have hrt:rising p.files=true:=by
   rw[hr]
   cases hl:p.files.drop (p.files.length-1) with
   | nil=>rfl
   | cons x l=>
    have h1:=congrArg List.length hl;rw[List.length_drop,List.length_cons] at h1;have h2:l=[]:=List.length_eq_zero_iff.1 (by omega);rw[h2]; rfl
  rw[hrt,Bool.true_and];simp only[go_sem,c1,al9,aj7];refine aa5 fok60 (gl7 p) ?_;simp only[go_sem];have e0:¬ 0=s.next:=by omega
  have e1:¬ s.next=0:=by omega
  refine bx3 (fb3 p) (fun rest s=>(0<s.next/\s.obj 0=some (.cells [.bool false]))/\∃ ts:List (Int×List aa9),rest=ts.map ei8/\(∀ x∈ts,x∈p.rows)/\(p.rows.all fun x:Int×List aa9=>ak8 x.2 x.1)=ts.all fun x:Int×List aa9=>ak8 x.2 x.1) (fun _ _ h=>trivial) ?_ ?_ ?_ ?_ ?_
  ·rintro rest s s' ⟨⟨q1,q2⟩,q4⟩ hn' hs';exact ⟨⟨by omega,by rw[hs' 0 q1]; exact q2⟩,q4⟩
  ·intro a ha;obtain ⟨x,_,rfl⟩:=List.mem_map.1 ha;rfl
  ·intro o;exact ⟨⟨by show 0<s.next+1; omega,by simp only[aa2,e0,if_false]; exact q1⟩,_,rfl,fun x hx=>hx,rfl⟩
  ·rintro L pre a rest t hev ⟨⟨q3,q4⟩,ts,hts,hin,hall⟩ hL hlt
   cases ts with
   | nil=>cases hts
   | cons x ts=>
    simp only[List.map_cons,List.cons.injEq] at hts;obtain ⟨rfl,rfl⟩:=hts;obtain ⟨wh,l⟩:=x;simp only[List.all_cons] at hall;have hfx:=hf.db2 _ (hin _ (List.mem_cons_self ..));have hin':∀ y∈ts,y∈p.rows:=fun y hy=>hin y (List.mem_cons_of_mem _ hy)
    have u0:¬ 0=t.next:=by omega
    have u1:¬ s.next=t.next:=by omega
    have u2:¬ t.next=s.next:=by omega
    have u3:¬ t.next=0:=by omega
    simp only[ei8,go_sem,hL,q4,e0,e1,u0,u1,u2,u3];refine ad3 fok61 (cn7 (args':=[ae6 l,.int .i64 32,.func (.func 62) [] [.ad4 [.int .u8 wh]]]) hE rfl ?_ (by unfold IV.plain; rfl) (gl8 l wh (Nat.lt_of_lt_of_le hfx.1 (by decide)) hfx.2)) ?_
    ·intro i hi
     match i,hi with
     | 0,_=>exact .keep _ (bn1 l)
     | 1,_=>exact .keep _ (.int _ _)
     | 2,_=>exact ft4 (by simp only[aa2,u2,if_false,if_true]) (ah6 (.int _ _))
    ·rintro v s2 ⟨rfl,rfl⟩;refine ⟨Nat.le_refl _,?_⟩
     cases hok:ak8 l wh with
     | true=>
      simp only[go_sem]
      refine cr1 (by simp only[aa6]; omega) (by simp only[aa2,if_true]) ⟨⟨by simp only[aa6]; omega,by simp only[aa2,e0,u0,if_false]; exact q4⟩,ts,rfl,hin',by rw[hall,hok,Bool.true_and]⟩
     | false=>
      simp only[go_sem,q4,e0,e1,u0,u1,u2,u3];refine cn1 (by simp only[aa6]; omega) (by simp only[aa2,if_true]) ?_;simp only[go_sem,e0,u0];rw[hall,hok]; exact ac4 _
  ·rintro t o ⟨⟨q3,q4⟩,ts,hts,_,hall⟩ hlt ho;have:ts=[]:=by cases ts with|nil=>rfl|cons _ _=>cases hts
   subst this;rw[hall];simp only[go_sem,e0,q4,List.all_nil];exact ac4 _
end Go.Id.Tryz
set_option linter.all false
namespace Go.Id.Tryz
open Go Go.Id Go.Proofs Go.Id.Md
def af9 (n:Int):List IV:=[.int .i64 n]
theorem ay7 (l:List Int):Bnd 0 (.aa3 (l.map af9)):=.aa3 _ fun e he c hc=>by
 obtain ⟨d,_,rfl⟩:=List.mem_map.1 he; cases hc with|head=>exact .int _ _|tail _ h=>cases h
theorem aq8 {es:List (List IV)}(h:Bnd 0 (.aa3 es)):∀ e∈es,∀ c∈e,Bnd 0 c:=by
 cases h with|aa3 _ h=>exact h
theorem cp6 (xs:List Dep)(hn:xs.length<=2147483648):PC Tryz.prog EE 64 [.aa3 (xs.map Dep.cs)] (.aa3 (xs.map Dep.cs)):=by
 cases hx:xs with
 | nil=>
  rw[List.map_nil];refine dn7 ?_ ?_
  ·refine ao4 hE fok64 (nZ rfl) (ah6 .aa1) ?_;simp only[ic64,go_sem,ao1];exact .dm9
  ·refine ao4 hE fok64 (nZ rfl) (ah6 .ae5) ?_;simp only[ic64,go_sem,ao1];rw[de6 (by simp only[aa2,if_true]) rfl];simp only[go_sem]
   exact .fh7 _ _ _ (by simp only[aa2,if_true]; exact fun h=>(by cases h))
 | cons a as'=>
  have hne:xs.map Dep.cs≠[]:=by rw[hx]; exact fun h=>(by cases h)
  have hall:∀ e∈xs.map Dep.cs,e.length=5/\e.all IV.leaf=true:=fun e he=>by
   obtain ⟨x,_,rfl⟩:=List.mem_map.1 he;exact ⟨ak5 x,ah7 x⟩
  have hnil:dj9 (.slice 0) (.aa3 (xs.map Dep.cs))=some false:=by rw[hx]; rfl
  rw[<- hx];refine ao4 hE fok64 (nZ rfl) (ah6 (bv1 xs)) ?_;have hnil:∀ d,dj9 (.slice d) (.aa3 (xs.map Dep.cs))=some false:=fun d=>by rw[hx]; rfl
  simp only[ic64,go_sem,ao1,hnil];rw[de5 (by simp only[aa2,if_true]) hne hall (by rw[List.length_map]; exact hn)];simp only[go_sem];refine Grow.frz (esz:=5) (es:=xs.map Dep.cs) (.inr ⟨1,by rw[List.length_map],by simp only[aa2,if_true],Nat.lt_succ_self _⟩) (fun x hx=>(hall x hx).1) (fun _ _=>Nat.not_lt_zero _) (aq8 (bv1 xs))
theorem eb2 (xs:List Str)(hn:xs.length<=2147483648):PC Tryz.prog EE 65 [.aa3 (xs.map bn7)] (.aa3 (xs.map bn7)):=by
 cases hx:xs with
 | nil=>
  rw[List.map_nil];refine dn7 ?_ ?_
  ·refine ao4 hE fok65 (nZ rfl) (ah6 .aa1) ?_;simp only[ic65,go_sem,ao1];exact .dm9
  ·refine ao4 hE fok65 (nZ rfl) (ah6 .ae5) ?_;simp only[ic65,go_sem,ao1];rw[de6 (by simp only[aa2,if_true]) rfl];simp only[go_sem]
   exact .fh7 _ _ _ (by simp only[aa2,if_true]; exact fun h=>(by cases h))
 | cons a as'=>
  have hne:xs.map bn7≠[]:=by rw[hx]; exact fun h=>(by cases h)
  have hall:∀ e∈xs.map bn7,e.length=1/\e.all IV.leaf=true:=fun e he=>by
   obtain ⟨x,_,rfl⟩:=List.mem_map.1 he;exact ⟨rfl,rfl⟩
  have hnil:dj9 (.slice 0) (.aa3 (xs.map bn7))=some false:=by rw[hx]; rfl
  rw[<- hx];refine ao4 hE fok65 (nZ rfl) (ah6 (ck5 xs)) ?_;have hnil:∀ d,dj9 (.slice d) (.aa3 (xs.map bn7))=some false:=fun d=>by rw[hx]; rfl
  simp only[ic65,go_sem,ao1,hnil];rw[de5 (by simp only[aa2,if_true]) hne hall (by rw[List.length_map]; exact hn)];simp only[go_sem];refine Grow.frz (esz:=1) (es:=xs.map bn7) (.inr ⟨1,by rw[List.length_map],by simp only[aa2,if_true],Nat.lt_succ_self _⟩) (fun x hx=>(hall x hx).1) (fun _ _=>Nat.not_lt_zero _) (aq8 (ck5 xs))
theorem as6 (xs:List aa9):∀ e∈xs.map aa9.cs,e.length=7/\e.all IV.leaf=true:=fun e he=>by
 obtain ⟨x,_,rfl⟩:=List.mem_map.1 he;exact ⟨ad5 x,ae3 x⟩
def eb3:List IV:=[.int .u8 0,.str [],.int .u8 0,.int .i64 0,.str [],.str [],.aa1]
theorem aq5 (r:aa9):r.fit->PC Tryz.prog EE 67 [.agg r.cs] (.agg r.cs):=by
 induction r using aa9.ind with
 | h k d xs ih=>
  intro hf;obtain ⟨f1,f2,f3,f4,f5⟩:=aa9.co4.1 hf;refine ao4 hE fok67 (nZ rfl) (ah6 (ax5 _)) ?_;rw[aa9.au9];simp only[ic67,go_sem,aa9.kind,aa9.dep,aa9.args,bt2];refine ab3 noT (fun i fr s=>fr=[(2,.ptr 0 0),(3,.ptr 1 0),(12,.aa3 (xs.map aa9.cs)),(13,.int .i64 xs.length),(14,.int .i64 i)]/\∃ v,s.obj 0=some (.cells eb3)/\s.obj 1=some (.cells [.int .u8 k,.str d.name,.int .u8 d.op,.int .i64 d.evr.am6,.str d.evr.ver,.str d.evr.rel,v])/\Grow s v 7 ((xs.take i).map aa9.cs)/\1<s.next) xs.length ⟨rfl,.aa1,?_,?_,.inl ⟨rfl,rfl⟩,?_⟩ ?_
  ·simp only[aa2,reduceCtorEq,Int.reduceLT,Int.reduceLE,Int.reduceToNat,Int.reduceAdd,Nat.reduceEqDiff,Nat.reduceAdd,Nat.reduceMul,Nat.reduceLT,Nat.reduceLeDiff,decide_true,decide_false,↓reduceIte,if_true,if_false]; rfl
  ·simp only[aa2,reduceCtorEq,Int.reduceLT,Int.reduceLE,Int.reduceToNat,Int.reduceAdd,Nat.reduceEqDiff,Nat.reduceAdd,Nat.reduceMul,Nat.reduceLT,Nat.reduceLeDiff,decide_true,decide_false,↓reduceIte,if_true,if_false]
  ·show 1<2; omega
  rintro i fr s hle ⟨rfl,v,q0,q1,hg,hn⟩;by_cases hlt:i<xs.length
  ·obtain ⟨a,ha,_,hdr,hget,htk⟩:=ae8 xs i hlt;have c1:(i:Int)<xs.length:=by omega
   have c2:(0:Int)<=i:=by omega
   have w1:=ad2 (i:=i) (by omega);have u0:¬ 1=s.next:=by omega
   have u1:¬ 0=s.next:=by omega
   simp only[go_sem,c1,c2,hget,ad5,ag7,ae3,q1,u0,bt2];refine aa8 (ih a ha (f5 a ha)) ?_;simp only[go_sem,ad5,ag7,ae3]
   have hg1:Grow ⟨s.next+1+8,((Store.put ⟨s.next+1,s.obj⟩ s.next (ak4.cells eb3)).put s.next (ak4.cells a.cs)).obj⟩ v 7 ((xs.take i).map aa9.cs):=hg.mono (by show s.next<=s.next+1+8; omega) fun id _ hid=>by
    have:¬ id=s.next:=by omega
    simp only[aa2,this,if_false]
   have hl0:((xs.take i).map aa9.cs).length=i:=by rw[List.length_map,List.length_take]; omega
   have ha2:=aj6 (nid:=s.next+1+1+1+1+1+1) (e:=a.cs) hg1 (as6 _) ⟨ad5 a,ae3 a⟩ (by rw[hl0]; omega);have k1:=af7 hg1 1 (.cells [.int .u8 k,.str d.name,.int .u8 d.op,.int .i64 d.evr.am6,.str d.evr.ver,.str d.evr.rel,v]) (by simp only[aa2,u0,if_false]; exact q1) (fun _ h=>by cases h);have k0:=af7 hg1 0 (.cells eb3) (by simp only[aa2,u1,if_false]; exact q0) (fun _ h=>by cases h);have kn:=ac1 (σ:=⟨s.next+1+8,((Store.put ⟨s.next+1,s.obj⟩ s.next (ak4.cells eb3)).put s.next (ak4.cells a.cs)).obj⟩) v;simp only[eb3] at ha2 k1 k0 kn;rw[ha2,hl0];have u2:¬ 1=s.next+1+1+1+1+1+1:=by omega
   have u3:¬ 0=s.next+1+1+1+1+1+1:=by omega
   have u4:¬ s.next+1+1+1+1+1+1=1:=by omega
   simp only[go_sem,u2,k1,w1];refine ⟨hlt,_,?_,rfl,?_,?_⟩
   ·simp only[u3,if_false,eb3]; exact k0
   ·rw[htk,List.map_append,List.map_cons,List.map_nil];refine .inr ⟨_,by rw[List.length_append,hl0]; rfl,?_,?_⟩
    ·simp only[aa2,u4,if_false,if_true]
    ·simp only[aa6,kn]; omega
   ·rw[kn]; show 1<s.next+1+8; omega
  ·have hi':i=xs.length:=by omega
   subst hi';have c1:¬ (xs.length:Int)<xs.length:=by omega
   rw[List.take_length] at hg
   have hvl:v.leaf=true:=by
    rcases hg with ⟨rfl,_⟩|⟨id,rfl,_⟩<;>rfl
   simp only[go_sem,c1,q0,q1,bt2,eb3,hvl];refine .agg _ _ rfl fun j hj=>?_
   have:j=0\/j=1\/j=2\/j=3\/j=4\/j=5\/j=6:=by
    simp only[List.length_cons,List.length_nil] at hj; omega
   rcases this with rfl|rfl|rfl|rfl|rfl|rfl|rfl
   ·exact ac8 _ _
   ·exact bd3 _
   ·exact ac8 _ _
   ·exact ac8 _ _
   ·exact bd3 _
   ·exact bd3 _
   ·have hne:∀ id,v=.slice id 0 (xs.map aa9.cs).length 7->id≠0:=fun id hv=>hg.ne hv q0 (fun _ h=>by cases h)
    refine Grow.frz (hg.mono (Nat.le_refl _) fun id hv _=>?_) (fun x hx=>(as6 xs x hx).1) (fun _ _=>Nat.not_lt_zero _) (aq8 (bn1 xs));have:¬ id=0:=hne id hv;simp only[aa2,this,if_false]
theorem as1 (xs:List aa9)(σ:Store)(hn:xs.length<=2147483648):C Tryz.prog EE 66 [.aa3 (xs.map aa9.cs)] σ fun v s=>(∀ i,i<σ.next->s.obj i=σ.obj i)/\σ.next<=s.next/\Grow s v 7 (xs.map aa9.cs)/\∀ id,v=.slice id 0 xs.length 7->σ.next<=id:=by
 cases hx:xs with
 | nil=>
  rw[List.map_nil];refine gd4 ?_ ?_
  ·refine C_f fok66 (nZ rfl) ?_;simp only[ic66,go_sem,ao1];exact ⟨fun _ _=>trivial,Nat.le_refl _,.inl ⟨rfl,rfl⟩,fun id h=>by cases h⟩
  ·refine C_f fok66 (nZ rfl) ?_;simp only[ic66,go_sem,ao1];rw[de6 (by simp only[aa2,if_true]) rfl];simp only[go_sem];refine ⟨fun i hi=>?_,by omega,.inr ⟨σ.next,rfl,by simp only[aa2,if_true]; rfl,by show σ.next<σ.next+2; omega⟩,fun id h=>by cases h; exact Nat.le_refl _⟩;have:¬ i=σ.next:=by omega
   simp only[this,if_false]
 | cons a as'=>
  have hne:xs.map aa9.cs≠[]:=by rw[hx]; exact fun h=>(by cases h)
  rw[<- hx];refine C_f fok66 (nZ rfl) ?_;have hnil:∀ d,dj9 (.slice d) (.aa3 (xs.map aa9.cs))=some false:=fun d=>by rw[hx]; rfl
  simp only[ic66,go_sem,ao1,hnil];rw[de5 (by simp only[aa2,if_true]) hne (as6 xs) (by rw[List.length_map]; exact hn)];simp only[go_sem];refine ⟨fun i hi=>?_,by omega,.inr ⟨σ.next+1,by rw[List.length_map],by simp only[aa2,if_true],by show σ.next+1<σ.next+2; omega⟩,fun id h=>by cases h; omega⟩;have h1:¬ i=σ.next:=by omega
  have h2:¬ i=σ.next+1:=by omega
  simp only[h1,h2,if_false]
def am3 (s:Store)(done:Prop)(v:IV)(l:List aa9):Prop:=(done/\Grow s v 7 (l.map aa9.cs))\/(¬ done/\v=ae6 l)
theorem am3.mono {s s':Store}{done done':Prop}{v:IV}{l:List aa9}(h:am3 s done v l)(hd:done↔done')(hn:s.next<=s'.next)(ho:∀ id cs,id<s.next->s.obj id=some (.row cs)->s'.obj id=some (.row cs)):am3 s' done' v l:=by
 rcases h with ⟨h1,h2⟩|⟨h1,h2⟩
 ·refine .inl ⟨hd.1 h1,?_⟩;rcases h2 with h2|⟨id,hv,hr,hlt⟩
  ·exact .inl h2
  ·exact .inr ⟨id,hv,ho _ _ hlt hr,Nat.lt_of_lt_of_le hlt hn⟩
 ·exact .inr ⟨fun h=>h1 (hd.2 h),h2⟩
theorem am3.leaf {s:Store}{done:Prop}{v:IV}{l:List aa9}(h:am3 s done v l):v.leaf=true:=by
 rcases h with ⟨_,⟨rfl,_⟩|⟨id,rfl,_⟩⟩|⟨_,rfl⟩<;>rfl
def pcs (p:aa4)(v7 v8 v10 v11 v12 v13:IV):List IV :=
 [.str p.name,.int .i64 p.evr.am6,.str p.evr.ver,.str p.evr.rel,.int .u8 p.ex2,.str p.vendor,deps p.provides,v7,v8,deps p.ac6,v10,v11,v12,v13,strs p.files]
def ay8:List IV:=[.str [],.int .i64 0,.str [],.str [],.int .u8 0,.str [],.aa1,.aa1,.aa1,.aa1,.aa1,.aa1,.aa1,.aa1,.aa1]
def cf4:List (List IV):=[[.ptr 0 7],[.ptr 0 8],[.ptr 0 10],[.ptr 0 11],[.ptr 0 12],[.ptr 0 13]]
theorem dc3 (p:aa4)(hf:p.Fit):PC Tryz.prog EE 30 [.agg p.cs] (.agg p.cs):=by
 refine ao4 hE fok30 (nZ rfl) (ah6 (av7 _)) ?_;simp only[ic30,go_sem,ah2,aa4.cs,bg6];refine aa8 (cp6 p.provides (by have:=hf.bp7.1; omega)) ?_;simp only[go_sem,bg6];refine aa8 (cp6 p.ac6 (by have:=hf.obs.1; omega)) ?_;simp only[go_sem,bg6];refine aa8 (eb2 p.files (by have:=hf.files.1; omega)) ?_;simp only[go_sem,bg6]
 refine ab3 noT (fun i fr s=>fr=[(1,.ptr 0 0),(2,.ptr 1 0),(25,.aa3 cf4),(26,.int .i64 6),(27,.int .i64 i)]/\(s.obj 1=some (.cells ay8)/\1<s.next)/\∃ v7 v8 v10 v11 v12 v13,s.obj 0=some (.cells (pcs p v7 v8 v10 v11 v12 v13)) /\
  am3 s (0<i) v7 p.requires/\am3 s (1<i) v8 p.conflicts/\am3 s (2<i) v10 p.ac3/\am3 s (3<i) v11 p.ab9/\am3 s (4<i) v12 p.suggests/\am3 s (5<i) v13 p.ad8) 6 ?_ ?_
 ·refine ⟨rfl,⟨?_,?_⟩,_,_,_,_,_,_,?_,.inr ⟨by omega,rfl⟩,.inr ⟨by omega,rfl⟩,.inr ⟨by omega,rfl⟩,.inr ⟨by omega,rfl⟩,.inr ⟨by omega,rfl⟩,.inr ⟨by omega,rfl⟩⟩
  ·simp only[aa2,reduceCtorEq,Int.reduceLT,Int.reduceLE,Int.reduceToNat,Int.reduceAdd,Nat.reduceEqDiff,Nat.reduceAdd,Nat.reduceMul,Nat.reduceLT,Nat.reduceLeDiff,decide_true,decide_false,↓reduceIte,if_true,if_false]; rfl
  ·simp only[aa6]; omega
  ·simp only[aa2,reduceCtorEq,Int.reduceLT,Int.reduceLE,Int.reduceToNat,Int.reduceAdd,Nat.reduceEqDiff,Nat.reduceAdd,Nat.reduceMul,Nat.reduceLT,Nat.reduceLeDiff,decide_true,decide_false,↓reduceIte,if_true,if_false]; rfl
 rintro i fr s hle ⟨rfl,⟨q1,hn⟩,v7,v8,v10,v11,v12,v13,q0,o7,o8,o10,o11,o12,o13⟩;by_cases hlt:i<6
 ·have hcase:i=0\/i=1\/i=2\/i=3\/i=4\/i=5:=by omega
  rcases hcase with rfl|rfl|rfl|rfl|rfl|rfl
  ·have hv:v7=ae6 p.requires:=by
    rcases o7 with ⟨h,_⟩|⟨_,h⟩
    ·exact absurd h (by omega)
    ·exact h
   subst hv;have hfl:p.requires.length<2^31/\∀ r∈p.requires,r.fit/\r.count<2^31:=hf.db2 (1,p.requires) (by simp[aa4.rows]);simp only[go_sem,cf4,q0,pcs,bg6];refine ad3 fok66 (as1 p.requires _ (by have:=hfl.1; omega)) ?_;rintro v s2 ⟨hs2,hn2,hg,hid⟩;refine ⟨hn2,?_⟩;have q02:s2.obj 0=some (.cells (pcs p (ae6 p.requires) v8 v10 v11 v12 v13)):=by rw[hs2 0 (by omega)]; exact q0
   have q12:s2.obj 1=some (.cells ay8):=by rw[hs2 1 (by omega)]; exact q1
   have hvl:v.leaf=true:=by rcases hg with ⟨rfl,_⟩|⟨id,rfl,_⟩<;>rfl
   have hvc:v.cs=[v]:=by rcases hg with ⟨rfl,_⟩|⟨id,rfl,_⟩<;>rfl
   have hlen:∀ s,cq3 0 s v=some (.int .i64 (p.requires.length:Nat)):=fun s=>by
    rcases hg with ⟨rfl,he⟩|⟨id,rfl,_⟩
    ·have:p.requires=[]:=by simpa using he
     rw[this]; rfl
    ·rw[bb4,List.length_map]
   simp only[go_sem,q02,pcs,hvl,hvc,hlen]
   refine ab3 noT (fun j fr t=>fr=[(1,.ptr 0 0),(2,.ptr 1 0),(4,.ptr 0 7),(25,.aa3 cf4),(26,.int .i64 6),(27,.int .i64 0),(39,v),(40,.int .i64 p.requires.length),(41,.int .i64 j)] /\
    s2.next<=t.next/\t.obj 0=some (.cells (pcs p v v8 v10 v11 v12 v13))/\t.obj 1=some (.cells ay8)/\∀ id cs,id<s2.next->s2.obj id=some (.row cs)->t.obj id=some (.row cs)) p.requires.length ⟨rfl,Nat.le_refl _,?_,?_,?_⟩ ?_
   ·simp only[aa2,if_true]; rfl
   ·simp only[aa2,reduceCtorEq,Int.reduceLT,Int.reduceLE,Int.reduceToNat,Int.reduceAdd,Nat.reduceEqDiff,Nat.reduceAdd,Nat.reduceMul,Nat.reduceLT,Nat.reduceLeDiff,decide_true,decide_false,↓reduceIte,if_false]; exact q12
   ·intro id cs hlt' h;have:¬ id=0:=fun e=>by subst e; rw[q02] at h; cases h
    simp only[aa2,this,if_false]; exact h
   rintro j fr t hle' ⟨rfl,t0,t1,t2,t3⟩;by_cases hjl:j<p.requires.length
   ·obtain ⟨a,ha,_,hdr,hget,_⟩:=ae8 p.requires j hjl;rcases hg with ⟨_,he⟩|⟨id,rfl,ho,hil⟩
    ·have:p.requires=[]:=by simpa using he
     rw[this] at hjl; cases hjl
    have hrow:=t3 _ _ hil ho;have c1:(j:Int)<p.requires.length:=by omega
    have c2:(0:Int)<=j:=by omega
    have w1:=ad2 (i:=j) (by have:=hfl.1; omega);have hid0:¬ id=0:=fun e=>by subst e; rw[t1] at hrow; cases hrow
    have hid1:¬ id=1:=fun e=>by subst e; rw[t2] at hrow; cases hrow
    have u0:¬ 0=t.next:=by omega
    have u1:¬ 1=t.next:=by omega
    have u2:¬ id=t.next:=by omega
    have u3:¬ t.next=id:=by omega
    have u4:¬ 0=id:=by omega
    have u5:¬ 1=id:=by omega
    have hall:=fun x hx=>(as6 p.requires x hx).1
    have hfl2:=as3 hall;have hpart:=aw9 hall j (by rw[List.length_map]; exact hjl);rw[hget] at hpart;rw[List.length_map] at hfl2;have hin:7<=((p.requires.map aa9.cs).flatten.drop (j*7)).length:=by rw[List.length_drop,hfl2]; omega
    have hin2:j*7+7<=(p.requires.map aa9.cs).flatten.length:=by rw[hfl2]; omega
    have hsame:ap5 (p.requires.map aa9.cs).flatten (j*7) a.cs=(p.requires.map aa9.cs).flatten:=ba5 (by rw[ad5]; exact hpart) (by rw[ad5]; exact hin2);simp only[go_sem,c1,c2,hrow,hin,hpart,ch7,ad5,ae3,ag7,t1,pcs,u0,u2,u3,hid0];refine aa8 (aq5 a (hfl.2 a ha).1) ?_;simp only[go_sem,c1,c2,hrow,hin2,ch8,ad5,ae3,hsame,t1,pcs,u0,u2,w1];refine ⟨hjl,by omega,?_,?_,?_⟩
    ·simp only[u4,if_false]
    ·simp only[u5,u1,if_false]; exact t2
    ·intro id' cs hlt' h;have h':=t3 id' cs hlt' h;have u6:¬ id'=t.next:=by omega
     by_cases e:id'=id
     ·subst e;rw[hrow] at h';simp only[if_true]; exact h'
     ·simp only[e,u6,if_false]; exact h'
   ·have hj':j=p.requires.length:=by omega
    subst hj';have c1:¬ (p.requires.length:Int)<p.requires.length:=by omega
    have hgt:Grow t v 7 (p.requires.map aa9.cs):=by
     rcases hg with h|⟨id,rfl,ho,hil⟩
     ·exact .inl h
     ·exact .inr ⟨id,rfl,t3 _ _ hil ho,by omega⟩
    have hrows:∀ id cs,id<s.next->s.obj id=some (.row cs)->t.obj id=some (.row cs):=fun id cs hlt' h=>t3 id cs (by omega) (by rw[hs2 id hlt']; exact h)
    have mm:∀ {d d':Prop} (u:IV) (l:List aa9),am3 s d u l->(d↔d')->am3 t d' u l:=fun u l h hd=>h.mono hd (by omega) hrows
    simp only[go_sem,c1];exact ⟨rfl,⟨t2,by omega⟩,v,v8,v10,v11,v12,v13,t1,.inl ⟨by simp,hgt⟩,mm _ _ o8 (by simp),mm _ _ o10 (by simp),mm _ _ o11 (by simp),mm _ _ o12 (by simp),mm _ _ o13 (by simp)⟩
  ·have hv:v8=ae6 p.conflicts:=by
    rcases o8 with ⟨h,_⟩|⟨_,h⟩
    ·exact absurd h (by omega)
    ·exact h
   subst hv;have hfl:p.conflicts.length<2^31/\∀ r∈p.conflicts,r.fit/\r.count<2^31:=hf.db2 (2,p.conflicts) (by simp[aa4.rows]);simp only[go_sem,cf4,q0,pcs,bg6];refine ad3 fok66 (as1 p.conflicts _ (by have:=hfl.1; omega)) ?_;rintro v s2 ⟨hs2,hn2,hg,hid⟩;refine ⟨hn2,?_⟩;have q02:s2.obj 0=some (.cells (pcs p v7 (ae6 p.conflicts) v10 v11 v12 v13)):=by rw[hs2 0 (by omega)]; exact q0
   have q12:s2.obj 1=some (.cells ay8):=by rw[hs2 1 (by omega)]; exact q1
   have hvl:v.leaf=true:=by rcases hg with ⟨rfl,_⟩|⟨id,rfl,_⟩<;>rfl
   have hvc:v.cs=[v]:=by rcases hg with ⟨rfl,_⟩|⟨id,rfl,_⟩<;>rfl
   have hlen:∀ s,cq3 0 s v=some (.int .i64 (p.conflicts.length:Nat)):=fun s=>by
    rcases hg with ⟨rfl,he⟩|⟨id,rfl,_⟩
    ·have:p.conflicts=[]:=by simpa using he
     rw[this]; rfl
    ·rw[bb4,List.length_map]
   simp only[go_sem,q02,pcs,hvl,hvc,hlen]
   refine ab3 noT (fun j fr t=>fr=[(1,.ptr 0 0),(2,.ptr 1 0),(4,.ptr 0 8),(25,.aa3 cf4),(26,.int .i64 6),(27,.int .i64 1),(39,v),(40,.int .i64 p.conflicts.length),(41,.int .i64 j)] /\
    s2.next<=t.next/\t.obj 0=some (.cells (pcs p v7 v v10 v11 v12 v13))/\t.obj 1=some (.cells ay8)/\∀ id cs,id<s2.next->s2.obj id=some (.row cs)->t.obj id=some (.row cs)) p.conflicts.length ⟨rfl,Nat.le_refl _,?_,?_,?_⟩ ?_
   ·simp only[aa2,if_true]; rfl
   ·simp only[aa2,reduceCtorEq,Int.reduceLT,Int.reduceLE,Int.reduceToNat,Int.reduceAdd,Nat.reduceEqDiff,Nat.reduceAdd,Nat.reduceMul,Nat.reduceLT,Nat.reduceLeDiff,decide_true,decide_false,↓reduceIte,if_false]; exact q12
   ·intro id cs hlt' h;have:¬ id=0:=fun e=>by subst e; rw[q02] at h; cases h
    simp only[aa2,this,if_false]; exact h
   rintro j fr t hle' ⟨rfl,t0,t1,t2,t3⟩;by_cases hjl:j<p.conflicts.length
   ·obtain ⟨a,ha,_,hdr,hget,_⟩:=ae8 p.conflicts j hjl;rcases hg with ⟨_,he⟩|⟨id,rfl,ho,hil⟩
    ·have:p.conflicts=[]:=by simpa using he
     rw[this] at hjl; cases hjl
    have hrow:=t3 _ _ hil ho;have c1:(j:Int)<p.conflicts.length:=by omega
    have c2:(0:Int)<=j:=by omega
    have w1:=ad2 (i:=j) (by have:=hfl.1; omega);have hid0:¬ id=0:=fun e=>by subst e; rw[t1] at hrow; cases hrow
    have hid1:¬ id=1:=fun e=>by subst e; rw[t2] at hrow; cases hrow
    have u0:¬ 0=t.next:=by omega
    have u1:¬ 1=t.next:=by omega
    have u2:¬ id=t.next:=by omega
    have u3:¬ t.next=id:=by omega
    have u4:¬ 0=id:=by omega
    have u5:¬ 1=id:=by omega
    have hall:=fun x hx=>(as6 p.conflicts x hx).1
    have hfl2:=as3 hall;have hpart:=aw9 hall j (by rw[List.length_map]; exact hjl);rw[hget] at hpart;rw[List.length_map] at hfl2;have hin:7<=((p.conflicts.map aa9.cs).flatten.drop (j*7)).length:=by rw[List.length_drop,hfl2]; omega
    have hin2:j*7+7<=(p.conflicts.map aa9.cs).flatten.length:=by rw[hfl2]; omega
    have hsame:ap5 (p.conflicts.map aa9.cs).flatten (j*7) a.cs=(p.conflicts.map aa9.cs).flatten:=ba5 (by rw[ad5]; exact hpart) (by rw[ad5]; exact hin2);simp only[go_sem,c1,c2,hrow,hin,hpart,ch7,ad5,ae3,ag7,t1,pcs,u0,u2,u3,hid0];refine aa8 (aq5 a (hfl.2 a ha).1) ?_;simp only[go_sem,c1,c2,hrow,hin2,ch8,ad5,ae3,hsame,t1,pcs,u0,u2,w1];refine ⟨hjl,by omega,?_,?_,?_⟩
    ·simp only[u4,if_false]
    ·simp only[u5,u1,if_false]; exact t2
    ·intro id' cs hlt' h;have h':=t3 id' cs hlt' h;have u6:¬ id'=t.next:=by omega
     by_cases e:id'=id
     ·subst e;rw[hrow] at h';simp only[if_true]; exact h'
     ·simp only[e,u6,if_false]; exact h'
   ·have hj':j=p.conflicts.length:=by omega
    subst hj';have c1:¬ (p.conflicts.length:Int)<p.conflicts.length:=by omega
    have hgt:Grow t v 7 (p.conflicts.map aa9.cs):=by
     rcases hg with h|⟨id,rfl,ho,hil⟩
     ·exact .inl h
     ·exact .inr ⟨id,rfl,t3 _ _ hil ho,by omega⟩
    have hrows:∀ id cs,id<s.next->s.obj id=some (.row cs)->t.obj id=some (.row cs):=fun id cs hlt' h=>t3 id cs (by omega) (by rw[hs2 id hlt']; exact h)
    have mm:∀ {d d':Prop} (u:IV) (l:List aa9),am3 s d u l->(d↔d')->am3 t d' u l:=fun u l h hd=>h.mono hd (by omega) hrows
    simp only[go_sem,c1];exact ⟨rfl,⟨t2,by omega⟩,v7,v,v10,v11,v12,v13,t1,mm _ _ o7 (by simp),.inl ⟨by simp,hgt⟩,mm _ _ o10 (by simp),mm _ _ o11 (by simp),mm _ _ o12 (by simp),mm _ _ o13 (by simp)⟩
  ·have hv:v10=ae6 p.ac3:=by
    rcases o10 with ⟨h,_⟩|⟨_,h⟩
    ·exact absurd h (by omega)
    ·exact h
   subst hv;have hfl:p.ac3.length<2^31/\∀ r∈p.ac3,r.fit/\r.count<2^31:=hf.db2 (1,p.ac3) (by simp[aa4.rows]);simp only[go_sem,cf4,q0,pcs,bg6];refine ad3 fok66 (as1 p.ac3 _ (by have:=hfl.1; omega)) ?_;rintro v s2 ⟨hs2,hn2,hg,hid⟩;refine ⟨hn2,?_⟩;have q02:s2.obj 0=some (.cells (pcs p v7 v8 (ae6 p.ac3) v11 v12 v13)):=by rw[hs2 0 (by omega)]; exact q0
   have q12:s2.obj 1=some (.cells ay8):=by rw[hs2 1 (by omega)]; exact q1
   have hvl:v.leaf=true:=by rcases hg with ⟨rfl,_⟩|⟨id,rfl,_⟩<;>rfl
   have hvc:v.cs=[v]:=by rcases hg with ⟨rfl,_⟩|⟨id,rfl,_⟩<;>rfl
   have hlen:∀ s,cq3 0 s v=some (.int .i64 (p.ac3.length:Nat)):=fun s=>by
    rcases hg with ⟨rfl,he⟩|⟨id,rfl,_⟩
    ·have:p.ac3=[]:=by simpa using he
     rw[this]; rfl
    ·rw[bb4,List.length_map]
   simp only[go_sem,q02,pcs,hvl,hvc,hlen]
   refine ab3 noT (fun j fr t=>fr=[(1,.ptr 0 0),(2,.ptr 1 0),(4,.ptr 0 10),(25,.aa3 cf4),(26,.int .i64 6),(27,.int .i64 2),(39,v),(40,.int .i64 p.ac3.length),(41,.int .i64 j)] /\
    s2.next<=t.next/\t.obj 0=some (.cells (pcs p v7 v8 v v11 v12 v13))/\t.obj 1=some (.cells ay8)/\∀ id cs,id<s2.next->s2.obj id=some (.row cs)->t.obj id=some (.row cs)) p.ac3.length ⟨rfl,Nat.le_refl _,?_,?_,?_⟩ ?_
   ·simp only[aa2,if_true]; rfl
   ·simp only[aa2,reduceCtorEq,Int.reduceLT,Int.reduceLE,Int.reduceToNat,Int.reduceAdd,Nat.reduceEqDiff,Nat.reduceAdd,Nat.reduceMul,Nat.reduceLT,Nat.reduceLeDiff,decide_true,decide_false,↓reduceIte,if_false]; exact q12
   ·intro id cs hlt' h;have:¬ id=0:=fun e=>by subst e; rw[q02] at h; cases h
    simp only[aa2,this,if_false]; exact h
   rintro j fr t hle' ⟨rfl,t0,t1,t2,t3⟩;by_cases hjl:j<p.ac3.length
   ·obtain ⟨a,ha,_,hdr,hget,_⟩:=ae8 p.ac3 j hjl;rcases hg with ⟨_,he⟩|⟨id,rfl,ho,hil⟩
    ·have:p.ac3=[]:=by simpa using he
     rw[this] at hjl; cases hjl
    have hrow:=t3 _ _ hil ho;have c1:(j:Int)<p.ac3.length:=by omega
    have c2:(0:Int)<=j:=by omega
    have w1:=ad2 (i:=j) (by have:=hfl.1; omega);have hid0:¬ id=0:=fun e=>by subst e; rw[t1] at hrow; cases hrow
    have hid1:¬ id=1:=fun e=>by subst e; rw[t2] at hrow; cases hrow
    have u0:¬ 0=t.next:=by omega
    have u1:¬ 1=t.next:=by omega
    have u2:¬ id=t.next:=by omega
    have u3:¬ t.next=id:=by omega
    have u4:¬ 0=id:=by omega
    have u5:¬ 1=id:=by omega
    have hall:=fun x hx=>(as6 p.ac3 x hx).1
    have hfl2:=as3 hall;have hpart:=aw9 hall j (by rw[List.length_map]; exact hjl);rw[hget] at hpart;rw[List.length_map] at hfl2;have hin:7<=((p.ac3.map aa9.cs).flatten.drop (j*7)).length:=by rw[List.length_drop,hfl2]; omega
    have hin2:j*7+7<=(p.ac3.map aa9.cs).flatten.length:=by rw[hfl2]; omega
    have hsame:ap5 (p.ac3.map aa9.cs).flatten (j*7) a.cs=(p.ac3.map aa9.cs).flatten:=ba5 (by rw[ad5]; exact hpart) (by rw[ad5]; exact hin2);simp only[go_sem,c1,c2,hrow,hin,hpart,ch7,ad5,ae3,ag7,t1,pcs,u0,u2,u3,hid0];refine aa8 (aq5 a (hfl.2 a ha).1) ?_;simp only[go_sem,c1,c2,hrow,hin2,ch8,ad5,ae3,hsame,t1,pcs,u0,u2,w1];refine ⟨hjl,by omega,?_,?_,?_⟩
    ·simp only[u4,if_false]
    ·simp only[u5,u1,if_false]; exact t2
    ·intro id' cs hlt' h;have h':=t3 id' cs hlt' h;have u6:¬ id'=t.next:=by omega
     by_cases e:id'=id
     ·subst e;rw[hrow] at h';simp only[if_true]; exact h'
     ·simp only[e,u6,if_false]; exact h'
   ·have hj':j=p.ac3.length:=by omega
    subst hj';have c1:¬ (p.ac3.length:Int)<p.ac3.length:=by omega
    have hgt:Grow t v 7 (p.ac3.map aa9.cs):=by
     rcases hg with h|⟨id,rfl,ho,hil⟩
     ·exact .inl h
     ·exact .inr ⟨id,rfl,t3 _ _ hil ho,by omega⟩
    have hrows:∀ id cs,id<s.next->s.obj id=some (.row cs)->t.obj id=some (.row cs):=fun id cs hlt' h=>t3 id cs (by omega) (by rw[hs2 id hlt']; exact h)
    have mm:∀ {d d':Prop} (u:IV) (l:List aa9),am3 s d u l->(d↔d')->am3 t d' u l:=fun u l h hd=>h.mono hd (by omega) hrows
    simp only[go_sem,c1];exact ⟨rfl,⟨t2,by omega⟩,v7,v8,v,v11,v12,v13,t1,mm _ _ o7 (by simp),mm _ _ o8 (by simp),.inl ⟨by simp,hgt⟩,mm _ _ o11 (by simp),mm _ _ o12 (by simp),mm _ _ o13 (by simp)⟩
  ·have hv:v11=ae6 p.ab9:=by
    rcases o11 with ⟨h,_⟩|⟨_,h⟩
    ·exact absurd h (by omega)
    ·exact h
   subst hv;have hfl:p.ab9.length<2^31/\∀ r∈p.ab9,r.fit/\r.count<2^31:=hf.db2 (3,p.ab9) (by simp[aa4.rows]);simp only[go_sem,cf4,q0,pcs,bg6];refine ad3 fok66 (as1 p.ab9 _ (by have:=hfl.1; omega)) ?_;rintro v s2 ⟨hs2,hn2,hg,hid⟩;refine ⟨hn2,?_⟩;have q02:s2.obj 0=some (.cells (pcs p v7 v8 v10 (ae6 p.ab9) v12 v13)):=by rw[hs2 0 (by omega)]; exact q0
   have q12:s2.obj 1=some (.cells ay8):=by rw[hs2 1 (by omega)]; exact q1
   have hvl:v.leaf=true:=by rcases hg with ⟨rfl,_⟩|⟨id,rfl,_⟩<;>rfl
   have hvc:v.cs=[v]:=by rcases hg with ⟨rfl,_⟩|⟨id,rfl,_⟩<;>rfl
   have hlen:∀ s,cq3 0 s v=some (.int .i64 (p.ab9.length:Nat)):=fun s=>by
    rcases hg with ⟨rfl,he⟩|⟨id,rfl,_⟩
    ·have:p.ab9=[]:=by simpa using he
     rw[this]; rfl
    ·rw[bb4,List.length_map]
   simp only[go_sem,q02,pcs,hvl,hvc,hlen]
   refine ab3 noT (fun j fr t=>fr=[(1,.ptr 0 0),(2,.ptr 1 0),(4,.ptr 0 11),(25,.aa3 cf4),(26,.int .i64 6),(27,.int .i64 3),(39,v),(40,.int .i64 p.ab9.length),(41,.int .i64 j)] /\
    s2.next<=t.next/\t.obj 0=some (.cells (pcs p v7 v8 v10 v v12 v13))/\t.obj 1=some (.cells ay8)/\∀ id cs,id<s2.next->s2.obj id=some (.row cs)->t.obj id=some (.row cs)) p.ab9.length ⟨rfl,Nat.le_refl _,?_,?_,?_⟩ ?_
   ·simp only[aa2,if_true]; rfl
   ·simp only[aa2,reduceCtorEq,Int.reduceLT,Int.reduceLE,Int.reduceToNat,Int.reduceAdd,Nat.reduceEqDiff,Nat.reduceAdd,Nat.reduceMul,Nat.reduceLT,Nat.reduceLeDiff,decide_true,decide_false,↓reduceIte,if_false]; exact q12
   ·intro id cs hlt' h;have:¬ id=0:=fun e=>by subst e; rw[q02] at h; cases h
    simp only[aa2,this,if_false]; exact h
   rintro j fr t hle' ⟨rfl,t0,t1,t2,t3⟩;by_cases hjl:j<p.ab9.length
   ·obtain ⟨a,ha,_,hdr,hget,_⟩:=ae8 p.ab9 j hjl;rcases hg with ⟨_,he⟩|⟨id,rfl,ho,hil⟩
    ·have:p.ab9=[]:=by simpa using he
     rw[this] at hjl; cases hjl
    have hrow:=t3 _ _ hil ho;have c1:(j:Int)<p.ab9.length:=by omega
    have c2:(0:Int)<=j:=by omega
    have w1:=ad2 (i:=j) (by have:=hfl.1; omega);have hid0:¬ id=0:=fun e=>by subst e; rw[t1] at hrow; cases hrow
    have hid1:¬ id=1:=fun e=>by subst e; rw[t2] at hrow; cases hrow
    have u0:¬ 0=t.next:=by omega
    have u1:¬ 1=t.next:=by omega
    have u2:¬ id=t.next:=by omega
    have u3:¬ t.next=id:=by omega
    have u4:¬ 0=id:=by omega
    have u5:¬ 1=id:=by omega
    have hall:=fun x hx=>(as6 p.ab9 x hx).1
    have hfl2:=as3 hall;have hpart:=aw9 hall j (by rw[List.length_map]; exact hjl);rw[hget] at hpart;rw[List.length_map] at hfl2;have hin:7<=((p.ab9.map aa9.cs).flatten.drop (j*7)).length:=by rw[List.length_drop,hfl2]; omega
    have hin2:j*7+7<=(p.ab9.map aa9.cs).flatten.length:=by rw[hfl2]; omega
    have hsame:ap5 (p.ab9.map aa9.cs).flatten (j*7) a.cs=(p.ab9.map aa9.cs).flatten:=ba5 (by rw[ad5]; exact hpart) (by rw[ad5]; exact hin2);simp only[go_sem,c1,c2,hrow,hin,hpart,ch7,ad5,ae3,ag7,t1,pcs,u0,u2,u3,hid0];refine aa8 (aq5 a (hfl.2 a ha).1) ?_;simp only[go_sem,c1,c2,hrow,hin2,ch8,ad5,ae3,hsame,t1,pcs,u0,u2,w1];refine ⟨hjl,by omega,?_,?_,?_⟩
    ·simp only[u4,if_false]
    ·simp only[u5,u1,if_false]; exact t2
    ·intro id' cs hlt' h;have h':=t3 id' cs hlt' h;have u6:¬ id'=t.next:=by omega
     by_cases e:id'=id
     ·subst e;rw[hrow] at h';simp only[if_true]; exact h'
     ·simp only[e,u6,if_false]; exact h'
   ·have hj':j=p.ab9.length:=by omega
    subst hj';have c1:¬ (p.ab9.length:Int)<p.ab9.length:=by omega
    have hgt:Grow t v 7 (p.ab9.map aa9.cs):=by
     rcases hg with h|⟨id,rfl,ho,hil⟩
     ·exact .inl h
     ·exact .inr ⟨id,rfl,t3 _ _ hil ho,by omega⟩
    have hrows:∀ id cs,id<s.next->s.obj id=some (.row cs)->t.obj id=some (.row cs):=fun id cs hlt' h=>t3 id cs (by omega) (by rw[hs2 id hlt']; exact h)
    have mm:∀ {d d':Prop} (u:IV) (l:List aa9),am3 s d u l->(d↔d')->am3 t d' u l:=fun u l h hd=>h.mono hd (by omega) hrows
    simp only[go_sem,c1];exact ⟨rfl,⟨t2,by omega⟩,v7,v8,v10,v,v12,v13,t1,mm _ _ o7 (by simp),mm _ _ o8 (by simp),mm _ _ o10 (by simp),.inl ⟨by simp,hgt⟩,mm _ _ o12 (by simp),mm _ _ o13 (by simp)⟩
  ·have hv:v12=ae6 p.suggests:=by
    rcases o12 with ⟨h,_⟩|⟨_,h⟩
    ·exact absurd h (by omega)
    ·exact h
   subst hv;have hfl:p.suggests.length<2^31/\∀ r∈p.suggests,r.fit/\r.count<2^31:=hf.db2 (1,p.suggests) (by simp[aa4.rows]);simp only[go_sem,cf4,q0,pcs,bg6];refine ad3 fok66 (as1 p.suggests _ (by have:=hfl.1; omega)) ?_;rintro v s2 ⟨hs2,hn2,hg,hid⟩;refine ⟨hn2,?_⟩;have q02:s2.obj 0=some (.cells (pcs p v7 v8 v10 v11 (ae6 p.suggests) v13)):=by rw[hs2 0 (by omega)]; exact q0
   have q12:s2.obj 1=some (.cells ay8):=by rw[hs2 1 (by omega)]; exact q1
   have hvl:v.leaf=true:=by rcases hg with ⟨rfl,_⟩|⟨id,rfl,_⟩<;>rfl
   have hvc:v.cs=[v]:=by rcases hg with ⟨rfl,_⟩|⟨id,rfl,_⟩<;>rfl
   have hlen:∀ s,cq3 0 s v=some (.int .i64 (p.suggests.length:Nat)):=fun s=>by
    rcases hg with ⟨rfl,he⟩|⟨id,rfl,_⟩
    ·have:p.suggests=[]:=by simpa using he
     rw[this]; rfl
    ·rw[bb4,List.length_map]
   simp only[go_sem,q02,pcs,hvl,hvc,hlen]
   refine ab3 noT (fun j fr t=>fr=[(1,.ptr 0 0),(2,.ptr 1 0),(4,.ptr 0 12),(25,.aa3 cf4),(26,.int .i64 6),(27,.int .i64 4),(39,v),(40,.int .i64 p.suggests.length),(41,.int .i64 j)] /\
    s2.next<=t.next/\t.obj 0=some (.cells (pcs p v7 v8 v10 v11 v v13))/\t.obj 1=some (.cells ay8)/\∀ id cs,id<s2.next->s2.obj id=some (.row cs)->t.obj id=some (.row cs)) p.suggests.length ⟨rfl,Nat.le_refl _,?_,?_,?_⟩ ?_
   ·simp only[aa2,if_true]; rfl
   ·simp only[aa2,reduceCtorEq,Int.reduceLT,Int.reduceLE,Int.reduceToNat,Int.reduceAdd,Nat.reduceEqDiff,Nat.reduceAdd,Nat.reduceMul,Nat.reduceLT,Nat.reduceLeDiff,decide_true,decide_false,↓reduceIte,if_false]; exact q12
   ·intro id cs hlt' h;have:¬ id=0:=fun e=>by subst e; rw[q02] at h; cases h
    simp only[aa2,this,if_false]; exact h
   rintro j fr t hle' ⟨rfl,t0,t1,t2,t3⟩;by_cases hjl:j<p.suggests.length
   ·obtain ⟨a,ha,_,hdr,hget,_⟩:=ae8 p.suggests j hjl;rcases hg with ⟨_,he⟩|⟨id,rfl,ho,hil⟩
    ·have:p.suggests=[]:=by simpa using he
     rw[this] at hjl; cases hjl
    have hrow:=t3 _ _ hil ho;have c1:(j:Int)<p.suggests.length:=by omega
    have c2:(0:Int)<=j:=by omega
    have w1:=ad2 (i:=j) (by have:=hfl.1; omega);have hid0:¬ id=0:=fun e=>by subst e; rw[t1] at hrow; cases hrow
    have hid1:¬ id=1:=fun e=>by subst e; rw[t2] at hrow; cases hrow
    have u0:¬ 0=t.next:=by omega
    have u1:¬ 1=t.next:=by omega
    have u2:¬ id=t.next:=by omega
    have u3:¬ t.next=id:=by omega
    have u4:¬ 0=id:=by omega
    have u5:¬ 1=id:=by omega
    have hall:=fun x hx=>(as6 p.suggests x hx).1
    have hfl2:=as3 hall;have hpart:=aw9 hall j (by rw[List.length_map]; exact hjl);rw[hget] at hpart;rw[List.length_map] at hfl2;have hin:7<=((p.suggests.map aa9.cs).flatten.drop (j*7)).length:=by rw[List.length_drop,hfl2]; omega
    have hin2:j*7+7<=(p.suggests.map aa9.cs).flatten.length:=by rw[hfl2]; omega
    have hsame:ap5 (p.suggests.map aa9.cs).flatten (j*7) a.cs=(p.suggests.map aa9.cs).flatten:=ba5 (by rw[ad5]; exact hpart) (by rw[ad5]; exact hin2);simp only[go_sem,c1,c2,hrow,hin,hpart,ch7,ad5,ae3,ag7,t1,pcs,u0,u2,u3,hid0];refine aa8 (aq5 a (hfl.2 a ha).1) ?_;simp only[go_sem,c1,c2,hrow,hin2,ch8,ad5,ae3,hsame,t1,pcs,u0,u2,w1];refine ⟨hjl,by omega,?_,?_,?_⟩
    ·simp only[u4,if_false]
    ·simp only[u5,u1,if_false]; exact t2
    ·intro id' cs hlt' h;have h':=t3 id' cs hlt' h;have u6:¬ id'=t.next:=by omega
     by_cases e:id'=id
     ·subst e;rw[hrow] at h';simp only[if_true]; exact h'
     ·simp only[e,u6,if_false]; exact h'
   ·have hj':j=p.suggests.length:=by omega
    subst hj';have c1:¬ (p.suggests.length:Int)<p.suggests.length:=by omega
    have hgt:Grow t v 7 (p.suggests.map aa9.cs):=by
     rcases hg with h|⟨id,rfl,ho,hil⟩
     ·exact .inl h
     ·exact .inr ⟨id,rfl,t3 _ _ hil ho,by omega⟩
    have hrows:∀ id cs,id<s.next->s.obj id=some (.row cs)->t.obj id=some (.row cs):=fun id cs hlt' h=>t3 id cs (by omega) (by rw[hs2 id hlt']; exact h)
    have mm:∀ {d d':Prop} (u:IV) (l:List aa9),am3 s d u l->(d↔d')->am3 t d' u l:=fun u l h hd=>h.mono hd (by omega) hrows
    simp only[go_sem,c1];exact ⟨rfl,⟨t2,by omega⟩,v7,v8,v10,v11,v,v13,t1,mm _ _ o7 (by simp),mm _ _ o8 (by simp),mm _ _ o10 (by simp),mm _ _ o11 (by simp),.inl ⟨by simp,hgt⟩,mm _ _ o13 (by simp)⟩
  ·have hv:v13=ae6 p.ad8:=by
    rcases o13 with ⟨h,_⟩|⟨_,h⟩
    ·exact absurd h (by omega)
    ·exact h
   subst hv;have hfl:p.ad8.length<2^31/\∀ r∈p.ad8,r.fit/\r.count<2^31:=hf.db2 (3,p.ad8) (by simp[aa4.rows]);simp only[go_sem,cf4,q0,pcs,bg6];refine ad3 fok66 (as1 p.ad8 _ (by have:=hfl.1; omega)) ?_;rintro v s2 ⟨hs2,hn2,hg,hid⟩;refine ⟨hn2,?_⟩;have q02:s2.obj 0=some (.cells (pcs p v7 v8 v10 v11 v12 (ae6 p.ad8))):=by rw[hs2 0 (by omega)]; exact q0
   have q12:s2.obj 1=some (.cells ay8):=by rw[hs2 1 (by omega)]; exact q1
   have hvl:v.leaf=true:=by rcases hg with ⟨rfl,_⟩|⟨id,rfl,_⟩<;>rfl
   have hvc:v.cs=[v]:=by rcases hg with ⟨rfl,_⟩|⟨id,rfl,_⟩<;>rfl
   have hlen:∀ s,cq3 0 s v=some (.int .i64 (p.ad8.length:Nat)):=fun s=>by
    rcases hg with ⟨rfl,he⟩|⟨id,rfl,_⟩
    ·have:p.ad8=[]:=by simpa using he
     rw[this]; rfl
    ·rw[bb4,List.length_map]
   simp only[go_sem,q02,pcs,hvl,hvc,hlen]
   refine ab3 noT (fun j fr t=>fr=[(1,.ptr 0 0),(2,.ptr 1 0),(4,.ptr 0 13),(25,.aa3 cf4),(26,.int .i64 6),(27,.int .i64 5),(39,v),(40,.int .i64 p.ad8.length),(41,.int .i64 j)] /\
    s2.next<=t.next/\t.obj 0=some (.cells (pcs p v7 v8 v10 v11 v12 v))/\t.obj 1=some (.cells ay8)/\∀ id cs,id<s2.next->s2.obj id=some (.row cs)->t.obj id=some (.row cs)) p.ad8.length ⟨rfl,Nat.le_refl _,?_,?_,?_⟩ ?_
   ·simp only[aa2,if_true]; rfl
   ·simp only[aa2,reduceCtorEq,Int.reduceLT,Int.reduceLE,Int.reduceToNat,Int.reduceAdd,Nat.reduceEqDiff,Nat.reduceAdd,Nat.reduceMul,Nat.reduceLT,Nat.reduceLeDiff,decide_true,decide_false,↓reduceIte,if_false]; exact q12
   ·intro id cs hlt' h;have:¬ id=0:=fun e=>by subst e; rw[q02] at h; cases h
    simp only[aa2,this,if_false]; exact h
   rintro j fr t hle' ⟨rfl,t0,t1,t2,t3⟩;by_cases hjl:j<p.ad8.length
   ·obtain ⟨a,ha,_,hdr,hget,_⟩:=ae8 p.ad8 j hjl;rcases hg with ⟨_,he⟩|⟨id,rfl,ho,hil⟩
    ·have:p.ad8=[]:=by simpa using he
     rw[this] at hjl; cases hjl
    have hrow:=t3 _ _ hil ho;have c1:(j:Int)<p.ad8.length:=by omega
    have c2:(0:Int)<=j:=by omega
    have w1:=ad2 (i:=j) (by have:=hfl.1; omega);have hid0:¬ id=0:=fun e=>by subst e; rw[t1] at hrow; cases hrow
    have hid1:¬ id=1:=fun e=>by subst e; rw[t2] at hrow; cases hrow
    have u0:¬ 0=t.next:=by omega
    have u1:¬ 1=t.next:=by omega
    have u2:¬ id=t.next:=by omega
    have u3:¬ t.next=id:=by omega
    have u4:¬ 0=id:=by omega
    have u5:¬ 1=id:=by omega
    have hall:=fun x hx=>(as6 p.ad8 x hx).1
    have hfl2:=as3 hall;have hpart:=aw9 hall j (by rw[List.length_map]; exact hjl);rw[hget] at hpart;rw[List.length_map] at hfl2;have hin:7<=((p.ad8.map aa9.cs).flatten.drop (j*7)).length:=by rw[List.length_drop,hfl2]; omega
    have hin2:j*7+7<=(p.ad8.map aa9.cs).flatten.length:=by rw[hfl2]; omega
    have hsame:ap5 (p.ad8.map aa9.cs).flatten (j*7) a.cs=(p.ad8.map aa9.cs).flatten:=ba5 (by rw[ad5]; exact hpart) (by rw[ad5]; exact hin2);simp only[go_sem,c1,c2,hrow,hin,hpart,ch7,ad5,ae3,ag7,t1,pcs,u0,u2,u3,hid0];refine aa8 (aq5 a (hfl.2 a ha).1) ?_;simp only[go_sem,c1,c2,hrow,hin2,ch8,ad5,ae3,hsame,t1,pcs,u0,u2,w1];refine ⟨hjl,by omega,?_,?_,?_⟩
    ·simp only[u4,if_false]
    ·simp only[u5,u1,if_false]; exact t2
    ·intro id' cs hlt' h;have h':=t3 id' cs hlt' h;have u6:¬ id'=t.next:=by omega
     by_cases e:id'=id
     ·subst e;rw[hrow] at h';simp only[if_true]; exact h'
     ·simp only[e,u6,if_false]; exact h'
   ·have hj':j=p.ad8.length:=by omega
    subst hj';have c1:¬ (p.ad8.length:Int)<p.ad8.length:=by omega
    have hgt:Grow t v 7 (p.ad8.map aa9.cs):=by
     rcases hg with h|⟨id,rfl,ho,hil⟩
     ·exact .inl h
     ·exact .inr ⟨id,rfl,t3 _ _ hil ho,by omega⟩
    have hrows:∀ id cs,id<s.next->s.obj id=some (.row cs)->t.obj id=some (.row cs):=fun id cs hlt' h=>t3 id cs (by omega) (by rw[hs2 id hlt']; exact h)
    have mm:∀ {d d':Prop} (u:IV) (l:List aa9),am3 s d u l->(d↔d')->am3 t d' u l:=fun u l h hd=>h.mono hd (by omega) hrows
    simp only[go_sem,c1];exact ⟨rfl,⟨t2,by omega⟩,v7,v8,v10,v11,v12,v,t1,mm _ _ o7 (by simp),mm _ _ o8 (by simp),mm _ _ o10 (by simp),mm _ _ o11 (by simp),mm _ _ o12 (by simp),.inl ⟨by simp,hgt⟩⟩
 ·have hi':i=6:=by omega
  subst hi';have c1:¬ ((6:Nat):Int)<6:=by omega
  simp only[go_sem,c1,q0,q1,pcs,ay8,bt2,o7.leaf,o8.leaf,o10.leaf,o11.leaf,o12.leaf,o13.leaf]
  have fz:∀ (v:IV) (l:List aa9) (k:Nat) (s':Store),k<6->am3 s (k<6) v l->(∀ id cs,s.obj id=some (.row cs)->s'.obj id=some (.row cs))->s.next<=s'.next->dk5 s' 0 v (ae6 l):=by
   intro v l k s' hk ho h1 h2;rcases ho.mono Iff.rfl h2 (fun id cs _ h=>h1 id cs h) with ⟨_,h⟩|⟨h,_⟩
   ·exact h.frz (fun x hx=>(as6 l x hx).1) (fun _ _=>Nat.not_lt_zero _) (aq8 (bn1 l))
   ·exact absurd hk h
  have hr:∀ id cs,s.obj id=some (.row cs)->(s.put 1 (ak4.cells (pcs p v7 v8 v10 v11 v12 v13))).obj id=some (.row cs):=fun id cs h=>by
   have:¬ id=1:=fun e=>by subst e; rw[q1] at h; cases h
   simp only[aa2,this,if_false]; exact h
  have b1:=fun v hv=>Frz.keep (σ:=s.put 1 (ak4.cells (pcs p v7 v8 v10 v11 v12 v13))) (S:=fun i=>i<0) v hv
  exact .io6 (.cons (bd3 _) (.cons (ac8 _ _) (.cons (bd3 _) (.cons (bd3 _) (.cons (ac8 _ _) (.cons (bd3 _) (.cons (b1 _ (bv1 _))
   (.cons (fz v7 _ 0 _ (by omega) o7 hr (Nat.le_refl _)) (.cons (fz v8 _ 1 _ (by omega) o8 hr (Nat.le_refl _)) (.cons (b1 _ (bv1 _)) (.cons (fz v10 _ 2 _ (by omega) o10 hr (Nat.le_refl _)) (.cons (fz v11 _ 3 _ (by omega) o11 hr (Nat.le_refl _))
   (.cons (fz v12 _ 4 _ (by omega) o12 hr (Nat.le_refl _)) (.cons (fz v13 _ 5 _ (by omega) o13 hr (Nat.le_refl _)) (.cons (b1 _ (ck5 _)) .nil)))))))))))))))
end Go.Id.Tryz
