/- Rows that are looked through; packages,as they may be. Conditions: none. -/
import Derived.Test.YtjpdjifjokldlaaDoorTKPB
import Derived.Test.YtjpdjifjokldlaaDoorFwQ
set_option linter.all false
namespace Go.Id.Tryd
open Go Go.Id Go.Proofs Go.Id.Md
def au5 {α:Type}(q:α→Bool):List α→Int→Int
 | [],_=>-1
 | e::es,i=>if q e then i else au5 q es (i+1)
theorem ff7 {α:Type}(q:α→Bool):∀ (l:List α) (i:Nat),decide (0≤au5 q l i)=l.any q:=by
 intro l
 induction l with
 | nil=>intro i; rfl
 | cons x l ih=>
  intro i;simp only[au5,List.any_cons];by_cases h:q x=true
  ·simp only[h,if_true,Bool.true_or]; exact decide_eq_true (by omega)
  ·have h':q x=false:=by simpa using h
   have e:=ih (i+1);rw[Int.natCast_add,Int.natCast_one] at e;simp only[h',Bool.false_eq_true,if_false,Bool.false_or];exact e
theorem bx6 {α:Type}(q:α→Bool)(l:List α):decide (0≤au5 q l 0)=l.any q:=ff7 q l 0
theorem bx7 (d:Dep):d.cs.length=5:=rfl
theorem cb3 (d:Dep):d.cs.all IV.leaf=true:=rfl
theorem cb4 (d:Dep):d.cs.take 5=d.cs:=rfl
theorem ac3 (r:aa8):r.cs.all IV.leaf=true:=by rw[aa8.aq1]; rfl
theorem ae5 (r:aa8):r.cs.take 7=r.cs:=List.take_of_length_le (by rw[ac1]; exact Nat.le_refl _)
theorem cz1 (s:Str):(ap4 s).length=1:=rfl
theorem ak3 (l:List Dep):Bnd 0 (.aa4 (l.map Dep.cs)):=.aa4 _ fun e he c hc=>by
 obtain ⟨d,_,rfl⟩:=List.mem_map.1 he; exact go5 d c hc
theorem an5 (l:List Str):Bnd 0 (.aa4 (l.map ap4)):=.aa4 _ fun e he c hc=>by
 obtain ⟨d,_,rfl⟩:=List.mem_map.1 he; cases hc with|head=>exact .str _|tail _ h=>cases h
theorem ad2 (l:List aa8):Bnd 0 (.aa4 (l.map aa8.cs)):=.aa4 _ fun e he c hc=>by
 obtain ⟨d,_,rfl⟩:=List.mem_map.1 he; exact dw7 d c hc
theorem ff8 (xs:List Dep)(g:Nat)(first cap:List IV)(q:Dep→Bool)(hn:xs.length<2^62)(hok:okF Tryd.prog g=true)
  (hq:∀ x∈xs,PC Tryd.prog EE g (first++[IV.agg (Dep.cs x)]++cap) (.bool (q x))):PC Tryd.prog EE 84 [.aa4 (xs.map Dep.cs),.func (.func g) first cap] (.int .i64 (au5 q xs 0)):=by
 refine bp3 fok84 (nZ rfl) fun σ=>?_
 simp only[ic84,go_sem];refine ac9 noT (fun i fr s=>s=σ∧fr=[(0,.aa4 (xs.map Dep.cs)),(1,.func (.func g) first cap),(7,.int .i64 xs.length),(8,.int .i64 i)]∧au5 q xs 0=au5 q (xs.drop i) i) xs.length ⟨rfl,rfl,rfl⟩ ?_;rintro i fr s hi ⟨rfl,rfl,hf⟩;by_cases hlt:i<xs.length
 ·obtain ⟨x,ha,_,hdr,hget,_⟩:=ae9 xs i hlt;have c1:(i:Int)<xs.length:=by omega
  have c2:(0:Int)≤i:=by omega
  have w1:=ag4 (i:=i) (by omega);rw[hdr] at hf;simp only[go_sem,c1,c2,hget,bx7,cb4,cb3];refine av4 hok (gl4 (hq x ha)) ?_;rintro v s ⟨rfl,rfl⟩;refine ⟨Nat.le_refl _,?_⟩
  cases hqe:q x with
  | true=>simp only[go_sem,hf,au5,hqe,and_self]
  | false=>
   simp only[go_sem,w1];exact ⟨hlt,by rw[hf]; simp only[au5,hqe,Bool.false_eq_true,if_false,Int.natCast_add,Int.natCast_one]⟩
 ·have hi':i=xs.length:=by omega
  subst hi';have c1:¬ (xs.length:Int)<xs.length:=by omega
  rw[List.drop_length] at hf;simp only[go_sem,c1,hf,au5,and_self]
theorem ff9 (xs:List Dep)(g:Nat)(first cap:List IV)(q:Dep→Bool)(hn:xs.length<2^62)(hok:okF Tryd.prog g=true)
  (hq:∀ x∈xs,PC Tryd.prog EE g (first++[IV.agg (Dep.cs x)]++cap) (.bool (q x))):PC Tryd.prog EE 59 [.aa4 (xs.map Dep.cs),.func (.func g) first cap] (.bool (xs.any q)):=by
 refine bp3 fok59 (nZ rfl) fun σ=>?_
 simp only[ic59,go_sem];refine ac2 fok84 (ff8 xs g first cap q hn hok hq) ?_;simp only[go_sem,bx6,and_self]
theorem fg1 (x:Dep)(g:Nat)(first cap:List IV)(b:Bool)(hb:∀ c∈first,Bnd 0 c)(hb2:∀ c∈cap,Bnd 0 c)(hok:okF Tryd.prog g=true)(hq:PC Tryd.prog EE g (first++[IV.agg (Dep.cs x)]++cap) (.bool b)) :
  PC Tryd.prog EE 60 [IV.agg (Dep.cs x),.af4 [.func (.func g) first cap]] (.bool !b):=by
 refine bp3 fok60 (nZ rfl) fun σ=>?_
 simp only[ic60,go_sem,bx7,cb4,cb3];refine av4 hok (gl4 hq) ?_;rintro v s ⟨rfl,rfl⟩;refine ⟨Nat.le_refl _,?_⟩;simp only[go_sem,and_self]
theorem dw8 (xs:List Dep)(n:Int)(g:Nat)(first cap:List IV)(p:Dep→Bool)(hn:xs.length<2^62)(hb:∀ c∈first,Bnd 0 c)(hb2:∀ c∈cap,Bnd 0 c)(hok:okF Tryd.prog g=true)
  (hq:∀ x∈xs,PC Tryd.prog EE g (first++[IV.agg (Dep.cs x)]++cap) (.bool (p x))):PC Tryd.prog EE 44 [.aa4 (xs.map Dep.cs),.int .i64 n,.func (.func g) first cap] (.bool (decide ((xs.length:Int)≤n)&&xs.all p)):=by
 refine bp3 fok44 (nZ rfl) fun σ=>?_
 by_cases hle:(xs.length:Int)≤n
 ·simp only[ic44,go_sem,hle];refine ac2 fok59 (ff9 xs 60 [] [.af4 [.func (.func g) first cap]] (fun x=>!p x) hn fok60.1 fun x hx=>fg1 x g first cap (p x) hb hb2 hok (hq x hx)) ?_;have:(!xs.any fun x=>!p x)=xs.all p:=by rw[List.not_any_eq_all_not]; simp
  simp only[go_sem,hle,this,and_self]
 ·simp only[ic44,go_sem,hle,and_self]
theorem fg2 (xs:List Str)(g:Nat)(first cap:List IV)(q:Str→Bool)(hn:xs.length<2^62)(hok:okF Tryd.prog g=true)
  (hq:∀ x∈xs,PC Tryd.prog EE g (first++[IV.str x]++cap) (.bool (q x))):PC Tryd.prog EE 86 [.aa4 (xs.map ap4),.func (.func g) first cap] (.int .i64 (au5 q xs 0)):=by
 refine bp3 fok86 (nZ rfl) fun σ=>?_
 simp only[ic86,go_sem];refine ac9 noT (fun i fr s=>s=σ∧fr=[(0,.aa4 (xs.map ap4)),(1,.func (.func g) first cap),(7,.int .i64 xs.length),(8,.int .i64 i)]∧au5 q xs 0=au5 q (xs.drop i) i) xs.length ⟨rfl,rfl,rfl⟩ ?_;rintro i fr s hi ⟨rfl,rfl,hf⟩;by_cases hlt:i<xs.length
 ·obtain ⟨x,ha,_,hdr,hget,_⟩:=ae9 xs i hlt;have c1:(i:Int)<xs.length:=by omega
  have c2:(0:Int)≤i:=by omega
  have w1:=ag4 (i:=i) (by omega);rw[hdr] at hf;simp only[go_sem,c1,c2,hget,cz1,ap4];refine av4 hok (gl4 (hq x ha)) ?_;rintro v s ⟨rfl,rfl⟩;refine ⟨Nat.le_refl _,?_⟩
  cases hqe:q x with
  | true=>simp only[go_sem,hf,au5,hqe,and_self]
  | false=>
   simp only[go_sem,w1];exact ⟨hlt,by rw[hf]; simp only[au5,hqe,Bool.false_eq_true,if_false,Int.natCast_add,Int.natCast_one]⟩
 ·have hi':i=xs.length:=by omega
  subst hi';have c1:¬ (xs.length:Int)<xs.length:=by omega
  rw[List.drop_length] at hf;simp only[go_sem,c1,hf,au5,and_self]
theorem fg3 (xs:List Str)(g:Nat)(first cap:List IV)(q:Str→Bool)(hn:xs.length<2^62)(hok:okF Tryd.prog g=true)
  (hq:∀ x∈xs,PC Tryd.prog EE g (first++[IV.str x]++cap) (.bool (q x))):PC Tryd.prog EE 62 [.aa4 (xs.map ap4),.func (.func g) first cap] (.bool (xs.any q)):=by
 refine bp3 fok62 (nZ rfl) fun σ=>?_
 simp only[ic62,go_sem];refine ac2 fok86 (fg2 xs g first cap q hn hok hq) ?_;simp only[go_sem,bx6,and_self]
theorem fg5 (x:Str)(g:Nat)(first cap:List IV)(b:Bool)(hb:∀ c∈first,Bnd 0 c)(hb2:∀ c∈cap,Bnd 0 c)(hok:okF Tryd.prog g=true)(hq:PC Tryd.prog EE g (first++[IV.str x]++cap) (.bool b)) :
  PC Tryd.prog EE 63 [IV.str x,.af4 [.func (.func g) first cap]] (.bool !b):=by
 refine bp3 fok63 (nZ rfl) fun σ=>?_
 simp only[ic63,go_sem,cz1,ap4];refine av4 hok (gl4 hq) ?_;rintro v s ⟨rfl,rfl⟩;refine ⟨Nat.le_refl _,?_⟩;simp only[go_sem,and_self]
theorem fv4 (xs:List Str)(n:Int)(g:Nat)(first cap:List IV)(p:Str→Bool)(hn:xs.length<2^62)(hb:∀ c∈first,Bnd 0 c)(hb2:∀ c∈cap,Bnd 0 c)(hok:okF Tryd.prog g=true)
  (hq:∀ x∈xs,PC Tryd.prog EE g (first++[IV.str x]++cap) (.bool (p x))):PC Tryd.prog EE 46 [.aa4 (xs.map ap4),.int .i64 n,.func (.func g) first cap] (.bool (decide ((xs.length:Int)≤n)&&xs.all p)):=by
 refine bp3 fok46 (nZ rfl) fun σ=>?_
 by_cases hle:(xs.length:Int)≤n
 ·simp only[ic46,go_sem,hle];refine ac2 fok62 (fg3 xs 63 [] [.af4 [.func (.func g) first cap]] (fun x=>!p x) hn fok63.1 fun x hx=>fg5 x g first cap (p x) hb hb2 hok (hq x hx)) ?_;have:(!xs.any fun x=>!p x)=xs.all p:=by rw[List.not_any_eq_all_not]; simp
  simp only[go_sem,hle,this,and_self]
 ·simp only[ic46,go_sem,hle,and_self]
theorem en7 (xs:List aa8)(g:Nat)(first cap:List IV)(q:aa8→Bool)(hn:xs.length<2^62)(hok:okF Tryd.prog g=true)
  (hq:∀ x∈xs,PC Tryd.prog EE g (first++[IV.agg (aa8.cs x)]++cap) (.bool (q x))):PC Tryd.prog EE 87 [.aa4 (xs.map aa8.cs),.func (.func g) first cap] (.int .i64 (au5 q xs 0)):=by
 refine bp3 fok87 (nZ rfl) fun σ=>?_
 simp only[ic87,go_sem];refine ac9 noT (fun i fr s=>s=σ∧fr=[(0,.aa4 (xs.map aa8.cs)),(1,.func (.func g) first cap),(7,.int .i64 xs.length),(8,.int .i64 i)]∧au5 q xs 0=au5 q (xs.drop i) i) xs.length ⟨rfl,rfl,rfl⟩ ?_;rintro i fr s hi ⟨rfl,rfl,hf⟩;by_cases hlt:i<xs.length
 ·obtain ⟨x,ha,_,hdr,hget,_⟩:=ae9 xs i hlt;have c1:(i:Int)<xs.length:=by omega
  have c2:(0:Int)≤i:=by omega
  have w1:=ag4 (i:=i) (by omega);rw[hdr] at hf;simp only[go_sem,c1,c2,hget,ac1,ae5,ac3];refine av4 hok (gl4 (hq x ha)) ?_;rintro v s ⟨rfl,rfl⟩;refine ⟨Nat.le_refl _,?_⟩
  cases hqe:q x with
  | true=>simp only[go_sem,hf,au5,hqe,and_self]
  | false=>
   simp only[go_sem,w1];exact ⟨hlt,by rw[hf]; simp only[au5,hqe,Bool.false_eq_true,if_false,Int.natCast_add,Int.natCast_one]⟩
 ·have hi':i=xs.length:=by omega
  subst hi';have c1:¬ (xs.length:Int)<xs.length:=by omega
  rw[List.drop_length] at hf;simp only[go_sem,c1,hf,au5,and_self]
theorem en8 (xs:List aa8)(g:Nat)(first cap:List IV)(q:aa8→Bool)(hn:xs.length<2^62)(hok:okF Tryd.prog g=true)
  (hq:∀ x∈xs,PC Tryd.prog EE g (first++[IV.agg (aa8.cs x)]++cap) (.bool (q x))):PC Tryd.prog EE 65 [.aa4 (xs.map aa8.cs),.func (.func g) first cap] (.bool (xs.any q)):=by
 refine bp3 fok65 (nZ rfl) fun σ=>?_
 simp only[ic65,go_sem];refine ac2 fok87 (en7 xs g first cap q hn hok hq) ?_;simp only[go_sem,bx6,and_self]
theorem en9 (x:aa8)(g:Nat)(first cap:List IV)(b:Bool)(hb:∀ c∈first,Bnd 0 c)(hb2:∀ c∈cap,Bnd 0 c)(hok:okF Tryd.prog g=true)(hq:PC Tryd.prog EE g (first++[IV.agg (aa8.cs x)]++cap) (.bool b)) :
  PC Tryd.prog EE 66 [IV.agg (aa8.cs x),.af4 [.func (.func g) first cap]] (.bool !b):=by
 refine bp3 fok66 (nZ rfl) fun σ=>?_
 simp only[ic66,go_sem,ac1,ae5,ac3];refine av4 hok (gl4 hq) ?_;rintro v s ⟨rfl,rfl⟩;refine ⟨Nat.le_refl _,?_⟩;simp only[go_sem,and_self]
theorem fg6 (xs:List aa8)(n:Int)(g:Nat)(first cap:List IV)(p:aa8→Bool)(hn:xs.length<2^62)(hb:∀ c∈first,Bnd 0 c)(hb2:∀ c∈cap,Bnd 0 c)(hok:okF Tryd.prog g=true)
  (hq:∀ x∈xs,PC Tryd.prog EE g (first++[IV.agg (aa8.cs x)]++cap) (.bool (p x))):PC Tryd.prog EE 48 [.aa4 (xs.map aa8.cs),.int .i64 n,.func (.func g) first cap] (.bool (decide ((xs.length:Int)≤n)&&xs.all p)):=by
 refine bp3 fok48 (nZ rfl) fun σ=>?_
 by_cases hle:(xs.length:Int)≤n
 ·simp only[ic48,go_sem,hle];refine ac2 fok65 (en8 xs 66 [] [.af4 [.func (.func g) first cap]] (fun x=>!p x) hn fok66.1 fun x hx=>en9 x g first cap (p x) hb hb2 hok (hq x hx)) ?_;have:(!xs.any fun x=>!p x)=xs.all p:=by rw[List.not_any_eq_all_not]; simp
  simp only[go_sem,hle,this,and_self]
 ·simp only[ic48,go_sem,hle,and_self]
/-! ### Packages -/
def dw9 (x:Int×List aa8):List IV:=[.int .u8 x.1,ab7 x.2]
def fg7 (p:aa3):List (List IV):=p.rows.map dw9
theorem bx8 (p:aa3):∀ c∈p.cs,Bnd 0 c:=by
 intro c hc;simp only[aa3.cs,List.mem_cons,List.not_mem_nil,or_false] at hc;rcases hc with rfl|rfl|rfl|rfl|rfl|rfl|rfl|rfl|rfl|rfl|rfl|rfl|rfl|rfl|rfl<;>first|exact .str _|exact .int _ _|exact ak3 _|exact ad2 _|exact an5 _
theorem cb5 (p:aa3):Bnd 0 (.agg p.cs):=.agg _ (bx8 p)
theorem ak2 (p:aa3):p.cs.length=15:=rfl
theorem ak4 (p:aa3):p.cs.take 15=p.cs:=rfl
theorem ad9 (p:aa3):p.cs.all IV.leaf=true:=rfl
theorem fv5 (p:aa3):PC Tryd.prog EE 47 [.agg p.cs] (.func (.func 64) [] [.af4 p.cs]):=by
 refine bp3 fok47 (nZ rfl) fun σ=>?_
 simp only[ic47,go_sem,ad9,and_self]
theorem eo1 (p:aa3):ey9 Tryd.prog EE (.func (.func 64) [] [.af4 p.cs]) (fg7 p) (fun _=>True):=by
 intro yid I S σ hown hstab hy hi;refine ⟨fok64.1,?_⟩;refine C_f fok64 (nZ rfl) ?_;simp only[ic64,go_sem,aa3.cs];simp only[fg7,aa3.rows,List.map_cons,List.map_nil,dw9] at hi;have stop:∀ s,σ.next≤s.next→S s→gj2 σ.next I S (.tuple []) s:=fun s hn hs=>⟨hn,.inr hs⟩
 refine dm9 hy hi (fun s1 n1 i1=>?_) (fun s1 n1 h1=>by simp only[go_sem]; exact stop _ n1 h1);simp only[go_sem];refine dm9 hy i1 (fun s2 n2 i2=>?_) (fun s2 n2 h2=>by simp only[go_sem]; exact stop _ (by omega) h2);simp only[go_sem];refine dm9 hy i2 (fun s3 n3 i3=>?_) (fun s3 n3 h3=>by simp only[go_sem]; exact stop _ (by omega) h3);simp only[go_sem];refine dm9 hy i3 (fun s4 n4 i4=>?_) (fun s4 n4 h4=>by simp only[go_sem]; exact stop _ (by omega) h4);simp only[go_sem];refine dm9 hy i4 (fun s5 n5 i5=>?_) (fun s5 n5 h5=>by simp only[go_sem]; exact stop _ (by omega) h5);simp only[go_sem];refine dm9 hy i5 (fun s6 n6 i6=>?_) (fun s6 n6 h6=>by simp only[go_sem]; exact stop _ (by omega) h6);simp only[go_sem];exact ⟨by omega,.inl i6⟩
theorem go8 (r:aa8)(wh:Int)(hf:r.fit)(hc:r.count<2^62):PC Tryd.prog EE 49 [.agg r.cs,.af4 [.int .u8 wh]] (.bool (decide (aw2 r wh=0))):=by
 refine bp3 fok49 (nZ rfl) fun σ=>?_
 simp only[ic49,go_sem,ac1,ae5,ac3];refine ac2 fok50 (dq5 r wh hf hc) ?_;simp only[go_sem,and_self]
theorem fv6 (l:List aa8)(wh:Int)(hn:l.length<2^62)(hf:∀ r∈l,r.fit∧r.count<2^31):PC Tryd.prog EE 48 [ab7 l,.int .i64 32,.func (.func 49) [] [.af4 [.int .u8 wh]]] (.bool (al2 l wh)):=by
 have h:=fg6 l 32 49 [] [.af4 [.int .u8 wh]] (fun r=>decide (aw2 r wh=0)) hn (fun c hc=>by cases hc) (am2 (.af4 _ (am2 (.int _ _)))) fok49.1 fun x hx=>go8 x wh (hf x hx).1 (by have:=(hf x hx).2; omega)
 have e:decide ((l.length:Int)≤32)=decide (l.length≤32):=decide_eq_decide.2 (by omega);rw[e] at h;exact h
theorem fg8 {σ:Store}{f id:Nat}{cs:List IV}(ho:σ.obj id=some (.cells cs))(hb:∀ c∈cs,Bnd 0 c):bm9 σ 0 (.func (.func f) [] [.ptr id 0]) (.func (.func f) [] [.af4 cs]):=by
 refine .func _ [] [] _ _ rfl rfl (fun i hi=>absurd hi (Nat.not_lt_zero _)) (fun i hi=>?_)
 match i,hi with
 | 0,_=>
  refine .ptr id 0 cs cs (Nat.not_lt_zero _) (.inl ho) (by omega) (fun j hj=>?_);rw[Nat.zero_add];exact .keep _ (hb _ (ad1 _ hj))
theorem dq6 {l:List Str}{i:Nat}{f:Str}(h0:0<i)(h:l.drop i=f::l.drop (i+1)):∃ a,l[i-1]? = some a∧rising (l.drop (i-1))=(Op.bytesLess a f&&rising (l.drop i)):=by
 have hlt:i<l.length:=by
  rcases Nat.lt_or_ge i l.length with h1|h1
  ·exact h1
  ·rw[List.drop_of_length_le h1] at h; cases h
 have h2:i-1<l.length:=by omega
 refine ⟨l[i-1],List.getElem?_eq_getElem h2,?_⟩;rw[List.drop_eq_getElem_cons h2,show i-1+1=i from by omega,h];rfl
theorem cf5 (p:aa3)(hf:p.Fit):PC Tryd.prog EE 31 [.agg p.cs] (.bool (ah9 p)):=by
 refine bz1 hE fok31 (nZ rfl) (am2 (cb5 _)) ?_;simp only[ic31,go_sem,ad9,aa3.cs];refine ac2 fok40 (bx4 p.name hf.name) ?_
 cases h1:av5 p.name with
 | false=>simp only[go_sem,ah9,h1]; exact ab8 _
 | true=>
 simp only[go_sem];refine ac2 fok41 (bx5 p.name hf.name) ?_
 cases h2:bh9 p.name with
 | true=>simp only[go_sem,ah9,h1,h2]; exact ab8 _
 | false=>
 simp only[go_sem];refine ac2 (v:=.bool (bn5 p.evr false)) fok42 (di2 p.evr false hf.evr.1 hf.evr.2) ?_
 cases h3:bn5 p.evr false with
 | false=>simp only[go_sem,ah9,h1,h2,h3]; exact ab8 _
 | true=>
 simp only[go_sem];refine ac2 fok43 (dq1 p.dg5) ?_;have h4':=bo5 p.dg5
 cases h4:bn6 p.dg5 with
 | false=>
  rw[h4] at h4'
  simp only[go_sem,h4',ah9,h1,h2,h3,h4]; exact ab8 _
 | true=>
 rw[h4] at h4';simp only[go_sem,h4'];by_cases h5:p.vendor.length≤64
 case neg=>
  have h5':(64:Int)<p.vendor.length:=by omega
  simp only[go_sem,h5',ah9,h1,h2,h3,h4,h5]; exact ab8 _
 have h5':¬ (64:Int)<p.vendor.length:=by omega
 simp only[go_sem,h5'];have e32:∀ n:Nat,decide ((n:Int)≤32)=decide (n≤32):=fun n=>decide_eq_decide.2 (by omega)
 have hp6:=dw8 p.provides 32 45 [] [] aq2 (by have:=hf.aw3.1; omega) (fun c hc=>by cases hc) (fun c hc=>by cases hc) fok45.1 fun x hx=>cf4 x (hf.aw3.2 x hx).1 (hf.aw3.2 x hx).2.1 (hf.aw3.2 x hx).2.2
 have hp7:=dw8 p.ab9 32 45 [] [] aq2 (by have:=hf.obs.1; omega) (fun c hc=>by cases hc) (fun c hc=>by cases hc) fok45.1 fun x hx=>cf4 x (hf.obs.2 x hx).1 (hf.obs.2 x hx).2.1 (hf.obs.2 x hx).2.2
 have hp8:=fv4 p.files 32 41 [] [] bh9 (by have:=hf.files.1; omega) (fun c hc=>by cases hc) (fun c hc=>by cases hc) fok41.1 fun x hx=>bx5 x (hf.files.2 x hx)
 rw[e32] at hp6 hp7 hp8;refine ac2 fok44 hp6 ?_
 cases h6:(decide (p.provides.length≤32)&&p.provides.all aq2) with
 | false=>simp only[go_sem,ah9,h1,h2,h3,h4,h5,h6]; exact ab8 _
 | true=>
 simp only[go_sem];refine ac2 fok44 hp7 ?_
 cases h7:(decide (p.ab9.length≤32)&&p.ab9.all aq2) with
 | false=>simp only[go_sem,ah9,h1,h2,h3,h4,h5,h6,h7]; exact ab8 _
 | true=>
 simp only[go_sem];refine ac2 fok46 hp8 ?_
 cases h8:(decide (p.files.length≤32)&&p.files.all bh9) with
 | false=>simp only[go_sem,ah9,h1,h2,h3,h4,h5,h6,h7,h8]; exact ab8 _
 | true=>
 have hmay:ah9 p=(rising p.files&&p.rows.all fun x=>al2 x.2 x.1):=by
  simp only[ah9,h1,h2,h3,h4,h5,h6,h7,h8,aa3.rows,List.all_cons,List.all_nil,decide_true,Bool.not_false,Bool.and_true,Bool.true_and,Bool.and_assoc]
 simp only[go_sem];rw[hmay];refine ac9 noT (fun i fr s=>fr=[(1,.af4 p.cs),(2,.ptr 0 0),(52,strs p.files),(53,.int .i64 p.files.length),(54,.int .i64 i)]∧(s.obj 0=some (.cells [.bool false])∧0<s.next)∧rising p.files=rising (p.files.drop (i-1))) p.files.length ⟨rfl,⟨?_,?_⟩,rfl⟩ ?_
 ·simp only[aa2,if_true]
 ·exact Nat.zero_lt_one
 rintro i fr s hi ⟨rfl,⟨q1,q2⟩,hr⟩;by_cases hlt:i<p.files.length
 ·obtain ⟨f,ha,hfi,hdr,hget,_⟩:=ae9 p.files i hlt;have c1:(i:Int)<p.files.length:=by omega
  have c2:(0:Int)≤i:=by omega
  have w1:=ag4 (i:=i) (by have:=hf.files.1; omega);by_cases h0:0<i
  ·have c0:(0:Int)<i:=by omega
   obtain ⟨a,ha1,ha2⟩:=dq6 h0 hdr;have hget':(p.files.map ap4).getD (i-1) []=ap4 a:=by simp[List.getD_eq_getElem?_getD,ha1]
   have w0:IntKind.i64.wrap ((i:Int)-1)=((i-1:Nat):Int):=by
    have:=hf.files.1;rw[wrap64 (by omega) (by omega)]; omega
   have c3:(0:Int)≤((i-1:Nat):Int):=by omega
   have c4:((i-1:Nat):Int)<p.files.length:=by omega
   rw[ha2] at hr;simp only[go_sem,c0,c1,c2,c3,c4,w0,w1,hget,hget',ap4,aa3.cs]
   cases hb:Op.bytesLess a f with
   | true=>
    rw[hb,Bool.true_and] at hr;simp only[go_sem,w1]
    exact ⟨hlt,⟨q1,q2⟩,hr⟩
   | false=>
    rw[hb,Bool.false_and] at hr;simp only[go_sem,q1,hr];exact ab8 _
  ·have c0:¬ (0:Int)<i:=by omega
   simp only[go_sem,c0,c1,c2,w1,hget,ap4];refine ⟨hlt,⟨q1,q2⟩,?_⟩;have:i=0:=by omega
   subst this; exact hr
 ·have hi':i=p.files.length:=by omega
  subst hi';have c1:¬ (p.files.length:Int)<p.files.length:=by omega
  have hrt:rising p.files=true:=by
   rw[hr]
   cases hl:p.files.drop (p.files.length-1) with
   | nil=>rfl
   | cons x l=>
    have h1:=congrArg List.length hl;rw[List.length_drop,List.length_cons] at h1;have h2:l=[]:=List.length_eq_zero_iff.1 (by omega);rw[h2]; rfl
  rw[hrt,Bool.true_and];simp only[go_sem,c1,ak2,ak4];refine ac2 fok47 (fv5 p) ?_;simp only[go_sem];have e0:¬ 0=s.next:=by omega
  have e1:¬ s.next=0:=by omega
  refine dm8 (eo1 p) (fun rest s=>(0<s.next∧s.obj 0=some (.cells [.bool false]))∧∃ ts:List (Int×List aa8),rest=ts.map dw9∧(∀ x∈ts,x∈p.rows)∧(p.rows.all fun x:Int×List aa8=>al2 x.2 x.1)=ts.all fun x:Int×List aa8=>al2 x.2 x.1) (fun _ _ h=>trivial) ?_ ?_ ?_ ?_ ?_
  ·rintro rest s s' ⟨⟨q1,q2⟩,q4⟩ hn' hs';exact ⟨⟨by omega,by rw[hs' 0 q1]; exact q2⟩,q4⟩
  ·intro a ha;obtain ⟨x,_,rfl⟩:=List.mem_map.1 ha;rfl
  ·intro o;exact ⟨⟨by show 0<s.next+1; omega,by simp only[aa2,e0,if_false]; exact q1⟩,_,rfl,fun x hx=>hx,rfl⟩
  ·rintro L pre a rest t hev ⟨⟨q3,q4⟩,ts,hts,hin,hall⟩ hL hlt
   cases ts with
   | nil=>cases hts
   | cons x ts=>
    simp only[List.map_cons,List.cons.injEq] at hts;obtain ⟨rfl,rfl⟩:=hts;obtain ⟨wh,l⟩:=x;simp only[List.all_cons] at hall;have hfx:=hf.au3 _ (hin _ (List.mem_cons_self ..));have hin':∀ y∈ts,y∈p.rows:=fun y hy=>hin y (List.mem_cons_of_mem _ hy)
    have u0:¬ 0=t.next:=by omega
    have u1:¬ s.next=t.next:=by omega
    have u2:¬ t.next=s.next:=by omega
    have u3:¬ t.next=0:=by omega
    simp only[dw9,go_sem,hL,q4,e0,e1,u0,u1,u2,u3];refine ae3 fok48 (cw3 (args':=[ab7 l,.int .i64 32,.func (.func 49) [] [.af4 [.int .u8 wh]]]) hE rfl ?_ (by unfold IV.plain; rfl) (fv6 l wh (Nat.lt_of_lt_of_le hfx.1 (by decide)) hfx.2)) ?_
    ·intro i hi
     match i,hi with
     | 0,_=>exact .keep _ (ad2 l)
     | 1,_=>exact .keep _ (.int _ _)
     | 2,_=>exact fg8 (by simp only[aa2,u2,if_false,if_true]) (am2 (.int _ _))
    ·rintro v s2 ⟨rfl,rfl⟩;refine ⟨Nat.le_refl _,?_⟩
     cases hok:al2 l wh with
     | true=>
      simp only[go_sem]
      refine dm7 (by simp only[ac4]; omega) (by simp only[aa2,if_true]) ⟨⟨by simp only[ac4]; omega,by simp only[aa2,e0,u0,if_false]; exact q4⟩,ts,rfl,hin',by rw[hall,hok,Bool.true_and]⟩
     | false=>
      simp only[go_sem,q4,e0,e1,u0,u1,u2,u3];refine cd9 (by simp only[ac4]; omega) (by simp only[aa2,if_true]) ?_;simp only[go_sem,e0,u0];rw[hall,hok]; exact ab8 _
  ·rintro t o ⟨⟨q3,q4⟩,ts,hts,_,hall⟩ hlt ho;have:ts=[]:=by cases ts with|nil=>rfl|cons _ _=>cases hts
   subst this;rw[hall];simp only[go_sem,e0,q4,List.all_nil];exact ab8 _
end Go.Id.Tryd
set_option linter.all false
namespace Go.Id.Tryd
open Go Go.Id Go.Proofs Go.Id.Md
def ar1 (n:Int):List IV:=[.int .i64 n]
theorem ac7 {es:List (List IV)}(h:Bnd 0 (.aa4 es)):∀ e∈es,∀ c∈e,Bnd 0 c:=by
 cases h with|aa4 _ h=>exact h
theorem cf6 (xs:List Dep)(hn:xs.length≤2147483648):PC Tryd.prog EE 32 [.aa4 (xs.map Dep.cs)] (.aa4 (xs.map Dep.cs)):=by
 cases hx:xs with
 | nil=>
  rw[List.map_nil];refine dd5 ?_ ?_
  ·refine bz1 hE fok32 (nZ rfl) (am2 .aa1) ?_;simp only[ic32,go_sem,ae8];exact .gq6
  ·refine bz1 hE fok32 (nZ rfl) (am2 .ad4) ?_;simp only[ic32,go_sem,ae8];rw[ar5 (by simp only[aa2,if_true]) rfl];simp only[go_sem]
   exact .et2 _ _ _ (by simp only[aa2,if_true]; exact fun h=>(by cases h))
 | cons a as'=>
  have hne:xs.map Dep.cs≠[]:=by rw[hx]; exact fun h=>(by cases h)
  have hall:∀ e∈xs.map Dep.cs,e.length=5∧e.all IV.leaf=true:=fun e he=>by
   obtain ⟨x,_,rfl⟩:=List.mem_map.1 he;exact ⟨bx7 x,cb3 x⟩
  have hnil:bk5 (.slice 0) (.aa4 (xs.map Dep.cs))=some false:=by rw[hx]; rfl
  rw[← hx];refine bz1 hE fok32 (nZ rfl) (am2 (ak3 xs)) ?_;have hnil:∀ d,bk5 (.slice d) (.aa4 (xs.map Dep.cs))=some false:=fun d=>by rw[hx]; rfl
  simp only[ic32,go_sem,ae8,hnil];rw[bq2 (by simp only[aa2,if_true]) hne hall (by rw[List.length_map]; exact hn)];simp only[go_sem];refine Grow.frz (esz:=5) (es:=xs.map Dep.cs) (.inr ⟨1,by rw[List.length_map],by simp only[aa2,if_true],Nat.lt_succ_self _⟩) (fun x hx=>(hall x hx).1) (fun _ _=>Nat.not_lt_zero _) (ac7 (ak3 xs))
theorem dq7 (xs:List Str)(hn:xs.length≤2147483648):PC Tryd.prog EE 33 [.aa4 (xs.map ap4)] (.aa4 (xs.map ap4)):=by
 cases hx:xs with
 | nil=>
  rw[List.map_nil];refine dd5 ?_ ?_
  ·refine bz1 hE fok33 (nZ rfl) (am2 .aa1) ?_;simp only[ic33,go_sem,ae8];exact .gq6
  ·refine bz1 hE fok33 (nZ rfl) (am2 .ad4) ?_;simp only[ic33,go_sem,ae8];rw[ar5 (by simp only[aa2,if_true]) rfl];simp only[go_sem]
   exact .et2 _ _ _ (by simp only[aa2,if_true]; exact fun h=>(by cases h))
 | cons a as'=>
  have hne:xs.map ap4≠[]:=by rw[hx]; exact fun h=>(by cases h)
  have hall:∀ e∈xs.map ap4,e.length=1∧e.all IV.leaf=true:=fun e he=>by
   obtain ⟨x,_,rfl⟩:=List.mem_map.1 he;exact ⟨rfl,rfl⟩
  have hnil:bk5 (.slice 0) (.aa4 (xs.map ap4))=some false:=by rw[hx]; rfl
  rw[← hx];refine bz1 hE fok33 (nZ rfl) (am2 (an5 xs)) ?_;have hnil:∀ d,bk5 (.slice d) (.aa4 (xs.map ap4))=some false:=fun d=>by rw[hx]; rfl
  simp only[ic33,go_sem,ae8,hnil];rw[bq2 (by simp only[aa2,if_true]) hne hall (by rw[List.length_map]; exact hn)];simp only[go_sem];refine Grow.frz (esz:=1) (es:=xs.map ap4) (.inr ⟨1,by rw[List.length_map],by simp only[aa2,if_true],Nat.lt_succ_self _⟩) (fun x hx=>(hall x hx).1) (fun _ _=>Nat.not_lt_zero _) (ac7 (an5 xs))
theorem af5 (xs:List aa8):∀ e∈xs.map aa8.cs,e.length=7∧e.all IV.leaf=true:=fun e he=>by
 obtain ⟨x,_,rfl⟩:=List.mem_map.1 he;exact ⟨ac1 x,ac3 x⟩
def dq8:List IV:=[.int .u8 0,.str [],.int .u8 0,.int .i64 0,.str [],.str [],.aa1]
theorem ag1 (r:aa8):r.fit→PC Tryd.prog EE 35 [.agg r.cs] (.agg r.cs):=by
 induction r using aa8.ind with
 | h k d xs ih=>
  intro hf;obtain ⟨f1,f2,f3,f4,f5⟩:=aa8.bn3.1 hf;refine bz1 hE fok35 (nZ rfl) (am2 (at7 _)) ?_;rw[aa8.aq1];simp only[ic35,go_sem,aa8.kind,aa8.dep,aa8.args,bm8];refine ac9 noT (fun i fr s=>fr=[(2,.ptr 0 0),(3,.ptr 1 0),(12,.aa4 (xs.map aa8.cs)),(13,.int .i64 xs.length),(14,.int .i64 i)]∧∃ v,s.obj 0=some (.cells dq8)∧s.obj 1=some (.cells [.int .u8 k,.str d.name,.int .u8 d.op,.int .i64 d.evr.aq5,.str d.evr.ver,.str d.evr.rel,v])∧Grow s v 7 ((xs.take i).map aa8.cs)∧1<s.next) xs.length ⟨rfl,.aa1,?_,?_,.inl ⟨rfl,rfl⟩,?_⟩ ?_
  ·simp only[aa2,reduceCtorEq,Int.reduceLT,Int.reduceLE,Int.reduceToNat,Int.reduceAdd,Nat.reduceEqDiff,Nat.reduceAdd,Nat.reduceMul,Nat.reduceLT,Nat.reduceLeDiff,decide_true,decide_false,↓reduceIte,if_true,if_false]; rfl
  ·simp only[aa2,reduceCtorEq,Int.reduceLT,Int.reduceLE,Int.reduceToNat,Int.reduceAdd,Nat.reduceEqDiff,Nat.reduceAdd,Nat.reduceMul,Nat.reduceLT,Nat.reduceLeDiff,decide_true,decide_false,↓reduceIte,if_true,if_false]
  ·show 1<2; omega
  rintro i fr s hle ⟨rfl,v,q0,q1,hg,hn⟩;by_cases hlt:i<xs.length
  ·obtain ⟨a,ha,_,hdr,hget,htk⟩:=ae9 xs i hlt;have c1:(i:Int)<xs.length:=by omega
   have c2:(0:Int)≤i:=by omega
   have w1:=ag4 (i:=i) (by omega);have u0:¬ 1=s.next:=by omega
   have u1:¬ 0=s.next:=by omega
   simp only[go_sem,c1,c2,hget,ac1,ae5,ac3,q1,u0,bm8];refine af2 (ih a ha (f5 a ha)) ?_;simp only[go_sem,ac1,ae5,ac3]
   have hg1:Grow ⟨s.next+1+8,((Store.put ⟨s.next+1,s.obj⟩ s.next (ah2.cells dq8)).put s.next (ah2.cells a.cs)).obj⟩ v 7 ((xs.take i).map aa8.cs):=hg.mono (by show s.next≤s.next+1+8; omega) fun id _ hid=>by
    have:¬ id=s.next:=by omega
    simp only[aa2,this,if_false]
   have hl0:((xs.take i).map aa8.cs).length=i:=by rw[List.length_map,List.length_take]; omega
   have ha2:=ap2 (nid:=s.next+1+1+1+1+1+1) (e:=a.cs) hg1 (af5 _) ⟨ac1 a,ac3 a⟩ (by rw[hl0]; omega);have k1:=ai5 hg1 1 (.cells [.int .u8 k,.str d.name,.int .u8 d.op,.int .i64 d.evr.aq5,.str d.evr.ver,.str d.evr.rel,v]) (by simp only[aa2,u0,if_false]; exact q1) (fun _ h=>by cases h);have k0:=ai5 hg1 0 (.cells dq8) (by simp only[aa2,u1,if_false]; exact q0) (fun _ h=>by cases h);have kn:=ai9 (σ:=⟨s.next+1+8,((Store.put ⟨s.next+1,s.obj⟩ s.next (ah2.cells dq8)).put s.next (ah2.cells a.cs)).obj⟩) v;simp only[dq8] at ha2 k1 k0 kn;rw[ha2,hl0];have u2:¬ 1=s.next+1+1+1+1+1+1:=by omega
   have u3:¬ 0=s.next+1+1+1+1+1+1:=by omega
   have u4:¬ s.next+1+1+1+1+1+1=1:=by omega
   simp only[go_sem,u2,k1,w1];refine ⟨hlt,_,?_,rfl,?_,?_⟩
   ·simp only[u3,if_false,dq8]; exact k0
   ·rw[htk,List.map_append,List.map_cons,List.map_nil];refine .inr ⟨_,by rw[List.length_append,hl0]; rfl,?_,?_⟩
    ·simp only[aa2,u4,if_false,if_true]
    ·simp only[ac4,kn]; omega
   ·rw[kn]; show 1<s.next+1+8; omega
  ·have hi':i=xs.length:=by omega
   subst hi';have c1:¬ (xs.length:Int)<xs.length:=by omega
   rw[List.take_length] at hg
   have hvl:v.leaf=true:=by
    rcases hg with ⟨rfl,_⟩|⟨id,rfl,_⟩<;>rfl
   simp only[go_sem,c1,q0,q1,bm8,dq8,hvl];refine .agg _ _ rfl fun j hj=>?_
   have:j=0∨j=1∨j=2∨j=3∨j=4∨j=5∨j=6:=by
    simp only[List.length_cons,List.length_nil] at hj; omega
   rcases this with rfl|rfl|rfl|rfl|rfl|rfl|rfl
   ·exact ac8 _ _
   ·exact ag7 _
   ·exact ac8 _ _
   ·exact ac8 _ _
   ·exact ag7 _
   ·exact ag7 _
   ·have hne:∀ id,v=.slice id 0 (xs.map aa8.cs).length 7→id≠0:=fun id hv=>hg.ne hv q0 (fun _ h=>by cases h)
    refine Grow.frz (hg.mono (Nat.le_refl _) fun id hv _=>?_) (fun x hx=>(af5 xs x hx).1) (fun _ _=>Nat.not_lt_zero _) (ac7 (ad2 xs));have:¬ id=0:=hne id hv;simp only[aa2,this,if_false]
theorem ao6 (xs:List aa8)(σ:Store)(hn:xs.length≤2147483648):C Tryd.prog EE 34 [.aa4 (xs.map aa8.cs)] σ fun v s=>(∀ i,i<σ.next→s.obj i=σ.obj i)∧σ.next≤s.next∧Grow s v 7 (xs.map aa8.cs)∧∀ id,v=.slice id 0 xs.length 7→σ.next≤id:=by
 cases hx:xs with
 | nil=>
  rw[List.map_nil];refine ca8 ?_ ?_
  ·refine C_f fok34 (nZ rfl) ?_;simp only[ic34,go_sem,ae8];exact ⟨fun _ _=>trivial,Nat.le_refl _,.inl ⟨rfl,rfl⟩,fun id h=>by cases h⟩
  ·refine C_f fok34 (nZ rfl) ?_;simp only[ic34,go_sem,ae8];rw[ar5 (by simp only[aa2,if_true]) rfl];simp only[go_sem];refine ⟨fun i hi=>?_,by omega,.inr ⟨σ.next,rfl,by simp only[aa2,if_true]; rfl,by show σ.next<σ.next+2; omega⟩,fun id h=>by cases h; exact Nat.le_refl _⟩;have:¬ i=σ.next:=by omega
   simp only[this,if_false]
 | cons a as'=>
  have hne:xs.map aa8.cs≠[]:=by rw[hx]; exact fun h=>(by cases h)
  rw[← hx];refine C_f fok34 (nZ rfl) ?_;have hnil:∀ d,bk5 (.slice d) (.aa4 (xs.map aa8.cs))=some false:=fun d=>by rw[hx]; rfl
  simp only[ic34,go_sem,ae8,hnil];rw[bq2 (by simp only[aa2,if_true]) hne (af5 xs) (by rw[List.length_map]; exact hn)];simp only[go_sem];refine ⟨fun i hi=>?_,by omega,.inr ⟨σ.next+1,by rw[List.length_map],by simp only[aa2,if_true],by show σ.next+1<σ.next+2; omega⟩,fun id h=>by cases h; omega⟩;have h1:¬ i=σ.next:=by omega
  have h2:¬ i=σ.next+1:=by omega
  simp only[h1,h2,if_false]
def ak5 (s:Store)(done:Prop)(v:IV)(l:List aa8):Prop:=(done∧Grow s v 7 (l.map aa8.cs))∨(¬ done∧v=ab7 l)
theorem ak5.mono {s s':Store}{done done':Prop}{v:IV}{l:List aa8}(h:ak5 s done v l)(hd:done↔done')(hn:s.next≤s'.next)(ho:∀ id cs,id<s.next→s.obj id=some (.row cs)→s'.obj id=some (.row cs)):ak5 s' done' v l:=by
 rcases h with ⟨h1,h2⟩|⟨h1,h2⟩
 ·refine .inl ⟨hd.1 h1,?_⟩;rcases h2 with h2|⟨id,hv,hr,hlt⟩
  ·exact .inl h2
  ·exact .inr ⟨id,hv,ho _ _ hlt hr,Nat.lt_of_lt_of_le hlt hn⟩
 ·exact .inr ⟨fun h=>h1 (hd.2 h),h2⟩
theorem ak5.leaf {s:Store}{done:Prop}{v:IV}{l:List aa8}(h:ak5 s done v l):v.leaf=true:=by
 rcases h with ⟨_,⟨rfl,_⟩|⟨id,rfl,_⟩⟩|⟨_,rfl⟩<;>rfl
def pcs (p:aa3)(v7 v8 v10 v11 v12 v13:IV):List IV :=
 [.str p.name,.int .i64 p.evr.aq5,.str p.evr.ver,.str p.evr.rel,.int .u8 p.dg5,.str p.vendor,deps p.provides,v7,v8,deps p.ab9,v10,v11,v12,v13,strs p.files]
def ag8:List IV:=[.str [],.int .i64 0,.str [],.str [],.int .u8 0,.str [],.aa1,.aa1,.aa1,.aa1,.aa1,.aa1,.aa1,.aa1,.aa1]
def bx9:List (List IV):=[[.ptr 0 7],[.ptr 0 8],[.ptr 0 10],[.ptr 0 11],[.ptr 0 12],[.ptr 0 13]]
theorem cs7 (p:aa3)(hf:p.Fit):PC Tryd.prog EE 22 [.agg p.cs] (.agg p.cs):=by
 refine bz1 hE fok22 (nZ rfl) (am2 (cb5 _)) ?_;simp only[ic22,go_sem,ad9,aa3.cs,bh3];refine af2 (cf6 p.provides (by have:=hf.aw3.1; omega)) ?_;simp only[go_sem,bh3];refine af2 (cf6 p.ab9 (by have:=hf.obs.1; omega)) ?_;simp only[go_sem,bh3];refine af2 (dq7 p.files (by have:=hf.files.1; omega)) ?_;simp only[go_sem,bh3]
 refine ac9 noT (fun i fr s=>fr=[(1,.ptr 0 0),(2,.ptr 1 0),(25,.aa4 bx9),(26,.int .i64 6),(27,.int .i64 i)]∧(s.obj 1=some (.cells ag8)∧1<s.next)∧∃ v7 v8 v10 v11 v12 v13,s.obj 0=some (.cells (pcs p v7 v8 v10 v11 v12 v13)) ∧
  ak5 s (0<i) v7 p.requires∧ak5 s (1<i) v8 p.conflicts∧ak5 s (2<i) v10 p.aa7∧ak5 s (3<i) v11 p.aa5∧ak5 s (4<i) v12 p.suggests∧ak5 s (5<i) v13 p.ab2) 6 ?_ ?_
 ·refine ⟨rfl,⟨?_,?_⟩,_,_,_,_,_,_,?_,.inr ⟨by omega,rfl⟩,.inr ⟨by omega,rfl⟩,.inr ⟨by omega,rfl⟩,.inr ⟨by omega,rfl⟩,.inr ⟨by omega,rfl⟩,.inr ⟨by omega,rfl⟩⟩
  ·simp only[aa2,reduceCtorEq,Int.reduceLT,Int.reduceLE,Int.reduceToNat,Int.reduceAdd,Nat.reduceEqDiff,Nat.reduceAdd,Nat.reduceMul,Nat.reduceLT,Nat.reduceLeDiff,decide_true,decide_false,↓reduceIte,if_true,if_false]; rfl
  ·simp only[ac4]; omega
  ·simp only[aa2,reduceCtorEq,Int.reduceLT,Int.reduceLE,Int.reduceToNat,Int.reduceAdd,Nat.reduceEqDiff,Nat.reduceAdd,Nat.reduceMul,Nat.reduceLT,Nat.reduceLeDiff,decide_true,decide_false,↓reduceIte,if_true,if_false]; rfl
 rintro i fr s hle ⟨rfl,⟨q1,hn⟩,v7,v8,v10,v11,v12,v13,q0,o7,o8,o10,o11,o12,o13⟩;by_cases hlt:i<6
 ·have hcase:i=0∨i=1∨i=2∨i=3∨i=4∨i=5:=by omega
  rcases hcase with rfl|rfl|rfl|rfl|rfl|rfl
  ·have hv:v7=ab7 p.requires:=by
    rcases o7 with ⟨h,_⟩|⟨_,h⟩
    ·exact absurd h (by omega)
    ·exact h
   subst hv;have hfl:p.requires.length<2^31∧∀ r∈p.requires,r.fit∧r.count<2^31:=hf.au3 (1,p.requires) (by simp[aa3.rows]);simp only[go_sem,bx9,q0,pcs,bh3];refine ae3 fok34 (ao6 p.requires _ (by have:=hfl.1; omega)) ?_;rintro v s2 ⟨hs2,hn2,hg,hid⟩;refine ⟨hn2,?_⟩;have q02:s2.obj 0=some (.cells (pcs p (ab7 p.requires) v8 v10 v11 v12 v13)):=by rw[hs2 0 (by omega)]; exact q0
   have q12:s2.obj 1=some (.cells ag8):=by rw[hs2 1 (by omega)]; exact q1
   have hvl:v.leaf=true:=by rcases hg with ⟨rfl,_⟩|⟨id,rfl,_⟩<;>rfl
   have hvc:v.cs=[v]:=by rcases hg with ⟨rfl,_⟩|⟨id,rfl,_⟩<;>rfl
   have hlen:∀ s,bh7 0 s v=some (.int .i64 (p.requires.length:Nat)):=fun s=>by
    rcases hg with ⟨rfl,he⟩|⟨id,rfl,_⟩
    ·have:p.requires=[]:=by simpa using he
     rw[this]; rfl
    ·rw[al8,List.length_map]
   simp only[go_sem,q02,pcs,hvl,hvc,hlen]
   refine ac9 noT (fun j fr t=>fr=[(1,.ptr 0 0),(2,.ptr 1 0),(4,.ptr 0 7),(25,.aa4 bx9),(26,.int .i64 6),(27,.int .i64 0),(39,v),(40,.int .i64 p.requires.length),(41,.int .i64 j)] ∧
    s2.next≤t.next∧t.obj 0=some (.cells (pcs p v v8 v10 v11 v12 v13))∧t.obj 1=some (.cells ag8)∧∀ id cs,id<s2.next→s2.obj id=some (.row cs)→t.obj id=some (.row cs)) p.requires.length ⟨rfl,Nat.le_refl _,?_,?_,?_⟩ ?_
   ·simp only[aa2,if_true]; rfl
   ·simp only[aa2,reduceCtorEq,Int.reduceLT,Int.reduceLE,Int.reduceToNat,Int.reduceAdd,Nat.reduceEqDiff,Nat.reduceAdd,Nat.reduceMul,Nat.reduceLT,Nat.reduceLeDiff,decide_true,decide_false,↓reduceIte,if_false]; exact q12
   ·intro id cs hlt' h;have:¬ id=0:=fun e=>by subst e; rw[q02] at h; cases h
    simp only[aa2,this,if_false]; exact h
   rintro j fr t hle' ⟨rfl,t0,t1,t2,t3⟩;by_cases hjl:j<p.requires.length
   ·obtain ⟨a,ha,_,hdr,hget,_⟩:=ae9 p.requires j hjl;rcases hg with ⟨_,he⟩|⟨id,rfl,ho,hil⟩
    ·have:p.requires=[]:=by simpa using he
     rw[this] at hjl; cases hjl
    have hrow:=t3 _ _ hil ho;have c1:(j:Int)<p.requires.length:=by omega
    have c2:(0:Int)≤j:=by omega
    have w1:=ag4 (i:=j) (by have:=hfl.1; omega);have hid0:¬ id=0:=fun e=>by subst e; rw[t1] at hrow; cases hrow
    have hid1:¬ id=1:=fun e=>by subst e; rw[t2] at hrow; cases hrow
    have u0:¬ 0=t.next:=by omega
    have u1:¬ 1=t.next:=by omega
    have u2:¬ id=t.next:=by omega
    have u3:¬ t.next=id:=by omega
    have u4:¬ 0=id:=by omega
    have u5:¬ 1=id:=by omega
    have hall:=fun x hx=>(af5 p.requires x hx).1
    have hfl2:=ah3 hall;have hpart:=aj1 hall j (by rw[List.length_map]; exact hjl);rw[hget] at hpart;rw[List.length_map] at hfl2;have hin:7≤((p.requires.map aa8.cs).flatten.drop (j*7)).length:=by rw[List.length_drop,hfl2]; omega
    have hin2:j*7+7≤(p.requires.map aa8.cs).flatten.length:=by rw[hfl2]; omega
    have hsame:ao8 (p.requires.map aa8.cs).flatten (j*7) a.cs=(p.requires.map aa8.cs).flatten:=aj6 (by rw[ac1]; exact hpart) (by rw[ac1]; exact hin2);simp only[go_sem,c1,c2,hrow,hin,hpart,bz3,ac1,ac3,ae5,t1,pcs,u0,u2,u3,hid0];refine af2 (ag1 a (hfl.2 a ha).1) ?_;simp only[go_sem,c1,c2,hrow,hin2,bz4,ac1,ac3,hsame,t1,pcs,u0,u2,w1];refine ⟨hjl,by omega,?_,?_,?_⟩
    ·simp only[u4,if_false]
    ·simp only[u5,u1,if_false]; exact t2
    ·intro id' cs hlt' h;have h':=t3 id' cs hlt' h;have u6:¬ id'=t.next:=by omega
     by_cases e:id'=id
     ·subst e;rw[hrow] at h';simp only[if_true]; exact h'
     ·simp only[e,u6,if_false]; exact h'
   ·have hj':j=p.requires.length:=by omega
    subst hj';have c1:¬ (p.requires.length:Int)<p.requires.length:=by omega
    have hgt:Grow t v 7 (p.requires.map aa8.cs):=by
     rcases hg with h|⟨id,rfl,ho,hil⟩
     ·exact .inl h
     ·exact .inr ⟨id,rfl,t3 _ _ hil ho,by omega⟩
    have hrows:∀ id cs,id<s.next→s.obj id=some (.row cs)→t.obj id=some (.row cs):=fun id cs hlt' h=>t3 id cs (by omega) (by rw[hs2 id hlt']; exact h)
    have mm:∀ {d d':Prop} (u:IV) (l:List aa8),ak5 s d u l→(d↔d')→ak5 t d' u l:=fun u l h hd=>h.mono hd (by omega) hrows
    simp only[go_sem,c1];exact ⟨rfl,⟨t2,by omega⟩,v,v8,v10,v11,v12,v13,t1,.inl ⟨by simp,hgt⟩,mm _ _ o8 (by simp),mm _ _ o10 (by simp),mm _ _ o11 (by simp),mm _ _ o12 (by simp),mm _ _ o13 (by simp)⟩
  ·have hv:v8=ab7 p.conflicts:=by
    rcases o8 with ⟨h,_⟩|⟨_,h⟩
    ·exact absurd h (by omega)
    ·exact h
   subst hv;have hfl:p.conflicts.length<2^31∧∀ r∈p.conflicts,r.fit∧r.count<2^31:=hf.au3 (2,p.conflicts) (by simp[aa3.rows]);simp only[go_sem,bx9,q0,pcs,bh3];refine ae3 fok34 (ao6 p.conflicts _ (by have:=hfl.1; omega)) ?_;rintro v s2 ⟨hs2,hn2,hg,hid⟩;refine ⟨hn2,?_⟩;have q02:s2.obj 0=some (.cells (pcs p v7 (ab7 p.conflicts) v10 v11 v12 v13)):=by rw[hs2 0 (by omega)]; exact q0
   have q12:s2.obj 1=some (.cells ag8):=by rw[hs2 1 (by omega)]; exact q1
   have hvl:v.leaf=true:=by rcases hg with ⟨rfl,_⟩|⟨id,rfl,_⟩<;>rfl
   have hvc:v.cs=[v]:=by rcases hg with ⟨rfl,_⟩|⟨id,rfl,_⟩<;>rfl
   have hlen:∀ s,bh7 0 s v=some (.int .i64 (p.conflicts.length:Nat)):=fun s=>by
    rcases hg with ⟨rfl,he⟩|⟨id,rfl,_⟩
    ·have:p.conflicts=[]:=by simpa using he
     rw[this]; rfl
    ·rw[al8,List.length_map]
   simp only[go_sem,q02,pcs,hvl,hvc,hlen]
   refine ac9 noT (fun j fr t=>fr=[(1,.ptr 0 0),(2,.ptr 1 0),(4,.ptr 0 8),(25,.aa4 bx9),(26,.int .i64 6),(27,.int .i64 1),(39,v),(40,.int .i64 p.conflicts.length),(41,.int .i64 j)] ∧
    s2.next≤t.next∧t.obj 0=some (.cells (pcs p v7 v v10 v11 v12 v13))∧t.obj 1=some (.cells ag8)∧∀ id cs,id<s2.next→s2.obj id=some (.row cs)→t.obj id=some (.row cs)) p.conflicts.length ⟨rfl,Nat.le_refl _,?_,?_,?_⟩ ?_
   ·simp only[aa2,if_true]; rfl
   ·simp only[aa2,reduceCtorEq,Int.reduceLT,Int.reduceLE,Int.reduceToNat,Int.reduceAdd,Nat.reduceEqDiff,Nat.reduceAdd,Nat.reduceMul,Nat.reduceLT,Nat.reduceLeDiff,decide_true,decide_false,↓reduceIte,if_false]; exact q12
   ·intro id cs hlt' h;have:¬ id=0:=fun e=>by subst e; rw[q02] at h; cases h
    simp only[aa2,this,if_false]; exact h
   rintro j fr t hle' ⟨rfl,t0,t1,t2,t3⟩;by_cases hjl:j<p.conflicts.length
   ·obtain ⟨a,ha,_,hdr,hget,_⟩:=ae9 p.conflicts j hjl;rcases hg with ⟨_,he⟩|⟨id,rfl,ho,hil⟩
    ·have:p.conflicts=[]:=by simpa using he
     rw[this] at hjl; cases hjl
    have hrow:=t3 _ _ hil ho;have c1:(j:Int)<p.conflicts.length:=by omega
    have c2:(0:Int)≤j:=by omega
    have w1:=ag4 (i:=j) (by have:=hfl.1; omega);have hid0:¬ id=0:=fun e=>by subst e; rw[t1] at hrow; cases hrow
    have hid1:¬ id=1:=fun e=>by subst e; rw[t2] at hrow; cases hrow
    have u0:¬ 0=t.next:=by omega
    have u1:¬ 1=t.next:=by omega
    have u2:¬ id=t.next:=by omega
    have u3:¬ t.next=id:=by omega
    have u4:¬ 0=id:=by omega
    have u5:¬ 1=id:=by omega
    have hall:=fun x hx=>(af5 p.conflicts x hx).1
    have hfl2:=ah3 hall;have hpart:=aj1 hall j (by rw[List.length_map]; exact hjl);rw[hget] at hpart;rw[List.length_map] at hfl2;have hin:7≤((p.conflicts.map aa8.cs).flatten.drop (j*7)).length:=by rw[List.length_drop,hfl2]; omega
    have hin2:j*7+7≤(p.conflicts.map aa8.cs).flatten.length:=by rw[hfl2]; omega
    have hsame:ao8 (p.conflicts.map aa8.cs).flatten (j*7) a.cs=(p.conflicts.map aa8.cs).flatten:=aj6 (by rw[ac1]; exact hpart) (by rw[ac1]; exact hin2);simp only[go_sem,c1,c2,hrow,hin,hpart,bz3,ac1,ac3,ae5,t1,pcs,u0,u2,u3,hid0];refine af2 (ag1 a (hfl.2 a ha).1) ?_;simp only[go_sem,c1,c2,hrow,hin2,bz4,ac1,ac3,hsame,t1,pcs,u0,u2,w1];refine ⟨hjl,by omega,?_,?_,?_⟩
    ·simp only[u4,if_false]
    ·simp only[u5,u1,if_false]; exact t2
    ·intro id' cs hlt' h;have h':=t3 id' cs hlt' h;have u6:¬ id'=t.next:=by omega
     by_cases e:id'=id
     ·subst e;rw[hrow] at h';simp only[if_true]; exact h'
     ·simp only[e,u6,if_false]; exact h'
   ·have hj':j=p.conflicts.length:=by omega
    subst hj';have c1:¬ (p.conflicts.length:Int)<p.conflicts.length:=by omega
    have hgt:Grow t v 7 (p.conflicts.map aa8.cs):=by
     rcases hg with h|⟨id,rfl,ho,hil⟩
     ·exact .inl h
     ·exact .inr ⟨id,rfl,t3 _ _ hil ho,by omega⟩
    have hrows:∀ id cs,id<s.next→s.obj id=some (.row cs)→t.obj id=some (.row cs):=fun id cs hlt' h=>t3 id cs (by omega) (by rw[hs2 id hlt']; exact h)
    have mm:∀ {d d':Prop} (u:IV) (l:List aa8),ak5 s d u l→(d↔d')→ak5 t d' u l:=fun u l h hd=>h.mono hd (by omega) hrows
    simp only[go_sem,c1];exact ⟨rfl,⟨t2,by omega⟩,v7,v,v10,v11,v12,v13,t1,mm _ _ o7 (by simp),.inl ⟨by simp,hgt⟩,mm _ _ o10 (by simp),mm _ _ o11 (by simp),mm _ _ o12 (by simp),mm _ _ o13 (by simp)⟩
  ·have hv:v10=ab7 p.aa7:=by
    rcases o10 with ⟨h,_⟩|⟨_,h⟩
    ·exact absurd h (by omega)
    ·exact h
   subst hv;have hfl:p.aa7.length<2^31∧∀ r∈p.aa7,r.fit∧r.count<2^31:=hf.au3 (1,p.aa7) (by simp[aa3.rows]);simp only[go_sem,bx9,q0,pcs,bh3];refine ae3 fok34 (ao6 p.aa7 _ (by have:=hfl.1; omega)) ?_;rintro v s2 ⟨hs2,hn2,hg,hid⟩;refine ⟨hn2,?_⟩;have q02:s2.obj 0=some (.cells (pcs p v7 v8 (ab7 p.aa7) v11 v12 v13)):=by rw[hs2 0 (by omega)]; exact q0
   have q12:s2.obj 1=some (.cells ag8):=by rw[hs2 1 (by omega)]; exact q1
   have hvl:v.leaf=true:=by rcases hg with ⟨rfl,_⟩|⟨id,rfl,_⟩<;>rfl
   have hvc:v.cs=[v]:=by rcases hg with ⟨rfl,_⟩|⟨id,rfl,_⟩<;>rfl
   have hlen:∀ s,bh7 0 s v=some (.int .i64 (p.aa7.length:Nat)):=fun s=>by
    rcases hg with ⟨rfl,he⟩|⟨id,rfl,_⟩
    ·have:p.aa7=[]:=by simpa using he
     rw[this]; rfl
    ·rw[al8,List.length_map]
   simp only[go_sem,q02,pcs,hvl,hvc,hlen]
   refine ac9 noT (fun j fr t=>fr=[(1,.ptr 0 0),(2,.ptr 1 0),(4,.ptr 0 10),(25,.aa4 bx9),(26,.int .i64 6),(27,.int .i64 2),(39,v),(40,.int .i64 p.aa7.length),(41,.int .i64 j)] ∧
    s2.next≤t.next∧t.obj 0=some (.cells (pcs p v7 v8 v v11 v12 v13))∧t.obj 1=some (.cells ag8)∧∀ id cs,id<s2.next→s2.obj id=some (.row cs)→t.obj id=some (.row cs)) p.aa7.length ⟨rfl,Nat.le_refl _,?_,?_,?_⟩ ?_
   ·simp only[aa2,if_true]; rfl
   ·simp only[aa2,reduceCtorEq,Int.reduceLT,Int.reduceLE,Int.reduceToNat,Int.reduceAdd,Nat.reduceEqDiff,Nat.reduceAdd,Nat.reduceMul,Nat.reduceLT,Nat.reduceLeDiff,decide_true,decide_false,↓reduceIte,if_false]; exact q12
   ·intro id cs hlt' h;have:¬ id=0:=fun e=>by subst e; rw[q02] at h; cases h
    simp only[aa2,this,if_false]; exact h
   rintro j fr t hle' ⟨rfl,t0,t1,t2,t3⟩;by_cases hjl:j<p.aa7.length
   ·obtain ⟨a,ha,_,hdr,hget,_⟩:=ae9 p.aa7 j hjl;rcases hg with ⟨_,he⟩|⟨id,rfl,ho,hil⟩
    ·have:p.aa7=[]:=by simpa using he
     rw[this] at hjl; cases hjl
    have hrow:=t3 _ _ hil ho;have c1:(j:Int)<p.aa7.length:=by omega
    have c2:(0:Int)≤j:=by omega
    have w1:=ag4 (i:=j) (by have:=hfl.1; omega);have hid0:¬ id=0:=fun e=>by subst e; rw[t1] at hrow; cases hrow
    have hid1:¬ id=1:=fun e=>by subst e; rw[t2] at hrow; cases hrow
    have u0:¬ 0=t.next:=by omega
    have u1:¬ 1=t.next:=by omega
    have u2:¬ id=t.next:=by omega
    have u3:¬ t.next=id:=by omega
    have u4:¬ 0=id:=by omega
    have u5:¬ 1=id:=by omega
    have hall:=fun x hx=>(af5 p.aa7 x hx).1
    have hfl2:=ah3 hall;have hpart:=aj1 hall j (by rw[List.length_map]; exact hjl);rw[hget] at hpart;rw[List.length_map] at hfl2;have hin:7≤((p.aa7.map aa8.cs).flatten.drop (j*7)).length:=by rw[List.length_drop,hfl2]; omega
    have hin2:j*7+7≤(p.aa7.map aa8.cs).flatten.length:=by rw[hfl2]; omega
    have hsame:ao8 (p.aa7.map aa8.cs).flatten (j*7) a.cs=(p.aa7.map aa8.cs).flatten:=aj6 (by rw[ac1]; exact hpart) (by rw[ac1]; exact hin2);simp only[go_sem,c1,c2,hrow,hin,hpart,bz3,ac1,ac3,ae5,t1,pcs,u0,u2,u3,hid0];refine af2 (ag1 a (hfl.2 a ha).1) ?_;simp only[go_sem,c1,c2,hrow,hin2,bz4,ac1,ac3,hsame,t1,pcs,u0,u2,w1];refine ⟨hjl,by omega,?_,?_,?_⟩
    ·simp only[u4,if_false]
    ·simp only[u5,u1,if_false]; exact t2
    ·intro id' cs hlt' h;have h':=t3 id' cs hlt' h;have u6:¬ id'=t.next:=by omega
     by_cases e:id'=id
     ·subst e;rw[hrow] at h';simp only[if_true]; exact h'
     ·simp only[e,u6,if_false]; exact h'
   ·have hj':j=p.aa7.length:=by omega
    subst hj';have c1:¬ (p.aa7.length:Int)<p.aa7.length:=by omega
    have hgt:Grow t v 7 (p.aa7.map aa8.cs):=by
     rcases hg with h|⟨id,rfl,ho,hil⟩
     ·exact .inl h
     ·exact .inr ⟨id,rfl,t3 _ _ hil ho,by omega⟩
    have hrows:∀ id cs,id<s.next→s.obj id=some (.row cs)→t.obj id=some (.row cs):=fun id cs hlt' h=>t3 id cs (by omega) (by rw[hs2 id hlt']; exact h)
    have mm:∀ {d d':Prop} (u:IV) (l:List aa8),ak5 s d u l→(d↔d')→ak5 t d' u l:=fun u l h hd=>h.mono hd (by omega) hrows
    simp only[go_sem,c1];exact ⟨rfl,⟨t2,by omega⟩,v7,v8,v,v11,v12,v13,t1,mm _ _ o7 (by simp),mm _ _ o8 (by simp),.inl ⟨by simp,hgt⟩,mm _ _ o11 (by simp),mm _ _ o12 (by simp),mm _ _ o13 (by simp)⟩
  ·have hv:v11=ab7 p.aa5:=by
    rcases o11 with ⟨h,_⟩|⟨_,h⟩
    ·exact absurd h (by omega)
    ·exact h
   subst hv;have hfl:p.aa5.length<2^31∧∀ r∈p.aa5,r.fit∧r.count<2^31:=hf.au3 (3,p.aa5) (by simp[aa3.rows]);simp only[go_sem,bx9,q0,pcs,bh3];refine ae3 fok34 (ao6 p.aa5 _ (by have:=hfl.1; omega)) ?_;rintro v s2 ⟨hs2,hn2,hg,hid⟩;refine ⟨hn2,?_⟩;have q02:s2.obj 0=some (.cells (pcs p v7 v8 v10 (ab7 p.aa5) v12 v13)):=by rw[hs2 0 (by omega)]; exact q0
   have q12:s2.obj 1=some (.cells ag8):=by rw[hs2 1 (by omega)]; exact q1
   have hvl:v.leaf=true:=by rcases hg with ⟨rfl,_⟩|⟨id,rfl,_⟩<;>rfl
   have hvc:v.cs=[v]:=by rcases hg with ⟨rfl,_⟩|⟨id,rfl,_⟩<;>rfl
   have hlen:∀ s,bh7 0 s v=some (.int .i64 (p.aa5.length:Nat)):=fun s=>by
    rcases hg with ⟨rfl,he⟩|⟨id,rfl,_⟩
    ·have:p.aa5=[]:=by simpa using he
     rw[this]; rfl
    ·rw[al8,List.length_map]
   simp only[go_sem,q02,pcs,hvl,hvc,hlen]
   refine ac9 noT (fun j fr t=>fr=[(1,.ptr 0 0),(2,.ptr 1 0),(4,.ptr 0 11),(25,.aa4 bx9),(26,.int .i64 6),(27,.int .i64 3),(39,v),(40,.int .i64 p.aa5.length),(41,.int .i64 j)] ∧
    s2.next≤t.next∧t.obj 0=some (.cells (pcs p v7 v8 v10 v v12 v13))∧t.obj 1=some (.cells ag8)∧∀ id cs,id<s2.next→s2.obj id=some (.row cs)→t.obj id=some (.row cs)) p.aa5.length ⟨rfl,Nat.le_refl _,?_,?_,?_⟩ ?_
   ·simp only[aa2,if_true]; rfl
   ·simp only[aa2,reduceCtorEq,Int.reduceLT,Int.reduceLE,Int.reduceToNat,Int.reduceAdd,Nat.reduceEqDiff,Nat.reduceAdd,Nat.reduceMul,Nat.reduceLT,Nat.reduceLeDiff,decide_true,decide_false,↓reduceIte,if_false]; exact q12
   ·intro id cs hlt' h;have:¬ id=0:=fun e=>by subst e; rw[q02] at h; cases h
    simp only[aa2,this,if_false]; exact h
   rintro j fr t hle' ⟨rfl,t0,t1,t2,t3⟩;by_cases hjl:j<p.aa5.length
   ·obtain ⟨a,ha,_,hdr,hget,_⟩:=ae9 p.aa5 j hjl;rcases hg with ⟨_,he⟩|⟨id,rfl,ho,hil⟩
    ·have:p.aa5=[]:=by simpa using he
     rw[this] at hjl; cases hjl
    have hrow:=t3 _ _ hil ho;have c1:(j:Int)<p.aa5.length:=by omega
    have c2:(0:Int)≤j:=by omega
    have w1:=ag4 (i:=j) (by have:=hfl.1; omega);have hid0:¬ id=0:=fun e=>by subst e; rw[t1] at hrow; cases hrow
    have hid1:¬ id=1:=fun e=>by subst e; rw[t2] at hrow; cases hrow
    have u0:¬ 0=t.next:=by omega
    have u1:¬ 1=t.next:=by omega
    have u2:¬ id=t.next:=by omega
    have u3:¬ t.next=id:=by omega
    have u4:¬ 0=id:=by omega
    have u5:¬ 1=id:=by omega
    have hall:=fun x hx=>(af5 p.aa5 x hx).1
    have hfl2:=ah3 hall;have hpart:=aj1 hall j (by rw[List.length_map]; exact hjl);rw[hget] at hpart;rw[List.length_map] at hfl2;have hin:7≤((p.aa5.map aa8.cs).flatten.drop (j*7)).length:=by rw[List.length_drop,hfl2]; omega
    have hin2:j*7+7≤(p.aa5.map aa8.cs).flatten.length:=by rw[hfl2]; omega
    have hsame:ao8 (p.aa5.map aa8.cs).flatten (j*7) a.cs=(p.aa5.map aa8.cs).flatten:=aj6 (by rw[ac1]; exact hpart) (by rw[ac1]; exact hin2);simp only[go_sem,c1,c2,hrow,hin,hpart,bz3,ac1,ac3,ae5,t1,pcs,u0,u2,u3,hid0];refine af2 (ag1 a (hfl.2 a ha).1) ?_;simp only[go_sem,c1,c2,hrow,hin2,bz4,ac1,ac3,hsame,t1,pcs,u0,u2,w1];refine ⟨hjl,by omega,?_,?_,?_⟩
    ·simp only[u4,if_false]
    ·simp only[u5,u1,if_false]; exact t2
    ·intro id' cs hlt' h;have h':=t3 id' cs hlt' h;have u6:¬ id'=t.next:=by omega
     by_cases e:id'=id
     ·subst e;rw[hrow] at h';simp only[if_true]; exact h'
     ·simp only[e,u6,if_false]; exact h'
   ·have hj':j=p.aa5.length:=by omega
    subst hj';have c1:¬ (p.aa5.length:Int)<p.aa5.length:=by omega
    have hgt:Grow t v 7 (p.aa5.map aa8.cs):=by
     rcases hg with h|⟨id,rfl,ho,hil⟩
     ·exact .inl h
     ·exact .inr ⟨id,rfl,t3 _ _ hil ho,by omega⟩
    have hrows:∀ id cs,id<s.next→s.obj id=some (.row cs)→t.obj id=some (.row cs):=fun id cs hlt' h=>t3 id cs (by omega) (by rw[hs2 id hlt']; exact h)
    have mm:∀ {d d':Prop} (u:IV) (l:List aa8),ak5 s d u l→(d↔d')→ak5 t d' u l:=fun u l h hd=>h.mono hd (by omega) hrows
    simp only[go_sem,c1];exact ⟨rfl,⟨t2,by omega⟩,v7,v8,v10,v,v12,v13,t1,mm _ _ o7 (by simp),mm _ _ o8 (by simp),mm _ _ o10 (by simp),.inl ⟨by simp,hgt⟩,mm _ _ o12 (by simp),mm _ _ o13 (by simp)⟩
  ·have hv:v12=ab7 p.suggests:=by
    rcases o12 with ⟨h,_⟩|⟨_,h⟩
    ·exact absurd h (by omega)
    ·exact h
   subst hv;have hfl:p.suggests.length<2^31∧∀ r∈p.suggests,r.fit∧r.count<2^31:=hf.au3 (1,p.suggests) (by simp[aa3.rows]);simp only[go_sem,bx9,q0,pcs,bh3];refine ae3 fok34 (ao6 p.suggests _ (by have:=hfl.1; omega)) ?_;rintro v s2 ⟨hs2,hn2,hg,hid⟩;refine ⟨hn2,?_⟩;have q02:s2.obj 0=some (.cells (pcs p v7 v8 v10 v11 (ab7 p.suggests) v13)):=by rw[hs2 0 (by omega)]; exact q0
   have q12:s2.obj 1=some (.cells ag8):=by rw[hs2 1 (by omega)]; exact q1
   have hvl:v.leaf=true:=by rcases hg with ⟨rfl,_⟩|⟨id,rfl,_⟩<;>rfl
   have hvc:v.cs=[v]:=by rcases hg with ⟨rfl,_⟩|⟨id,rfl,_⟩<;>rfl
   have hlen:∀ s,bh7 0 s v=some (.int .i64 (p.suggests.length:Nat)):=fun s=>by
    rcases hg with ⟨rfl,he⟩|⟨id,rfl,_⟩
    ·have:p.suggests=[]:=by simpa using he
     rw[this]; rfl
    ·rw[al8,List.length_map]
   simp only[go_sem,q02,pcs,hvl,hvc,hlen]
   refine ac9 noT (fun j fr t=>fr=[(1,.ptr 0 0),(2,.ptr 1 0),(4,.ptr 0 12),(25,.aa4 bx9),(26,.int .i64 6),(27,.int .i64 4),(39,v),(40,.int .i64 p.suggests.length),(41,.int .i64 j)] ∧
    s2.next≤t.next∧t.obj 0=some (.cells (pcs p v7 v8 v10 v11 v v13))∧t.obj 1=some (.cells ag8)∧∀ id cs,id<s2.next→s2.obj id=some (.row cs)→t.obj id=some (.row cs)) p.suggests.length ⟨rfl,Nat.le_refl _,?_,?_,?_⟩ ?_
   ·simp only[aa2,if_true]; rfl
   ·simp only[aa2,reduceCtorEq,Int.reduceLT,Int.reduceLE,Int.reduceToNat,Int.reduceAdd,Nat.reduceEqDiff,Nat.reduceAdd,Nat.reduceMul,Nat.reduceLT,Nat.reduceLeDiff,decide_true,decide_false,↓reduceIte,if_false]; exact q12
   ·intro id cs hlt' h;have:¬ id=0:=fun e=>by subst e; rw[q02] at h; cases h
    simp only[aa2,this,if_false]; exact h
   rintro j fr t hle' ⟨rfl,t0,t1,t2,t3⟩;by_cases hjl:j<p.suggests.length
   ·obtain ⟨a,ha,_,hdr,hget,_⟩:=ae9 p.suggests j hjl;rcases hg with ⟨_,he⟩|⟨id,rfl,ho,hil⟩
    ·have:p.suggests=[]:=by simpa using he
     rw[this] at hjl; cases hjl
    have hrow:=t3 _ _ hil ho;have c1:(j:Int)<p.suggests.length:=by omega
    have c2:(0:Int)≤j:=by omega
    have w1:=ag4 (i:=j) (by have:=hfl.1; omega);have hid0:¬ id=0:=fun e=>by subst e; rw[t1] at hrow; cases hrow
    have hid1:¬ id=1:=fun e=>by subst e; rw[t2] at hrow; cases hrow
    have u0:¬ 0=t.next:=by omega
    have u1:¬ 1=t.next:=by omega
    have u2:¬ id=t.next:=by omega
    have u3:¬ t.next=id:=by omega
    have u4:¬ 0=id:=by omega
    have u5:¬ 1=id:=by omega
    have hall:=fun x hx=>(af5 p.suggests x hx).1
    have hfl2:=ah3 hall;have hpart:=aj1 hall j (by rw[List.length_map]; exact hjl);rw[hget] at hpart;rw[List.length_map] at hfl2;have hin:7≤((p.suggests.map aa8.cs).flatten.drop (j*7)).length:=by rw[List.length_drop,hfl2]; omega
    have hin2:j*7+7≤(p.suggests.map aa8.cs).flatten.length:=by rw[hfl2]; omega
    have hsame:ao8 (p.suggests.map aa8.cs).flatten (j*7) a.cs=(p.suggests.map aa8.cs).flatten:=aj6 (by rw[ac1]; exact hpart) (by rw[ac1]; exact hin2);simp only[go_sem,c1,c2,hrow,hin,hpart,bz3,ac1,ac3,ae5,t1,pcs,u0,u2,u3,hid0];refine af2 (ag1 a (hfl.2 a ha).1) ?_;simp only[go_sem,c1,c2,hrow,hin2,bz4,ac1,ac3,hsame,t1,pcs,u0,u2,w1];refine ⟨hjl,by omega,?_,?_,?_⟩
    ·simp only[u4,if_false]
    ·simp only[u5,u1,if_false]; exact t2
    ·intro id' cs hlt' h;have h':=t3 id' cs hlt' h;have u6:¬ id'=t.next:=by omega
     by_cases e:id'=id
     ·subst e;rw[hrow] at h';simp only[if_true]; exact h'
     ·simp only[e,u6,if_false]; exact h'
   ·have hj':j=p.suggests.length:=by omega
    subst hj';have c1:¬ (p.suggests.length:Int)<p.suggests.length:=by omega
    have hgt:Grow t v 7 (p.suggests.map aa8.cs):=by
     rcases hg with h|⟨id,rfl,ho,hil⟩
     ·exact .inl h
     ·exact .inr ⟨id,rfl,t3 _ _ hil ho,by omega⟩
    have hrows:∀ id cs,id<s.next→s.obj id=some (.row cs)→t.obj id=some (.row cs):=fun id cs hlt' h=>t3 id cs (by omega) (by rw[hs2 id hlt']; exact h)
    have mm:∀ {d d':Prop} (u:IV) (l:List aa8),ak5 s d u l→(d↔d')→ak5 t d' u l:=fun u l h hd=>h.mono hd (by omega) hrows
    simp only[go_sem,c1];exact ⟨rfl,⟨t2,by omega⟩,v7,v8,v10,v11,v,v13,t1,mm _ _ o7 (by simp),mm _ _ o8 (by simp),mm _ _ o10 (by simp),mm _ _ o11 (by simp),.inl ⟨by simp,hgt⟩,mm _ _ o13 (by simp)⟩
  ·have hv:v13=ab7 p.ab2:=by
    rcases o13 with ⟨h,_⟩|⟨_,h⟩
    ·exact absurd h (by omega)
    ·exact h
   subst hv;have hfl:p.ab2.length<2^31∧∀ r∈p.ab2,r.fit∧r.count<2^31:=hf.au3 (3,p.ab2) (by simp[aa3.rows]);simp only[go_sem,bx9,q0,pcs,bh3];refine ae3 fok34 (ao6 p.ab2 _ (by have:=hfl.1; omega)) ?_;rintro v s2 ⟨hs2,hn2,hg,hid⟩;refine ⟨hn2,?_⟩;have q02:s2.obj 0=some (.cells (pcs p v7 v8 v10 v11 v12 (ab7 p.ab2))):=by rw[hs2 0 (by omega)]; exact q0
   have q12:s2.obj 1=some (.cells ag8):=by rw[hs2 1 (by omega)]; exact q1
   have hvl:v.leaf=true:=by rcases hg with ⟨rfl,_⟩|⟨id,rfl,_⟩<;>rfl
   have hvc:v.cs=[v]:=by rcases hg with ⟨rfl,_⟩|⟨id,rfl,_⟩<;>rfl
   have hlen:∀ s,bh7 0 s v=some (.int .i64 (p.ab2.length:Nat)):=fun s=>by
    rcases hg with ⟨rfl,he⟩|⟨id,rfl,_⟩
    ·have:p.ab2=[]:=by simpa using he
     rw[this]; rfl
    ·rw[al8,List.length_map]
   simp only[go_sem,q02,pcs,hvl,hvc,hlen]
   refine ac9 noT (fun j fr t=>fr=[(1,.ptr 0 0),(2,.ptr 1 0),(4,.ptr 0 13),(25,.aa4 bx9),(26,.int .i64 6),(27,.int .i64 5),(39,v),(40,.int .i64 p.ab2.length),(41,.int .i64 j)] ∧
    s2.next≤t.next∧t.obj 0=some (.cells (pcs p v7 v8 v10 v11 v12 v))∧t.obj 1=some (.cells ag8)∧∀ id cs,id<s2.next→s2.obj id=some (.row cs)→t.obj id=some (.row cs)) p.ab2.length ⟨rfl,Nat.le_refl _,?_,?_,?_⟩ ?_
   ·simp only[aa2,if_true]; rfl
   ·simp only[aa2,reduceCtorEq,Int.reduceLT,Int.reduceLE,Int.reduceToNat,Int.reduceAdd,Nat.reduceEqDiff,Nat.reduceAdd,Nat.reduceMul,Nat.reduceLT,Nat.reduceLeDiff,decide_true,decide_false,↓reduceIte,if_false]; exact q12
   ·intro id cs hlt' h;have:¬ id=0:=fun e=>by subst e; rw[q02] at h; cases h
    simp only[aa2,this,if_false]; exact h
   rintro j fr t hle' ⟨rfl,t0,t1,t2,t3⟩;by_cases hjl:j<p.ab2.length
   ·obtain ⟨a,ha,_,hdr,hget,_⟩:=ae9 p.ab2 j hjl;rcases hg with ⟨_,he⟩|⟨id,rfl,ho,hil⟩
    ·have:p.ab2=[]:=by simpa using he
     rw[this] at hjl; cases hjl
    have hrow:=t3 _ _ hil ho;have c1:(j:Int)<p.ab2.length:=by omega
    have c2:(0:Int)≤j:=by omega
    have w1:=ag4 (i:=j) (by have:=hfl.1; omega);have hid0:¬ id=0:=fun e=>by subst e; rw[t1] at hrow; cases hrow
    have hid1:¬ id=1:=fun e=>by subst e; rw[t2] at hrow; cases hrow
    have u0:¬ 0=t.next:=by omega
    have u1:¬ 1=t.next:=by omega
    have u2:¬ id=t.next:=by omega
    have u3:¬ t.next=id:=by omega
    have u4:¬ 0=id:=by omega
    have u5:¬ 1=id:=by omega
    have hall:=fun x hx=>(af5 p.ab2 x hx).1
    have hfl2:=ah3 hall;have hpart:=aj1 hall j (by rw[List.length_map]; exact hjl);rw[hget] at hpart;rw[List.length_map] at hfl2;have hin:7≤((p.ab2.map aa8.cs).flatten.drop (j*7)).length:=by rw[List.length_drop,hfl2]; omega
    have hin2:j*7+7≤(p.ab2.map aa8.cs).flatten.length:=by rw[hfl2]; omega
    have hsame:ao8 (p.ab2.map aa8.cs).flatten (j*7) a.cs=(p.ab2.map aa8.cs).flatten:=aj6 (by rw[ac1]; exact hpart) (by rw[ac1]; exact hin2);simp only[go_sem,c1,c2,hrow,hin,hpart,bz3,ac1,ac3,ae5,t1,pcs,u0,u2,u3,hid0];refine af2 (ag1 a (hfl.2 a ha).1) ?_;simp only[go_sem,c1,c2,hrow,hin2,bz4,ac1,ac3,hsame,t1,pcs,u0,u2,w1];refine ⟨hjl,by omega,?_,?_,?_⟩
    ·simp only[u4,if_false]
    ·simp only[u5,u1,if_false]; exact t2
    ·intro id' cs hlt' h;have h':=t3 id' cs hlt' h;have u6:¬ id'=t.next:=by omega
     by_cases e:id'=id
     ·subst e;rw[hrow] at h';simp only[if_true]; exact h'
     ·simp only[e,u6,if_false]; exact h'
   ·have hj':j=p.ab2.length:=by omega
    subst hj';have c1:¬ (p.ab2.length:Int)<p.ab2.length:=by omega
    have hgt:Grow t v 7 (p.ab2.map aa8.cs):=by
     rcases hg with h|⟨id,rfl,ho,hil⟩
     ·exact .inl h
     ·exact .inr ⟨id,rfl,t3 _ _ hil ho,by omega⟩
    have hrows:∀ id cs,id<s.next→s.obj id=some (.row cs)→t.obj id=some (.row cs):=fun id cs hlt' h=>t3 id cs (by omega) (by rw[hs2 id hlt']; exact h)
    have mm:∀ {d d':Prop} (u:IV) (l:List aa8),ak5 s d u l→(d↔d')→ak5 t d' u l:=fun u l h hd=>h.mono hd (by omega) hrows
    simp only[go_sem,c1];exact ⟨rfl,⟨t2,by omega⟩,v7,v8,v10,v11,v12,v,t1,mm _ _ o7 (by simp),mm _ _ o8 (by simp),mm _ _ o10 (by simp),mm _ _ o11 (by simp),mm _ _ o12 (by simp),.inl ⟨by simp,hgt⟩⟩
 ·have hi':i=6:=by omega
  subst hi';have c1:¬ ((6:Nat):Int)<6:=by omega
  simp only[go_sem,c1,q0,q1,pcs,ag8,bm8,o7.leaf,o8.leaf,o10.leaf,o11.leaf,o12.leaf,o13.leaf]
  have fz:∀ (v:IV) (l:List aa8) (k:Nat) (s':Store),k<6→ak5 s (k<6) v l→(∀ id cs,s.obj id=some (.row cs)→s'.obj id=some (.row cs))→s.next≤s'.next→bm9 s' 0 v (ab7 l):=by
   intro v l k s' hk ho h1 h2;rcases ho.mono Iff.rfl h2 (fun id cs _ h=>h1 id cs h) with ⟨_,h⟩|⟨h,_⟩
   ·exact h.frz (fun x hx=>(af5 l x hx).1) (fun _ _=>Nat.not_lt_zero _) (ac7 (ad2 l))
   ·exact absurd hk h
  have hr:∀ id cs,s.obj id=some (.row cs)→(s.put 1 (ah2.cells (pcs p v7 v8 v10 v11 v12 v13))).obj id=some (.row cs):=fun id cs h=>by
   have:¬ id=1:=fun e=>by subst e; rw[q1] at h; cases h
   simp only[aa2,this,if_false]; exact h
  have b1:=fun v hv=>Frz.keep (σ:=s.put 1 (ah2.cells (pcs p v7 v8 v10 v11 v12 v13))) (S:=fun i=>i<0) v hv
  exact .gk2 (.cons (ag7 _) (.cons (ac8 _ _) (.cons (ag7 _) (.cons (ag7 _) (.cons (ac8 _ _) (.cons (ag7 _) (.cons (b1 _ (ak3 _))
   (.cons (fz v7 _ 0 _ (by omega) o7 hr (Nat.le_refl _)) (.cons (fz v8 _ 1 _ (by omega) o8 hr (Nat.le_refl _)) (.cons (b1 _ (ak3 _)) (.cons (fz v10 _ 2 _ (by omega) o10 hr (Nat.le_refl _)) (.cons (fz v11 _ 3 _ (by omega) o11 hr (Nat.le_refl _))
   (.cons (fz v12 _ 4 _ (by omega) o12 hr (Nat.le_refl _)) (.cons (fz v13 _ 5 _ (by omega) o13 hr (Nat.le_refl _)) (.cons (b1 _ (an5 _)) .nil)))))))))))))))
end Go.Id.Tryd
