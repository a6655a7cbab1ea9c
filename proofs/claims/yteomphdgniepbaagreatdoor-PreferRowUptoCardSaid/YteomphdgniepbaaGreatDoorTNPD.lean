/- Rows that are looked through; packages,as they may be. Conditions: none. -/
import Derived.Test.YteomphdgniepbaaGreatDoorTNPB
set_option linter.all false
namespace Go.Id.Tryz
open Go Go.Id Go.Proofs Go.Id.Md
def ai3 {α:Type}(q:α→Bool):List α→Int→Int
 | [],_=>-1
 | e::es,i=>if q e then i else ai3 q es (i+1)
theorem fr6 {α:Type}(q:α→Bool):∀ (l:List α) (i:Nat),decide (0≤ai3 q l i)=l.any q:=by
 intro l
 induction l with
 | nil=>intro i; rfl
 | cons x l ih=>
  intro i;simp only[ai3,List.any_cons];by_cases h:q x=true
  ·simp only[h,if_true,Bool.true_or]; exact decide_eq_true (by omega)
  ·have h':q x=false:=by simpa using h
   have e:=ih (i+1);rw[Int.natCast_add,Int.natCast_one] at e;simp only[h',Bool.false_eq_true,if_false,Bool.false_or];exact e
theorem at7 {α:Type}(q:α→Bool)(l:List α):decide (0≤ai3 q l 0)=l.any q:=fr6 q l 0
theorem aw3 (d:Dep):d.cs.length=5:=rfl
theorem ao9 (d:Dep):d.cs.all IV.leaf=true:=rfl
theorem ar8 (d:Dep):d.cs.take 5=d.cs:=rfl
theorem ab7 (r:aa7):r.cs.all IV.leaf=true:=by rw[aa7.ao4]; rfl
theorem ac9 (r:aa7):r.cs.take 7=r.cs:=List.take_of_length_le (by rw[ab9]; exact Nat.le_refl _)
theorem dk4 (s:Str):(bs4 s).length=1:=rfl
theorem bv9 (l:List Dep):Bnd 0 (.aa3 (l.map Dep.cs)):=.aa3 _ fun e he c hc=>by
 obtain ⟨d,_,rfl⟩:=List.mem_map.1 he; exact he7 d c hc
theorem cl7 (l:List Str):Bnd 0 (.aa3 (l.map bs4)):=.aa3 _ fun e he c hc=>by
 obtain ⟨d,_,rfl⟩:=List.mem_map.1 he; cases hc with|head=>exact .str _|tail _ h=>cases h
theorem bd2 (l:List aa7):Bnd 0 (.aa3 (l.map aa7.cs)):=.aa3 _ fun e he c hc=>by
 obtain ⟨d,_,rfl⟩:=List.mem_map.1 he; exact dj6 d c hc
theorem fr7 (xs:List Dep)(g:Nat)(first cap:List IV)(q:Dep→Bool)(hn:xs.length<2^62)(hok:okF Tryz.prog g=true)
  (hq:∀ x∈xs,PC Tryz.prog EE g (first++[IV.agg (Dep.cs x)]++cap) (.bool (q x))):PC Tryz.prog EE 214 [.aa3 (xs.map Dep.cs),.func (.func g) first cap] (.int .i64 (ai3 q xs 0)):=by
 refine an7 fok214 (nZ rfl) fun σ=>?_
 simp only[ic214,go_sem];refine ab3 noT (fun i fr s=>s=σ∧fr=[(0,.aa3 (xs.map Dep.cs)),(1,.func (.func g) first cap),(7,.int .i64 xs.length),(8,.int .i64 i)]∧ai3 q xs 0=ai3 q (xs.drop i) i) xs.length ⟨rfl,rfl,rfl⟩ ?_;rintro i fr s hi ⟨rfl,rfl,hf⟩;by_cases hlt:i<xs.length
 ·obtain ⟨x,ha,_,hdr,hget,_⟩:=af8 xs i hlt;have c1:(i:Int)<xs.length:=by omega
  have c2:(0:Int)≤i:=by omega
  have w1:=ad6 (i:=i) (by omega);rw[hdr] at hf;simp only[go_sem,c1,c2,hget,aw3,ar8,ao9];refine am8 hok (eb1 (hq x ha)) ?_;rintro v s ⟨rfl,rfl⟩;refine ⟨Nat.le_refl _,?_⟩
  cases hqe:q x with
  | true=>simp only[go_sem,hf,ai3,hqe,and_self]
  | false=>
   simp only[go_sem,w1];exact ⟨hlt,by rw[hf]; simp only[ai3,hqe,Bool.false_eq_true,if_false,Int.natCast_add,Int.natCast_one]⟩
 ·have hi':i=xs.length:=by omega
  subst hi';have c1:¬ (xs.length:Int)<xs.length:=by omega
  rw[List.drop_length] at hf;simp only[go_sem,c1,hf,ai3,and_self]
theorem cr4 (xs:List Dep)(g:Nat)(first cap:List IV)(q:Dep→Bool)(hn:xs.length<2^62)(hok:okF Tryz.prog g=true)
  (hq:∀ x∈xs,PC Tryz.prog EE g (first++[IV.agg (Dep.cs x)]++cap) (.bool (q x))):PC Tryz.prog EE 137 [.aa3 (xs.map Dep.cs),.func (.func g) first cap] (.bool (xs.any q)):=by
 refine an7 fok137 (nZ rfl) fun σ=>?_
 simp only[ic137,go_sem];refine aa5 fok214 (fr7 xs g first cap q hn hok hq) ?_;simp only[go_sem,at7,and_self]
theorem fr8 (x:Dep)(g:Nat)(first cap:List IV)(b:Bool)(hb:∀ c∈first,Bnd 0 c)(hb2:∀ c∈cap,Bnd 0 c)(hok:okF Tryz.prog g=true)(hq:PC Tryz.prog EE g (first++[IV.agg (Dep.cs x)]++cap) (.bool b)) :
  PC Tryz.prog EE 296 [IV.agg (Dep.cs x),.ac2 [.func (.func g) first cap]] (.bool !b):=by
 refine an7 fok296 (nZ rfl) fun σ=>?_
 simp only[ic296,go_sem,aw3,ar8,ao9];refine am8 hok (eb1 hq) ?_;rintro v s ⟨rfl,rfl⟩;refine ⟨Nat.le_refl _,?_⟩;simp only[go_sem,and_self]
theorem ek7 (xs:List Dep)(n:Int)(g:Nat)(first cap:List IV)(p:Dep→Bool)(hn:xs.length<2^62)(hb:∀ c∈first,Bnd 0 c)(hb2:∀ c∈cap,Bnd 0 c)(hok:okF Tryz.prog g=true)
  (hq:∀ x∈xs,PC Tryz.prog EE g (first++[IV.agg (Dep.cs x)]++cap) (.bool (p x))):PC Tryz.prog EE 234 [.aa3 (xs.map Dep.cs),.int .i64 n,.func (.func g) first cap] (.bool (decide ((xs.length:Int)≤n)&&xs.all p)):=by
 refine an7 fok234 (nZ rfl) fun σ=>?_
 by_cases hle:(xs.length:Int)≤n
 ·simp only[ic234,go_sem,hle];refine aa5 fok137 (cr4 xs 296 [] [.ac2 [.func (.func g) first cap]] (fun x=>!p x) hn fok296.1 fun x hx=>fr8 x g first cap (p x) hb hb2 hok (hq x hx)) ?_;have:(!xs.any fun x=>!p x)=xs.all p:=by rw[List.not_any_eq_all_not]; simp
  simp only[go_sem,hle,this,and_self]
 ·simp only[ic234,go_sem,hle,and_self]
theorem fr9 (xs:List Str)(g:Nat)(first cap:List IV)(q:Str→Bool)(hn:xs.length<2^62)(hok:okF Tryz.prog g=true)
  (hq:∀ x∈xs,PC Tryz.prog EE g (first++[IV.str x]++cap) (.bool (q x))):PC Tryz.prog EE 328 [.aa3 (xs.map bs4),.func (.func g) first cap] (.int .i64 (ai3 q xs 0)):=by
 refine an7 fok328 (nZ rfl) fun σ=>?_
 simp only[ic328,go_sem];refine ab3 noT (fun i fr s=>s=σ∧fr=[(0,.aa3 (xs.map bs4)),(1,.func (.func g) first cap),(7,.int .i64 xs.length),(8,.int .i64 i)]∧ai3 q xs 0=ai3 q (xs.drop i) i) xs.length ⟨rfl,rfl,rfl⟩ ?_;rintro i fr s hi ⟨rfl,rfl,hf⟩;by_cases hlt:i<xs.length
 ·obtain ⟨x,ha,_,hdr,hget,_⟩:=af8 xs i hlt;have c1:(i:Int)<xs.length:=by omega
  have c2:(0:Int)≤i:=by omega
  have w1:=ad6 (i:=i) (by omega);rw[hdr] at hf;simp only[go_sem,c1,c2,hget,dk4,bs4];refine am8 hok (eb1 (hq x ha)) ?_;rintro v s ⟨rfl,rfl⟩;refine ⟨Nat.le_refl _,?_⟩
  cases hqe:q x with
  | true=>simp only[go_sem,hf,ai3,hqe,and_self]
  | false=>
   simp only[go_sem,w1];exact ⟨hlt,by rw[hf]; simp only[ai3,hqe,Bool.false_eq_true,if_false,Int.natCast_add,Int.natCast_one]⟩
 ·have hi':i=xs.length:=by omega
  subst hi';have c1:¬ (xs.length:Int)<xs.length:=by omega
  rw[List.drop_length] at hf;simp only[go_sem,c1,hf,ai3,and_self]
theorem fs1 (xs:List Str)(g:Nat)(first cap:List IV)(q:Str→Bool)(hn:xs.length<2^62)(hok:okF Tryz.prog g=true)
  (hq:∀ x∈xs,PC Tryz.prog EE g (first++[IV.str x]++cap) (.bool (q x))):PC Tryz.prog EE 297 [.aa3 (xs.map bs4),.func (.func g) first cap] (.bool (xs.any q)):=by
 refine an7 fok297 (nZ rfl) fun σ=>?_
 simp only[ic297,go_sem];refine aa5 fok328 (fr9 xs g first cap q hn hok hq) ?_;simp only[go_sem,at7,and_self]
theorem fs2 (x:Str)(g:Nat)(first cap:List IV)(b:Bool)(hb:∀ c∈first,Bnd 0 c)(hb2:∀ c∈cap,Bnd 0 c)(hok:okF Tryz.prog g=true)(hq:PC Tryz.prog EE g (first++[IV.str x]++cap) (.bool b)) :
  PC Tryz.prog EE 298 [IV.str x,.ac2 [.func (.func g) first cap]] (.bool !b):=by
 refine an7 fok298 (nZ rfl) fun σ=>?_
 simp only[ic298,go_sem,dk4,bs4];refine am8 hok (eb1 hq) ?_;rintro v s ⟨rfl,rfl⟩;refine ⟨Nat.le_refl _,?_⟩;simp only[go_sem,and_self]
theorem gj6 (xs:List Str)(n:Int)(g:Nat)(first cap:List IV)(p:Str→Bool)(hn:xs.length<2^62)(hb:∀ c∈first,Bnd 0 c)(hb2:∀ c∈cap,Bnd 0 c)(hok:okF Tryz.prog g=true)
  (hq:∀ x∈xs,PC Tryz.prog EE g (first++[IV.str x]++cap) (.bool (p x))):PC Tryz.prog EE 235 [.aa3 (xs.map bs4),.int .i64 n,.func (.func g) first cap] (.bool (decide ((xs.length:Int)≤n)&&xs.all p)):=by
 refine an7 fok235 (nZ rfl) fun σ=>?_
 by_cases hle:(xs.length:Int)≤n
 ·simp only[ic235,go_sem,hle];refine aa5 fok297 (fs1 xs 298 [] [.ac2 [.func (.func g) first cap]] (fun x=>!p x) hn fok298.1 fun x hx=>fs2 x g first cap (p x) hb hb2 hok (hq x hx)) ?_;have:(!xs.any fun x=>!p x)=xs.all p:=by rw[List.not_any_eq_all_not]; simp
  simp only[go_sem,hle,this,and_self]
 ·simp only[ic235,go_sem,hle,and_self]
theorem fc7 (xs:List aa7)(g:Nat)(first cap:List IV)(q:aa7→Bool)(hn:xs.length<2^62)(hok:okF Tryz.prog g=true)
  (hq:∀ x∈xs,PC Tryz.prog EE g (first++[IV.agg (aa7.cs x)]++cap) (.bool (q x))):PC Tryz.prog EE 218 [.aa3 (xs.map aa7.cs),.func (.func g) first cap] (.int .i64 (ai3 q xs 0)):=by
 refine an7 fok218 (nZ rfl) fun σ=>?_
 simp only[ic218,go_sem];refine ab3 noT (fun i fr s=>s=σ∧fr=[(0,.aa3 (xs.map aa7.cs)),(1,.func (.func g) first cap),(7,.int .i64 xs.length),(8,.int .i64 i)]∧ai3 q xs 0=ai3 q (xs.drop i) i) xs.length ⟨rfl,rfl,rfl⟩ ?_;rintro i fr s hi ⟨rfl,rfl,hf⟩;by_cases hlt:i<xs.length
 ·obtain ⟨x,ha,_,hdr,hget,_⟩:=af8 xs i hlt;have c1:(i:Int)<xs.length:=by omega
  have c2:(0:Int)≤i:=by omega
  have w1:=ad6 (i:=i) (by omega);rw[hdr] at hf;simp only[go_sem,c1,c2,hget,ab9,ac9,ab7];refine am8 hok (eb1 (hq x ha)) ?_;rintro v s ⟨rfl,rfl⟩;refine ⟨Nat.le_refl _,?_⟩
  cases hqe:q x with
  | true=>simp only[go_sem,hf,ai3,hqe,and_self]
  | false=>
   simp only[go_sem,w1];exact ⟨hlt,by rw[hf]; simp only[ai3,hqe,Bool.false_eq_true,if_false,Int.natCast_add,Int.natCast_one]⟩
 ·have hi':i=xs.length:=by omega
  subst hi';have c1:¬ (xs.length:Int)<xs.length:=by omega
  rw[List.drop_length] at hf;simp only[go_sem,c1,hf,ai3,and_self]
theorem bo5 (xs:List aa7)(g:Nat)(first cap:List IV)(q:aa7→Bool)(hn:xs.length<2^62)(hok:okF Tryz.prog g=true)
  (hq:∀ x∈xs,PC Tryz.prog EE g (first++[IV.agg (aa7.cs x)]++cap) (.bool (q x))):PC Tryz.prog EE 140 [.aa3 (xs.map aa7.cs),.func (.func g) first cap] (.bool (xs.any q)):=by
 refine an7 fok140 (nZ rfl) fun σ=>?_
 simp only[ic140,go_sem];refine aa5 fok218 (fc7 xs g first cap q hn hok hq) ?_;simp only[go_sem,at7,and_self]
theorem fc8 (x:aa7)(g:Nat)(first cap:List IV)(b:Bool)(hb:∀ c∈first,Bnd 0 c)(hb2:∀ c∈cap,Bnd 0 c)(hok:okF Tryz.prog g=true)(hq:PC Tryz.prog EE g (first++[IV.agg (aa7.cs x)]++cap) (.bool b)) :
  PC Tryz.prog EE 300 [IV.agg (aa7.cs x),.ac2 [.func (.func g) first cap]] (.bool !b):=by
 refine an7 fok300 (nZ rfl) fun σ=>?_
 simp only[ic300,go_sem,ab9,ac9,ab7];refine am8 hok (eb1 hq) ?_;rintro v s ⟨rfl,rfl⟩;refine ⟨Nat.le_refl _,?_⟩;simp only[go_sem,and_self]
theorem fs3 (xs:List aa7)(n:Int)(g:Nat)(first cap:List IV)(p:aa7→Bool)(hn:xs.length<2^62)(hb:∀ c∈first,Bnd 0 c)(hb2:∀ c∈cap,Bnd 0 c)(hok:okF Tryz.prog g=true)
  (hq:∀ x∈xs,PC Tryz.prog EE g (first++[IV.agg (aa7.cs x)]++cap) (.bool (p x))):PC Tryz.prog EE 237 [.aa3 (xs.map aa7.cs),.int .i64 n,.func (.func g) first cap] (.bool (decide ((xs.length:Int)≤n)&&xs.all p)):=by
 refine an7 fok237 (nZ rfl) fun σ=>?_
 by_cases hle:(xs.length:Int)≤n
 ·simp only[ic237,go_sem,hle];refine aa5 fok140 (bo5 xs 300 [] [.ac2 [.func (.func g) first cap]] (fun x=>!p x) hn fok300.1 fun x hx=>fc8 x g first cap (p x) hb hb2 hok (hq x hx)) ?_;have:(!xs.any fun x=>!p x)=xs.all p:=by rw[List.not_any_eq_all_not]; simp
  simp only[go_sem,hle,this,and_self]
 ·simp only[ic237,go_sem,hle,and_self]
/-! ### Packages -/
def ek8 (x:Int×List aa7):List IV:=[.int .u8 x.1,ae7 x.2]
def fs4 (p:aa2):List (List IV):=p.rows.map ek8
theorem al7 (p:aa2):∀ c∈p.cs,Bnd 0 c:=by
 intro c hc;simp only[aa2.cs,List.mem_cons,List.not_mem_nil,or_false] at hc;rcases hc with rfl|rfl|rfl|rfl|rfl|rfl|rfl|rfl|rfl|rfl|rfl|rfl|rfl|rfl|rfl<;>first|exact .str _|exact .int _ _|exact bv9 _|exact bd2 _|exact cl7 _
theorem be4 (p:aa2):Bnd 0 (.agg p.cs):=.agg _ (al7 p)
theorem ak5 (p:aa2):p.cs.length=15:=rfl
theorem al9 (p:aa2):p.cs.take 15=p.cs:=rfl
theorem ai4 (p:aa2):p.cs.all IV.leaf=true:=rfl
theorem gj7 (p:aa2):PC Tryz.prog EE 236 [.agg p.cs] (.func (.func 299) [] [.ac2 p.cs]):=by
 refine an7 fok236 (nZ rfl) fun σ=>?_
 simp only[ic236,go_sem,ai4,and_self]
theorem fc9 (p:aa2):ei3 Tryz.prog EE (.func (.func 299) [] [.ac2 p.cs]) (fs4 p) (fun _=>True):=by
 intro yid I S σ hown hstab hy hi;refine ⟨fok299.1,?_⟩;refine C_f fok299 (nZ rfl) ?_;simp only[ic299,go_sem,aa2.cs];simp only[fs4,aa2.rows,List.map_cons,List.map_nil,ek8] at hi;have stop:∀ s,σ.next≤s.next→S s→ib5 σ.next I S (.tuple []) s:=fun s hn hs=>⟨hn,.inr hs⟩
 refine ci8 hy hi (fun s1 n1 i1=>?_) (fun s1 n1 h1=>by simp only[go_sem]; exact stop _ n1 h1);simp only[go_sem];refine ci8 hy i1 (fun s2 n2 i2=>?_) (fun s2 n2 h2=>by simp only[go_sem]; exact stop _ (by omega) h2);simp only[go_sem];refine ci8 hy i2 (fun s3 n3 i3=>?_) (fun s3 n3 h3=>by simp only[go_sem]; exact stop _ (by omega) h3);simp only[go_sem];refine ci8 hy i3 (fun s4 n4 i4=>?_) (fun s4 n4 h4=>by simp only[go_sem]; exact stop _ (by omega) h4);simp only[go_sem];refine ci8 hy i4 (fun s5 n5 i5=>?_) (fun s5 n5 h5=>by simp only[go_sem]; exact stop _ (by omega) h5);simp only[go_sem];refine ci8 hy i5 (fun s6 n6 i6=>?_) (fun s6 n6 h6=>by simp only[go_sem]; exact stop _ (by omega) h6);simp only[go_sem];exact ⟨by omega,.inl i6⟩
theorem hf4 (r:aa7)(wh:Int)(hf:r.fit)(hc:r.count<2^62):PC Tryz.prog EE 238 [.agg r.cs,.ac2 [.int .u8 wh]] (.bool (decide (ar6 r wh=0))):=by
 refine an7 fok238 (nZ rfl) fun σ=>?_
 simp only[ic238,go_sem,ab9,ac9,ab7];refine aa5 fok239 (ed2 r wh hf hc) ?_;simp only[go_sem,and_self]
theorem gj8 (l:List aa7)(wh:Int)(hn:l.length<2^62)(hf:∀ r∈l,r.fit∧r.count<2^31):PC Tryz.prog EE 237 [ae7 l,.int .i64 32,.func (.func 238) [] [.ac2 [.int .u8 wh]]] (.bool (al3 l wh)):=by
 have h:=fs3 l 32 238 [] [.ac2 [.int .u8 wh]] (fun r=>decide (ar6 r wh=0)) hn (fun c hc=>by cases hc) (af4 (.ac2 _ (af4 (.int _ _)))) fok238.1 fun x hx=>hf4 x wh (hf x hx).1 (by have:=(hf x hx).2; omega)
 have e:decide ((l.length:Int)≤32)=decide (l.length≤32):=decide_eq_decide.2 (by omega);rw[e] at h;exact h
theorem fs5 {σ:Store}{f id:Nat}{cs:List IV}(ho:σ.obj id=some (.cells cs))(hb:∀ c∈cs,Bnd 0 c):co8 σ 0 (.func (.func f) [] [.ptr id 0]) (.func (.func f) [] [.ac2 cs]):=by
 refine .func _ [] [] _ _ rfl rfl (fun i hi=>absurd hi (Nat.not_lt_zero _)) (fun i hi=>?_)
 match i,hi with
 | 0,_=>
  refine .ptr id 0 cs cs (Nat.not_lt_zero _) (.inl ho) (by omega) (fun j hj=>?_);rw[Nat.zero_add];exact .keep _ (hb _ (ad5 _ hj))
theorem ed3 {l:List Str}{i:Nat}{f:Str}(h0:0<i)(h:l.drop i=f::l.drop (i+1)):∃ a,l[i-1]? = some a∧rising (l.drop (i-1))=(Op.bytesLess a f&&rising (l.drop i)):=by
 have hlt:i<l.length:=by
  rcases Nat.lt_or_ge i l.length with h1|h1
  ·exact h1
  ·rw[List.drop_of_length_le h1] at h; cases h
 have h2:i-1<l.length:=by omega
 refine ⟨l[i-1],List.getElem?_eq_getElem h2,?_⟩;rw[List.drop_eq_getElem_cons h2,show i-1+1=i from by omega,h];rfl
theorem fs6 (p:aa2)(hf:p.Fit):PC Tryz.prog EE 156 [.agg p.cs] (.bool (ag7 p)):=by
 refine ai1 hE fok156 (nZ rfl) (af4 (be4 _)) ?_;simp only[ic156,go_sem,ai4,aa2.cs];refine aa5 fok205 (cf8 p.name hf.name) ?_
 cases h1:aw4 p.name with
 | false=>simp only[go_sem,ag7,h1]; exact ac3 _
 | true=>
 simp only[go_sem];refine aa5 fok207 (cf9 p.name hf.name) ?_
 cases h2:bq2 p.name with
 | true=>simp only[go_sem,ag7,h1,h2]; exact ac3 _
 | false=>
 simp only[go_sem];refine aa5 (v:=.bool (bf4 p.evr false)) fok208 (dt1 p.evr false hf.evr.1 hf.evr.2) ?_
 cases h3:bf4 p.evr false with
 | false=>simp only[go_sem,ag7,h1,h2,h3]; exact ac3 _
 | true=>
 simp only[go_sem];refine aa5 fok233 (ec7 p.ao2) ?_;have h4':=bv6 p.ao2
 cases h4:ao5 p.ao2 with
 | false=>
  rw[h4] at h4'
  simp only[go_sem,h4',ag7,h1,h2,h3,h4]; exact ac3 _
 | true=>
 rw[h4] at h4';simp only[go_sem,h4'];by_cases h5:p.vendor.length≤64
 case neg=>
  have h5':(64:Int)<p.vendor.length:=by omega
  simp only[go_sem,h5',ag7,h1,h2,h3,h4,h5]; exact ac3 _
 have h5':¬ (64:Int)<p.vendor.length:=by omega
 simp only[go_sem,h5'];have e32:∀ n:Nat,decide ((n:Int)≤32)=decide (n≤32):=fun n=>decide_eq_decide.2 (by omega)
 have hp6:=ek7 p.provides 32 127 [] [] aj7 (by have:=hf.ax1.1; omega) (fun c hc=>by cases hc) (fun c hc=>by cases hc) fok127.1 fun x hx=>bi7 x (hf.ax1.2 x hx).1 (hf.ax1.2 x hx).2.1 (hf.ax1.2 x hx).2.2
 have hp7:=ek7 p.ab4 32 127 [] [] aj7 (by have:=hf.obs.1; omega) (fun c hc=>by cases hc) (fun c hc=>by cases hc) fok127.1 fun x hx=>bi7 x (hf.obs.2 x hx).1 (hf.obs.2 x hx).2.1 (hf.obs.2 x hx).2.2
 have hp8:=gj6 p.files 32 207 [] [] bq2 (by have:=hf.files.1; omega) (fun c hc=>by cases hc) (fun c hc=>by cases hc) fok207.1 fun x hx=>cf9 x (hf.files.2 x hx)
 rw[e32] at hp6 hp7 hp8;refine aa5 fok234 hp6 ?_
 cases h6:(decide (p.provides.length≤32)&&p.provides.all aj7) with
 | false=>simp only[go_sem,ag7,h1,h2,h3,h4,h5,h6]; exact ac3 _
 | true=>
 simp only[go_sem];refine aa5 fok234 hp7 ?_
 cases h7:(decide (p.ab4.length≤32)&&p.ab4.all aj7) with
 | false=>simp only[go_sem,ag7,h1,h2,h3,h4,h5,h6,h7]; exact ac3 _
 | true=>
 simp only[go_sem];refine aa5 fok235 hp8 ?_
 cases h8:(decide (p.files.length≤32)&&p.files.all bq2) with
 | false=>simp only[go_sem,ag7,h1,h2,h3,h4,h5,h6,h7,h8]; exact ac3 _
 | true=>
 have hmay:ag7 p=(rising p.files&&p.rows.all fun x=>al3 x.2 x.1):=by
  simp only[ag7,h1,h2,h3,h4,h5,h6,h7,h8,aa2.rows,List.all_cons,List.all_nil,decide_true,Bool.not_false,Bool.and_true,Bool.true_and,Bool.and_assoc]
 simp only[go_sem];rw[hmay];refine ab3 noT (fun i fr s=>fr=[(1,.ac2 p.cs),(2,.ptr 0 0),(52,strs p.files),(53,.int .i64 p.files.length),(54,.int .i64 i)]∧(s.obj 0=some (.cells [.bool false])∧0<s.next)∧rising p.files=rising (p.files.drop (i-1))) p.files.length ⟨rfl,⟨?_,?_⟩,rfl⟩ ?_
 ·simp only[aa4,if_true]
 ·exact Nat.zero_lt_one
 rintro i fr s hi ⟨rfl,⟨q1,q2⟩,hr⟩;by_cases hlt:i<p.files.length
 ·obtain ⟨f,ha,hfi,hdr,hget,_⟩:=af8 p.files i hlt;have c1:(i:Int)<p.files.length:=by omega
  have c2:(0:Int)≤i:=by omega
  have w1:=ad6 (i:=i) (by have:=hf.files.1; omega);by_cases h0:0<i
  ·have c0:(0:Int)<i:=by omega
   obtain ⟨a,ha1,ha2⟩:=ed3 h0 hdr;have hget':(p.files.map bs4).getD (i-1) []=bs4 a:=by simp[List.getD_eq_getElem?_getD,ha1]
   have w0:IntKind.i64.wrap ((i:Int)-1)=((i-1:Nat):Int):=by
    have:=hf.files.1;rw[wrap64 (by omega) (by omega)]; omega
   have c3:(0:Int)≤((i-1:Nat):Int):=by omega
   have c4:((i-1:Nat):Int)<p.files.length:=by omega
   rw[ha2] at hr;simp only[go_sem,c0,c1,c2,c3,c4,w0,w1,hget,hget',bs4,aa2.cs]
   cases hb:Op.bytesLess a f with
   | true=>
    rw[hb,Bool.true_and] at hr;simp only[go_sem,w1]
    exact ⟨hlt,⟨q1,q2⟩,hr⟩
   | false=>
    rw[hb,Bool.false_and] at hr;simp only[go_sem,q1,hr];exact ac3 _
  ·have c0:¬ (0:Int)<i:=by omega
   simp only[go_sem,c0,c1,c2,w1,hget,bs4];refine ⟨hlt,⟨q1,q2⟩,?_⟩;have:i=0:=by omega
   subst this; exact hr
 ·have hi':i=p.files.length:=by omega
  subst hi';have c1:¬ (p.files.length:Int)<p.files.length:=by omega
  have hrt:rising p.files=true:=by
   rw[hr]
   cases hl:p.files.drop (p.files.length-1) with
   | nil=>rfl
   | cons x l=>
    have h1:=congrArg List.length hl;rw[List.length_drop,List.length_cons] at h1;have h2:l=[]:=List.length_eq_zero_iff.1 (by omega);rw[h2]; rfl
  rw[hrt,Bool.true_and];simp only[go_sem,c1,ak5,al9];refine aa5 fok236 (gj7 p) ?_;simp only[go_sem];have e0:¬ 0=s.next:=by omega
  have e1:¬ s.next=0:=by omega
  refine co5 (fc9 p) (fun rest s=>(0<s.next∧s.obj 0=some (.cells [.bool false]))∧∃ ts:List (Int×List aa7),rest=ts.map ek8∧(∀ x∈ts,x∈p.rows)∧(p.rows.all fun x:Int×List aa7=>al3 x.2 x.1)=ts.all fun x:Int×List aa7=>al3 x.2 x.1) (fun _ _ h=>trivial) ?_ ?_ ?_ ?_ ?_
  ·rintro rest s s' ⟨⟨q1,q2⟩,q4⟩ hn' hs';exact ⟨⟨by omega,by rw[hs' 0 q1]; exact q2⟩,q4⟩
  ·intro a ha;obtain ⟨x,_,rfl⟩:=List.mem_map.1 ha;rfl
  ·intro o;exact ⟨⟨by show 0<s.next+1; omega,by simp only[aa4,e0,if_false]; exact q1⟩,_,rfl,fun x hx=>hx,rfl⟩
  ·rintro L pre a rest t hev ⟨⟨q3,q4⟩,ts,hts,hin,hall⟩ hL hlt
   cases ts with
   | nil=>cases hts
   | cons x ts=>
    simp only[List.map_cons,List.cons.injEq] at hts;obtain ⟨rfl,rfl⟩:=hts;obtain ⟨wh,l⟩:=x;simp only[List.all_cons] at hall;have hfx:=hf.rich _ (hin _ (List.mem_cons_self ..));have hin':∀ y∈ts,y∈p.rows:=fun y hy=>hin y (List.mem_cons_of_mem _ hy)
    have u0:¬ 0=t.next:=by omega
    have u1:¬ s.next=t.next:=by omega
    have u2:¬ t.next=s.next:=by omega
    have u3:¬ t.next=0:=by omega
    simp only[ek8,go_sem,hL,q4,e0,e1,u0,u1,u2,u3];refine ad3 fok237 (cf5 (args':=[ae7 l,.int .i64 32,.func (.func 238) [] [.ac2 [.int .u8 wh]]]) hE rfl ?_ (by unfold IV.plain; rfl) (gj8 l wh (Nat.lt_of_lt_of_le hfx.1 (by decide)) hfx.2)) ?_
    ·intro i hi
     match i,hi with
     | 0,_=>exact .keep _ (bd2 l)
     | 1,_=>exact .keep _ (.int _ _)
     | 2,_=>exact fs5 (by simp only[aa4,u2,if_false,if_true]) (af4 (.int _ _))
    ·rintro v s2 ⟨rfl,rfl⟩;refine ⟨Nat.le_refl _,?_⟩
     cases hok:al3 l wh with
     | true=>
      simp only[go_sem]
      refine dg9 (by simp only[ab1]; omega) (by simp only[aa4,if_true]) ⟨⟨by simp only[ab1]; omega,by simp only[aa4,e0,u0,if_false]; exact q4⟩,ts,rfl,hin',by rw[hall,hok,Bool.true_and]⟩
     | false=>
      simp only[go_sem,q4,e0,e1,u0,u1,u2,u3];refine co4 (by simp only[ab1]; omega) (by simp only[aa4,if_true]) ?_;simp only[go_sem,e0,u0];rw[hall,hok]; exact ac3 _
  ·rintro t o ⟨⟨q3,q4⟩,ts,hts,_,hall⟩ hlt ho;have:ts=[]:=by cases ts with|nil=>rfl|cons _ _=>cases hts
   subst this;rw[hall];simp only[go_sem,e0,q4,List.all_nil];exact ac3 _
end Go.Id.Tryz
