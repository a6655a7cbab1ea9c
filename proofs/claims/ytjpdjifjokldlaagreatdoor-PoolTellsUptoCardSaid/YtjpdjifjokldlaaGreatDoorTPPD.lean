/- Rows that are looked through; packages,as they may be. Conditions: none. -/
import Derived.Test.YtjpdjifjokldlaaGreatDoorTPPB
set_option linter.all false
namespace Go.Id.Tryz
open Go Go.Id Go.Proofs Go.Id.Md
def ax3 {α:Type}(q:α->Bool):List α->Int->Int
 | [],_=>-1
 | e::es,i=>if q e then i else ax3 q es (i+1)
theorem ft1 {α:Type}(q:α->Bool):∀ (l:List α) (i:Nat),decide (0<=ax3 q l i)=l.any q:=by
 intro l
 induction l with
 | nil=>intro i; rfl
 | cons x l ih=>
  intro i;simp only[ax3,List.any_cons];by_cases h:q x=true
  ·simp only[h,if_true,Bool.true_or]; exact decide_eq_true (by omega)
  ·have h':q x=false:=by simpa using h
   have e:=ih (i+1);rw[Int.natCast_add,Int.natCast_one] at e;simp only[h',Bool.false_eq_true,if_false,Bool.false_or];exact e
theorem ca3 {α:Type}(q:α->Bool)(l:List α):decide (0<=ax3 q l 0)=l.any q:=ft1 q l 0
theorem ar3 (d:Dep):d.cs.length=5:=rfl
theorem ar6 (d:Dep):d.cs.all IV.leaf=true:=rfl
theorem an8 (d:Dep):d.cs.take 5=d.cs:=rfl
theorem ad1 (r:aa9):r.cs.all IV.leaf=true:=by rw[aa9.an4]; rfl
theorem af4 (r:aa9):r.cs.take 7=r.cs:=List.take_of_length_le (by rw[ac6]; exact Nat.le_refl _)
theorem cl2 (s:Str):(ap8 s).length=1:=rfl
theorem bc3 (l:List Dep):Bnd 0 (.aa3 (l.map Dep.cs)):=.aa3 _ fun e he c hc=>by
 obtain ⟨d,_,rfl⟩:=List.mem_map.1 he; exact df7 d c hc
theorem bk1 (l:List Str):Bnd 0 (.aa3 (l.map ap8)):=.aa3 _ fun e he c hc=>by
 obtain ⟨d,_,rfl⟩:=List.mem_map.1 he; cases hc with|head=>exact .str _|tail _ h=>cases h
theorem af8 (l:List aa9):Bnd 0 (.aa3 (l.map aa9.cs)):=.aa3 _ fun e he c hc=>by
 obtain ⟨d,_,rfl⟩:=List.mem_map.1 he; exact eh3 d c hc
theorem ft2 (xs:List Dep)(g:Nat)(first cap:List IV)(q:Dep->Bool)(hn:xs.length<2^62)(hok:okF Tryz.prog g=true)
  (hq:∀ x∈xs,PC Tryz.prog EE g (first++[IV.agg (Dep.cs x)]++cap) (.bool (q x))):PC Tryz.prog EE 77 [.aa3 (xs.map Dep.cs),.func (.func g) first cap] (.int .i64 (ax3 q xs 0)):=by
 refine aw2 fok77 (nZ rfl) fun σ=>?_
 simp only[ic77,go_sem];refine ac2 noT (fun i fr s=>s=σ/\fr=[(0,.aa3 (xs.map Dep.cs)),(1,.func (.func g) first cap),(7,.int .i64 xs.length),(8,.int .i64 i)]/\ax3 q xs 0=ax3 q (xs.drop i) i) xs.length ⟨rfl,rfl,rfl⟩ ?_;rintro i fr s hi ⟨rfl,rfl,hf⟩;by_cases hlt:i<xs.length
 ·obtain ⟨x,ha,_,hdr,hget,_⟩:=ad2 xs i hlt;have c1:(i:Int)<xs.length:=by omega
  have c2:(0:Int)<=i:=by omega
  have w1:=af6 (i:=i) (by omega);rw[hdr] at hf;simp only[go_sem,c1,c2,hget,ar3,an8,ar6];refine au5 hok (gt3 (hq x ha)) ?_;rintro v s ⟨rfl,rfl⟩;refine ⟨Nat.le_refl _,?_⟩
  cases hqe:q x with
  | true=>simp only[go_sem,hf,ax3,hqe,and_self]
  | false=>
   simp only[go_sem,w1];exact ⟨hlt,by rw[hf]; simp only[ax3,hqe,Bool.false_eq_true,if_false,Int.natCast_add,Int.natCast_one]⟩
 ·have hi':i=xs.length:=by omega
  subst hi';have c1:¬ (xs.length:Int)<xs.length:=by omega
  rw[List.drop_length] at hf;simp only[go_sem,c1,hf,ax3,and_self]
theorem dq4 (xs:List Dep)(g:Nat)(first cap:List IV)(q:Dep->Bool)(hn:xs.length<2^62)(hok:okF Tryz.prog g=true)
  (hq:∀ x∈xs,PC Tryz.prog EE g (first++[IV.agg (Dep.cs x)]++cap) (.bool (q x))):PC Tryz.prog EE 49 [.aa3 (xs.map Dep.cs),.func (.func g) first cap] (.bool (xs.any q)):=by
 refine aw2 fok49 (nZ rfl) fun σ=>?_
 simp only[ic49,go_sem];refine aa4 fok77 (ft2 xs g first cap q hn hok hq) ?_;simp only[go_sem,ca3,and_self]
theorem ft3 (x:Dep)(g:Nat)(first cap:List IV)(b:Bool)(hb:∀ c∈first,Bnd 0 c)(hb2:∀ c∈cap,Bnd 0 c)(hok:okF Tryz.prog g=true)(hq:PC Tryz.prog EE g (first++[IV.agg (Dep.cs x)]++cap) (.bool b)) :
  PC Tryz.prog EE 87 [IV.agg (Dep.cs x),.ad4 [.func (.func g) first cap]] (.bool !b):=by
 refine aw2 fok87 (nZ rfl) fun σ=>?_
 simp only[ic87,go_sem,ar3,an8,ar6];refine au5 hok (gt3 hq) ?_;rintro v s ⟨rfl,rfl⟩;refine ⟨Nat.le_refl _,?_⟩;simp only[go_sem,and_self]
theorem eh5 (xs:List Dep)(n:Int)(g:Nat)(first cap:List IV)(p:Dep->Bool)(hn:xs.length<2^62)(hb:∀ c∈first,Bnd 0 c)(hb2:∀ c∈cap,Bnd 0 c)(hok:okF Tryz.prog g=true)
  (hq:∀ x∈xs,PC Tryz.prog EE g (first++[IV.agg (Dep.cs x)]++cap) (.bool (p x))):PC Tryz.prog EE 62 [.aa3 (xs.map Dep.cs),.int .i64 n,.func (.func g) first cap] (.bool (decide ((xs.length:Int)<=n)&&xs.all p)):=by
 refine aw2 fok62 (nZ rfl) fun σ=>?_
 by_cases hle:(xs.length:Int)<=n
 ·simp only[ic62,go_sem,hle];refine aa4 fok49 (dq4 xs 87 [] [.ad4 [.func (.func g) first cap]] (fun x=>!p x) hn fok87.1 fun x hx=>ft3 x g first cap (p x) hb hb2 hok (hq x hx)) ?_;have:(!xs.any fun x=>!p x)=xs.all p:=by rw[List.not_any_eq_all_not]; simp
  simp only[go_sem,hle,this,and_self]
 ·simp only[ic62,go_sem,hle,and_self]
theorem ft4 (xs:List Str)(g:Nat)(first cap:List IV)(q:Str->Bool)(hn:xs.length<2^62)(hok:okF Tryz.prog g=true)
  (hq:∀ x∈xs,PC Tryz.prog EE g (first++[IV.str x]++cap) (.bool (q x))):PC Tryz.prog EE 120 [.aa3 (xs.map ap8),.func (.func g) first cap] (.int .i64 (ax3 q xs 0)):=by
 refine aw2 fok120 (nZ rfl) fun σ=>?_
 simp only[ic120,go_sem];refine ac2 noT (fun i fr s=>s=σ/\fr=[(0,.aa3 (xs.map ap8)),(1,.func (.func g) first cap),(7,.int .i64 xs.length),(8,.int .i64 i)]/\ax3 q xs 0=ax3 q (xs.drop i) i) xs.length ⟨rfl,rfl,rfl⟩ ?_;rintro i fr s hi ⟨rfl,rfl,hf⟩;by_cases hlt:i<xs.length
 ·obtain ⟨x,ha,_,hdr,hget,_⟩:=ad2 xs i hlt;have c1:(i:Int)<xs.length:=by omega
  have c2:(0:Int)<=i:=by omega
  have w1:=af6 (i:=i) (by omega);rw[hdr] at hf;simp only[go_sem,c1,c2,hget,cl2,ap8];refine au5 hok (gt3 (hq x ha)) ?_;rintro v s ⟨rfl,rfl⟩;refine ⟨Nat.le_refl _,?_⟩
  cases hqe:q x with
  | true=>simp only[go_sem,hf,ax3,hqe,and_self]
  | false=>
   simp only[go_sem,w1];exact ⟨hlt,by rw[hf]; simp only[ax3,hqe,Bool.false_eq_true,if_false,Int.natCast_add,Int.natCast_one]⟩
 ·have hi':i=xs.length:=by omega
  subst hi';have c1:¬ (xs.length:Int)<xs.length:=by omega
  rw[List.drop_length] at hf;simp only[go_sem,c1,hf,ax3,and_self]
theorem ft5 (xs:List Str)(g:Nat)(first cap:List IV)(q:Str->Bool)(hn:xs.length<2^62)(hok:okF Tryz.prog g=true)
  (hq:∀ x∈xs,PC Tryz.prog EE g (first++[IV.str x]++cap) (.bool (q x))):PC Tryz.prog EE 89 [.aa3 (xs.map ap8),.func (.func g) first cap] (.bool (xs.any q)):=by
 refine aw2 fok89 (nZ rfl) fun σ=>?_
 simp only[ic89,go_sem];refine aa4 fok120 (ft4 xs g first cap q hn hok hq) ?_;simp only[go_sem,ca3,and_self]
theorem ft6 (x:Str)(g:Nat)(first cap:List IV)(b:Bool)(hb:∀ c∈first,Bnd 0 c)(hb2:∀ c∈cap,Bnd 0 c)(hok:okF Tryz.prog g=true)(hq:PC Tryz.prog EE g (first++[IV.str x]++cap) (.bool b)) :
  PC Tryz.prog EE 90 [IV.str x,.ad4 [.func (.func g) first cap]] (.bool !b):=by
 refine aw2 fok90 (nZ rfl) fun σ=>?_
 simp only[ic90,go_sem,cl2,ap8];refine au5 hok (gt3 hq) ?_;rintro v s ⟨rfl,rfl⟩;refine ⟨Nat.le_refl _,?_⟩;simp only[go_sem,and_self]
theorem gl3 (xs:List Str)(n:Int)(g:Nat)(first cap:List IV)(p:Str->Bool)(hn:xs.length<2^62)(hb:∀ c∈first,Bnd 0 c)(hb2:∀ c∈cap,Bnd 0 c)(hok:okF Tryz.prog g=true)
  (hq:∀ x∈xs,PC Tryz.prog EE g (first++[IV.str x]++cap) (.bool (p x))):PC Tryz.prog EE 64 [.aa3 (xs.map ap8),.int .i64 n,.func (.func g) first cap] (.bool (decide ((xs.length:Int)<=n)&&xs.all p)):=by
 refine aw2 fok64 (nZ rfl) fun σ=>?_
 by_cases hle:(xs.length:Int)<=n
 ·simp only[ic64,go_sem,hle];refine aa4 fok89 (ft5 xs 90 [] [.ad4 [.func (.func g) first cap]] (fun x=>!p x) hn fok90.1 fun x hx=>ft6 x g first cap (p x) hb hb2 hok (hq x hx)) ?_;have:(!xs.any fun x=>!p x)=xs.all p:=by rw[List.not_any_eq_all_not]; simp
  simp only[go_sem,hle,this,and_self]
 ·simp only[ic64,go_sem,hle,and_self]
theorem ez9 (xs:List aa9)(g:Nat)(first cap:List IV)(q:aa9->Bool)(hn:xs.length<2^62)(hok:okF Tryz.prog g=true)
  (hq:∀ x∈xs,PC Tryz.prog EE g (first++[IV.agg (aa9.cs x)]++cap) (.bool (q x))):PC Tryz.prog EE 121 [.aa3 (xs.map aa9.cs),.func (.func g) first cap] (.int .i64 (ax3 q xs 0)):=by
 refine aw2 fok121 (nZ rfl) fun σ=>?_
 simp only[ic121,go_sem];refine ac2 noT (fun i fr s=>s=σ/\fr=[(0,.aa3 (xs.map aa9.cs)),(1,.func (.func g) first cap),(7,.int .i64 xs.length),(8,.int .i64 i)]/\ax3 q xs 0=ax3 q (xs.drop i) i) xs.length ⟨rfl,rfl,rfl⟩ ?_;rintro i fr s hi ⟨rfl,rfl,hf⟩;by_cases hlt:i<xs.length
 ·obtain ⟨x,ha,_,hdr,hget,_⟩:=ad2 xs i hlt;have c1:(i:Int)<xs.length:=by omega
  have c2:(0:Int)<=i:=by omega
  have w1:=af6 (i:=i) (by omega);rw[hdr] at hf;simp only[go_sem,c1,c2,hget,ac6,af4,ad1];refine au5 hok (gt3 (hq x ha)) ?_;rintro v s ⟨rfl,rfl⟩;refine ⟨Nat.le_refl _,?_⟩
  cases hqe:q x with
  | true=>simp only[go_sem,hf,ax3,hqe,and_self]
  | false=>
   simp only[go_sem,w1];exact ⟨hlt,by rw[hf]; simp only[ax3,hqe,Bool.false_eq_true,if_false,Int.natCast_add,Int.natCast_one]⟩
 ·have hi':i=xs.length:=by omega
  subst hi';have c1:¬ (xs.length:Int)<xs.length:=by omega
  rw[List.drop_length] at hf;simp only[go_sem,c1,hf,ax3,and_self]
theorem fa8 (xs:List aa9)(g:Nat)(first cap:List IV)(q:aa9->Bool)(hn:xs.length<2^62)(hok:okF Tryz.prog g=true)
  (hq:∀ x∈xs,PC Tryz.prog EE g (first++[IV.agg (aa9.cs x)]++cap) (.bool (q x))):PC Tryz.prog EE 92 [.aa3 (xs.map aa9.cs),.func (.func g) first cap] (.bool (xs.any q)):=by
 refine aw2 fok92 (nZ rfl) fun σ=>?_
 simp only[ic92,go_sem];refine aa4 fok121 (ez9 xs g first cap q hn hok hq) ?_;simp only[go_sem,ca3,and_self]
theorem fa9 (x:aa9)(g:Nat)(first cap:List IV)(b:Bool)(hb:∀ c∈first,Bnd 0 c)(hb2:∀ c∈cap,Bnd 0 c)(hok:okF Tryz.prog g=true)(hq:PC Tryz.prog EE g (first++[IV.agg (aa9.cs x)]++cap) (.bool b)) :
  PC Tryz.prog EE 93 [IV.agg (aa9.cs x),.ad4 [.func (.func g) first cap]] (.bool !b):=by
 refine aw2 fok93 (nZ rfl) fun σ=>?_
 simp only[ic93,go_sem,ac6,af4,ad1];refine au5 hok (gt3 hq) ?_;rintro v s ⟨rfl,rfl⟩;refine ⟨Nat.le_refl _,?_⟩;simp only[go_sem,and_self]
theorem ft7 (xs:List aa9)(n:Int)(g:Nat)(first cap:List IV)(p:aa9->Bool)(hn:xs.length<2^62)(hb:∀ c∈first,Bnd 0 c)(hb2:∀ c∈cap,Bnd 0 c)(hok:okF Tryz.prog g=true)
  (hq:∀ x∈xs,PC Tryz.prog EE g (first++[IV.agg (aa9.cs x)]++cap) (.bool (p x))):PC Tryz.prog EE 66 [.aa3 (xs.map aa9.cs),.int .i64 n,.func (.func g) first cap] (.bool (decide ((xs.length:Int)<=n)&&xs.all p)):=by
 refine aw2 fok66 (nZ rfl) fun σ=>?_
 by_cases hle:(xs.length:Int)<=n
 ·simp only[ic66,go_sem,hle];refine aa4 fok92 (fa8 xs 93 [] [.ad4 [.func (.func g) first cap]] (fun x=>!p x) hn fok93.1 fun x hx=>fa9 x g first cap (p x) hb hb2 hok (hq x hx)) ?_;have:(!xs.any fun x=>!p x)=xs.all p:=by rw[List.not_any_eq_all_not]; simp
  simp only[go_sem,hle,this,and_self]
 ·simp only[ic66,go_sem,hle,and_self]
def eh6 (x:Int×List aa9):List IV:=[.int .u8 x.1,ag6 x.2]
def ft8 (p:aa2):List (List IV):=p.rows.map eh6
theorem bn7 (p:aa2):∀ c∈p.cs,Bnd 0 c:=by
 intro c hc;simp only[aa2.cs,List.mem_cons,List.not_mem_nil,or_false] at hc;rcases hc with rfl|rfl|rfl|rfl|rfl|rfl|rfl|rfl|rfl|rfl|rfl|rfl|rfl|rfl|rfl<;>first|exact .str _|exact .int _ _|exact bc3 _|exact af8 _|exact bk1 _
theorem al2 (p:aa2):Bnd 0 (.agg p.cs):=.agg _ (bn7 p)
theorem ao3 (p:aa2):p.cs.length=15:=rfl
theorem am6 (p:aa2):p.cs.take 15=p.cs:=rfl
theorem ad9 (p:aa2):p.cs.all IV.leaf=true:=rfl
theorem gl4 (p:aa2):PC Tryz.prog EE 65 [.agg p.cs] (.func (.func 91) [] [.ad4 p.cs]):=by
 refine aw2 fok65 (nZ rfl) fun σ=>?_
 simp only[ic65,go_sem,ad9,and_self]
theorem fb1 (p:aa2):ed1 Tryz.prog EE (.func (.func 91) [] [.ad4 p.cs]) (ft8 p) (fun _=>True):=by
 intro yid I S σ hown hstab hy hi;refine ⟨fok91.1,?_⟩;refine C_f fok91 (nZ rfl) ?_;simp only[ic91,go_sem,aa2.cs];simp only[ft8,aa2.rows,List.map_cons,List.map_nil,eh6] at hi;have stop:∀ s,σ.next<=s.next->S s->gz2 σ.next I S (.tuple []) s:=fun s hn hs=>⟨hn,.inr hs⟩
 refine cb7 hy hi (fun s1 n1 i1=>?_) (fun s1 n1 h1=>by simp only[go_sem]; exact stop _ n1 h1);simp only[go_sem];refine cb7 hy i1 (fun s2 n2 i2=>?_) (fun s2 n2 h2=>by simp only[go_sem]; exact stop _ (by omega) h2);simp only[go_sem];refine cb7 hy i2 (fun s3 n3 i3=>?_) (fun s3 n3 h3=>by simp only[go_sem]; exact stop _ (by omega) h3);simp only[go_sem];refine cb7 hy i3 (fun s4 n4 i4=>?_) (fun s4 n4 h4=>by simp only[go_sem]; exact stop _ (by omega) h4);simp only[go_sem];refine cb7 hy i4 (fun s5 n5 i5=>?_) (fun s5 n5 h5=>by simp only[go_sem]; exact stop _ (by omega) h5);simp only[go_sem];refine cb7 hy i5 (fun s6 n6 i6=>?_) (fun s6 n6 h6=>by simp only[go_sem]; exact stop _ (by omega) h6);simp only[go_sem];exact ⟨by omega,.inl i6⟩
theorem hm8 (r:aa9)(wh:Int)(hf:r.fit)(hc:r.count<2^62):PC Tryz.prog EE 67 [.agg r.cs,.ad4 [.int .u8 wh]] (.bool (decide (am9 r wh=0))):=by
 refine aw2 fok67 (nZ rfl) fun σ=>?_
 simp only[ic67,go_sem,ac6,af4,ad1];refine aa4 fok68 (dy7 r wh hf hc) ?_;simp only[go_sem,and_self]
theorem gl5 (l:List aa9)(wh:Int)(hn:l.length<2^62)(hf:∀ r∈l,r.fit/\r.count<2^31):PC Tryz.prog EE 66 [ag6 l,.int .i64 32,.func (.func 67) [] [.ad4 [.int .u8 wh]]] (.bool (ac9 l wh)):=by
 have h:=ft7 l 32 67 [] [.ad4 [.int .u8 wh]] (fun r=>decide (am9 r wh=0)) hn (fun c hc=>by cases hc) (af7 (.ad4 _ (af7 (.int _ _)))) fok67.1 fun x hx=>hm8 x wh (hf x hx).1 (by have:=(hf x hx).2; omega)
 have e:decide ((l.length:Int)<=32)=decide (l.length<=32):=decide_eq_decide.2 (by omega);rw[e] at h;exact h
theorem ft9 {σ:Store}{f id:Nat}{cs:List IV}(ho:σ.obj id=some (.cells cs))(hb:∀ c∈cs,Bnd 0 c):dh8 σ 0 (.func (.func f) [] [.ptr id 0]) (.func (.func f) [] [.ad4 cs]):=by
 refine .func _ [] [] _ _ rfl rfl (fun i hi=>absurd hi (Nat.not_lt_zero _)) (fun i hi=>?_)
 match i,hi with
 | 0,_=>
  refine .ptr id 0 cs cs (Nat.not_lt_zero _) (.inl ho) (by omega) (fun j hj=>?_);rw[Nat.zero_add];exact .keep _ (hb _ (ad3 _ hj))
theorem cl3 {l:List Str}{i:Nat}{f:Str}(h0:0<i)(h:l.drop i=f::l.drop (i+1)):∃ a,l[i-1]? = some a/\rising (l.drop (i-1))=(Op.bytesLess a f&&rising (l.drop i)):=by
 have hlt:i<l.length:=by
  rcases Nat.lt_or_ge i l.length with h1|h1
  ·exact h1
  ·rw[List.drop_of_length_le h1] at h; cases h
 have h2:i-1<l.length:=by omega
 refine ⟨l[i-1],List.getElem?_eq_getElem h2,?_⟩;rw[List.drop_eq_getElem_cons h2,show i-1+1=i from by omega,h];rfl
theorem fu1 (p:aa2)(hf:p.Fit):PC Tryz.prog EE 38 [.agg p.cs] (.bool (af3 p)):=by
 refine aj6 hE fok38 (nZ rfl) (af7 (al2 _)) ?_;simp only[ic38,go_sem,ad9,aa2.cs];refine aa4 fok58 (ca1 p.name hf.name) ?_
 cases h1:am8 p.name with
 | false=>simp only[go_sem,af3,h1]; exact ab1 _
 | true=>
 simp only[go_sem];refine aa4 fok59 (ca2 p.name hf.name) ?_
 cases h2:aq3 p.name with
 | true=>simp only[go_sem,af3,h1,h2]; exact ab1 _
 | false=>
 simp only[go_sem];refine aa4 (v:=.bool (ay3 p.evr false)) fok60 (dq2 p.evr false hf.evr.1 hf.evr.2) ?_
 cases h3:ay3 p.evr false with
 | false=>simp only[go_sem,af3,h1,h2,h3]; exact ab1 _
 | true=>
 simp only[go_sem];refine aa4 fok61 (dy4 p.de2) ?_;have h4':=bc2 p.de2
 cases h4:bl5 p.de2 with
 | false=>
  rw[h4] at h4'
  simp only[go_sem,h4',af3,h1,h2,h3,h4]; exact ab1 _
 | true=>
 rw[h4] at h4';simp only[go_sem,h4'];by_cases h5:p.vendor.length<=64
 case neg=>
  have h5':(64:Int)<p.vendor.length:=by omega
  simp only[go_sem,h5',af3,h1,h2,h3,h4,h5]; exact ab1 _
 have h5':¬ (64:Int)<p.vendor.length:=by omega
 simp only[go_sem,h5'];have e32:∀ n:Nat,decide ((n:Int)<=32)=decide (n<=32):=fun n=>decide_eq_decide.2 (by omega)
 have hp6:=eh5 p.provides 32 63 [] [] ah7 (by have:=hf.bd4.1; omega) (fun c hc=>by cases hc) (fun c hc=>by cases hc) fok63.1 fun x hx=>ck9 x (hf.bd4.2 x hx).1 (hf.bd4.2 x hx).2.1 (hf.bd4.2 x hx).2.2
 have hp7:=eh5 p.ab2 32 63 [] [] ah7 (by have:=hf.obs.1; omega) (fun c hc=>by cases hc) (fun c hc=>by cases hc) fok63.1 fun x hx=>ck9 x (hf.obs.2 x hx).1 (hf.obs.2 x hx).2.1 (hf.obs.2 x hx).2.2
 have hp8:=gl3 p.files 32 59 [] [] aq3 (by have:=hf.files.1; omega) (fun c hc=>by cases hc) (fun c hc=>by cases hc) fok59.1 fun x hx=>ca2 x (hf.files.2 x hx)
 rw[e32] at hp6 hp7 hp8;refine aa4 fok62 hp6 ?_
 cases h6:(decide (p.provides.length<=32)&&p.provides.all ah7) with
 | false=>simp only[go_sem,af3,h1,h2,h3,h4,h5,h6]; exact ab1 _
 | true=>
 simp only[go_sem];refine aa4 fok62 hp7 ?_
 cases h7:(decide (p.ab2.length<=32)&&p.ab2.all ah7) with
 | false=>simp only[go_sem,af3,h1,h2,h3,h4,h5,h6,h7]; exact ab1 _
 | true=>
 simp only[go_sem];refine aa4 fok64 hp8 ?_
 cases h8:(decide (p.files.length<=32)&&p.files.all aq3) with
 | false=>simp only[go_sem,af3,h1,h2,h3,h4,h5,h6,h7,h8]; exact ab1 _
 | true=>
 have hmay:af3 p=(rising p.files&&p.rows.all fun x=>ac9 x.2 x.1):=by
  simp only[af3,h1,h2,h3,h4,h5,h6,h7,h8,aa2.rows,List.all_cons,List.all_nil,decide_true,Bool.not_false,Bool.and_true,Bool.true_and,Bool.and_assoc]
 simp only[go_sem];rw[hmay];refine ac2 noT (fun i fr s=>fr=[(1,.ad4 p.cs),(2,.ptr 0 0),(52,strs p.files),(53,.int .i64 p.files.length),(54,.int .i64 i)]/\(s.obj 0=some (.cells [.bool false])/\0<s.next)/\rising p.files=rising (p.files.drop (i-1))) p.files.length ⟨rfl,⟨?_,?_⟩,rfl⟩ ?_
 ·simp only[aa5,if_true]
 ·exact Nat.zero_lt_one
 rintro i fr s hi ⟨rfl,⟨q1,q2⟩,hr⟩;by_cases hlt:i<p.files.length
 ·obtain ⟨f,ha,hfi,hdr,hget,_⟩:=ad2 p.files i hlt;have c1:(i:Int)<p.files.length:=by omega
  have c2:(0:Int)<=i:=by omega
  have w1:=af6 (i:=i) (by have:=hf.files.1; omega);by_cases h0:0<i
  ·have c0:(0:Int)<i:=by omega
   obtain ⟨a,ha1,ha2⟩:=cl3 h0 hdr;have hget':(p.files.map ap8).getD (i-1) []=ap8 a:=by simp[List.getD_eq_getElem?_getD,ha1]
   have w0:IntKind.i64.wrap ((i:Int)-1)=((i-1:Nat):Int):=by
    have:=hf.files.1;rw[wrap64 (by omega) (by omega)]; omega
   have c3:(0:Int)<=((i-1:Nat):Int):=by omega
   have c4:((i-1:Nat):Int)<p.files.length:=by omega
   rw[ha2] at hr;simp only[go_sem,c0,c1,c2,c3,c4,w0,w1,hget,hget',ap8,aa2.cs]
   cases hb:Op.bytesLess a f with
   | true=>
    rw[hb,Bool.true_and] at hr;simp only[go_sem,w1]
    exact ⟨hlt,⟨q1,q2⟩,hr⟩
   | false=>
    rw[hb,Bool.false_and] at hr;simp only[go_sem,q1,hr];exact ab1 _
  ·have c0:¬ (0:Int)<i:=by omega
   simp only[go_sem,c0,c1,c2,w1,hget,ap8];refine ⟨hlt,⟨q1,q2⟩,?_⟩;have:i=0:=by omega
   subst this; exact hr
 ·have hi':i=p.files.length:=by omega
  subst hi';have c1:¬ (p.files.length:Int)<p.files.length:=by omega
  have hrt:rising p.files=true:=by
   rw[hr]
   cases hl:p.files.drop (p.files.length-1) with
   | nil=>rfl
   | cons x l=>
    have h1:=congrArg List.length hl;rw[List.length_drop,List.length_cons] at h1;have h2:l=[]:=List.length_eq_zero_iff.1 (by omega);rw[h2]; rfl
  rw[hrt,Bool.true_and];simp only[go_sem,c1,ao3,am6];refine aa4 fok65 (gl4 p) ?_;simp only[go_sem];have e0:¬ 0=s.next:=by omega
  have e1:¬ s.next=0:=by omega
  refine db6 (fb1 p) (fun rest s=>(0<s.next/\s.obj 0=some (.cells [.bool false]))/\∃ ts:List (Int×List aa9),rest=ts.map eh6/\(∀ x∈ts,x∈p.rows)/\(p.rows.all fun x:Int×List aa9=>ac9 x.2 x.1)=ts.all fun x:Int×List aa9=>ac9 x.2 x.1) (fun _ _ h=>trivial) ?_ ?_ ?_ ?_ ?_
  ·rintro rest s s' ⟨⟨q1,q2⟩,q4⟩ hn' hs';exact ⟨⟨by omega,by rw[hs' 0 q1]; exact q2⟩,q4⟩
  ·intro a ha;obtain ⟨x,_,rfl⟩:=List.mem_map.1 ha;rfl
  ·intro o;exact ⟨⟨by show 0<s.next+1; omega,by simp only[aa5,e0,if_false]; exact q1⟩,_,rfl,fun x hx=>hx,rfl⟩
  ·rintro L pre a rest t hev ⟨⟨q3,q4⟩,ts,hts,hin,hall⟩ hL hlt
   cases ts with
   | nil=>cases hts
   | cons x ts=>
    simp only[List.map_cons,List.cons.injEq] at hts;obtain ⟨rfl,rfl⟩:=hts;obtain ⟨wh,l⟩:=x;simp only[List.all_cons] at hall;have hfx:=hf.ay5 _ (hin _ (List.mem_cons_self ..));have hin':∀ y∈ts,y∈p.rows:=fun y hy=>hin y (List.mem_cons_of_mem _ hy)
    have u0:¬ 0=t.next:=by omega
    have u1:¬ s.next=t.next:=by omega
    have u2:¬ t.next=s.next:=by omega
    have u3:¬ t.next=0:=by omega
    simp only[eh6,go_sem,hL,q4,e0,e1,u0,u1,u2,u3];refine am1 fok66 (fo8 (args':=[ag6 l,.int .i64 32,.func (.func 67) [] [.ad4 [.int .u8 wh]]]) hE rfl ?_ (by unfold IV.plain; rfl) (gl5 l wh (Nat.lt_of_lt_of_le hfx.1 (by decide)) hfx.2)) ?_
    ·intro i hi
     match i,hi with
     | 0,_=>exact .keep _ (af8 l)
     | 1,_=>exact .keep _ (.int _ _)
     | 2,_=>exact ft9 (by simp only[aa5,u2,if_false,if_true]) (af7 (.int _ _))
    ·rintro v s2 ⟨rfl,rfl⟩;refine ⟨Nat.le_refl _,?_⟩
     cases hok:ac9 l wh with
     | true=>
      simp only[go_sem]
      refine dl4 (by simp only[ab4]; omega) (by simp only[aa5,if_true]) ⟨⟨by simp only[ab4]; omega,by simp only[aa5,e0,u0,if_false]; exact q4⟩,ts,rfl,hin',by rw[hall,hok,Bool.true_and]⟩
     | false=>
      simp only[go_sem,q4,e0,e1,u0,u1,u2,u3];refine ch9 (by simp only[ab4]; omega) (by simp only[aa5,if_true]) ?_;simp only[go_sem,e0,u0];rw[hall,hok]; exact ab1 _
  ·rintro t o ⟨⟨q3,q4⟩,ts,hts,_,hall⟩ hlt ho;have:ts=[]:=by cases ts with|nil=>rfl|cons _ _=>cases hts
   subst this;rw[hall];simp only[go_sem,e0,q4,List.all_nil];exact ab1 _
end Go.Id.Tryz
