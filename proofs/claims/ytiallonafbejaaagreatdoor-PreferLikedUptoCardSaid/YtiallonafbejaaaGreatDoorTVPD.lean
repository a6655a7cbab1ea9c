/- Rows that are looked through; packages,as they may be. Conditions: none. -/
import Derived.Test.YtiallonafbejaaaGreatDoorTVPB
set_option linter.all false
namespace Go.Id.Tryz
open Go Go.Id Go.Proofs Go.Id.Md
def af2 {α:Type}(q:α→Bool):List α→Int→Int
 | [],_=>-1
 | e::es,i=>if q e then i else af2 q es (i+1)
theorem fi3 {α:Type}(q:α→Bool):∀ (l:List α) (i:Nat),decide (0≤af2 q l i)=l.any q:=by
 intro l
 induction l with
 | nil=>intro i; rfl
 | cons x l ih=>
  intro i
  simp only[af2,List.any_cons]
  by_cases h:q x=true
  ·simp only[h,if_true,Bool.true_or]; exact decide_eq_true (by omega)
  ·have h':q x=false:=by simpa using h
   have e:=ih (i+1)
   rw[Int.natCast_add,Int.natCast_one] at e
   simp only[h',Bool.false_eq_true,if_false,Bool.false_or]
   exact e
theorem ao5 {α:Type}(q:α→Bool)(l:List α):decide (0≤af2 q l 0)=l.any q:=fi3 q l 0
theorem aq4 (d:Dep):d.cs.length=5:=rfl
theorem ak8 (d:Dep):d.cs.all IV.leaf=true:=rfl
theorem an2 (d:Dep):d.cs.take 5=d.cs:=rfl
theorem aa6 (r:Rich):r.cs.all IV.leaf=true:=by rw[Rich.cs_eq]; rfl
theorem ab4 (r:Rich):r.cs.take 7=r.cs:=List.take_of_length_le (by rw[aa8]; exact Nat.le_refl _)
theorem db6 (s:Str):(bl6 s).length=1:=rfl
theorem bp4 (l:List Dep):Bnd 0 (.tslice (l.map Dep.cs)):=.tslice _ fun e he c hc=>by
 obtain ⟨d,_,rfl⟩:=List.mem_map.1 he; exact gq3 d c hc
theorem cd7 (l:List Str):Bnd 0 (.tslice (l.map bl6)):=.tslice _ fun e he c hc=>by
 obtain ⟨d,_,rfl⟩:=List.mem_map.1 he; cases hc with|head=>exact .str _|tail _ h=>cases h
theorem aw9 (l:List Rich):Bnd 0 (.tslice (l.map Rich.cs)):=.tslice _ fun e he c hc=>by
 obtain ⟨d,_,rfl⟩:=List.mem_map.1 he; exact db2 d c hc
theorem fi4 (xs:List Dep)(g:Nat)(first cap:List IV)(q:Dep→Bool)(hn:xs.length<2^62)(hok:okF Tryz.prog g=true)
  (hq:∀ x∈xs,PC Tryz.prog EE g (first++[IV.agg (Dep.cs x)]++cap) (.bool (q x))):PC Tryz.prog EE 143 [.tslice (xs.map Dep.cs),.func (.func g) first cap] (.int .i64 (af2 q xs 0)):=by
 refine ak4 fok143 (Nat.le_of_ble_eq_true rfl) fun σ=>?_
 simp only[ic143,go_sem]
 refine aa9 noT (fun i fr s=>s=σ∧fr=[(0,.tslice (xs.map Dep.cs)),(1,.func (.func g) first cap),(7,.int .i64 xs.length),(8,.int .i64 i)]∧af2 q xs 0=af2 q (xs.drop i) i) xs.length ⟨rfl,rfl,rfl⟩ ?_
 rintro i fr s hi ⟨rfl,rfl,hf⟩
 by_cases hlt:i<xs.length
 ·obtain ⟨x,ha,_,hdr,hget,_⟩:=ad1 xs i hlt
  have c1:(i:Int)<xs.length:=by omega
  have c2:(0:Int)≤i:=by omega
  have w1:=ad5 (i:=i) (by omega)
  rw[hdr] at hf
  simp only[go_sem,c1,c2,hget,aq4,an2,ak8]
  refine aj2 hok (er3 (hq x ha)) ?_
  rintro v s ⟨rfl,rfl⟩
  refine ⟨Nat.le_refl _,?_⟩
  cases hqe:q x with
  | true=>simp only[go_sem,hf,af2,hqe,and_self]
  | false=>
   simp only[go_sem,w1]
   exact ⟨hlt,by rw[hf]; simp only[af2,hqe,Bool.false_eq_true,if_false,Int.natCast_add,Int.natCast_one]⟩
 ·have hi':i=xs.length:=by omega
  subst hi'
  have c1:¬ (xs.length:Int)<xs.length:=by omega
  rw[List.drop_length] at hf
  simp only[go_sem,c1,hf,af2,and_self]
theorem ci7 (xs:List Dep)(g:Nat)(first cap:List IV)(q:Dep→Bool)(hn:xs.length<2^62)(hok:okF Tryz.prog g=true)
  (hq:∀ x∈xs,PC Tryz.prog EE g (first++[IV.agg (Dep.cs x)]++cap) (.bool (q x))):PC Tryz.prog EE 75 [.tslice (xs.map Dep.cs),.func (.func g) first cap] (.bool (xs.any q)):=by
 refine ak4 fok75 (Nat.le_of_ble_eq_true rfl) fun σ=>?_
 simp only[ic75,go_sem]
 refine aa1 fok143 (fi4 xs g first cap q hn hok hq) ?_
 simp only[go_sem,ao5,and_self]
theorem fi5 (x:Dep)(g:Nat)(first cap:List IV)(b:Bool)(hb:∀ c∈first,Bnd 0 c)(hb2:∀ c∈cap,Bnd 0 c)(hok:okF Tryz.prog g=true)(hq:PC Tryz.prog EE g (first++[IV.agg (Dep.cs x)]++cap) (.bool b)) :
  PC Tryz.prog EE 258 [IV.agg (Dep.cs x),.tptr [.func (.func g) first cap]] (.bool !b):=by
 refine ak4 fok258 (Nat.le_of_ble_eq_true rfl) fun σ=>?_
 simp only[ic258,go_sem,aq4,an2,ak8]
 refine aj2 hok (er3 hq) ?_
 rintro v s ⟨rfl,rfl⟩
 refine ⟨Nat.le_refl _,?_⟩
 simp only[go_sem,and_self]
theorem eb6 (xs:List Dep)(n:Int)(g:Nat)(first cap:List IV)(p:Dep→Bool)(hn:xs.length<2^62)(hb:∀ c∈first,Bnd 0 c)(hb2:∀ c∈cap,Bnd 0 c)(hok:okF Tryz.prog g=true)
  (hq:∀ x∈xs,PC Tryz.prog EE g (first++[IV.agg (Dep.cs x)]++cap) (.bool (p x))):PC Tryz.prog EE 208 [.tslice (xs.map Dep.cs),.int .i64 n,.func (.func g) first cap] (.bool (decide ((xs.length:Int)≤n)&&xs.all p)):=by
 refine ak4 fok208 (Nat.le_of_ble_eq_true rfl) fun σ=>?_
 by_cases hle:(xs.length:Int)≤n
 ·simp only[ic208,go_sem,hle]
  refine aa1 fok75 (ci7 xs 258 [] [.tptr [.func (.func g) first cap]] (fun x=>!p x) hn fok258.1 fun x hx=>fi5 x g first cap (p x) hb hb2 hok (hq x hx)) ?_
  have:(!xs.any fun x=>!p x)=xs.all p:=by rw[List.not_any_eq_all_not]; simp
  simp only[go_sem,hle,this,and_self]
 ·simp only[ic208,go_sem,hle,and_self]
theorem fi6 (xs:List Str)(g:Nat)(first cap:List IV)(q:Str→Bool)(hn:xs.length<2^62)(hok:okF Tryz.prog g=true)
  (hq:∀ x∈xs,PC Tryz.prog EE g (first++[IV.str x]++cap) (.bool (q x))):PC Tryz.prog EE 301 [.tslice (xs.map bl6),.func (.func g) first cap] (.int .i64 (af2 q xs 0)):=by
 refine ak4 fok301 (Nat.le_of_ble_eq_true rfl) fun σ=>?_
 simp only[ic301,go_sem]
 refine aa9 noT (fun i fr s=>s=σ∧fr=[(0,.tslice (xs.map bl6)),(1,.func (.func g) first cap),(7,.int .i64 xs.length),(8,.int .i64 i)]∧af2 q xs 0=af2 q (xs.drop i) i) xs.length ⟨rfl,rfl,rfl⟩ ?_
 rintro i fr s hi ⟨rfl,rfl,hf⟩
 by_cases hlt:i<xs.length
 ·obtain ⟨x,ha,_,hdr,hget,_⟩:=ad1 xs i hlt
  have c1:(i:Int)<xs.length:=by omega
  have c2:(0:Int)≤i:=by omega
  have w1:=ad5 (i:=i) (by omega)
  rw[hdr] at hf
  simp only[go_sem,c1,c2,hget,db6,bl6]
  refine aj2 hok (er3 (hq x ha)) ?_
  rintro v s ⟨rfl,rfl⟩
  refine ⟨Nat.le_refl _,?_⟩
  cases hqe:q x with
  | true=>simp only[go_sem,hf,af2,hqe,and_self]
  | false=>
   simp only[go_sem,w1]
   exact ⟨hlt,by rw[hf]; simp only[af2,hqe,Bool.false_eq_true,if_false,Int.natCast_add,Int.natCast_one]⟩
 ·have hi':i=xs.length:=by omega
  subst hi'
  have c1:¬ (xs.length:Int)<xs.length:=by omega
  rw[List.drop_length] at hf
  simp only[go_sem,c1,hf,af2,and_self]
theorem fi7 (xs:List Str)(g:Nat)(first cap:List IV)(q:Str→Bool)(hn:xs.length<2^62)(hok:okF Tryz.prog g=true)
  (hq:∀ x∈xs,PC Tryz.prog EE g (first++[IV.str x]++cap) (.bool (q x))):PC Tryz.prog EE 259 [.tslice (xs.map bl6),.func (.func g) first cap] (.bool (xs.any q)):=by
 refine ak4 fok259 (Nat.le_of_ble_eq_true rfl) fun σ=>?_
 simp only[ic259,go_sem]
 refine aa1 fok301 (fi6 xs g first cap q hn hok hq) ?_
 simp only[go_sem,ao5,and_self]
theorem fi8 (x:Str)(g:Nat)(first cap:List IV)(b:Bool)(hb:∀ c∈first,Bnd 0 c)(hb2:∀ c∈cap,Bnd 0 c)(hok:okF Tryz.prog g=true)(hq:PC Tryz.prog EE g (first++[IV.str x]++cap) (.bool b)) :
  PC Tryz.prog EE 260 [IV.str x,.tptr [.func (.func g) first cap]] (.bool !b):=by
 refine ak4 fok260 (Nat.le_of_ble_eq_true rfl) fun σ=>?_
 simp only[ic260,go_sem,db6,bl6]
 refine aj2 hok (er3 hq) ?_
 rintro v s ⟨rfl,rfl⟩
 refine ⟨Nat.le_refl _,?_⟩
 simp only[go_sem,and_self]
theorem fz9 (xs:List Str)(n:Int)(g:Nat)(first cap:List IV)(p:Str→Bool)(hn:xs.length<2^62)(hb:∀ c∈first,Bnd 0 c)(hb2:∀ c∈cap,Bnd 0 c)(hok:okF Tryz.prog g=true)
  (hq:∀ x∈xs,PC Tryz.prog EE g (first++[IV.str x]++cap) (.bool (p x))):PC Tryz.prog EE 209 [.tslice (xs.map bl6),.int .i64 n,.func (.func g) first cap] (.bool (decide ((xs.length:Int)≤n)&&xs.all p)):=by
 refine ak4 fok209 (Nat.le_of_ble_eq_true rfl) fun σ=>?_
 by_cases hle:(xs.length:Int)≤n
 ·simp only[ic209,go_sem,hle]
  refine aa1 fok259 (fi7 xs 260 [] [.tptr [.func (.func g) first cap]] (fun x=>!p x) hn fok260.1 fun x hx=>fi8 x g first cap (p x) hb hb2 hok (hq x hx)) ?_
  have:(!xs.any fun x=>!p x)=xs.all p:=by rw[List.not_any_eq_all_not]; simp
  simp only[go_sem,hle,this,and_self]
 ·simp only[ic209,go_sem,hle,and_self]
theorem et7 (xs:List Rich)(g:Nat)(first cap:List IV)(q:Rich→Bool)(hn:xs.length<2^62)(hok:okF Tryz.prog g=true)
  (hq:∀ x∈xs,PC Tryz.prog EE g (first++[IV.agg (Rich.cs x)]++cap) (.bool (q x))):PC Tryz.prog EE 240 [.tslice (xs.map Rich.cs),.func (.func g) first cap] (.int .i64 (af2 q xs 0)):=by
 refine ak4 fok240 (Nat.le_of_ble_eq_true rfl) fun σ=>?_
 simp only[ic240,go_sem]
 refine aa9 noT (fun i fr s=>s=σ∧fr=[(0,.tslice (xs.map Rich.cs)),(1,.func (.func g) first cap),(7,.int .i64 xs.length),(8,.int .i64 i)]∧af2 q xs 0=af2 q (xs.drop i) i) xs.length ⟨rfl,rfl,rfl⟩ ?_
 rintro i fr s hi ⟨rfl,rfl,hf⟩
 by_cases hlt:i<xs.length
 ·obtain ⟨x,ha,_,hdr,hget,_⟩:=ad1 xs i hlt
  have c1:(i:Int)<xs.length:=by omega
  have c2:(0:Int)≤i:=by omega
  have w1:=ad5 (i:=i) (by omega)
  rw[hdr] at hf
  simp only[go_sem,c1,c2,hget,aa8,ab4,aa6]
  refine aj2 hok (er3 (hq x ha)) ?_
  rintro v s ⟨rfl,rfl⟩
  refine ⟨Nat.le_refl _,?_⟩
  cases hqe:q x with
  | true=>simp only[go_sem,hf,af2,hqe,and_self]
  | false=>
   simp only[go_sem,w1]
   exact ⟨hlt,by rw[hf]; simp only[af2,hqe,Bool.false_eq_true,if_false,Int.natCast_add,Int.natCast_one]⟩
 ·have hi':i=xs.length:=by omega
  subst hi'
  have c1:¬ (xs.length:Int)<xs.length:=by omega
  rw[List.drop_length] at hf
  simp only[go_sem,c1,hf,af2,and_self]
theorem bh8 (xs:List Rich)(g:Nat)(first cap:List IV)(q:Rich→Bool)(hn:xs.length<2^62)(hok:okF Tryz.prog g=true)
  (hq:∀ x∈xs,PC Tryz.prog EE g (first++[IV.agg (Rich.cs x)]++cap) (.bool (q x))):PC Tryz.prog EE 181 [.tslice (xs.map Rich.cs),.func (.func g) first cap] (.bool (xs.any q)):=by
 refine ak4 fok181 (Nat.le_of_ble_eq_true rfl) fun σ=>?_
 simp only[ic181,go_sem]
 refine aa1 fok240 (et7 xs g first cap q hn hok hq) ?_
 simp only[go_sem,ao5,and_self]
theorem et8 (x:Rich)(g:Nat)(first cap:List IV)(b:Bool)(hb:∀ c∈first,Bnd 0 c)(hb2:∀ c∈cap,Bnd 0 c)(hok:okF Tryz.prog g=true)(hq:PC Tryz.prog EE g (first++[IV.agg (Rich.cs x)]++cap) (.bool b)) :
  PC Tryz.prog EE 262 [IV.agg (Rich.cs x),.tptr [.func (.func g) first cap]] (.bool !b):=by
 refine ak4 fok262 (Nat.le_of_ble_eq_true rfl) fun σ=>?_
 simp only[ic262,go_sem,aa8,ab4,aa6]
 refine aj2 hok (er3 hq) ?_
 rintro v s ⟨rfl,rfl⟩
 refine ⟨Nat.le_refl _,?_⟩
 simp only[go_sem,and_self]
theorem fi9 (xs:List Rich)(n:Int)(g:Nat)(first cap:List IV)(p:Rich→Bool)(hn:xs.length<2^62)(hb:∀ c∈first,Bnd 0 c)(hb2:∀ c∈cap,Bnd 0 c)(hok:okF Tryz.prog g=true)
  (hq:∀ x∈xs,PC Tryz.prog EE g (first++[IV.agg (Rich.cs x)]++cap) (.bool (p x))):PC Tryz.prog EE 211 [.tslice (xs.map Rich.cs),.int .i64 n,.func (.func g) first cap] (.bool (decide ((xs.length:Int)≤n)&&xs.all p)):=by
 refine ak4 fok211 (Nat.le_of_ble_eq_true rfl) fun σ=>?_
 by_cases hle:(xs.length:Int)≤n
 ·simp only[ic211,go_sem,hle]
  refine aa1 fok181 (bh8 xs 262 [] [.tptr [.func (.func g) first cap]] (fun x=>!p x) hn fok262.1 fun x hx=>et8 x g first cap (p x) hb hb2 hok (hq x hx)) ?_
  have:(!xs.any fun x=>!p x)=xs.all p:=by rw[List.not_any_eq_all_not]; simp
  simp only[go_sem,hle,this,and_self]
 ·simp only[ic211,go_sem,hle,and_self]
/-! ### Packages -/
def eb7 (x:Int×List Rich):List IV:=[.int .u8 x.1,ac5 x.2]
def fj1 (p:Package):List (List IV):=p.rows.map eb7
theorem ah9 (p:Package):∀ c∈p.cs,Bnd 0 c:=by
 intro c hc
 simp only[Package.cs,List.mem_cons,List.not_mem_nil,or_false] at hc
 rcases hc with rfl|rfl|rfl|rfl|rfl|rfl|rfl|rfl|rfl|rfl|rfl|rfl|rfl|rfl|rfl<;>first|exact .str _|exact .int _ _|exact bp4 _|exact aw9 _|exact cd7 _
theorem ay3 (p:Package):Bnd 0 (.agg p.cs):=.agg _ (ah9 p)
theorem ag2 (p:Package):p.cs.length=15:=rfl
theorem ah6 (p:Package):p.cs.take 15=p.cs:=rfl
theorem ae6 (p:Package):p.cs.all IV.leaf=true:=rfl
theorem ga1 (p:Package):PC Tryz.prog EE 210 [.agg p.cs] (.func (.func 261) [] [.tptr p.cs]):=by
 refine ak4 fok210 (Nat.le_of_ble_eq_true rfl) fun σ=>?_
 simp only[ic210,go_sem,ae6,and_self]
theorem et9 (p:Package):dz3 Tryz.prog EE (.func (.func 261) [] [.tptr p.cs]) (fj1 p) (fun _=>True):=by
 intro yid I S σ hown hstab hy hi
 refine ⟨fok261.1,?_⟩
 refine C_f fok261 (Nat.le_of_ble_eq_true rfl) ?_
 simp only[ic261,go_sem,Package.cs]
 simp only[fj1,Package.rows,List.map_cons,List.map_nil,eb7] at hi
 have stop:∀ s,σ.next≤s.next→S s→he5 σ.next I S (.tuple []) s:=fun s hn hs=>⟨hn,.inr hs⟩
 refine cb7 hy hi (fun s1 n1 i1=>?_) (fun s1 n1 h1=>by simp only[go_sem]; exact stop _ n1 h1)
 simp only[go_sem]
 refine cb7 hy i1 (fun s2 n2 i2=>?_) (fun s2 n2 h2=>by simp only[go_sem]; exact stop _ (by omega) h2)
 simp only[go_sem]
 refine cb7 hy i2 (fun s3 n3 i3=>?_) (fun s3 n3 h3=>by simp only[go_sem]; exact stop _ (by omega) h3)
 simp only[go_sem]
 refine cb7 hy i3 (fun s4 n4 i4=>?_) (fun s4 n4 h4=>by simp only[go_sem]; exact stop _ (by omega) h4)
 simp only[go_sem]
 refine cb7 hy i4 (fun s5 n5 i5=>?_) (fun s5 n5 h5=>by simp only[go_sem]; exact stop _ (by omega) h5)
 simp only[go_sem]
 refine cb7 hy i5 (fun s6 n6 i6=>?_) (fun s6 n6 h6=>by simp only[go_sem]; exact stop _ (by omega) h6)
 simp only[go_sem]
 exact ⟨by omega,.inl i6⟩
theorem gq6 (r:Rich)(wh:Int)(hf:r.fit)(hc:r.count<2^62):PC Tryz.prog EE 212 [.agg r.cs,.tptr [.int .u8 wh]] (.bool (decide (am9 r wh=0))):=by
 refine ak4 fok212 (Nat.le_of_ble_eq_true rfl) fun σ=>?_
 simp only[ic212,go_sem,aa8,ab4,aa6]
 refine aa1 fok213 (du3 r wh hf hc) ?_
 simp only[go_sem,and_self]
theorem ga2 (l:List Rich)(wh:Int)(hn:l.length<2^62)(hf:∀ r∈l,r.fit∧r.count<2^31):PC Tryz.prog EE 211 [ac5 l,.int .i64 32,.func (.func 212) [] [.tptr [.int .u8 wh]]] (.bool (ai4 l wh)):=by
 have h:=fi9 l 32 212 [] [.tptr [.int .u8 wh]] (fun r=>decide (am9 r wh=0)) hn (fun c hc=>by cases hc) (ad3 (.tptr _ (ad3 (.int _ _)))) fok212.1 fun x hx=>gq6 x wh (hf x hx).1 (by have:=(hf x hx).2; omega)
 have e:decide ((l.length:Int)≤32)=decide (l.length≤32):=decide_eq_decide.2 (by omega)
 rw[e] at h
 exact h
theorem fj3 {σ:Store}{f id:Nat}{cs:List IV}(ho:σ.obj id=some (.cells cs))(hb:∀ c∈cs,Bnd 0 c):ch1 σ 0 (.func (.func f) [] [.ptr id 0]) (.func (.func f) [] [.tptr cs]):=by
 refine .func _ [] [] _ _ rfl rfl (fun i hi=>absurd hi (Nat.not_lt_zero _)) (fun i hi=>?_)
 match i,hi with
 | 0,_=>
  refine .ptr id 0 cs cs (Nat.not_lt_zero _) (.inl ho) (by omega) (fun j hj=>?_)
  rw[Nat.zero_add]
  exact .keep _ (hb _ (aa7 _ hj))
theorem du4 {l:List Str}{i:Nat}{f:Str}(h0:0<i)(h:l.drop i=f::l.drop (i+1)):∃ a,l[i-1]? = some a∧rising (l.drop (i-1))=(Op.bytesLess a f&&rising (l.drop i)):=by
 have hlt:i<l.length:=by
  rcases Nat.lt_or_ge i l.length with h1|h1
  ·exact h1
  ·rw[List.drop_of_length_le h1] at h; cases h
 have h2:i-1<l.length:=by omega
 refine ⟨l[i-1],List.getElem?_eq_getElem h2,?_⟩
 rw[List.drop_eq_getElem_cons h2,show i-1+1=i from by omega,h]
 rfl
theorem fj4 (p:Package)(hf:p.Fit):PC Tryz.prog EE 135 [.agg p.cs] (.bool (ac3 p)):=by
 refine ae9 hE fok135 (Nat.le_of_ble_eq_true rfl) (ad3 (ay3 _)) ?_
 simp only[ic135,go_sem,ae6,Package.cs]
 refine aa1 fok204 (bz3 p.name hf.name) ?_
 cases h1:aq6 p.name with
 | false=>simp only[go_sem,ac3,h1]; exact ab1 _
 | true=>
 simp only[go_sem]
 refine aa1 fok205 (bz4 p.name hf.name) ?_
 cases h2:bi8 p.name with
 | true=>simp only[go_sem,ac3,h1,h2]; exact ab1 _
 | false=>
 simp only[go_sem]
 refine aa1 (v:=.bool (az2 p.evr false)) fok206 (dk5 p.evr false hf.evr.1 hf.evr.2) ?_
 cases h3:az2 p.evr false with
 | false=>simp only[go_sem,ac3,h1,h2,h3]; exact ab1 _
 | true=>
 simp only[go_sem]
 refine aa1 fok207 (dt8 p.arch) ?_
 have h4':=bp1 p.arch
 cases h4:ak5 p.arch with
 | false=>
  rw[h4] at h4'
  simp only[go_sem,h4',ac3,h1,h2,h3,h4]; exact ab1 _
 | true=>
 rw[h4] at h4'
 simp only[go_sem,h4']
 by_cases h5:p.vendor.length≤64
 case neg=>
  have h5':(64:Int)<p.vendor.length:=by omega
  simp only[go_sem,h5',ac3,h1,h2,h3,h4,h5]; exact ab1 _
 have h5':¬ (64:Int)<p.vendor.length:=by omega
 simp only[go_sem,h5']
 have e32:∀ n:Nat,decide ((n:Int)≤32)=decide (n≤32):=fun n=>decide_eq_decide.2 (by omega)
 have hp6:=eb6 p.provides 32 157 [] [] ah2 (by have:=hf.prov.1; omega) (fun c hc=>by cases hc) (fun c hc=>by cases hc) fok157.1 fun x hx=>bc2 x (hf.prov.2 x hx).1 (hf.prov.2 x hx).2.1 (hf.prov.2 x hx).2.2
 have hp7:=eb6 p.obsoletes 32 157 [] [] ah2 (by have:=hf.obs.1; omega) (fun c hc=>by cases hc) (fun c hc=>by cases hc) fok157.1 fun x hx=>bc2 x (hf.obs.2 x hx).1 (hf.obs.2 x hx).2.1 (hf.obs.2 x hx).2.2
 have hp8:=fz9 p.files 32 205 [] [] bi8 (by have:=hf.files.1; omega) (fun c hc=>by cases hc) (fun c hc=>by cases hc) fok205.1 fun x hx=>bz4 x (hf.files.2 x hx)
 rw[e32] at hp6 hp7 hp8
 refine aa1 fok208 hp6 ?_
 cases h6:(decide (p.provides.length≤32)&&p.provides.all ah2) with
 | false=>simp only[go_sem,ac3,h1,h2,h3,h4,h5,h6]; exact ab1 _
 | true=>
 simp only[go_sem]
 refine aa1 fok208 hp7 ?_
 cases h7:(decide (p.obsoletes.length≤32)&&p.obsoletes.all ah2) with
 | false=>simp only[go_sem,ac3,h1,h2,h3,h4,h5,h6,h7]; exact ab1 _
 | true=>
 simp only[go_sem]
 refine aa1 fok209 hp8 ?_
 cases h8:(decide (p.files.length≤32)&&p.files.all bi8) with
 | false=>simp only[go_sem,ac3,h1,h2,h3,h4,h5,h6,h7,h8]; exact ab1 _
 | true=>
 have hmay:ac3 p=(rising p.files&&p.rows.all fun x=>ai4 x.2 x.1):=by
  simp only[ac3,h1,h2,h3,h4,h5,h6,h7,h8,Package.rows,List.all_cons,List.all_nil,decide_true,Bool.not_false,Bool.and_true,Bool.true_and,Bool.and_assoc]
 simp only[go_sem]
 rw[hmay]
 refine aa9 noT (fun i fr s=>fr=[(1,.tptr p.cs),(2,.ptr 0 0),(52,strs p.files),(53,.int .i64 p.files.length),(54,.int .i64 i)]∧(s.obj 0=some (.cells [.bool false])∧0<s.next)∧rising p.files=rising (p.files.drop (i-1))) p.files.length ⟨rfl,⟨?_,?_⟩,rfl⟩ ?_
 ·simp only[aa2,if_true]
 ·exact Nat.zero_lt_one
 rintro i fr s hi ⟨rfl,⟨q1,q2⟩,hr⟩
 by_cases hlt:i<p.files.length
 ·obtain ⟨f,ha,hfi,hdr,hget,_⟩:=ad1 p.files i hlt
  have c1:(i:Int)<p.files.length:=by omega
  have c2:(0:Int)≤i:=by omega
  have w1:=ad5 (i:=i) (by have:=hf.files.1; omega)
  by_cases h0:0<i
  ·have c0:(0:Int)<i:=by omega
   obtain ⟨a,ha1,ha2⟩:=du4 h0 hdr
   have hget':(p.files.map bl6).getD (i-1) []=bl6 a:=by simp[List.getD_eq_getElem?_getD,ha1]
   have w0:IntKind.i64.wrap ((i:Int)-1)=((i-1:Nat):Int):=by
    have:=hf.files.1
    rw[wrap64 (by omega) (by omega)]; omega
   have c3:(0:Int)≤((i-1:Nat):Int):=by omega
   have c4:((i-1:Nat):Int)<p.files.length:=by omega
   rw[ha2] at hr
   simp only[go_sem,c0,c1,c2,c3,c4,w0,w1,hget,hget',bl6,Package.cs]
   cases hb:Op.bytesLess a f with
   | true=>
    rw[hb,Bool.true_and] at hr
    simp only[go_sem,w1]
    exact ⟨hlt,⟨q1,q2⟩,hr⟩
   | false=>
    rw[hb,Bool.false_and] at hr
    simp only[go_sem,q1,hr]
    exact ab1 _
  ·have c0:¬ (0:Int)<i:=by omega
   simp only[go_sem,c0,c1,c2,w1,hget,bl6]
   refine ⟨hlt,⟨q1,q2⟩,?_⟩
   have:i=0:=by omega
   subst this; exact hr
 ·have hi':i=p.files.length:=by omega
  subst hi'
  have c1:¬ (p.files.length:Int)<p.files.length:=by omega
  have hrt:rising p.files=true:=by
   rw[hr]
   cases hl:p.files.drop (p.files.length-1) with
   | nil=>rfl
   | cons x l=>
    have h1:=congrArg List.length hl
    rw[List.length_drop,List.length_cons] at h1
    have h2:l=[]:=List.length_eq_zero_iff.1 (by omega)
    rw[h2]; rfl
  rw[hrt,Bool.true_and]
  simp only[go_sem,c1,ag2,ah6]
  refine aa1 fok210 (ga1 p) ?_
  simp only[go_sem]
  have e0:¬ 0=s.next:=by omega
  have e1:¬ s.next=0:=by omega
  refine cg7 (et9 p) (fun rest s=>(0<s.next∧s.obj 0=some (.cells [.bool false]))∧∃ ts:List (Int×List Rich),rest=ts.map eb7∧(∀ x∈ts,x∈p.rows)∧(p.rows.all fun x:Int×List Rich=>ai4 x.2 x.1)=ts.all fun x:Int×List Rich=>ai4 x.2 x.1) (fun _ _ h=>trivial) ?_ ?_ ?_ ?_ ?_
  ·rintro rest s s' ⟨⟨q1,q2⟩,q4⟩ hn' hs'
   exact ⟨⟨by omega,by rw[hs' 0 q1]; exact q2⟩,q4⟩
  ·intro a ha
   obtain ⟨x,_,rfl⟩:=List.mem_map.1 ha
   rfl
  ·intro o
   exact ⟨⟨by show 0<s.next+1; omega,by simp only[aa2,e0,if_false]; exact q1⟩,_,rfl,fun x hx=>hx,rfl⟩
  ·rintro L pre a rest t hev ⟨⟨q3,q4⟩,ts,hts,hin,hall⟩ hL hlt
   cases ts with
   | nil=>cases hts
   | cons x ts=>
    simp only[List.map_cons,List.cons.injEq] at hts
    obtain ⟨rfl,rfl⟩:=hts
    obtain ⟨wh,l⟩:=x
    simp only[List.all_cons] at hall
    have hfx:=hf.rich _ (hin _ (List.mem_cons_self ..))
    have hin':∀ y∈ts,y∈p.rows:=fun y hy=>hin y (List.mem_cons_of_mem _ hy)
    have u0:¬ 0=t.next:=by omega
    have u1:¬ s.next=t.next:=by omega
    have u2:¬ t.next=s.next:=by omega
    have u3:¬ t.next=0:=by omega
    simp only[eb7,go_sem,hL,q4,e0,e1,u0,u1,u2,u3]
    refine af8 fok211 (by3 (args':=[ac5 l,.int .i64 32,.func (.func 212) [] [.tptr [.int .u8 wh]]]) hE rfl ?_ (by unfold IV.plain; rfl) (ga2 l wh (Nat.lt_of_lt_of_le hfx.1 (by decide)) hfx.2)) ?_
    ·intro i hi
     match i,hi with
     | 0,_=>exact .keep _ (aw9 l)
     | 1,_=>exact .keep _ (.int _ _)
     | 2,_=>exact fj3 (by simp only[aa2,u2,if_false,if_true]) (ad3 (.int _ _))
    ·rintro v s2 ⟨rfl,rfl⟩
     refine ⟨Nat.le_refl _,?_⟩
     cases hok:ai4 l wh with
     | true=>
      simp only[go_sem]
      refine cz7 (by simp only[aa5]; omega) (by simp only[aa2,if_true]) ⟨⟨by simp only[aa5]; omega,by simp only[aa2,e0,u0,if_false]; exact q4⟩,ts,rfl,hin',by rw[hall,hok,Bool.true_and]⟩
     | false=>
      simp only[go_sem,q4,e0,e1,u0,u1,u2,u3]
      refine cg6 (by simp only[aa5]; omega) (by simp only[aa2,if_true]) ?_
      simp only[go_sem,e0,u0]
      rw[hall,hok]; exact ab1 _
  ·rintro t o ⟨⟨q3,q4⟩,ts,hts,_,hall⟩ hlt ho
   have:ts=[]:=by cases ts with|nil=>rfl|cons _ _=>cases hts
   subst this
   rw[hall]
   simp only[go_sem,e0,q4,List.all_nil]
   exact ab1 _
end Go.Id.Tryz
