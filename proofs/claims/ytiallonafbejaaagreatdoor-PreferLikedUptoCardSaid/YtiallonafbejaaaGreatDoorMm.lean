/- Rows that are looked through; packages,as they may be. Conditions: none. -/
import Derived.Test.YtiallonafbejaaaGreatDoorTVPB
import Derived.Test.YtiallonafbejaaaGreatDoorMd
set_option linter.all false
namespace Go.Id.Tryz
open Go Go.Id Go.Proofs Go.Id.Md
def af2 {α:Type}(q:α→Bool):List α→Int→Int
 | [],_=>-1
 | e::es,i=>if q e then i else af2 q es (i+1)
theorem fh3 {α:Type}(q:α→Bool):∀ (l:List α) (i:Nat),decide (0≤af2 q l i)=l.any q:=by
 intro l
 induction l with
 | nil=>intro i; rfl
 | cons x l ih=>
  intro i
  simp only[af2,List.any_cons]
  by_cases h:q x=true
  ·simp only[h,if_true,Bool.true_or]; exact decide_eq_true (by omega)
  ·have h':q x=false:=by simpa using h
   have e:=ih (i+1)
   rw[Int.natCast_add,Int.natCast_one] at e
   simp only[h',Bool.false_eq_true,if_false,Bool.false_or]
   exact e
theorem ao4 {α:Type}(q:α→Bool)(l:List α):decide (0≤af2 q l 0)=l.any q:=fh3 q l 0
theorem aq4 (d:Dep):d.cs.length=5:=rfl
theorem ak8 (d:Dep):d.cs.all IV.leaf=true:=rfl
theorem am9 (d:Dep):d.cs.take 5=d.cs:=rfl
theorem aa6 (r:Rich):r.cs.all IV.leaf=true:=by rw[Rich.cs_eq]; rfl
theorem ab4 (r:Rich):r.cs.take 7=r.cs:=List.take_of_length_le (by rw[aa8]; exact Nat.le_refl _)
theorem da1 (s:Str):(bl6 s).length=1:=rfl
theorem bo3 (l:List Dep):Bnd 0 (.tslice (l.map Dep.cs)):=.tslice _ fun e he c hc=>by
 obtain ⟨d,_,rfl⟩:=List.mem_map.1 he; exact gp5 d c hc
theorem cd2 (l:List Str):Bnd 0 (.tslice (l.map bl6)):=.tslice _ fun e he c hc=>by
 obtain ⟨d,_,rfl⟩:=List.mem_map.1 he; cases hc with|head=>exact .str _|tail _ h=>cases h
theorem aw3 (l:List Rich):Bnd 0 (.tslice (l.map Rich.cs)):=.tslice _ fun e he c hc=>by
 obtain ⟨d,_,rfl⟩:=List.mem_map.1 he; exact da6 d c hc
theorem fh4 (xs:List Dep)(g:Nat)(first cap:List IV)(q:Dep→Bool)(hn:xs.length<2^62)(hok:okF Tryz.prog g=true)
  (hq:∀ x∈xs,PC Tryz.prog EE g (first++[IV.agg (Dep.cs x)]++cap) (.bool (q x))):PC Tryz.prog EE 143 [.tslice (xs.map Dep.cs),.func (.func g) first cap] (.int .i64 (af2 q xs 0)):=by
 refine ak4 fok143 (Nat.le_of_ble_eq_true rfl) fun σ=>?_
 simp only[ic143,go_sem]
 refine aa9 noT (fun i fr s=>s=σ∧fr=[(0,.tslice (xs.map Dep.cs)),(1,.func (.func g) first cap),(7,.int .i64 xs.length),(8,.int .i64 i)]∧af2 q xs 0=af2 q (xs.drop i) i) xs.length ⟨rfl,rfl,rfl⟩ ?_
 rintro i fr s hi ⟨rfl,rfl,hf⟩
 by_cases hlt:i<xs.length
 ·obtain ⟨x,ha,_,hdr,hget,_⟩:=ad1 xs i hlt
  have c1:(i:Int)<xs.length:=by omega
  have c2:(0:Int)≤i:=by omega
  have w1:=ad5 (i:=i) (by omega)
  rw[hdr] at hf
  simp only[go_sem,c1,c2,hget,aq4,am9,ak8]
  refine aj2 hok (er1 (hq x ha)) ?_
  rintro v s ⟨rfl,rfl⟩
  refine ⟨Nat.le_refl _,?_⟩
  cases hqe:q x with
  | true=>simp only[go_sem,hf,af2,hqe,and_self]
  | false=>
   simp only[go_sem,w1]
   exact ⟨hlt,by rw[hf]; simp only[af2,hqe,Bool.false_eq_true,if_false,Int.natCast_add,Int.natCast_one]⟩
 ·have hi':i=xs.length:=by omega
  subst hi'
  have c1:¬ (xs.length:Int)<xs.length:=by omega
  rw[List.drop_length] at hf
  simp only[go_sem,c1,hf,af2,and_self]
theorem ch6 (xs:List Dep)(g:Nat)(first cap:List IV)(q:Dep→Bool)(hn:xs.length<2^62)(hok:okF Tryz.prog g=true)
  (hq:∀ x∈xs,PC Tryz.prog EE g (first++[IV.agg (Dep.cs x)]++cap) (.bool (q x))):PC Tryz.prog EE 75 [.tslice (xs.map Dep.cs),.func (.func g) first cap] (.bool (xs.any q)):=by
 refine ak4 fok75 (Nat.le_of_ble_eq_true rfl) fun σ=>?_
 simp only[ic75,go_sem]
 refine aa1 fok143 (fh4 xs g first cap q hn hok hq) ?_
 simp only[go_sem,ao4,and_self]
theorem fh5 (x:Dep)(g:Nat)(first cap:List IV)(b:Bool)(hb:∀ c∈first,Bnd 0 c)(hb2:∀ c∈cap,Bnd 0 c)(hok:okF Tryz.prog g=true)(hq:PC Tryz.prog EE g (first++[IV.agg (Dep.cs x)]++cap) (.bool b)) :
  PC Tryz.prog EE 258 [IV.agg (Dep.cs x),.tptr [.func (.func g) first cap]] (.bool !b):=by
 refine ak4 fok258 (Nat.le_of_ble_eq_true rfl) fun σ=>?_
 simp only[ic258,go_sem,aq4,am9,ak8]
 refine aj2 hok (er1 hq) ?_
 rintro v s ⟨rfl,rfl⟩
 refine ⟨Nat.le_refl _,?_⟩
 simp only[go_sem,and_self]
theorem dz8 (xs:List Dep)(n:Int)(g:Nat)(first cap:List IV)(p:Dep→Bool)(hn:xs.length<2^62)(hb:∀ c∈first,Bnd 0 c)(hb2:∀ c∈cap,Bnd 0 c)(hok:okF Tryz.prog g=true)
  (hq:∀ x∈xs,PC Tryz.prog EE g (first++[IV.agg (Dep.cs x)]++cap) (.bool (p x))):PC Tryz.prog EE 208 [.tslice (xs.map Dep.cs),.int .i64 n,.func (.func g) first cap] (.bool (decide ((xs.length:Int)≤n)&&xs.all p)):=by
 refine ak4 fok208 (Nat.le_of_ble_eq_true rfl) fun σ=>?_
 by_cases hle:(xs.length:Int)≤n
 ·simp only[ic208,go_sem,hle]
  refine aa1 fok75 (ch6 xs 258 [] [.tptr [.func (.func g) first cap]] (fun x=>!p x) hn fok258.1 fun x hx=>fh5 x g first cap (p x) hb hb2 hok (hq x hx)) ?_
  have:(!xs.any fun x=>!p x)=xs.all p:=by rw[List.not_any_eq_all_not]; simp
  simp only[go_sem,hle,this,and_self]
 ·simp only[ic208,go_sem,hle,and_self]
theorem fh6 (xs:List Str)(g:Nat)(first cap:List IV)(q:Str→Bool)(hn:xs.length<2^62)(hok:okF Tryz.prog g=true)
  (hq:∀ x∈xs,PC Tryz.prog EE g (first++[IV.str x]++cap) (.bool (q x))):PC Tryz.prog EE 301 [.tslice (xs.map bl6),.func (.func g) first cap] (.int .i64 (af2 q xs 0)):=by
 refine ak4 fok301 (Nat.le_of_ble_eq_true rfl) fun σ=>?_
 simp only[ic301,go_sem]
 refine aa9 noT (fun i fr s=>s=σ∧fr=[(0,.tslice (xs.map bl6)),(1,.func (.func g) first cap),(7,.int .i64 xs.length),(8,.int .i64 i)]∧af2 q xs 0=af2 q (xs.drop i) i) xs.length ⟨rfl,rfl,rfl⟩ ?_
 rintro i fr s hi ⟨rfl,rfl,hf⟩
 by_cases hlt:i<xs.length
 ·obtain ⟨x,ha,_,hdr,hget,_⟩:=ad1 xs i hlt
  have c1:(i:Int)<xs.length:=by omega
  have c2:(0:Int)≤i:=by omega
  have w1:=ad5 (i:=i) (by omega)
  rw[hdr] at hf
  simp only[go_sem,c1,c2,hget,da1,bl6]
  refine aj2 hok (er1 (hq x ha)) ?_
  rintro v s ⟨rfl,rfl⟩
  refine ⟨Nat.le_refl _,?_⟩
  cases hqe:q x with
  | true=>simp only[go_sem,hf,af2,hqe,and_self]
  | false=>
   simp only[go_sem,w1]
   exact ⟨hlt,by rw[hf]; simp only[af2,hqe,Bool.false_eq_true,if_false,Int.natCast_add,Int.natCast_one]⟩
 ·have hi':i=xs.length:=by omega
  subst hi'
  have c1:¬ (xs.length:Int)<xs.length:=by omega
  rw[List.drop_length] at hf
  simp only[go_sem,c1,hf,af2,and_self]
theorem fh7 (xs:List Str)(g:Nat)(first cap:List IV)(q:Str→Bool)(hn:xs.length<2^62)(hok:okF Tryz.prog g=true)
  (hq:∀ x∈xs,PC Tryz.prog EE g (first++[IV.str x]++cap) (.bool (q x))):PC Tryz.prog EE 259 [.tslice (xs.map bl6),.func (.func g) first cap] (.bool (xs.any q)):=by
 refine ak4 fok259 (Nat.le_of_ble_eq_true rfl) fun σ=>?_
 simp only[ic259,go_sem]
 refine aa1 fok301 (fh6 xs g first cap q hn hok hq) ?_
 simp only[go_sem,ao4,and_self]
theorem fh8 (x:Str)(g:Nat)(first cap:List IV)(b:Bool)(hb:∀ c∈first,Bnd 0 c)(hb2:∀ c∈cap,Bnd 0 c)(hok:okF Tryz.prog g=true)(hq:PC Tryz.prog EE g (first++[IV.str x]++cap) (.bool b)) :
  PC Tryz.prog EE 260 [IV.str x,.tptr [.func (.func g) first cap]] (.bool !b):=by
 refine ak4 fok260 (Nat.le_of_ble_eq_true rfl) fun σ=>?_
 simp only[ic260,go_sem,da1,bl6]
 refine aj2 hok (er1 hq) ?_
 rintro v s ⟨rfl,rfl⟩
 refine ⟨Nat.le_refl _,?_⟩
 simp only[go_sem,and_self]
theorem fx3 (xs:List Str)(n:Int)(g:Nat)(first cap:List IV)(p:Str→Bool)(hn:xs.length<2^62)(hb:∀ c∈first,Bnd 0 c)(hb2:∀ c∈cap,Bnd 0 c)(hok:okF Tryz.prog g=true)
  (hq:∀ x∈xs,PC Tryz.prog EE g (first++[IV.str x]++cap) (.bool (p x))):PC Tryz.prog EE 209 [.tslice (xs.map bl6),.int .i64 n,.func (.func g) first cap] (.bool (decide ((xs.length:Int)≤n)&&xs.all p)):=by
 refine ak4 fok209 (Nat.le_of_ble_eq_true rfl) fun σ=>?_
 by_cases hle:(xs.length:Int)≤n
 ·simp only[ic209,go_sem,hle]
  refine aa1 fok259 (fh7 xs 260 [] [.tptr [.func (.func g) first cap]] (fun x=>!p x) hn fok260.1 fun x hx=>fh8 x g first cap (p x) hb hb2 hok (hq x hx)) ?_
  have:(!xs.any fun x=>!p x)=xs.all p:=by rw[List.not_any_eq_all_not]; simp
  simp only[go_sem,hle,this,and_self]
 ·simp only[ic209,go_sem,hle,and_self]
theorem er5 (xs:List Rich)(g:Nat)(first cap:List IV)(q:Rich→Bool)(hn:xs.length<2^62)(hok:okF Tryz.prog g=true)
  (hq:∀ x∈xs,PC Tryz.prog EE g (first++[IV.agg (Rich.cs x)]++cap) (.bool (q x))):PC Tryz.prog EE 240 [.tslice (xs.map Rich.cs),.func (.func g) first cap] (.int .i64 (af2 q xs 0)):=by
 refine ak4 fok240 (Nat.le_of_ble_eq_true rfl) fun σ=>?_
 simp only[ic240,go_sem]
 refine aa9 noT (fun i fr s=>s=σ∧fr=[(0,.tslice (xs.map Rich.cs)),(1,.func (.func g) first cap),(7,.int .i64 xs.length),(8,.int .i64 i)]∧af2 q xs 0=af2 q (xs.drop i) i) xs.length ⟨rfl,rfl,rfl⟩ ?_
 rintro i fr s hi ⟨rfl,rfl,hf⟩
 by_cases hlt:i<xs.length
 ·obtain ⟨x,ha,_,hdr,hget,_⟩:=ad1 xs i hlt
  have c1:(i:Int)<xs.length:=by omega
  have c2:(0:Int)≤i:=by omega
  have w1:=ad5 (i:=i) (by omega)
  rw[hdr] at hf
  simp only[go_sem,c1,c2,hget,aa8,ab4,aa6]
  refine aj2 hok (er1 (hq x ha)) ?_
  rintro v s ⟨rfl,rfl⟩
  refine ⟨Nat.le_refl _,?_⟩
  cases hqe:q x with
  | true=>simp only[go_sem,hf,af2,hqe,and_self]
  | false=>
   simp only[go_sem,w1]
   exact ⟨hlt,by rw[hf]; simp only[af2,hqe,Bool.false_eq_true,if_false,Int.natCast_add,Int.natCast_one]⟩
 ·have hi':i=xs.length:=by omega
  subst hi'
  have c1:¬ (xs.length:Int)<xs.length:=by omega
  rw[List.drop_length] at hf
  simp only[go_sem,c1,hf,af2,and_self]
theorem bh3 (xs:List Rich)(g:Nat)(first cap:List IV)(q:Rich→Bool)(hn:xs.length<2^62)(hok:okF Tryz.prog g=true)
  (hq:∀ x∈xs,PC Tryz.prog EE g (first++[IV.agg (Rich.cs x)]++cap) (.bool (q x))):PC Tryz.prog EE 181 [.tslice (xs.map Rich.cs),.func (.func g) first cap] (.bool (xs.any q)):=by
 refine ak4 fok181 (Nat.le_of_ble_eq_true rfl) fun σ=>?_
 simp only[ic181,go_sem]
 refine aa1 fok240 (er5 xs g first cap q hn hok hq) ?_
 simp only[go_sem,ao4,and_self]
theorem er6 (x:Rich)(g:Nat)(first cap:List IV)(b:Bool)(hb:∀ c∈first,Bnd 0 c)(hb2:∀ c∈cap,Bnd 0 c)(hok:okF Tryz.prog g=true)(hq:PC Tryz.prog EE g (first++[IV.agg (Rich.cs x)]++cap) (.bool b)) :
  PC Tryz.prog EE 262 [IV.agg (Rich.cs x),.tptr [.func (.func g) first cap]] (.bool !b):=by
 refine ak4 fok262 (Nat.le_of_ble_eq_true rfl) fun σ=>?_
 simp only[ic262,go_sem,aa8,ab4,aa6]
 refine aj2 hok (er1 hq) ?_
 rintro v s ⟨rfl,rfl⟩
 refine ⟨Nat.le_refl _,?_⟩
 simp only[go_sem,and_self]
theorem fh9 (xs:List Rich)(n:Int)(g:Nat)(first cap:List IV)(p:Rich→Bool)(hn:xs.length<2^62)(hb:∀ c∈first,Bnd 0 c)(hb2:∀ c∈cap,Bnd 0 c)(hok:okF Tryz.prog g=true)
  (hq:∀ x∈xs,PC Tryz.prog EE g (first++[IV.agg (Rich.cs x)]++cap) (.bool (p x))):PC Tryz.prog EE 211 [.tslice (xs.map Rich.cs),.int .i64 n,.func (.func g) first cap] (.bool (decide ((xs.length:Int)≤n)&&xs.all p)):=by
 refine ak4 fok211 (Nat.le_of_ble_eq_true rfl) fun σ=>?_
 by_cases hle:(xs.length:Int)≤n
 ·simp only[ic211,go_sem,hle]
  refine aa1 fok181 (bh3 xs 262 [] [.tptr [.func (.func g) first cap]] (fun x=>!p x) hn fok262.1 fun x hx=>er6 x g first cap (p x) hb hb2 hok (hq x hx)) ?_
  have:(!xs.any fun x=>!p x)=xs.all p:=by rw[List.not_any_eq_all_not]; simp
  simp only[go_sem,hle,this,and_self]
 ·simp only[ic211,go_sem,hle,and_self]
/-! ### Packages -/
def dz9 (x:Int×List Rich):List IV:=[.int .u8 x.1,ac5 x.2]
def fi1 (p:Package):List (List IV):=p.rows.map dz9
theorem ah9 (p:Package):∀ c∈p.cs,Bnd 0 c:=by
 intro c hc
 simp only[Package.cs,List.mem_cons,List.not_mem_nil,or_false] at hc
 rcases hc with rfl|rfl|rfl|rfl|rfl|rfl|rfl|rfl|rfl|rfl|rfl|rfl|rfl|rfl|rfl<;>first|exact .str _|exact .int _ _|exact bo3 _|exact aw3 _|exact cd2 _
theorem ay3 (p:Package):Bnd 0 (.agg p.cs):=.agg _ (ah9 p)
theorem ag2 (p:Package):p.cs.length=15:=rfl
theorem ah6 (p:Package):p.cs.take 15=p.cs:=rfl
theorem ae6 (p:Package):p.cs.all IV.leaf=true:=rfl
theorem fx4 (p:Package):PC Tryz.prog EE 210 [.agg p.cs] (.func (.func 261) [] [.tptr p.cs]):=by
 refine ak4 fok210 (Nat.le_of_ble_eq_true rfl) fun σ=>?_
 simp only[ic210,go_sem,ae6,and_self]
theorem er7 (p:Package):dz7 Tryz.prog EE (.func (.func 261) [] [.tptr p.cs]) (fi1 p) (fun _=>True):=by
 intro yid I S σ hown hstab hy hi
 refine ⟨fok261.1,?_⟩
 refine C_f fok261 (Nat.le_of_ble_eq_true rfl) ?_
 simp only[ic261,go_sem,Package.cs]
 simp only[fi1,Package.rows,List.map_cons,List.map_nil,dz9] at hi
 have stop:∀ s,σ.next≤s.next→S s→hg6 σ.next I S (.tuple []) s:=fun s hn hs=>⟨hn,.inr hs⟩
 refine cb9 hy hi (fun s1 n1 i1=>?_) (fun s1 n1 h1=>by simp only[go_sem]; exact stop _ n1 h1)
 simp only[go_sem]
 refine cb9 hy i1 (fun s2 n2 i2=>?_) (fun s2 n2 h2=>by simp only[go_sem]; exact stop _ (by omega) h2)
 simp only[go_sem]
 refine cb9 hy i2 (fun s3 n3 i3=>?_) (fun s3 n3 h3=>by simp only[go_sem]; exact stop _ (by omega) h3)
 simp only[go_sem]
 refine cb9 hy i3 (fun s4 n4 i4=>?_) (fun s4 n4 h4=>by simp only[go_sem]; exact stop _ (by omega) h4)
 simp only[go_sem]
 refine cb9 hy i4 (fun s5 n5 i5=>?_) (fun s5 n5 h5=>by simp only[go_sem]; exact stop _ (by omega) h5)
 simp only[go_sem]
 refine cb9 hy i5 (fun s6 n6 i6=>?_) (fun s6 n6 h6=>by simp only[go_sem]; exact stop _ (by omega) h6)
 simp only[go_sem]
 exact ⟨by omega,.inl i6⟩
theorem go5 (r:Rich)(wh:Int)(hf:r.fit)(hc:r.count<2^62):PC Tryz.prog EE 212 [.agg r.cs,.tptr [.int .u8 wh]] (.bool (decide (am8 r wh=0))):=by
 refine ak4 fok212 (Nat.le_of_ble_eq_true rfl) fun σ=>?_
 simp only[ic212,go_sem,aa8,ab4,aa6]
 refine aa1 fok213 (dt6 r wh hf hc) ?_
 simp only[go_sem,and_self]
theorem fx5 (l:List Rich)(wh:Int)(hn:l.length<2^62)(hf:∀ r∈l,r.fit∧r.count<2^31):PC Tryz.prog EE 211 [ac5 l,.int .i64 32,.func (.func 212) [] [.tptr [.int .u8 wh]]] (.bool (ai4 l wh)):=by
 have h:=fh9 l 32 212 [] [.tptr [.int .u8 wh]] (fun r=>decide (am8 r wh=0)) hn (fun c hc=>by cases hc) (ad3 (.tptr _ (ad3 (.int _ _)))) fok212.1 fun x hx=>go5 x wh (hf x hx).1 (by have:=(hf x hx).2; omega)
 have e:decide ((l.length:Int)≤32)=decide (l.length≤32):=decide_eq_decide.2 (by omega)
 rw[e] at h
 exact h
theorem fi2 {σ:Store}{f id:Nat}{cs:List IV}(ho:σ.obj id=some (.cells cs))(hb:∀ c∈cs,Bnd 0 c):cg9 σ 0 (.func (.func f) [] [.ptr id 0]) (.func (.func f) [] [.tptr cs]):=by
 refine .func _ [] [] _ _ rfl rfl (fun i hi=>absurd hi (Nat.not_lt_zero _)) (fun i hi=>?_)
 match i,hi with
 | 0,_=>
  refine .ptr id 0 cs cs (Nat.not_lt_zero _) (.inl ho) (by omega) (fun j hj=>?_)
  rw[Nat.zero_add]
  exact .keep _ (hb _ (aa7 _ hj))
theorem ds6 {l:List Str}{i:Nat}{f:Str}(h0:0<i)(h:l.drop i=f::l.drop (i+1)):∃ a,l[i-1]? = some a∧rising (l.drop (i-1))=(Op.bytesLess a f&&rising (l.drop i)):=by
 have hlt:i<l.length:=by
  rcases Nat.lt_or_ge i l.length with h1|h1
  ·exact h1
  ·rw[List.drop_of_length_le h1] at h; cases h
 have h2:i-1<l.length:=by omega
 refine ⟨l[i-1],List.getElem?_eq_getElem h2,?_⟩
 rw[List.drop_eq_getElem_cons h2,show i-1+1=i from by omega,h]
 rfl
theorem fi3 (p:Package)(hf:p.Fit):PC Tryz.prog EE 135 [.agg p.cs] (.bool (ac3 p)):=by
 refine ae9 hE fok135 (Nat.le_of_ble_eq_true rfl) (ad3 (ay3 _)) ?_
 simp only[ic135,go_sem,ae6,Package.cs]
 refine aa1 fok204 (bz1 p.name hf.name) ?_
 cases h1:aq6 p.name with
 | false=>simp only[go_sem,ac3,h1]; exact ab1 _
 | true=>
 simp only[go_sem]
 refine aa1 fok205 (bz2 p.name hf.name) ?_
 cases h2:bi8 p.name with
 | true=>simp only[go_sem,ac3,h1,h2]; exact ab1 _
 | false=>
 simp only[go_sem]
 refine aa1 (v:=.bool (az2 p.evr false)) fok206 (di8 p.evr false hf.evr.1 hf.evr.2) ?_
 cases h3:az2 p.evr false with
 | false=>simp only[go_sem,ac3,h1,h2,h3]; exact ab1 _
 | true=>
 simp only[go_sem]
 refine aa1 fok207 (dt2 p.arch) ?_
 have h4':=bp1 p.arch
 cases h4:ak5 p.arch with
 | false=>
  rw[h4] at h4'
  simp only[go_sem,h4',ac3,h1,h2,h3,h4]; exact ab1 _
 | true=>
 rw[h4] at h4'
 simp only[go_sem,h4']
 by_cases h5:p.vendor.length≤64
 case neg=>
  have h5':(64:Int)<p.vendor.length:=by omega
  simp only[go_sem,h5',ac3,h1,h2,h3,h4,h5]; exact ab1 _
 have h5':¬ (64:Int)<p.vendor.length:=by omega
 simp only[go_sem,h5']
 have e32:∀ n:Nat,decide ((n:Int)≤32)=decide (n≤32):=fun n=>decide_eq_decide.2 (by omega)
 have hp6:=dz8 p.provides 32 157 [] [] ah2 (by have:=hf.prov.1; omega) (fun c hc=>by cases hc) (fun c hc=>by cases hc) fok157.1 fun x hx=>bc2 x (hf.prov.2 x hx).1 (hf.prov.2 x hx).2.1 (hf.prov.2 x hx).2.2
 have hp7:=dz8 p.obsoletes 32 157 [] [] ah2 (by have:=hf.obs.1; omega) (fun c hc=>by cases hc) (fun c hc=>by cases hc) fok157.1 fun x hx=>bc2 x (hf.obs.2 x hx).1 (hf.obs.2 x hx).2.1 (hf.obs.2 x hx).2.2
 have hp8:=fx3 p.files 32 205 [] [] bi8 (by have:=hf.files.1; omega) (fun c hc=>by cases hc) (fun c hc=>by cases hc) fok205.1 fun x hx=>bz2 x (hf.files.2 x hx)
 rw[e32] at hp6 hp7 hp8
 refine aa1 fok208 hp6 ?_
 cases h6:(decide (p.provides.length≤32)&&p.provides.all ah2) with
 | false=>simp only[go_sem,ac3,h1,h2,h3,h4,h5,h6]; exact ab1 _
 | true=>
 simp only[go_sem]
 refine aa1 fok208 hp7 ?_
 cases h7:(decide (p.obsoletes.length≤32)&&p.obsoletes.all ah2) with
 | false=>simp only[go_sem,ac3,h1,h2,h3,h4,h5,h6,h7]; exact ab1 _
 | true=>
 simp only[go_sem]
 refine aa1 fok209 hp8 ?_
 cases h8:(decide (p.files.length≤32)&&p.files.all bi8) with
 | false=>simp only[go_sem,ac3,h1,h2,h3,h4,h5,h6,h7,h8]; exact ab1 _
 | true=>
 have hmay:ac3 p=(rising p.files&&p.rows.all fun x=>ai4 x.2 x.1):=by
  simp only[ac3,h1,h2,h3,h4,h5,h6,h7,h8,Package.rows,List.all_cons,List.all_nil,decide_true,Bool.not_false,Bool.and_true,Bool.true_and,Bool.and_assoc]
 simp only[go_sem]
 rw[hmay]
 refine aa9 noT (fun i fr s=>fr=[(1,.tptr p.cs),(2,.ptr 0 0),(52,strs p.files),(53,.int .i64 p.files.length),(54,.int .i64 i)]∧(s.obj 0=some (.cells [.bool false])∧0<s.next)∧rising p.files=rising (p.files.drop (i-1))) p.files.length ⟨rfl,⟨?_,?_⟩,rfl⟩ ?_
 ·simp only[aa2,if_true]
 ·exact Nat.zero_lt_one
 rintro i fr s hi ⟨rfl,⟨q1,q2⟩,hr⟩
 by_cases hlt:i<p.files.length
 ·obtain ⟨f,ha,hfi,hdr,hget,_⟩:=ad1 p.files i hlt
  have c1:(i:Int)<p.files.length:=by omega
  have c2:(0:Int)≤i:=by omega
  have w1:=ad5 (i:=i) (by have:=hf.files.1; omega)
  by_cases h0:0<i
  ·have c0:(0:Int)<i:=by omega
   obtain ⟨a,ha1,ha2⟩:=ds6 h0 hdr
   have hget':(p.files.map bl6).getD (i-1) []=bl6 a:=by simp[List.getD_eq_getElem?_getD,ha1]
   have w0:IntKind.i64.wrap ((i:Int)-1)=((i-1:Nat):Int):=by
    have:=hf.files.1
    rw[wrap64 (by omega) (by omega)]; omega
   have c3:(0:Int)≤((i-1:Nat):Int):=by omega
   have c4:((i-1:Nat):Int)<p.files.length:=by omega
   rw[ha2] at hr
   simp only[go_sem,c0,c1,c2,c3,c4,w0,w1,hget,hget',bl6,Package.cs]
   cases hb:Op.bytesLess a f with
   | true=>
    rw[hb,Bool.true_and] at hr
    simp only[go_sem,w1]
    exact ⟨hlt,⟨q1,q2⟩,hr⟩
   | false=>
    rw[hb,Bool.false_and] at hr
    simp only[go_sem,q1,hr]
    exact ab1 _
  ·have c0:¬ (0:Int)<i:=by omega
   simp only[go_sem,c0,c1,c2,w1,hget,bl6]
   refine ⟨hlt,⟨q1,q2⟩,?_⟩
   have:i=0:=by omega
   subst this; exact hr
 ·have hi':i=p.files.length:=by omega
  subst hi'
  have c1:¬ (p.files.length:Int)<p.files.length:=by omega
  have hrt:rising p.files=true:=by
   rw[hr]
   cases hl:p.files.drop (p.files.length-1) with
   | nil=>rfl
   | cons x l=>
    have h1:=congrArg List.length hl
    rw[List.length_drop,List.length_cons] at h1
    have h2:l=[]:=List.length_eq_zero_iff.1 (by omega)
    rw[h2]; rfl
  rw[hrt,Bool.true_and]
  simp only[go_sem,c1,ag2,ah6]
  refine aa1 fok210 (fx4 p) ?_
  simp only[go_sem]
  have e0:¬ 0=s.next:=by omega
  have e1:¬ s.next=0:=by omega
  refine ch3 (er7 p) (fun rest s=>(0<s.next∧s.obj 0=some (.cells [.bool false]))∧∃ ts:List (Int×List Rich),rest=ts.map dz9∧(∀ x∈ts,x∈p.rows)∧(p.rows.all fun x:Int×List Rich=>ai4 x.2 x.1)=ts.all fun x:Int×List Rich=>ai4 x.2 x.1) (fun _ _ h=>trivial) ?_ ?_ ?_ ?_ ?_
  ·rintro rest s s' ⟨⟨q1,q2⟩,q4⟩ hn' hs'
   exact ⟨⟨by omega,by rw[hs' 0 q1]; exact q2⟩,q4⟩
  ·intro a ha
   obtain ⟨x,_,rfl⟩:=List.mem_map.1 ha
   rfl
  ·intro o
   exact ⟨⟨by show 0<s.next+1; omega,by simp only[aa2,e0,if_false]; exact q1⟩,_,rfl,fun x hx=>hx,rfl⟩
  ·rintro L pre a rest t hev ⟨⟨q3,q4⟩,ts,hts,hin,hall⟩ hL hlt
   cases ts with
   | nil=>cases hts
   | cons x ts=>
    simp only[List.map_cons,List.cons.injEq] at hts
    obtain ⟨rfl,rfl⟩:=hts
    obtain ⟨wh,l⟩:=x
    simp only[List.all_cons] at hall
    have hfx:=hf.rich _ (hin _ (List.mem_cons_self ..))
    have hin':∀ y∈ts,y∈p.rows:=fun y hy=>hin y (List.mem_cons_of_mem _ hy)
    have u0:¬ 0=t.next:=by omega
    have u1:¬ s.next=t.next:=by omega
    have u2:¬ t.next=s.next:=by omega
    have u3:¬ t.next=0:=by omega
    simp only[dz9,go_sem,hL,q4,e0,e1,u0,u1,u2,u3]
    refine af8 fok211 (by2 (args':=[ac5 l,.int .i64 32,.func (.func 212) [] [.tptr [.int .u8 wh]]]) hE rfl ?_ (by unfold IV.plain; rfl) (fx5 l wh (Nat.lt_of_lt_of_le hfx.1 (by decide)) hfx.2)) ?_
    ·intro i hi
     match i,hi with
     | 0,_=>exact .keep _ (aw3 l)
     | 1,_=>exact .keep _ (.int _ _)
     | 2,_=>exact fi2 (by simp only[aa2,u2,if_false,if_true]) (ad3 (.int _ _))
    ·rintro v s2 ⟨rfl,rfl⟩
     refine ⟨Nat.le_refl _,?_⟩
     cases hok:ai4 l wh with
     | true=>
      simp only[go_sem]
      refine cz9 (by simp only[aa5]; omega) (by simp only[aa2,if_true]) ⟨⟨by simp only[aa5]; omega,by simp only[aa2,e0,u0,if_false]; exact q4⟩,ts,rfl,hin',by rw[hall,hok,Bool.true_and]⟩
     | false=>
      simp only[go_sem,q4,e0,e1,u0,u1,u2,u3]
      refine ch2 (by simp only[aa5]; omega) (by simp only[aa2,if_true]) ?_
      simp only[go_sem,e0,u0]
      rw[hall,hok]; exact ab1 _
  ·rintro t o ⟨⟨q3,q4⟩,ts,hts,_,hall⟩ hlt ho
   have:ts=[]:=by cases ts with|nil=>rfl|cons _ _=>cases hts
   subst this
   rw[hall]
   simp only[go_sem,e0,q4,List.all_nil]
   exact ab1 _
end Go.Id.Tryz
/- Pools,in plain words: rows of packages,and names with their numbers. Conditions: none; no program in sight. -/
namespace Go.Id.Md
open Go Go.Id
structure PRow where
 pkg:Package
 repo:Int
 prio:Int
def PRow.cs (r:PRow):List IV:=r.pkg.cs++[.int .i64 r.repo,.int .i64 r.prio]
abbrev Nms:=List (Str×List Int)
def aj3:Nms→Str→Int→Nms
 | [],k,n=>[(k,[n])]
 | t::ts,k,n=>if k=t.1 then (k,t.2++[n])::ts else t::aj3 ts k n
def cl6:Nms→Nat→List Package→Nms
 | nm,_,[]=>nm
 | nm,n,p::ps=>cl6 (aj3 nm p.name n) (n+1) ps
def intC (n:Int):List IV:=[.int .i64 n]
def nmV (nm:Nms):List (IV×IV):=nm.map fun t=>(.str t.1,.tslice (t.2.map intC))
structure Pool where
 rows:List PRow
 inst:Int
 nm:Nms
def Pool.v (p:Pool):IV:=.tptr [.tslice (p.rows.map PRow.cs),.int .i64 p.inst,.tmap (nmV p.nm)]
def rowsOf (l:List Package)(repo prio:Int):List PRow:=l.map fun p=>⟨p,repo,prio⟩
theorem ds7 (l:List Package)(x:Package)(a b:Int):rowsOf (l++[x]) a b=rowsOf l a b++[⟨x,a,b⟩]:=by simp[rowsOf]
theorem bh4 (l:List Package)(a b:Int):(rowsOf l a b).length=l.length:=by simp[rowsOf]
def ad9:Nat→List Repo→List PRow×Nms→Option (List PRow×Nms)
 | _,[],st=>some st
 | i,r::rs,st=>if r.priority<0∨1024<r.priority∨r.packages.all ac3=false then none else ad9 (i+1) rs (st.1++rowsOf r.packages i r.priority,cl6 st.2 st.1.length r.packages)
def af1 (l:List Repo):Nat:=(l.map fun r=>r.packages.length).sum
def az9 (repos:List Repo)(inst:List Package):Pool ⊕ Int :=
 if 16<repos.length∨256<inst.length+af1 repos then .inr 40 else
 if inst.all ac3=false then .inr 4 else
 match ad9 0 repos (rowsOf inst (-1) 1025,cl6 [] 0 inst) with
 | some (rows,nm)=>.inl ⟨rows,inst.length,nm⟩
 | none=>.inr 4
def hh7 (r:Pool ⊕ Int):IV:=match r with
 | .inl p=>.tuple [p.v,.int .i64 0]
 | .inr e=>.tuple [.nilptr,.int .i64 e]
/-! ### Names,as they lie in memory -/
abbrev NmL:=List (Str×List Int×Nat)
def mEs (L:NmL):List (IV×IV):=L.map fun t=>(.str t.1,.slice t.2.2 0 t.2.1.length 1)
def as1 (L:NmL):Nms:=L.map fun t=>(t.1,t.2.1)
def as8:NmL→Str→Int→Nat→NmL
 | [],k,n,nid=>[(k,[n],nid)]
 | t::ts,k,n,nid=>if k=t.1 then (k,t.2.1++[n],nid)::ts else t::as8 ts k n nid
def ch7 (L:NmL)(k:Str):IV:=match L.find? (fun t=>decide (k=t.1)) with
 | some t=>.slice t.2.2 0 t.2.1.length 1
 | none=>.nilslice
def br1 (L:NmL)(k:Str):List Int:=match L.find? (fun t=>decide (k=t.1)) with
 | some t=>t.2.1
 | none=>[]
theorem cd3 (L:NmL)(k:Str)(n:Int)(nid:Nat):as1 (as8 L k n nid)=aj3 (as1 L) k n:=by
 induction L with
 | nil=>rfl
 | cons t ts ih=>
  simp only[as8,as1,List.map_cons,aj3]
  split
  ·rfl
  ·rw[List.map_cons]; congr 1
theorem hh8 (L:NmL)(k:Str):(aq8 2 (.str k) (mEs L)).map (fun r=>r.getD .nilslice)=some (ch7 L k):=by
 induction L with
 | nil=>rfl
 | cons t ts ih=>
  simp only[mEs,List.map_cons,aq8,dz6,ch7,List.find?_cons] at ih ⊢
  by_cases h:k=t.1
  ·simp[h]
  ·simp only[h,decide_false] at ih ⊢
   exact ih
theorem go6 (L:NmL)(k:Str):∃ r,aq8 2 (.str k) (mEs L)=some r∧r.getD .nilslice=ch7 L k:=by
 have:=hh8 L k
 cases h:aq8 2 (.str k) (mEs L) with
 | none=>rw[h] at this; cases this
 | some r=>rw[h] at this; exact ⟨r,rfl,by simpa using this⟩
theorem ie2 (L:NmL)(k:Str)(n:Int)(nid:Nat):eh2 2 (.str k) (.slice nid 0 ((br1 L k).length+1) 1) (mEs L)=some (mEs (as8 L k n nid)):=by
 induction L with
 | nil=>rfl
 | cons t ts ih=>
  simp only[mEs,List.map_cons,eh2,dz6,br1,List.find?_cons,as8] at ih ⊢
  by_cases h:k=t.1
  ·simp[h]
  ·simp only[h,decide_false,if_false,List.map_cons] at ih ⊢
   rw[ih]; rfl
theorem da2 {k:Str}{n:Int}{nid:Nat}:∀ {L:NmL},(L.map (·.1)).Nodup→∀ t∈as8 L k n nid,(t∈L∧t.1≠k)∨t=(k,br1 L k++[n],nid):=by
 intro L
 induction L with
 | nil=>intro _ t ht; simp[as8] at ht; exact .inr (by rw[ht]; rfl)
 | cons u us ih=>
  intro hk t ht
  rw[List.map_cons,List.nodup_cons] at hk
  simp only[as8] at ht
  by_cases h:k=u.1
  ·rw[if_pos h] at ht
   rcases List.mem_cons.1 ht with rfl|ht
   ·right; simp[br1,h]
   ·left
    exact ⟨List.mem_cons_of_mem _ ht,fun e=>hk.1 (by rw[← h,← e]; exact List.mem_map_of_mem (f:=fun x:Str×List Int×Nat=>x.1) ht)⟩
  ·rw[if_neg h] at ht
   rcases List.mem_cons.1 ht with rfl|ht
   ·left; exact ⟨List.mem_cons_self ..,fun e=>h e.symm⟩
   ·have e:br1 (u::us) k=br1 us k:=by simp[br1,h]
    rw[e]
    rcases ih hk.2 t ht with ⟨h1,h2⟩|h1
    ·exact .inl ⟨List.mem_cons_of_mem _ h1,h2⟩
    ·exact .inr h1
theorem ea1 {k:Str}{n:Int}{nid:Nat}:∀ (L:NmL),(L.map (·.1)).Nodup→((as8 L k n nid).map (·.1)).Nodup∧∀ x∈(as8 L k n nid).map (·.1),x=k∨x∈L.map (·.1):=by
 intro L
 induction L with
 | nil=>intro _; simp[as8]
 | cons u us ih=>
  intro hk
  rw[List.map_cons,List.nodup_cons] at hk
  simp only[as8]
  by_cases h:k=u.1
  ·rw[if_pos h]
   refine ⟨?_,?_⟩
   ·rw[List.map_cons,List.nodup_cons]; exact ⟨by rw[h]; exact hk.1,hk.2⟩
   ·intro x hx
    simp only[List.map_cons,List.mem_cons] at hx ⊢
    rcases hx with h1|h1
    ·exact .inl h1
    ·exact .inr (.inr h1)
  ·rw[if_neg h]
   obtain ⟨h1,h2⟩:=ih hk.2
   refine ⟨?_,?_⟩
   ·rw[List.map_cons,List.nodup_cons]
    refine ⟨fun hm=>?_,h1⟩
    rcases h2 _ hm with e|e
    ·exact h e.symm
    ·exact hk.1 e
   ·intro x hx
    simp only[List.map_cons,List.mem_cons] at hx ⊢
    rcases hx with h3|h3
    ·exact .inr (.inl h3)
    ·rcases h2 _ h3 with e|e
     ·exact .inl e
     ·exact .inr (.inr e)
theorem fi4 {k:Str}{n:Int}{nid:Nat}:∀ (L:NmL),(L.map (·.2.2)).Nodup→nid ∉ L.map (·.2.2)→((as8 L k n nid).map (·.2.2)).Nodup∧∀ x∈(as8 L k n nid).map (·.2.2),x=nid∨x∈L.map (·.2.2):=by
 intro L
 induction L with
 | nil=>intro _ _; simp[as8]
 | cons u us ih=>
  intro hk hn
  rw[List.map_cons,List.nodup_cons] at hk
  simp only[List.map_cons,List.mem_cons,not_or] at hn
  simp only[as8]
  by_cases h:k=u.1
  ·rw[if_pos h]
   refine ⟨?_,?_⟩
   ·rw[List.map_cons,List.nodup_cons]; exact ⟨hn.2,hk.2⟩
   ·intro x hx
    simp only[List.map_cons,List.mem_cons] at hx ⊢
    rcases hx with h1|h1
    ·exact .inl h1
    ·exact .inr (.inr h1)
  ·rw[if_neg h]
   obtain ⟨h1,h2⟩:=ih hk.2 hn.2
   refine ⟨?_,?_⟩
   ·rw[List.map_cons,List.nodup_cons]
    refine ⟨fun hm=>?_,h1⟩
    rcases h2 _ hm with e|e
    ·exact hn.1 e.symm
    ·exact hk.1 e
   ·intro x hx
    simp only[List.map_cons,List.mem_cons] at hx ⊢
    rcases hx with h3|h3
    ·exact .inr (.inl h3)
    ·rcases h2 _ h3 with e|e
     ·exact .inl e
     ·exact .inr (.inr e)
theorem bo4 (L:NmL)(k:Str):(ch7 L k=.nilslice∧br1 L k=[])∨∃ t∈L,t.1=k∧ch7 L k=.slice t.2.2 0 t.2.1.length 1∧br1 L k=t.2.1:=by
 unfold ch7 br1
 cases h:L.find? (fun t=>decide (k=t.1)) with
 | none=>exact .inl ⟨rfl,rfl⟩
 | some t=>
  have h1:=List.find?_some h
  exact .inr ⟨t,List.mem_of_find?_eq_some h,by simpa using (by simpa using h1:k=t.1).symm,rfl,rfl⟩
theorem fi5 {L:NmL}(hk:(L.map (·.1)).Nodup)(hd:(L.map (·.2.2)).Nodup):∀ t∈L,∀ u∈L,t.2.2=u.2.2→t=u:=by
 intro t ht u hu e
 obtain ⟨i,hi,h1⟩:=List.mem_iff_getElem.1 ht
 obtain ⟨j,hj,h2⟩:=List.mem_iff_getElem.1 hu
 have hij:i=j:=by
  have hi':i<(L.map (·.2.2)).length:=by simpa using hi
  have hj':j<(L.map (·.2.2)).length:=by simpa using hj
  have hp:=List.pairwise_iff_getElem.1 hd
  have e2:(L.map (·.2.2))[i]=(L.map (·.2.2))[j]:=by simp only[List.getElem_map,h1,h2,e]
  rcases Nat.lt_trichotomy i j with h|h|h
  ·exact absurd e2 (hp i j hi' hj' h)
  ·exact h
  ·exact absurd e2.symm (hp j i hj' hi' h)
 subst hij
 rw[← h1,← h2]
end Go.Id.Md
/- What the statements of pools go over: not too much. Conditions: none; no program in sight. -/
namespace Go.Id.Md
open Go Go.Id
mutual
def Rich.ok:Rich→Prop
 | .mk k d xs=>0≤k∧k<256∧d.fit∧xs.length<2^62∧Rich.oks xs
def Rich.oks:List Rich→Prop
 | []=>True
 | r::rs=>r.ok∧Rich.oks rs
end
theorem Rich.oks_iff (l:List Rich):Rich.oks l↔∀ r∈l,r.ok:=by
 induction l with
 | nil=>simp[Rich.oks]
 | cons r rs ih=>simp[Rich.oks,ih]
theorem Rich.ok_mk {k:Int}{d:Dep}{xs:List Rich}:(Rich.mk k d xs).ok↔0≤k∧k<256∧d.fit∧xs.length<2^62∧∀ r∈xs,r.ok:=by
 simp only[Rich.ok,Rich.oks_iff]
structure Package.Ok (p:Package):Prop where
 name:p.name.length<2^62
 vendor:p.vendor.length<2^62
 evr:p.evr.fit
 prov:p.provides.length<2^62∧∀ d∈p.provides,d.fit
 obs:p.obsoletes.length<2^62∧∀ d∈p.obsoletes,d.fit
 files:p.files.length<2^62∧∀ s∈p.files,s.length<2^62
 rich:∀ x∈p.rows,x.2.length<2^62∧∀ r∈x.2,r.ok
def Repo.Ok (r:Repo):Prop:=r.packages.length<2^62∧∀ p∈r.packages,p.Ok
def as2 (p:Package):List (List Rich):=[p.requires,p.conflicts,p.recommends,p.supplements,p.suggests,p.enhances]
/-! ### What is the same -/
/-! ### The rows of a pool -/
def ae1:Nat→List Repo→List PRow
 | _,[]=>[]
 | i,r::rs=>rowsOf r.packages i r.priority++ae1 (i+1) rs
theorem cl7:∀ (rs:List Repo) (i:Nat) (st:List PRow×Nms) (out:List PRow×Nms),ad9 i rs st=some out→out.1=st.1++ae1 i rs:=by
 intro rs
 induction rs with
 | nil=>intro i st out h; simp only[ad9,Option.some.injEq] at h; subst h; simp[ae1]
 | cons r rs ih=>
  intro i st out h
  simp only[ad9] at h
  split at h
  ·cases h
  ·rw[ih _ _ _ h]; simp[ae1]
theorem cd4 {repos:List Repo}{inst:List Package}{p:Pool}(h:az9 repos inst=.inl p):p.rows=rowsOf inst (-1) 1025++ae1 0 repos∧p.inst=inst.length:=by
 unfold az9 at h
 split at h
 ·cases h
 split at h
 ·cases h
 split at h
 ·rename_i rows nm hr
  cases h
  exact ⟨cl7 _ _ _ _ hr,rfl⟩
 ·cases h
theorem fx6 {repos:List Repo}{inst:List Package}{e:Int}(h:az9 repos inst=.inr e):e=40∨e=4:=by
 unfold az9 at h
 split at h
 ·cases h; exact .inl rfl
 split at h
 ·cases h; exact .inr rfl
 split at h
 ·cases h
 ·cases h; exact .inr rfl
end Go.Id.Md
/- Indexes,in plain words: names with their numbers,in whatever row. Conditions: none; no program in sight. -/
namespace Go.Id.Md
open Go Go.Id
def ac4:Nms→Str→List Int
 | [],_=>[]
 | t::ts,k=>if k=t.1 then t.2 else ac4 ts k
def KN (nm:Nms):Prop:=(nm.map (·.1)).Nodup
theorem aw4 {nm:Nms}{k:Str}{n:Int}(h:KN nm)(t:Str×List Int):t∈aj3 nm k n↔(t∈nm∧t.1≠k)∨t=(k,ac4 nm k++[n]):=by
 induction nm with
 | nil=>simp[aj3,ac4]
 | cons u us ih=>
  have h':u.1 ∉ us.map (·.1)∧KN us:=by simpa [KN] using h
  simp only[aj3,ac4]
  by_cases e:k=u.1
  ·rw[if_pos e,if_pos e]
   subst e
   simp only[List.mem_cons]
   constructor
   ·rintro (rfl|ht)
    ·exact .inr rfl
    ·exact .inl ⟨.inr ht,fun e=>h'.1 (List.mem_map.2 ⟨t,ht,e⟩)⟩
   ·rintro (⟨rfl|ht,hne⟩|rfl)
    ·exact absurd rfl hne
    ·exact .inr ht
    ·exact .inl rfl
  ·rw[if_neg e,if_neg e]
   simp only[List.mem_cons,ih h'.2]
   constructor
   ·rintro (rfl|⟨h1,h2⟩|rfl)
    ·exact .inl ⟨.inl rfl,fun e'=>e e'.symm⟩
    ·exact .inl ⟨.inr h1,h2⟩
    ·exact .inr rfl
   ·rintro (⟨rfl|h1,h2⟩|rfl)
    ·exact .inl rfl
    ·exact .inr (.inl ⟨h1,h2⟩)
    ·exact .inr (.inr rfl)
theorem er8 {k:Str}{n:Int}:∀ {nm:Nms},∀ x∈(aj3 nm k n).map (·.1),x=k∨x∈nm.map (·.1):=by
 intro nm
 induction nm with
 | nil=>intro x hx; simpa [aj3] using hx
 | cons u us ih=>
  intro x hx
  simp only[aj3] at hx
  split at hx
  ·rename_i e; simp only[List.map_cons,List.mem_cons] at hx ⊢
   rcases hx with h|h
   ·exact .inl h
   ·exact .inr (.inr h)
  ·simp only[List.map_cons,List.mem_cons] at hx ⊢
   rcases hx with h|h
   ·exact .inr (.inl h)
   ·rcases ih x h with h|h
    ·exact .inl h
    ·exact .inr (.inr h)
theorem ag7 {nm:Nms}{k:Str}{n:Int}(h:KN nm):KN (aj3 nm k n):=by
 induction nm with
 | nil=>simp[KN,aj3]
 | cons u us ih=>
  have h':u.1 ∉ us.map (·.1)∧KN us:=by simpa [KN] using h
  simp only[aj3]
  split
  ·rename_i e; subst e; exact h
  ·rename_i e
   show ((u::aj3 us k n).map (·.1)).Nodup
   rw[List.map_cons,List.nodup_cons]
   refine ⟨fun hm=>?_,ih h'.2⟩
   rcases er8 _ hm with h1|h1
   ·exact e h1.symm
   ·exact h'.1 h1
theorem KN.nd {nm:Nms}(h:KN nm):nm.Nodup:=by
 induction nm with
 | nil=>exact List.nodup_nil
 | cons u us ih=>
  have h':u.1 ∉ us.map (·.1)∧KN us:=by simpa [KN] using h
  exact List.nodup_cons.2 ⟨fun hm=>h'.1 (List.mem_map.2 ⟨u,hm,rfl⟩),ih h'.2⟩
theorem KN.perm {nm nm':Nms}(h:KN nm)(p:nm.Perm nm'):KN nm':=(p.map (fun x:Str×List Int=>x.1)).nodup_iff.1 h
theorem cu8 {nm:Nms}(h:KN nm){t:Str×List Int}(ht:t∈nm):ac4 nm t.1=t.2:=by
 induction nm with
 | nil=>cases ht
 | cons u us ih=>
  have h':u.1 ∉ us.map (·.1)∧KN us:=by simpa [KN] using h
  simp only[ac4]
  rcases List.mem_cons.1 ht with rfl|ht
  ·rw[if_pos rfl]
  ·rw[if_neg (fun e=>h'.1 (List.mem_map.2 ⟨t,ht,e⟩))]
   exact ih h'.2 ht
theorem ch8 {nm:Nms}{k:Str}(h:k ∉ nm.map (·.1)):ac4 nm k=[]:=by
 induction nm with
 | nil=>rfl
 | cons u us ih=>
  simp only[List.map_cons,List.mem_cons,not_or] at h
  simp only[ac4]
  rw[if_neg h.1]; exact ih h.2
theorem ch9 {nm nm':Nms}(h:KN nm)(p:nm.Perm nm')(k:Str):ac4 nm k=ac4 nm' k:=by
 by_cases hk:k∈nm.map (·.1)
 ·obtain ⟨t,ht,rfl⟩:=List.mem_map.1 hk
  rw[cu8 h ht,cu8 (h.perm p) (p.mem_iff.1 ht)]
 ·rw[ch8 hk,ch8 (fun e=>hk ((p.map (·.1)).mem_iff.2 e))]
theorem aw5 {nm:Nms}(h:KN nm)(k:Str)(n:Int)(j:Str):ac4 (aj3 nm k n) j=if j=k then ac4 nm k++[n] else ac4 nm j:=by
 induction nm with
 | nil=>
  simp only[aj3,ac4]
  split<;>rfl
 | cons u us ih=>
  have h':u.1 ∉ us.map (·.1)∧KN us:=by simpa [KN] using h
  simp only[aj3,ac4]
  by_cases e:k=u.1
  ·rw[if_pos e,if_pos e]
   simp only[ac4]
   by_cases ej:j=k
   ·rw[if_pos ej,if_pos ej]
   ·rw[if_neg ej,if_neg ej,if_neg (fun x=>ej (x.trans e.symm))]
  ·rw[if_neg e,if_neg e]
   simp only[ac4,ih h'.2]
   by_cases ej:j=k
   ·rw[if_pos ej,if_pos ej,if_neg (fun x=>e (ej.symm.trans x))]
   ·rw[if_neg ej,if_neg ej]
theorem bh5 {nm nm':Nms}{k:Str}{n:Int}(h:KN nm)(p:nm.Perm nm'):(aj3 nm k n).Perm (aj3 nm' k n):=by
 refine (List.perm_ext_iff_of_nodup (ag7 h).nd (ag7 (h.perm p)).nd).2 fun t=>?_
 rw[aw4 h,aw4 (h.perm p),ch9 h p,p.mem_iff]
theorem er9 {nm:Nms}{k j:Str}{n:Int}(h:KN nm):(aj3 (aj3 nm k n) j n).Perm (aj3 (aj3 nm j n) k n):=by
 by_cases e:k=j
 ·subst e; exact .refl _
 refine (List.perm_ext_iff_of_nodup (ag7 (ag7 h)).nd (ag7 (ag7 h)).nd).2 fun t=>?_
 rw[aw4 (ag7 h),aw4 (ag7 h),aw4 h,aw4 h,aw5 h,aw5 h,if_neg (fun x=>e x.symm),if_neg e]
 constructor
 ·rintro (⟨⟨h1,h2⟩|rfl,h3⟩|rfl)
  ·exact .inl ⟨.inl ⟨h1,h3⟩,h2⟩
  ·exact .inr rfl
  ·exact .inl ⟨.inr rfl,fun x=>e x.symm⟩
 ·rintro (⟨⟨h1,h2⟩|rfl,h3⟩|rfl)
  ·exact .inl ⟨.inl ⟨h1,h3⟩,h2⟩
  ·exact .inr rfl
  ·exact .inl ⟨.inr rfl,e⟩
def as3 (nm:Nms)(ks:List Str)(n:Int):Nms:=ks.foldl (fun m k=>aj3 m k n) nm
theorem dh9 {n:Int}:∀ {ks:List Str} {nm:Nms},KN nm→KN (as3 nm ks n)
 | [],_,h=>h
 | _::ks,_,h=>dh9 (ks:=ks) (ag7 h)
theorem ci1 {n:Int}:∀ (ks:List Str) {nm nm':Nms},KN nm→nm.Perm nm'→(as3 nm ks n).Perm (as3 nm' ks n)
 | [],_,_,_,p=>p
 | _::ks,_,_,h,p=>ci1 ks (ag7 h) (bh5 h p)
theorem di1 {n:Int}{ks js:List Str}(p:ks.Perm js):∀ {nm:Nms},KN nm→(as3 nm ks n).Perm (as3 nm js n):=by
 induction p with
 | nil=>intro nm _; exact .refl _
 | cons x _ ih=>intro nm h; exact ih (ag7 h)
 | swap x y l=>intro nm h; exact ci1 l (ag7 (ag7 h)) (er9 h)
 | trans p1 _ ih1 ih2=>intro nm h; exact (ih1 h).trans (ih2 h)
theorem ds8 (nm:Nms)(ks:List Str)(k:Str)(n:Int):as3 nm (ks++[k]) n=aj3 (as3 nm ks n) k n:=by simp[as3]
def am3 (l:List Str)(k:Str):List Str:=if k∈l then l else l++[k]
def ci2 (p:Package):List Str:=p.files.foldl am3 ((p.provides.map (·.name)).foldl am3 [p.name])
def al5 (nm:Nms)(ds:List Str)(n:Int):Nms:=ds.foldl (fun m k=>if n∈ac4 m k then m else aj3 m k n) nm
theorem ca5 (nm:Nms)(ks:List Str)(k:Str)(n:Int):al5 nm (ks++[k]) n=if n∈ac4 (al5 nm ks n) k then al5 nm ks n else aj3 (al5 nm ks n) k n:=by
 unfold al5; rw[List.foldl_append]; rfl
structure Index where
 all:List Package
 prov:Nms
 names:Nms
 over:Nms
def Index.v (x:Index):IV:=.tptr [.tslice (x.all.map Package.cs),.tmap (nmV x.prov),.tmap (nmV x.names),.tmap (nmV x.over)]
def di2 (x:Index)(n:Nat)(p:Package):Index:=⟨x.all++[p],as3 x.prov (ci2 p) n,aj3 x.names p.name n,al5 x.over (p.obsoletes.map (·.name)) n⟩
def idxFrom (x:Index):Nat→List Package→Index
 | _,[]=>x
 | n,p::ps=>idxFrom (di2 x n p) (n+1) ps
def ap9 (l:List Package):Index:=idxFrom ⟨[],[],[],[]⟩ 0 l
theorem di3 (ps:List Package)(p:Package):∀ (x:Index) (n:Nat),idxFrom x n (ps++[p])=di2 (idxFrom x n ps) (n+ps.length) p:=by
 induction ps with
 | nil=>intro x n; rfl
 | cons q qs ih=>intro x n; show idxFrom _ (n+1) (qs++[p])=_; rw[ih,List.length_cons]; congr 1; omega
theorem es3 (L:NmL)(k:Str):ac4 (as1 L) k=br1 L k:=by
 induction L with
 | nil=>rfl
 | cons t ts ih=>
  simp only[as1,List.map_cons,ac4,br1,List.find?_cons] at ih ⊢
  by_cases h:k=t.1
  ·simp[h]
  ·simp only[h,decide_false,if_false] at ih ⊢
   exact ih
end Go.Id.Md
