/- Indexes asked: rows of one's own. Conditions: sizes that fit. -/
import Derived.Test.YteomphdgniepbaaGreatDoorTNQO
import Derived.Test.YteomphdgniepbaaGreatDoorFwRo
import Derived.Test.YteomphdgniepbaaGreatDoorTNQN
import Derived.Test.YteomphdgniepbaaGreatDoorTNPE
import Derived.Test.YteomphdgniepbaaGreatDoorMw
import Derived.Test.YteomphdgniepbaaGreatDoorTNQL
set_option linter.all false
namespace Go.Id.Tryz
open Go Go.Id Go.Proofs Go.Id.Md
set_option maxRecDepth 100000
theorem ij6 {f:Nat}{args args':List IV}{σ:Store}{Q:IV→Store→Prop}(hl:args'.length=args.length)(ha:∀ i,i<args.length→Frz σ (fun _=>true=true) (args.getD i .undef) (args'.getD i .undef))(h:C Tryz.prog EE f args' σ Q):C Tryz.prog EE f args σ Q :=
 ej1 (S:=fun _=>true) hl ha h
open Go Go.Id Go.Proofs Go.Shelf Go.Id.Md
theorem fw8 (d:Job):d.cs.length=6:=rfl
theorem bw7 (d:Job):d.cs.all IV.leaf=true:=rfl
theorem gn8 (d:Job):d.cs.take 6=d.cs:=rfl
theorem dl5 (d:bf9):d.cs.length=2:=rfl
theorem az1 (d:bf9):d.cs.all IV.leaf=true:=rfl
theorem dv2 (d:bf9):d.cs.take 2=d.cs:=rfl
theorem fw9 (d:Job):∀ c∈d.cs,Bnd 0 c:=is3 (.int _ _) (.str _) (.int _ _) (.int _ _) (.str _) (.str _)
theorem en8 (d:bf9):∀ c∈d.cs,Bnd 0 c:=al2 (.int _ _) (.int _ _)
theorem bw8 (l:List Job):Bnd 0 (cj5 l):=.aa3 _ fun e he c hc=>by
 obtain ⟨d,_,rfl⟩:=List.mem_map.1 he; exact fw9 d c hc
theorem bj5 (l:List bf9):Bnd 0 (bi5 l):=.aa3 _ fun e he c hc=>by
 obtain ⟨d,_,rfl⟩:=List.mem_map.1 he; exact en8 d c hc
theorem gn9 (d:Job):Bnd 0 (.agg d.cs):=.agg _ (fw9 d)
theorem dv3 (d:bf9):Bnd 0 (.agg d.cs):=.agg _ (en8 d)
theorem bw9 (xs:List Int)(g:Nat)(first cap:List IV)(q:Int→Bool)(hn:xs.length<2^62)(hok:okF Tryz.prog g=true)
  (hq:∀ x∈xs,PC Tryz.prog EE g (first++[IV.int .i64 x]++cap) (.bool (q x))):PC Tryz.prog EE 152 [.aa3 (xs.map Md.ag3),.func (.func g) first cap] (.int .i64 (ai3 q xs 0)):=by
 refine an7 fok152 (nZ rfl) fun σ=>?_
 simp only[ic152,go_sem];refine ab3 noT (fun i fr s=>s=σ∧fr=[(0,.aa3 (xs.map Md.ag3)),(1,.func (.func g) first cap),(7,.int .i64 xs.length),(8,.int .i64 i)]∧ai3 q xs 0=ai3 q (xs.drop i) i) xs.length ⟨rfl,rfl,rfl⟩ ?_;rintro i fr s hi ⟨rfl,rfl,hf⟩;by_cases hlt:i<xs.length
 ·obtain ⟨x,ha,_,hdr,hget,_⟩:=af8 xs i hlt;have c1:(i:Int)<xs.length:=by omega
  have c2:(0:Int)≤i:=by omega
  have w1:=ad6 (i:=i) (by omega);rw[hdr] at hf;simp only[go_sem,c1,c2,hget,Md.ag3];refine am8 hok (eb1 (hq x ha)) ?_;rintro v s ⟨rfl,rfl⟩;refine ⟨Nat.le_refl _,?_⟩
  cases hqe:q x with
  | true=>simp only[go_sem,hf,ai3,hqe,and_self]
  | false=>
   simp only[go_sem,w1];exact ⟨hlt,by rw[hf]; simp only[ai3,hqe,Bool.false_eq_true,if_false,Int.natCast_add,Int.natCast_one]⟩
 ·have hi':i=xs.length:=by omega
  subst hi';have c1:¬ (xs.length:Int)<xs.length:=by omega
  rw[List.drop_length] at hf;simp only[go_sem,c1,hf,ai3,and_self]
theorem fx1 (xs:List Int)(g:Nat)(first cap:List IV)(q:Int→Bool)(hn:xs.length<2^62)(hok:okF Tryz.prog g=true)
  (hq:∀ x∈xs,PC Tryz.prog EE g (first++[IV.int .i64 x]++cap) (.bool (q x))):PC Tryz.prog EE 163 [.aa3 (xs.map Md.ag3),.func (.func g) first cap] (.bool (xs.any q)):=by
 refine an7 fok163 (nZ rfl) fun σ=>?_
 simp only[ic163,go_sem]
 first|refine aa5 fok152 (bw9 xs g first cap q hn hok hq) ?_|refine aa6 (bw9 xs g first cap q hn hok hq) ?_
 simp only[go_sem,at7,and_self]
theorem dv4 (xs:List Job)(g:Nat)(first cap:List IV)(q:Job→Bool)(hn:xs.length<2^62)(hok:okF Tryz.prog g=true)
  (hq:∀ x∈xs,PC Tryz.prog EE g (first++[IV.agg (Job.cs x)]++cap) (.bool (q x))):PC Tryz.prog EE 204 [.aa3 (xs.map Job.cs),.func (.func g) first cap] (.int .i64 (ai3 q xs 0)):=by
 refine an7 fok204 (nZ rfl) fun σ=>?_
 simp only[ic204,go_sem];refine ab3 noT (fun i fr s=>s=σ∧fr=[(0,.aa3 (xs.map Job.cs)),(1,.func (.func g) first cap),(7,.int .i64 xs.length),(8,.int .i64 i)]∧ai3 q xs 0=ai3 q (xs.drop i) i) xs.length ⟨rfl,rfl,rfl⟩ ?_;rintro i fr s hi ⟨rfl,rfl,hf⟩;by_cases hlt:i<xs.length
 ·obtain ⟨x,ha,_,hdr,hget,_⟩:=af8 xs i hlt;have c1:(i:Int)<xs.length:=by omega
  have c2:(0:Int)≤i:=by omega
  have w1:=ad6 (i:=i) (by omega);rw[hdr] at hf;simp only[go_sem,c1,c2,hget,fw8,gn8,bw7];refine am8 hok (eb1 (hq x ha)) ?_;rintro v s ⟨rfl,rfl⟩;refine ⟨Nat.le_refl _,?_⟩
  cases hqe:q x with
  | true=>simp only[go_sem,hf,ai3,hqe,and_self]
  | false=>
   simp only[go_sem,w1];exact ⟨hlt,by rw[hf]; simp only[ai3,hqe,Bool.false_eq_true,if_false,Int.natCast_add,Int.natCast_one]⟩
 ·have hi':i=xs.length:=by omega
  subst hi';have c1:¬ (xs.length:Int)<xs.length:=by omega
  rw[List.drop_length] at hf;simp only[go_sem,c1,hf,ai3,and_self]
theorem fx2 (xs:List Job)(g:Nat)(first cap:List IV)(q:Job→Bool)(hn:xs.length<2^62)(hok:okF Tryz.prog g=true)
  (hq:∀ x∈xs,PC Tryz.prog EE g (first++[IV.agg (Job.cs x)]++cap) (.bool (q x))):PC Tryz.prog EE 125 [.aa3 (xs.map Job.cs),.func (.func g) first cap] (.bool (xs.any q)):=by
 refine an7 fok125 (nZ rfl) fun σ=>?_
 simp only[ic125,go_sem]
 first|refine aa5 fok204 (dv4 xs g first cap q hn hok hq) ?_|refine aa6 (dv4 xs g first cap q hn hok hq) ?_
 simp only[go_sem,at7,and_self]
theorem de7 (xs:List bf9)(g:Nat)(first cap:List IV)(q:bf9→Bool)(hn:xs.length<2^62)(hok:okF Tryz.prog g=true)
  (hq:∀ x∈xs,PC Tryz.prog EE g (first++[IV.agg (bf9.cs x)]++cap) (.bool (q x))):PC Tryz.prog EE 209 [.aa3 (xs.map bf9.cs),.func (.func g) first cap] (.int .i64 (ai3 q xs 0)):=by
 refine an7 fok209 (nZ rfl) fun σ=>?_
 simp only[ic209,go_sem];refine ab3 noT (fun i fr s=>s=σ∧fr=[(0,.aa3 (xs.map bf9.cs)),(1,.func (.func g) first cap),(7,.int .i64 xs.length),(8,.int .i64 i)]∧ai3 q xs 0=ai3 q (xs.drop i) i) xs.length ⟨rfl,rfl,rfl⟩ ?_;rintro i fr s hi ⟨rfl,rfl,hf⟩;by_cases hlt:i<xs.length
 ·obtain ⟨x,ha,_,hdr,hget,_⟩:=af8 xs i hlt;have c1:(i:Int)<xs.length:=by omega
  have c2:(0:Int)≤i:=by omega
  have w1:=ad6 (i:=i) (by omega);rw[hdr] at hf;simp only[go_sem,c1,c2,hget,dl5,dv2,az1];refine am8 hok (eb1 (hq x ha)) ?_;rintro v s ⟨rfl,rfl⟩;refine ⟨Nat.le_refl _,?_⟩
  cases hqe:q x with
  | true=>simp only[go_sem,hf,ai3,hqe,and_self]
  | false=>
   simp only[go_sem,w1];exact ⟨hlt,by rw[hf]; simp only[ai3,hqe,Bool.false_eq_true,if_false,Int.natCast_add,Int.natCast_one]⟩
 ·have hi':i=xs.length:=by omega
  subst hi';have c1:¬ (xs.length:Int)<xs.length:=by omega
  rw[List.drop_length] at hf;simp only[go_sem,c1,hf,ai3,and_self]
theorem fe8 (xs:List bf9)(g:Nat)(first cap:List IV)(q:bf9→Bool)(hn:xs.length<2^62)(hok:okF Tryz.prog g=true)
  (hq:∀ x∈xs,PC Tryz.prog EE g (first++[IV.agg (bf9.cs x)]++cap) (.bool (q x))):PC Tryz.prog EE 128 [.aa3 (xs.map bf9.cs),.func (.func g) first cap] (.bool (xs.any q)):=by
 refine an7 fok128 (nZ rfl) fun σ=>?_
 simp only[ic128,go_sem]
 first|refine aa5 fok209 (de7 xs g first cap q hn hok hq) ?_|refine aa6 (de7 xs g first cap q hn hok hq) ?_
 simp only[go_sem,at7,and_self]
/-! ### A number,an edit,looked for -/
/-! ### Copies of au3,of am2 -/
theorem ef2 (xs:List Job)(hn:xs.length≤2147483648):PC Tryz.prog EE 211 [.aa3 (xs.map Job.cs)] (.aa3 (xs.map Job.cs)):=by
 cases hx:xs with
 | nil=>
  rw[List.map_nil];refine bt9 ?_ ?_
  ·refine ai1 hE fok211 (nZ rfl) (af4 .aa1) ?_;simp only[ic211,go_sem,ai2];exact .ch1
  ·refine ai1 hE fok211 (nZ rfl) (af4 .ae6) ?_;simp only[ic211,go_sem,ai2];rw[bk6 (by simp only[aa4,if_true]) rfl];simp only[go_sem]
   exact .do7 _ _ _ (by simp only[aa4,if_true]; exact fun h=>(by cases h))
 | cons a as'=>
  have hne:xs.map Job.cs≠[]:=by rw[hx]; exact fun h=>(by cases h)
  have hall:∀ e∈xs.map Job.cs,e.length=6∧e.all IV.leaf=true:=fun e he=>by
   obtain ⟨x,_,rfl⟩:=List.mem_map.1 he;exact ⟨fw8 x,bw7 x⟩
  rw[← hx];refine ai1 hE fok211 (nZ rfl) (af4 (bw8 xs)) ?_;have hnil:∀ d,ck5 (.slice d) (.aa3 (xs.map Job.cs))=some false:=fun d=>by rw[hx]; rfl
  simp only[ic211,go_sem,ai2,hnil];rw[bz2 (by simp only[aa4,if_true]) hne hall (by rw[List.length_map]; exact hn)];simp only[go_sem];refine Grow.frz (esz:=6) (es:=xs.map Job.cs) (.inr ⟨1,by rw[List.length_map],by simp only[aa4,if_true],Nat.lt_succ_self _⟩) (fun x hx=>(hall x hx).1) (fun _ _=>Nat.not_lt_zero _) (an3 (bw8 xs))
theorem dv5 (xs:List bf9)(hn:xs.length≤2147483648):PC Tryz.prog EE 212 [.aa3 (xs.map bf9.cs)] (.aa3 (xs.map bf9.cs)):=by
 cases hx:xs with
 | nil=>
  rw[List.map_nil];refine bt9 ?_ ?_
  ·refine ai1 hE fok212 (nZ rfl) (af4 .aa1) ?_;simp only[ic212,go_sem,ai2];exact .ch1
  ·refine ai1 hE fok212 (nZ rfl) (af4 .ae6) ?_;simp only[ic212,go_sem,ai2];rw[bk6 (by simp only[aa4,if_true]) rfl];simp only[go_sem]
   exact .do7 _ _ _ (by simp only[aa4,if_true]; exact fun h=>(by cases h))
 | cons a as'=>
  have hne:xs.map bf9.cs≠[]:=by rw[hx]; exact fun h=>(by cases h)
  have hall:∀ e∈xs.map bf9.cs,e.length=2∧e.all IV.leaf=true:=fun e he=>by
   obtain ⟨x,_,rfl⟩:=List.mem_map.1 he;exact ⟨dl5 x,az1 x⟩
  rw[← hx];refine ai1 hE fok212 (nZ rfl) (af4 (bj5 xs)) ?_;have hnil:∀ d,ck5 (.slice d) (.aa3 (xs.map bf9.cs))=some false:=fun d=>by rw[hx]; rfl
  simp only[ic212,go_sem,ai2,hnil];rw[bz2 (by simp only[aa4,if_true]) hne hall (by rw[List.length_map]; exact hn)];simp only[go_sem];refine Grow.frz (esz:=2) (es:=xs.map bf9.cs) (.inr ⟨1,by rw[List.length_map],by simp only[aa4,if_true],Nat.lt_succ_self _⟩) (fun x hx=>(hall x hx).1) (fun _ _=>Nat.not_lt_zero _) (an3 (bj5 xs))
structure AOK (a:av6):Prop where
 len:a.l.length≤256
 small:∀ p∈a.l,Pkg.small p
 fit:∀ p∈a.l,p.Fit
 tiny:∀ p∈a.l,p.Tiny
 inst:a.p.inst≤a.l.length
 au3:a.r.au3.length≤64
 am2:a.r.am2.length≤128
 it8:∀ j∈a.r.au3,Dep.small j.dep
 jb9:∀ j∈a.r.au3,1≤j.kind∧j.kind≤4
theorem be7 (a:av6):Bnd 0 a.v:=.ac2 _ fun c hc=>by
 simp only[av6.cs,List.mem_cons,List.not_mem_nil,or_false] at hc;rcases hc with rfl|rfl|rfl|rfl|rfl|rfl|rfl|rfl
 ·exact ar9 _
 ·exact cr6 _
 ·exact .int _ _
 ·exact .bool _
 ·exact bw8 _
 ·exact bj5 _
 ·exact .int _ _
 ·exact ax2 _
theorem as3 {d:TypeId}{c:IV}{cs:List IV}:ck5 (.pointer d) (.ac2 (c::cs))=some false:=rfl
theorem go2 (a:av6)(n:Int):PC Tryz.prog EE 95 [a.v,.int .i64 n] (.bool (a.is n)):=by
 refine ai1 hE fok95 (nZ rfl) (al2 (be7 a) (.int _ _)) ?_;unfold av6.is av6.v av6.cs;have hl:(a.l.map aa2.cs).length=a.l.length:=List.length_map ..;generalize a.l.map aa2.cs=es at *;generalize a.l.length=k at *;by_cases h1:0≤n
 ·by_cases h2:n<(k:Nat)
  ·simp only[ic95,go_sem,as3,h1,h2,hl]; exact af7 rfl
  ·simp only[ic95,go_sem,as3,h1,h2,hl]; exact af7 rfl
 ·simp only[ic95,go_sem,as3,h1]; exact af7 rfl
theorem de8 (a:av6)(n:Int):PC Tryz.prog EE 39 [a.v,.int .i64 n] (.bool (a.fits n)):=by
 refine ai1 hE fok39 (nZ rfl) (al2 (be7 a) (.int _ _)) ?_;have h:=go2 a n;have hf:=hf6 a.r.ao2 (a.pk n).ao2;unfold av6.fits
 cases hi:a.is n with
 | false=>
  rw[hi] at h;unfold av6.v av6.cs at *;simp only[ic39,go_sem]
  first|refine aa5 fok95 (h) ?_|refine aa6 (h) ?_
  simp only[go_sem]; exact af7 rfl
 | true=>
  rw[hi] at h;unfold av6.is at hi;simp only[Bool.and_eq_true,decide_eq_true_eq] at hi;have hl:(a.l.map aa2.cs).length=a.l.length:=List.length_map ..;have c1:n.toNat<a.l.length:=by omega
  have hg:(a.l.map aa2.cs).getD n.toNat []=(a.pk n).cs:=by
   unfold av6.pk;rw[getD_at _ _ c1];simp[List.getD_eq_getElem?_getD,c1]
  have p4:((a.pk n).cs.drop 4).head? = some (.int .u8 (a.pk n).ao2):=rfl;unfold av6.v av6.cs at *;generalize a.pk n=q at *;generalize a.l.map aa2.cs=es at *;have c2:n<(es.length:Nat):=by omega
  simp only[ic39,go_sem]
  first|refine aa5 fok95 (h) ?_|refine aa6 (h) ?_
  simp only[go_sem,hi.1,c2,hg,p4,ak5]
  first|refine aa5 fok96 (hf) ?_|refine aa6 (hf) ?_
  simp only[go_sem];exact af7 rfl
theorem go3 (j:Job):(j.cs.drop 1).take 5=j.dep.cs:=rfl
def dw8 (c:Nat→Bool)(n:Nat):List IV:=(List.range n).map fun j=>.bool (c j)
theorem be8 (c:Nat→Bool)(n:Nat):(dw8 c n).length=n:=by simp[dw8]
theorem fx3:∀ n:Nat,rep [IV.bool false] n=dw8 (fun _=>false) n:=by
 intro n
 have h:∀ m,rep [IV.bool false] m=List.replicate m (.bool false):=by
  intro m
  induction m with
  | zero=>rfl
  | succ m ih=>show [IV.bool false]++rep _ m=_; rw[ih]; rfl
 rw[h];exact List.ext_getElem (by simp[dw8]) fun i h1 h2=>by simp[dw8]
theorem en9 (c:Nat→Bool){n i:Nat}(h:i<(dw8 c n).length):(dw8 c n)[i]=.bool (c i):=by simp[dw8]
theorem go4 (c:Nat→Bool){n j:Nat}(h:j<n)(x:Bool):ao8 (dw8 c n) j [.bool x]=dw8 (fun i=>if i=j then x else c i) n:=by
 refine List.ext_getElem (by rw[ae1 (by rw[be8]; simp only[List.length_singleton]; omega),be8,be8]) fun i h1 h2=>?_
 rw[en9];rw[be8] at h2;unfold ao8;simp only[List.getElem_append,List.length_take,be8,List.getElem_take,List.getElem_drop,List.length_append,List.length_singleton,en9];by_cases e:i=j
 ·subst e;have g1:¬ i<min i n:=by omega
  have g2:i<min i n+1:=by omega
  simp only[g1,g2,dite_false,dite_true,if_true,List.getElem_singleton]
 ·by_cases e2:i<j
  ·have g1:i<min j n:=by omega
   have g2:i<min j n+1:=by omega
   simp only[g1,g2,dite_true,e,if_false]
  ·have g1:¬ i<min j n:=by omega
   have g2:¬ i<min j n+1:=by omega
   have g3:j+1+(i-(min j n+1))=i:=by omega
   simp only[g2,g3,dite_false,e,if_false]
theorem ij7 {pt:PT}{ct:CT}{P:Program}{E:Nat→IV}{e id:Nat}{z:List IV}{x:IX}{fr:Frm}{σ:Store}{K:IV→Store→Prop}:opT pt ct P E (.cv9 e z x) id fr σ K=bx9 (dg3 (x.ev E fr)) fun n=>K (.slice id 0 n e) (σ.put id (.row (rep z n))):=rfl
theorem hn7 {K:Nat→Prop}(n:Nat)(h:n≤2147483648):bx9 (dg3 (.int .i64 (n:Int))) K=K n:=by
 have h1:(0:Int)≤n∧(n:Int)≤2147483648:=by omega
 show bx9 (if 0≤(n:Int)∧(n:Int)≤2147483648 then some ((n:Int).toNat) else none) K=K n;rw[if_pos h1]; rfl
theorem go5 {s:Store}{S:Nat→Prop}{id n:Nat}{c:Nat→Bool}(hid:¬ S id)(ho:s.obj id=some (.row (dw8 c n))):Frz s S (.slice id 0 n 1) (.aa3 (((List.range n).map c).map bp4)):=by
 have hl:(((List.range n).map c).map bp4).length=n:=by simp
 refine .slice id 0 n 1 (dw8 c n) _ hid (.inr ho) hl (by rw[be8]; omega) (fun i hi=>?_) fun i hi j hj=>?_
 ·simp[List.getD_eq_getElem?_getD,hi,bp4]
 ·have hj0:j=0:=by omega
  subst hj0;have e2:((((List.range n).map c).map bp4).getD i []).getD 0 .undef=.bool (c i):=by simp[List.getD_eq_getElem?_getD,hi,bp4]
  have e3:(dw8 c n).getD (0+(i*1+0)) .undef=.bool (c i):=by simp[List.getD_eq_getElem?_getD,hi,dw8]
  rw[e2,e3];exact .keep _ (.bool _)
abbrev dv6 (st:List Bool):IV:=.aa3 (st.map bp4)
def an6 (l:List aa2):IV:=.ac2 [(av5 l).v,.int .i64 l.length]
def aj8 (l:List aa2)(st:List Bool):List IV:=[an6 l,dv6 st]
theorem dv7 (st:List Bool):Bnd 0 (dv6 st):=.aa3 _ fun e he c hc=>by
 obtain ⟨b,_,rfl⟩:=List.mem_map.1 he
 cases hc with
 | head=>exact .bool _
 | tail _ h=>cases h
theorem aw1 (l:List aa2):Bnd 0 (an6 l):=.ac2 _ (al2 (cr6 _) (.int _ _))
theorem dv8 (l:List aa2)(st:List Bool):∀ c∈aj8 l st,Bnd 0 c:=al2 (aw1 l) (dv7 st)
theorem eo1 (l:List aa2)(zs:List Int)(hl:l.length≤256)(hz:zs.length<2^40):PC Tryz.prog EE 220 [an6 l,.aa3 (zs.map Md.ag3)] (.agg (aj8 l (stB l.length zs))):=by
 refine ai1 hE fok220 (nZ rfl) (al2 (aw1 l) (ap3 zs)) ?_;have hnc:(an6 l)=.ac2 [(av5 l).v,.int .i64 l.length]:=rfl;simp only[ic220,go_sem,an6];simp only[ij7,hn7 _ (show l.length≤2147483648 by omega),go_sem];rw[fx3]
 refine ab3 noT (fun i fr t=>∃ c:Nat→Bool,fr=[(0,an6 l),(4,.ptr 0 0),(5,.ptr 2 0),(15,.aa3 (zs.map Md.ag3)),(16,.int .i64 zs.length),(17,.int .i64 (i:Int))]∧2<t.next∧t.obj 0=some (.cells [.ab6,.aa1])∧t.obj 1=some (.row (dw8 c l.length)) ∧
  t.obj 2=some (.cells [an6 l,.slice 1 0 l.length 1])∧∀ j,j<l.length→c j=decide ((j:Int)∈zs.take i)) zs.length ⟨fun _=>false,rfl,by show 2<3; omega,rfl,rfl,rfl,fun j hj=>by simp⟩ ?_
 rintro i fr t hle ⟨c,rfl,hnx,o0,o1,o2,hc⟩;by_cases hlt:i<zs.length
 ·obtain ⟨x,hx,_,hdr,hget,htk⟩:=af8 zs i hlt;have c1:(i:Int)<zs.length:=by omega
  have c2:(0:Int)≤i:=by omega
  have w1:=ad6 (i:=i) (by omega);by_cases q1:0≤x
  ·by_cases q2:x<(l.length:Nat)
   ·have hxn:x.toNat<l.length:=by omega
    have r2:=go4 c hxn true;have r3:x.toNat+1≤(dw8 c l.length).length:=by rw[be8]; omega
    simp only[go_sem,c1,c2,hget,Md.ag3,q1,q2,an6,o2,o1,Nat.zero_add,Nat.mul_one,r2,r3,w1];refine ⟨hlt,fun i=>if i=x.toNat then true else c i,hnx,o0,rfl,fun j hj=>?_⟩
    ·show (if j=x.toNat then true else c j)=_;rw[htk];by_cases e:j=x.toNat
     ·rw[if_pos e];have:(j:Int)=x:=by omega
      simp[this]
     ·rw[if_neg e,hc j hj];have:¬ (j:Int)=x:=by omega
      simp[this]
   ·simp only[go_sem,c1,c2,hget,Md.ag3,q1,q2,an6,w1];refine ⟨hlt,c,hnx,o0,o1,o2,fun j hj=>?_⟩;have:¬ (j:Int)=x:=by omega
    rw[hc j hj,htk]; simp[this]
  ·simp only[go_sem,c1,c2,hget,Md.ag3,q1,w1];refine ⟨hlt,c,hnx,o0,o1,o2,fun j hj=>?_⟩;have:¬ (j:Int)=x:=by omega
   rw[hc j hj,htk]; simp[this]
 ·have hi':i=zs.length:=by omega
  subst hi';have c1:¬ (zs.length:Int)<zs.length:=by omega
  have hst:stB l.length zs=(List.range l.length).map c:=by
   unfold stB;refine List.map_congr_left fun m hm=>?_
   rw[hc m (List.mem_range.1 hm),List.take_length]
  simp only[go_sem,c1,o0,o1,o2];rw[hst];exact ⟨rfl,.il5 (.cons (.keep _ (aw1 l)) (.cons (go5 (Nat.not_lt_zero _) (by rw[aa4,if_neg (by decide)]; exact o1)) .nil))⟩
theorem dv9 {d:Dep}(h:aj7 d=true):Dep.small d:=by
 obtain ⟨h1,h2,h3,h4⟩:=di7 h;exact ⟨h1,h2,by have:=h3.1; omega,by have:=h3.2; omega⟩
theorem ad2 (l:List aa2)(st:List Bool):(aj8 l st).all IV.leaf=true:=rfl
theorem ae3 (l:List aa2)(st:List Bool):(aj8 l st).take 2=aj8 l st:=rfl
theorem ad7 (l:List aa2)(st:List Bool):(aj8 l st).length=2:=rfl
theorem fx4 (l:List aa2)(st:List Bool):((aj8 l st).drop 1).head? = some (dv6 st):=rfl
theorem fx5 (l:List aa2)(st:List Bool):(aj8 l st).head? = some (an6 l):=rfl
theorem bx2 {st:List Bool}{n:Nat}(h:n<st.length):(st.map bp4).getD n []=[.bool (st.getD n false)]:=by simp[List.getD_eq_getElem?_getD,h,bp4]
abbrev fx6 (l:List aa2)(r:aa7):Prop:=∀ st:List Bool,st.length=l.length→PC Tryz.prog EE 221 [.agg (aj8 l st),.agg r.cs] (.bool (r.tr l st))
theorem ak7 (l:List aa2)(st:List Bool):Bnd 0 (.agg (aj8 l st)):=.agg _ (dv8 l st)
theorem de9 (l:List aa2)(st:List Bool):Bnd 0 (.ac2 (aj8 l st)):=.ac2 _ (dv8 l st)
theorem bx3 (r:aa7):Bnd 0 (.ac2 r.cs):=.ac2 _ (dj6 r)
theorem hn8 (d:Dep)(xs:List aa7)(k:Int):((aa7.mk k d xs).cs.drop 1).take 5=d.cs:=by rw[aa7.ao4]; rfl
theorem fx7 (d:Dep)(xs:List aa7)(k:Int):((aa7.mk k d xs).cs.drop 1).length=6:=by rw[aa7.ao4]; rfl
theorem bf7 (d:Dep)(xs:List aa7)(k:Int):((aa7.mk k d xs).cs.drop 6).head? = some (ae7 xs):=by rw[aa7.ao4]; rfl
theorem bx4 (d:Dep)(xs:List aa7)(k:Int):(aa7.mk k d xs).cs.head? = some (.int .u8 k):=by rw[aa7.ao4]; rfl
theorem dw1 {xs:List aa7}{n:Nat}(h:n<xs.length):(xs.map aa7.cs).getD n []=(xs[n]).cs:=by simp[List.getD_eq_getElem?_getD,h]
theorem go6 (l:List aa2)(st:List Bool)(n:Nat)(h:n<st.length):PC Tryz.prog EE 322 [.int .i64 n,.ac2 (aj8 l st)] (.bool (st.getD n false)):=by
 refine ai1 hE fok322 (nZ rfl) (al2 (.int _ _) (de9 l st)) ?_;have c1:(n:Int)<st.length:=by omega
 have c2:(0:Int)≤n:=by omega
 have g:=bx2 h;simp only[ic322,go_sem,ad7,fx4,c1,c2,g];exact af7 rfl
theorem hn9 (l:List aa2)(hl:l.length≤256)(hs:∀ p∈l,Pkg.small p)(st:List Bool)(hst:st.length=l.length)(d:Dep)(hd:aj7 d=true) :
  PC Tryz.prog EE 283 [.agg (aj8 l st),.agg (aa7.mk 1 d []).cs] (.bool ((an2 l d).any fun n=>st.getD n.toNat false)):=by
 refine ai1 hE fok283 (nZ rfl) (al2 (ak7 l st) (ah1 _)) ?_;have h1:=cs3 l d (by omega) hs (dv9 hd)
 have h2:=fx1 (an2 l d) 322 [] [.ac2 (aj8 l st)] (fun n=>st.getD n.toNat false) (by have:=dd2 (fun p=>provides p d) l; unfold an2; omega) fok322.1 fun x hx=>by
  obtain ⟨m,rfl,hm⟩:=numsOf_at hx;rw[Int.toNat_natCast];exact go6 l st m (by omega)
 have ht:an6 l=.ac2 [(av5 l).v,.int .i64 l.length]:=rfl;have h7:=ab7 (.mk 1 d []);simp only[ic283,go_sem,ad7,ad2,fx5,ab9,h7,hn8,fx7,ht]
 first|refine aa5 fok257 (h1) ?_|refine aa6 (h1) ?_
 simp only[go_sem,ad7,ad2]
 first|refine aa5 fok163 (h2) ?_|refine aa6 (h2) ?_
 simp only[go_sem];exact af7 rfl
theorem ho5 (l:List aa2)(st:List Bool)(hst:st.length=l.length)(x:aa7)(hx:fx6 l x):PC Tryz.prog EE 323 [.agg x.cs,.ac2 (aj8 l st)] (.bool !(x.tr l st)):=by
 refine ai1 hE fok323 (nZ rfl) (al2 (ah1 _) (de9 l st)) ?_;have h:=hx st hst;simp only[ic323,go_sem,ad7,ae3,ad2,ab9,ac9,ab7]
 first|refine aa5 fok221 (h) ?_|refine aa6 (h) ?_
 simp only[go_sem];exact af7 rfl
theorem gu2 (l:List aa2)(st:List Bool)(hst:st.length=l.length)(k:Int)(d:Dep)(xs:List aa7)(hn:xs.length<2^62)(hx:∀ x∈xs,fx6 l x):PC Tryz.prog EE 284 [.agg (aj8 l st),.agg (aa7.mk k d xs).cs] (.bool ((aa7.trs l xs).all fun f=>f st)):=by
 refine ai1 hE fok284 (nZ rfl) (al2 (ak7 l st) (ah1 _)) ?_;have h:=bo5 xs 323 [] [.ac2 (aj8 l st)] (fun x=>!(x.tr l st)) hn fok323.1 fun x hm=>ho5 l st hst x (hx x hm)
 have e:(aa7.trs l xs).all (fun f=>f st)=!xs.any fun x=>!(x.tr l st):=by
  rw[aa7.di8,List.all_map,List.not_any_eq_all_not];congr 1; funext x; simp
 have h7:=ab7 (.mk k d xs);rw[e];simp only[ic284,go_sem,ad7,ad2,ab9,h7,bf7]
 first|refine aa5 fok140 (h) ?_|refine aa6 (h) ?_
 simp only[go_sem];exact af7 rfl
theorem ij8 (l:List aa2)(st:List Bool)(hst:st.length=l.length)(k:Int)(d:Dep)(xs:List aa7)(hn:xs.length<2^62)(hx:∀ x∈xs,fx6 l x):PC Tryz.prog EE 285 [.agg (aj8 l st),.agg (aa7.mk k d xs).cs] (.bool ((aa7.trs l xs).any fun f=>f st)):=by
 refine ai1 hE fok285 (nZ rfl) (al2 (ak7 l st) (ah1 _)) ?_;have h:=bo5 xs 221 [.agg (aj8 l st)] [] (fun x=>x.tr l st) hn fok221.1 fun x hm=>hx x hm st hst
 have e:(aa7.trs l xs).any (fun f=>f st)=xs.any fun x=>x.tr l st:=by
  rw[aa7.di8,List.any_map]; rfl
 have h7:=ab7 (.mk k d xs);rw[e];simp only[ic285,go_sem,ad7,ad2,ae3,ab9,h7,bf7]
 first|refine aa5 fok140 (h) ?_|refine aa6 (h) ?_
 simp only[go_sem];exact af7 rfl
theorem dw2 {l:List aa2}{xs:List aa7}{n:Nat}(h:n<xs.length)(st:List Bool):((aa7.trs l xs).getD n ff) st=(xs[n]).tr l st:=by rw[aa7.di8]; simp[List.getD_eq_getElem?_getD,h]
theorem fx8 (l:List aa2)(xs:List aa7):(aa7.trs l xs).length=xs.length:=by rw[aa7.di8,List.length_map]
theorem ij9 (l:List aa2)(st:List Bool)(hst:st.length=l.length)(k:Int)(d:Dep)(xs:List aa7)(hn:2≤xs.length)(hx:∀ x∈xs,fx6 l x):PC Tryz.prog EE 286 [.agg (aj8 l st),.agg (aa7.mk k d xs).cs]
  (.bool (if ((aa7.trs l xs).getD 1 ff) st then ((aa7.trs l xs).getD 0 ff) st else decide ((aa7.trs l xs).length<3)||((aa7.trs l xs).getD 2 ff) st)):=by
 refine ai1 hE fok286 (nZ rfl) (al2 (ak7 l st) (ah1 _)) ?_;have n0:0<xs.length:=by omega
 have n1:1<xs.length:=by omega
 have h0:=hx _ (List.getElem_mem n0) st hst;have h1:=hx _ (List.getElem_mem n1) st hst;have g0:=dw1 n0;have g1:=dw1 n1;have c0:(0:Int)<xs.length:=by omega
 have c1:(1:Int)<xs.length:=by omega
 have h7:=ab7 (.mk k d xs);rw[dw2 n1,dw2 n0,fx8];simp only[ic286,go_sem,ad7,ad2,ae3,ab9,h7,bf7,c0,c1,g0,g1,ac9,ab7]
 first|refine aa5 fok221 (h1) ?_|refine aa6 (h1) ?_
 cases xs[1].tr l st with
 | true=>
  simp only[go_sem,ad7,ad2,ae3,ab9,h7,bf7,c0,c1,g0,g1,ac9,ab7]
  first|refine aa5 fok221 (h0) ?_|refine aa6 (h0) ?_
  simp only[go_sem]
  exact af7 rfl
 | false=>
  by_cases q:xs.length<3
  ·have q':(xs.length:Int)<3:=by omega
   simp only[go_sem,ad7,ad2,ae3,ab9,h7,bf7,q'];exact af7 (by simp[q])
  ·have q':¬ (xs.length:Int)<3:=by omega
   have n2:2<xs.length:=by omega
   have h2:=hx _ (List.getElem_mem n2) st hst;have g2:=dw1 n2;have c2:(2:Int)<xs.length:=by omega
   rw[dw2 n2];simp only[go_sem,ad7,ad2,ae3,ab9,h7,bf7,q',c2,g2,ac9,ab7]
   first|refine aa5 fok221 (h2) ?_|refine aa6 (h2) ?_
   simp only[go_sem];exact af7 (by simp[q])
theorem fx9 (l:List aa2)(st:List Bool)(hst:st.length=l.length)(k:Int)(d:Dep)(xs:List aa7)(hn:2≤xs.length)(hn2:xs.length<2^31)(hx:∀ x∈xs,fx6 l x):PC Tryz.prog EE 287 [.agg (aj8 l st),.agg (aa7.mk k d xs).cs]
  (.bool (if ((aa7.trs l xs).getD 1 ff) st then decide ((aa7.trs l xs).length=3)&&((aa7.trs l xs).getD 2 ff) st else ((aa7.trs l xs).getD 0 ff) st)):=by
 refine ai1 hE fok287 (nZ rfl) (al2 (ak7 l st) (ah1 _)) ?_;have n0:0<xs.length:=by omega
 have n1:1<xs.length:=by omega
 have h0:=hx _ (List.getElem_mem n0) st hst;have h1:=hx _ (List.getElem_mem n1) st hst;have g0:=dw1 n0;have g1:=dw1 n1;have c0:(0:Int)<xs.length:=by omega
 have c1:(1:Int)<xs.length:=by omega
 have h7:=ab7 (.mk k d xs);rw[dw2 n1,dw2 n0,fx8];simp only[ic287,go_sem,ad7,ad2,ae3,ab9,h7,bf7,c0,c1,g0,g1,ac9,ab7]
 first|refine aa5 fok221 (h1) ?_|refine aa6 (h1) ?_
 cases xs[1].tr l st with
 | false=>
  simp only[go_sem,ad7,ad2,ae3,ab9,h7,bf7,c0,c1,g0,g1,ac9,ab7]
  first|refine aa5 fok221 (h0) ?_|refine aa6 (h0) ?_
  simp only[go_sem]
  exact af7 rfl
 | true=>
  by_cases q:xs.length=3
  ·have q':(xs.length:Int)=3:=by omega
   have n2:2<xs.length:=by omega
   have h2:=hx _ (List.getElem_mem n2) st hst;have g2:=dw1 n2;have c2:(2:Int)<3:=by omega
   rw[dw2 n2];simp only[go_sem,ad7,ad2,ae3,ab9,h7,bf7,q',c2,g2,ac9,ab7]
   first|refine aa5 fok221 (h2) ?_|refine aa6 (h2) ?_
   simp only[go_sem];exact af7 (by simp[q])
  ·have q':¬ (xs.length:Int)=3:=by omega
   simp only[go_sem,ad7,ad2,ae3,ab9,h7,bf7,q'];exact af7 (by simp[q])
end Go.Id.Tryz
