/- ModelNothing: the law walked. Conditions: sizes that fit. -/
import Derived.Test.YtebfbbjghhagbaaGreatDoorTMMS
import Derived.Test.YtebfbbjghhagbaaGreatDoorTMSJ
import Derived.Test.YtebfbbjghhagbaaGreatDoorTMPD
import Derived.Test.YtebfbbjghhagbaaGreatDoorMv
import Derived.Test.YtebfbbjghhagbaaGreatDoorFwZb
import Derived.Test.YtebfbbjghhagbaaGreatDoorRows
set_option linter.all false
namespace Go.Id.Tryz
open Go Go.Id Go.Proofs Go.Shelf Go.Id.Md
open Go.Id.Md.ac5 (inS less)
set_option maxRecDepth 100000
set_option maxHeartbeats 1000000
theorem ex1 (r:Req):r.cs.length=5:=rfl
theorem ed6 (l:List Itm){i:Nat}(h:i<l.length):(l.map Itm.cs).getD i []=l[i].cs:=ca3 l h
theorem fp7 (l:List Itm)(σ:Store):cl8 0 σ (am7 l)=some (.int .i64 l.length):=by unfold am7; simp only[go_sem]
theorem be6 (a:ac5):a.mv.cs=[a.mv]:=rfl
theorem av2 (a:ac5):a.mv.leaf=true:=rfl
theorem he9 {repos:List al7}{inst:List aa3}{r:Req}(hI:hf8 repos inst)(hR:dv2 r):em4 repos inst r=fo2\/∃ p:Pool,bt2 repos inst=.inl p/\AOK ⟨p,r⟩/\(ac5.mk p r).items.length<2^30/\p.inst=inst.length /\
  em4 repos inst r=.tuple [(ac5.mk p r).mv,(ac5.mk p r).v,.ab8 (az6 (ev1 repos inst)::.int .i64 p.inst::r.cs),.bool true,.bool false]:=by
 unfold em4
 cases hn:bt2 repos inst with
 | inr e=>exact .inl rfl
 | inl p=>
  by_cases he:ak8 r p.inst=0
  ·exact .inr ⟨p,rfl,aok hI hn hR he,(ev2 hI hn hR he).1,(cp8 hn).2,by simp only[he,if_true]⟩
  ·exact .inl (by simp only[he,if_false])
set_option maxHeartbeats 1000000
def jb7 (s:Store)(lo:Nat)(v:IV)(xs:List Itm):Prop :=
 (v=.aa1/\xs=[])\/∃ id cs,lo<=id/\id<s.next/\v=.slice id 0 xs.length 3/\s.obj id=some (.row cs)/\cs.take (xs.length*3)=(xs.map Itm.cs).flatten/\xs.length*3<=cs.length
theorem cl5 (xs:List Itm):∀ e∈xs.map Itm.cs,e.length=3:=fun e he=>by
 obtain ⟨x,_,rfl⟩:=List.mem_map.1 he; rfl
theorem hf4 (xs:List Itm):∀ e∈xs.map Itm.cs,e.length=3/\e.all IV.leaf=true:=fun e he=>by
 obtain ⟨x,_,rfl⟩:=List.mem_map.1 he; exact ⟨rfl,rfl⟩
theorem jb7.frz {s:Store}{lo:Nat}{v:IV}{xs:List Itm}{S:Nat->Prop}(h:jb7 s lo v xs)(hS:∀ i,lo<=i->¬ S i):Frz s S v (am7 xs):=by
 rcases h with ⟨rfl,rfl⟩|⟨id,cs,h1,h2,rfl,h4,h5,h6⟩
 ·exact .bu6
 ·refine .slice id 0 xs.length 3 cs (xs.map Itm.cs) (hS id h1) (.inr h4) (by rw[List.length_map]) (by omega) (fun i hi=>cl5 xs _ (ac9 _ (by rw[List.length_map]; exact hi))) fun i hi j hj=>?_
  have e:cs.getD (0+(i*3+j)) .undef=((xs.map Itm.cs).getD i []).getD j .undef:=by
   rw[<- dy4 (cl5 xs) i j (by rw[List.length_map]; exact hi) hj,<- h5,Nat.zero_add,List.getD_eq_getElem?_getD,List.getD_eq_getElem?_getD,List.getElem?_take,if_pos (by omega)]
  rw[e,ca3 xs hi];have hj':j=0\/j=1\/j=2:=by omega
  rcases hj' with rfl|rfl|rfl<;>exact .keep _ (.int _ _)
theorem fp8 (xs:List Itm)(hn:xs.length<=2147483648)(σ:Store):C Tryz.prog EE 43 [am7 xs] σ (fun v s=>Kept σ s/\((v=.aa1/\xs=[])\/∃ id,σ.next<=id/\id<s.next/\v=.slice id 0 xs.length 3/\s.obj id=some (.row (xs.map Itm.cs).flatten))):=by
 cases hx:xs with
 | nil=>
  refine dp3 ?_ ?_
  ·refine C_f fok43 (nZ rfl) ?_;simp only[ic43,go_sem,ai2];exact ⟨Kept.refl σ,by first|exact .inl ⟨rfl,rfl⟩|exact .inl trivial⟩
  ·refine C_f fok43 (nZ rfl) ?_;simp only[ic43,go_sem,ai2];rw[bd2 (by simp only[aa7,if_true]) rfl];simp only[go_sem];refine ⟨⟨by show σ.next<=σ.next+2; omega,fun i hi=>?_⟩,.inr ⟨σ.next,Nat.le_refl _,by show σ.next<σ.next+2; omega,rfl,by simp only[if_true]; rfl⟩⟩;have:¬ i=σ.next:=by omega
   simp only[aa7,this,if_false]
 | cons a as'=>
  have hne:xs.map Itm.cs≠[]:=by rw[hx]; exact fun h=>(by cases h)
  rw[<- hx];refine C_f fok43 (nZ rfl) ?_;have hnil:∀ d,bt8 (.slice d) (am7 xs)=some false:=fun d=>by rw[hx]; rfl
  simp only[ic43,go_sem,ai2,hnil];unfold am7;rw[bu9 (by simp only[aa7,if_true]) hne (hf4 xs) (by rw[List.length_map]; exact hn)];simp only[go_sem];refine ⟨⟨by show σ.next<=σ.next+_; omega,fun i hi=>?_⟩,.inr ⟨σ.next+1,by omega,by show σ.next+1<σ.next+_; omega,by first|rfl|rw[List.length_map],by simp only[if_true]⟩⟩;have h1:¬ i=σ.next:=by omega
  have h2:¬ i=σ.next+1:=by omega
  simp only[aa7,Store.kill,h1,h2,if_false]
theorem hf5 (a:ac5)(hl:a.items.length<=2147483648)(σ:Store):C Tryz.prog EE 11 [a.mv] σ (fun v s=>Kept σ s/\((v=.aa1/\a.items=[])\/∃ id,σ.next<=id/\id<s.next/\v=.slice id 0 a.items.length 3/\s.obj id=some (.row (a.items.map Itm.cs).flatten))):=by
 refine C_f fok11 (nZ rfl) ?_;have h:=fp8 a.items hl;have hnl:∀ d:TypeId,bt8 (.pointer d) (.ab8 a.mcs)=some false:=fun _=>rfl
 unfold ac5.mv at *;simp only[ic11,go_sem,hnl,if6];refine af1 fok43 (h _) ?_;rintro v s ⟨k,hv⟩;refine ⟨k.next,?_⟩;simp only[go_sem];exact ⟨⟨k.next,k.obj⟩,hv⟩
theorem ii5 {id n k:Nat}(h:k<=n):cz4 3 (some (.int .i64 (k:Int))) none (.slice id 0 n 3)=some (.slice id (k*3) (n-k) 3):=by
 have e:(0:Int)<=k:=by omega
 simp[cz4,co9,ep8,e,h]
theorem ii6 {id n k:Nat}(h:k<=n):cz4 3 none (some (.int .i64 (k:Int))) (.slice id 0 n 3)=some (.slice id 0 k 3):=by
 have e:(0:Int)<=k:=by omega
 simp[cz4,co9,ep8,e,h]
theorem hf6 {σ:Store}{id k n:Nat}{cs z:List IV}(ho:σ.obj id=some (.row cs))(hz:z.all IV.leaf=true)(h1:k<n)(h2:n*3<=cs.length):fc1 σ 3 z (.slice id (k*3) (n-k) 3)=some (σ.put id (.row (ay1 cs (k*3) (rep z (n-k))))):=by
 have e1:¬ n-k=0:=by omega
 have e2:k*3+(n-k)*3<=cs.length:=by omega
 unfold fc1;simp only[e1,if_false,ho,e2,true_and,hz];rfl
theorem ii7 {n:Nat}{v:List IV}(hv:v.length=n):∀ {L:List (List IV)} {i:Nat},(∀ e∈L,e.length=n)->i<L.length->ay1 L.flatten (i*n) v=(L.set i v).flatten:=by
 intro L
 induction L with
 | nil=>intro i _ hi; exact absurd hi (Nat.not_lt_zero _)
 | cons e es ih=>
  intro i hl hi;have he:=hl e (List.mem_cons_self ..)
  cases i with
  | zero=>
   have:e++es.flatten=(e::es).flatten:=rfl;simp only[List.set_cons_zero,List.flatten_cons,Nat.zero_mul];unfold ay1
   rw[List.take_zero,List.nil_append,Nat.zero_add,hv,List.drop_append_of_le_length (by omega),List.drop_of_length_le (by omega),List.nil_append]
  | succ i=>
   rw[List.set_cons_succ,List.flatten_cons,List.flatten_cons];have e2:(i+1)*n=e.length+i*n:=by rw[he,Nat.add_mul]; omega
   rw[e2,fc9,ih (fun x hx=>hl x (List.mem_cons_of_mem _ hx)) (by simpa using hi)]
theorem ii8 {L:List (List IV)}(h:∀ e∈L,e.length=3){i:Nat}(hi:i<L.length){v:List IV}(hv:L.getD i []=v):(L.flatten.drop (i*3)).take 3=v/\3<=(L.flatten.drop (i*3)).length:=by
 have h2:=am4 h;refine ⟨by rw[av5 h i hi,hv],?_⟩;rw[List.length_drop,h2]; omega
theorem cm8 {q:Itm->Bool}{l:List Itm}(h:∀ x∈l,q x=false):(l.filter fun x=>!q x)=l:=List.filter_eq_self.2 fun x hx=>by rw[h x hx]; rfl
theorem gk3 {σ:Store}{id:Nat}{xs:List Itm}(ho:σ.obj id=some (.row (xs.map Itm.cs).flatten))(hid:id<σ.next):bt7 σ 0 (.slice id 0 xs.length 3) (am7 xs):=
 jb7.frz (lo:=0) (.inr ⟨id,_,Nat.zero_le _,hid,rfl,ho,by rw[List.take_of_length_le]; rw[am4 (cl5 xs),List.length_map]; exact Nat.le_refl _,by rw[am4 (cl5 xs),List.length_map]; exact Nat.le_refl _⟩) fun i _=>Nat.not_lt_zero _
theorem hf7 {σ:Store}{id g:Nat}{cap cap':List IV}{xs:List Itm}(q:Itm->Bool)(hz:xs.length<2^40)(ho:σ.obj id=some (.row (xs.map Itm.cs).flatten))(hid:id<σ.next)
  (hok:okF Tryz.prog g=true) (hcl:cap'.length=cap.length) (hcap:∀ τ:Store,(∀ i,i<σ.next->i≠id->τ.obj i=σ.obj i)->∀ j,j<cap.length->bt7 τ 0 (cap.getD j .undef) (cap'.getD j .undef)) (hq:∀ z∈xs,PC Tryz.prog EE g (.agg z.cs::cap') (.bool (q z))) :
  C Tryz.prog EE 51 [.slice id 0 xs.length 3,.func (.func g) [] cap] σ (fun v s=>σ.next<=s.next/\(∀ i,i<σ.next->i≠id->s.obj i=σ.obj i) /\
   ∃ cs,v=.slice id 0 (xs.filter fun x=>!q x).length 3/\s.obj id=some (.row cs)/\cs.take ((xs.filter fun x=>!q x).length*3)=((xs.filter fun x=>!q x).map Itm.cs).flatten/\(xs.filter fun x=>!q x).length*3<=cs.length):=by
 refine C_f fok51 (nZ rfl) ?_;simp only[ic51,go_sem]
 have hI:=bf2 (σ:=σ) (args:=[.slice id 0 xs.length 3,.func (.func g) [] cap]) (args':=[am7 xs,.func (.func g) [] cap']) hE rfl (fun i hi=>by
  match i,hi with
  | 0,_=>exact gk3 ho hid
  | 1,_=>exact .func _ _ _ _ _ rfl hcl (fun j hj=>absurd hj (Nat.not_lt_zero _)) (hcap σ fun _ _ _=>rfl)) (by simp[IV.plain]) (ca1 xs g [] cap' q (by omega) hok hq)
 refine af1 fok104 hI ?_;rintro v s ⟨rfl,rfl⟩;refine ⟨Nat.le_refl _,?_⟩;have fl:=am4 (cl5 xs);rw[List.length_map] at fl;have fshift:ah5 q xs 0=-1/\(∀ x∈xs,q x=false)\/∃ k,∃ h:k<xs.length,ah5 q xs 0=0+k/\q xs[k]=true/\∀ x∈xs.take k,q x=false:=cy8 q xs 0;rcases fshift with ⟨h1,h2⟩|⟨i0,hi0,h1,h2,h3⟩
 ·simp only[go_sem,h1,cm8 h2];exact ⟨Nat.le_refl _,fun _ _ _=>trivial,_,ho,by rw[List.take_of_length_le (by omega)],by omega⟩
 have h1':ah5 q xs 0=(i0:Int):=by rw[h1]; omega
 have d1:¬ (i0:Int)=-1:=by omega
 have w0:=ad4 (i:=i0) (by omega);simp only[go_sem,h1',d1,w0]
 refine ab7 noT (fun j fr t=>∃ (k:Nat) (L:List (List IV)),fr=[(0,.slice id 0 xs.length 3),(1,.func (.func g) [] cap),(5,.int .i64 (k:Int)),(6,.int .i64 ((i0+1+j:Nat):Int))] /\
  (s.next<=t.next/\∀ q,q<s.next->q≠id->t.obj q=s.obj q)/\t.obj id=some (.row L.flatten)/\(∀ e∈L,e.length=3)/\L.length=xs.length/\k<=i0+j/\i0+1+j<=xs.length/\L.take k=((xs.take (i0+1+j)).filter fun x=>!q x).map Itm.cs/\k=((xs.take (i0+1+j)).filter fun x=>!q x).length /\
  ∀ (x:Nat) (h:x<xs.length),i0+j<x->L.getD x []=xs[x].cs) (xs.length-(i0+1)) ?_ ?_
 ·have e:((xs.take (i0+1)).filter fun x=>!q x)=xs.take i0:=by
   rw[List.take_add_one,List.getElem?_eq_getElem hi0,List.filter_append,cm8 h3];simp[h2]
  refine ⟨i0,xs.map Itm.cs,rfl,⟨Nat.le_refl _,fun _ _ _=>rfl⟩,ho,cl5 xs,List.length_map ..,by omega,by omega,?_,?_,fun x h _=>ca3 xs h⟩
  ·rw[Nat.add_zero,e,List.map_take]
  ·rw[Nat.add_zero,e,List.length_take]; omega
 rintro j fr t hj ⟨k,L,rfl,⟨un,uo⟩,hoc,hL,hLl,hk1,hk2,hk4,hk3,hcs⟩;have hLf:=am4 hL;by_cases hlt:j<xs.length-(i0+1)
 ·have e1:((i0+1+j:Nat):Int)<xs.length:=by omega
  have e2:(0:Int)<=((i0+1+j:Nat):Int):=by omega
  have hx:i0+1+j<xs.length:=by omega
  obtain ⟨g1,g2⟩:=ii8 hL (by rw[hLl]; exact hx) (hcs (i0+1+j) hx (by omega));have w1:=ad4 (i:=i0+1+j) (by omega);have w2:=ad4 (i:=k) (by omega);have hqz:=hq _ (List.getElem_mem hx);have e3:(0:Int)<=(k:Int):=by omega
  have e4:(k:Int)<xs.length:=by omega
  have e5:k*3+3<=L.flatten.length:=by rw[hLf,hLl]; omega
  have htk:(xs.take (i0+1+j+1)).filter (fun x=>!q x)=(xs.take (i0+1+j)).filter (fun x=>!q x)++if q xs[i0+1+j] then [] else [xs[i0+1+j]]:=by
   rw[List.take_add_one,List.getElem?_eq_getElem hx,List.filter_append];congr 1;simp only[Option.toList,List.filter_cons,List.filter_nil];cases q xs[i0+1+j]<;>rfl
  simp only[go_sem,e1,e2,hoc,g1,g2,Int.toNat_natCast,Nat.zero_add,ag4,af4,af3];have hidt:¬ id=t.next:=by omega
  generalize hT:Store.mk (t.next+1) _=T;have Tn:T.next=t.next+1:=by rw[<- hT]
  have Ti:T.obj id=some (.row L.flatten):=by rw[<- hT]; simp only[aa7,hidt,if_false]; exact hoc
  have Tc:T.obj t.next=some (.cells xs[i0+1+j].cs):=by rw[<- hT]; simp only[aa7,if_true]
  have To:∀ i,i<s.next->i≠id->T.obj i=s.obj i:=fun i h1 h2=>by
   have:¬ i=t.next:=by omega
   rw[<- hT]; simp only[aa7,this,if_false]; exact uo i h1 h2
  refine an1 hok (bf2 (args':=.agg xs[i0+1+j].cs::cap') hE (by simp only[List.length_cons,hcl]) (fun m hm=>?_) (by simp[IV.plain]) hqz) ?_
  ·cases m with
   | zero=>exact .keep _ (bc2 _)
   | succ m=>exact hcap T To m (by simpa using hm)
  rintro v u ⟨rfl,rfl⟩;refine ⟨Nat.le_refl _,?_⟩
  cases hb:q xs[i0+1+j] with
  | true=>
   rw[hb,if_pos rfl,List.append_nil] at htk;simp only[go_sem,w1]
   exact ⟨hlt,k,L,rfl,⟨by omega,To⟩,Ti,hL,hLl,by omega,by omega,by rw[show i0+1+(j+1)=i0+1+j+1 by omega,htk]; exact hk4,by rw[show i0+1+(j+1)=i0+1+j+1 by omega,htk]; exact hk3,fun x h hx=>hcs x h (by omega)⟩
  | false=>
   rw[hb,if_neg (by simp)] at htk;have hpt:=ii7 (v:=xs[i0+1+j].cs) (ag4 _) hL (i:=k) (by omega);simp only[go_sem,w1,w2,e3,e4,e5,Ti,Tc,hpt,Int.toNat_natCast,Nat.zero_add,ag4,af4,af3];have e6:i0+1+(j+1)=i0+1+j+1:=by omega
   refine ⟨hlt,k+1,L.set k xs[i0+1+j].cs,rfl,⟨by omega,fun q h1 h2=>by rw[if_neg h2]; exact To q h1 h2⟩,rfl,fun e he=>?_,by rw[List.length_set]; exact hLl,by omega,by omega,?_,?_,fun x h hx2=>?_⟩
   ·rcases List.mem_or_eq_of_mem_set he with he|rfl
    ·exact hL e he
    ·rfl
   ·rw[e6,htk,List.map_append,<- hk4,List.take_add_one,List.getElem?_set_self (by omega),List.take_set_of_le (Nat.le_refl _)];rfl
   ·rw[e6,htk,List.length_append,<- hk3]; rfl
   ·have hne:¬ k=x:=by omega
    rw[List.getD_eq_getElem?_getD,List.getElem?_set,if_neg hne,<- List.getD_eq_getElem?_getD];exact hcs x h (by omega)
 ·have hj':i0+1+j=xs.length:=by omega
  have e1:¬ ((i0+1+j:Nat):Int)<xs.length:=by omega
  rw[hj',List.take_length] at hk3 hk4;have hkn:k<xs.length:=by omega
  have hzz:[IV.int .u8 0,.int .i64 0,.int .i64 0].all IV.leaf=true:=rfl;simp only[go_sem,e1,ii5 (show k<=xs.length by omega),ii6 (show k<=xs.length by omega),ij1,hf6 hoc hzz hkn (by rw[hLf,hLl]; exact Nat.le_refl _)];have hrl:(rep [IV.int .u8 0,.int .i64 0,.int .i64 0] (xs.length-k)).length=(xs.length-k)*3:=by rw[aq6]; rfl
  refine ⟨un,fun q h1 hq=>?_,ay1 L.flatten (k*3) (rep [IV.int .u8 0,.int .i64 0,.int .i64 0] (xs.length-k)),by rw[hk3],by simp only[aa7],?_,?_⟩
  ·simp only[if_neg hq]; exact uo q h1 hq
  ·rw[<- hk3,cy4 (by omega),<- hk4];have:=am4 (es:=L.take k) (fun e he=>hL e (List.mem_of_mem_take he));rw[List.length_take,Nat.min_eq_left (by omega)] at this;have hsp:L.flatten=(L.take k).flatten++(L.drop k).flatten:=by rw[<- List.flatten_append,List.take_append_drop]
   rw[hsp,List.take_append_of_le_length (by omega),List.take_of_length_le (by omega)]
  ·rw[ai6 (by rw[hrl]; omega),<- hk3]; omega
theorem gk4 {σ:Store}{g:Nat}{cap cap':List IV}(q:Itm->Bool)(hok:okF Tryz.prog g=true)(hcl:cap'.length=cap.length)(hcap:∀ j,j<cap.length->bt7 σ 0 (cap.getD j .undef) (cap'.getD j .undef)) :
  C Tryz.prog EE 51 [.aa1,.func (.func g) [] cap] σ (im1 .aa1 σ):=by
 refine C_f fok51 (nZ rfl) ?_;simp only[ic51,go_sem]
 have hI:=bf2 (σ:=σ) (args:=[.aa1,.func (.func g) [] cap]) (args':=[am7 [],.func (.func g) [] cap']) hE rfl (fun i hi=>by
  match i,hi with
  | 0,_=>exact .bu6
  | 1,_=>exact .func _ _ _ _ _ rfl hcl (fun j hj=>absurd hj (Nat.not_lt_zero _)) hcap) (by simp[IV.plain]) (ca1 [] g [] cap' q (by decide) hok fun x hx=>by cases hx)
 refine af1 fok104 hI ?_;rintro v s ⟨rfl,rfl⟩;refine ⟨Nat.le_refl _,?_⟩;simp only[ah5,go_sem,Int.reduceNeg];exact ⟨rfl,rfl⟩
theorem fp9 (a:ac5)(hA:AOK a)(st:List Int)(hs:st.length<2^30)(x:Itm):PC Tryz.prog EE 52 [.agg x.cs,.ab8 [a.mv],.ab8 [.aa5 (st.map Md.ah6)]] (.bool (a.holds st x)):=by
 refine ae9 hE fok52 (nZ rfl) (ba2 (bc2 x) (.ab8 _ (ai8 (ao9 a))) (.ab8 _ (ai8 (ag5 st)))) ?_;have h:=bn9 a hA st hs x;simp only[ic52,go_sem,af3,ag4,af4]
 first|refine aa4 fok12 (h) ?_|refine aa2 (h) ?_
 simp only[go_sem];exact ab2 rfl
theorem ed7 (a:ac5)(hA:AOK a)(st:List Int)(hs:st.length<2^30)(hl:a.items.length<2^30)(σ:Store)(sv:IV)(hsl:sv.leaf=true)(hsc:sv.cs=[sv])(hfr:∀ τ:Store,(∀ i,i<σ.next->τ.obj i=σ.obj i)->bt7 τ 0 sv (.aa5 (st.map Md.ah6))) :
  C Tryz.prog EE 13 [a.mv,sv] σ (fun v s=>Kept σ s/\jb7 s σ.next v (a.broken st)):=by
 refine C_f fok13 (nZ rfl) ?_;simp only[ic13,go_sem,be6,av2,hsl,hsc,List.all_cons,List.all_nil,Bool.and_self,List.head?_cons];refine af1 fok11 (hf5 a (by omega) _) ?_;rintro v s ⟨k,hv⟩;refine ⟨k.next,?_⟩;simp only[go_sem];have hb:a.broken st=a.items.filter fun x=>!a.holds st x:=rfl
 have hcF:∀ τ:Store,(∀ i,i<σ.next->τ.obj i=σ.obj i)->∀ j,j<2->bt7 τ 0 ([IV.ab8 [a.mv],.ab8 [sv]].getD j .undef) ([IV.ab8 [a.mv],.ab8 [.aa5 (st.map Md.ah6)]].getD j .undef):=fun τ hτ j hj=>by
  match j,hj with
  | 0,_=>exact .keep _ (.ab8 _ (ai8 (ao9 a)))
  | 1,_=>
   refine .ab8 _ _ rfl fun i hi=>?_
   have:i=0:=by simp only[List.length_singleton] at hi; omega
   subst this;exact hfr τ hτ
 rcases hv with ⟨rfl,h0⟩|⟨id,h1,h2,rfl,h4⟩
 ·refine af1 fok51 (gk4 (cap':=[.ab8 [a.mv],.ab8 [.aa5 (st.map Md.ah6)]]) (a.holds st) fok52.1 rfl (hcF s k.obj)) ?_;rintro v u ⟨rfl,rfl⟩;refine ⟨Nat.le_refl _,?_⟩;simp only[go_sem];exact ⟨k,.inl ⟨rfl,by rw[hb,h0]; rfl⟩⟩
 ·refine af1 fok51 (hf7 (cap':=[.ab8 [a.mv],.ab8 [.aa5 (st.map Md.ah6)]]) (a.holds st) (by omega) h4 h2 fok52.1 rfl (fun τ hτ=>hcF τ fun i hi=>by rw[hτ i (by have:=k.next; omega) (by omega),k.obj i hi]) fun z _=>fp9 a hA st hs z) ?_;rintro v u ⟨un,uo,cs,rfl,ho,ht,hle⟩;refine ⟨un,?_⟩;simp only[go_sem];refine ⟨⟨Nat.le_trans k.next un,fun i hi=>by rw[uo i (by have:=k.next; omega) (by omega),k.obj i hi]⟩,.inr ⟨id,cs,h1,by omega,by rw[hb],ho,by rw[hb]; exact ht,by rw[hb]; exact hle⟩⟩
theorem fq1 (a:ac5)(hA:AOK a)(st:List Int)(hs:st.length<2^30)(hl:a.items.length<2^30):PC Tryz.prog EE 13 [a.mv,.aa5 (st.map Md.ah6)] (am7 (a.broken st)):=
 gb2 fun σ _=>(ed7 a hA st hs hl σ (.aa5 (st.map Md.ah6)) rfl rfl fun τ _=>.keep _ (ag5 st)).mono fun v s ⟨h1,h2⟩=>⟨h1.obj,h1.next,h2.frz fun i hi hl=>Nat.lt_irrefl _ (Nat.lt_of_lt_of_le hl hi)⟩
set_option maxHeartbeats 1000000
theorem fq2 {α:Type}(q:α->Bool)(l:List α)(i:Nat)(h:i<l.length)(hq:q l[i]=true):(l.filter q)[((l.take i).filter q).length]? = some l[i]:=by
 have e:l=l.take i++l[i]::l.drop (i+1):=by rw[<- List.drop_eq_getElem_cons h,List.take_append_drop]
 conv=>lhs; rw[e]
 rw[List.filter_append,List.getElem?_append_right]
 ·have h2:(List.take i (l.take i++l[i]::l.drop (i+1)))=l.take i:=by rw[<- e]
  rw[h2,Nat.sub_self,List.filter_cons,if_pos hq]; rfl
 ·have h2:(List.take i (l.take i++l[i]::l.drop (i+1)))=l.take i:=by rw[<- e]
  rw[h2]; exact Nat.le_refl _
def da9 (st:List Int)(j:Nat):List Int:=(List.range j).flatMap fun i=>[st.getD (st.length-1-i) 0,st.getD (st.length-1-i) 0,-5]
theorem dm3 (st:List Int)(j:Nat):da9 st (j+1)=da9 st j++[st.getD (st.length-1-j) 0,st.getD (st.length-1-j) 0,-5]:=by
 unfold da9; rw[List.range_succ,List.flatMap_append]; simp
theorem ed8 (st:List Int)(j:Nat):(da9 st j).length=3*j:=by
 induction j with
 | zero=>rfl
 | succ j ih=>rw[dm3,List.length_append,ih]; simp only[List.length_cons,List.length_nil]; omega
theorem gk5 (st:List Int){n:Int}(hn:0<=n):n∈st↔n∈da9 st st.length:=by
 unfold da9;simp only[List.mem_flatMap,List.mem_range,List.mem_cons,List.not_mem_nil,or_false];constructor
 ·intro h;obtain ⟨i,hi,rfl⟩:=List.mem_iff_getElem.1 h;refine ⟨st.length-1-i,by omega,.inl ?_⟩;have e:st.length-1-(st.length-1-i)=i:=by omega
  rw[e,List.getD_eq_getElem?_getD,List.getElem?_eq_getElem hi]; rfl
 ·rintro ⟨i,hi,h⟩
  have hm:st.getD (st.length-1-i) 0∈st:=by
   rw[List.getD_eq_getElem?_getD,List.getElem?_eq_getElem (by omega)];exact List.getElem_mem _
  rcases h with rfl|rfl|rfl
  ·exact hm
  ·exact hm
  ·omega
theorem ex2:gn5 [0] false false (.bool false) (.bool false)=some (.bool true):=rfl
theorem ex3:gn5 [0] false false (.bool true) (.bool true)=some (.bool true):=rfl
theorem gk6 {σ τ:Store}{v:IV}{zs:List Int}(h:aw6 σ 0 v zs)(ho:∀ i,i<σ.next->τ.obj i=σ.obj i):bt7 τ 0 v (.aa5 (zs.map Md.ah6)):=by
 rcases h with ⟨rfl,rfl⟩|⟨id,h1,h2,rfl,h4⟩
 ·exact .bu6
 ·exact ey1 (cs:=zs.map da4) (by rw[ho id h2]; exact h4) (by rw[List.take_of_length_le (by simp)]) (by simp)
theorem ed9 (repos:List al7)(inst:List aa3)(r:Req)(st:List Int)(hI:hf8 repos inst)(hR:dv2 r)(hs:st.length<2^30) :
  PC Tryz.prog EE 6 [as7 repos,az6 inst,.agg r.cs,.aa5 (st.map Md.ah6)] (.bool true):=by
 refine ae9 hE fok6 (nZ rfl) (ic7 (bo4 repos) (aw3 inst) (.agg _ (bc6 r)) (ag5 st)) ?_;have hW:=gf2 repos inst r 40 (by have:=hI.r1; omega) (by have:=hI.i1; omega) (by decide) hI.ro hI.po;have hM:=ec5 repos inst r hI hR;have hi1:=hI.i1;simp only[ic6,go_sem,ah3,ex1,bj8]
 first|refine aa4 fok8 (hW) ?_|refine aa2 (hW) ?_
 cases hwd:bo1 repos inst r 40 with
 | true=>
  simp only[go_sem]
  first|refine aa4 fok9 (bb2) ?_|refine aa2 (bb2) ?_
  simp only[go_sem]
  exact ab2 rfl
 | false=>
 by_cases hbig:100<st.length
 ·have c1:(100:Int)<st.length:=by omega
  simp only[go_sem,c1]
  first|refine aa4 fok9 (bb2) ?_|refine aa2 (bb2) ?_
  simp only[go_sem];exact ab2 rfl
 have c1:¬ (100:Int)<st.length:=by omega
 simp only[go_sem,c1]
 first|refine aa4 fok9 (bb2) ?_|refine aa2 (bb2) ?_
 simp only[go_sem,ex1,bj8]
 first|refine aa4 fok10 (hM) ?_|refine aa2 (hM) ?_
 rcases he9 hI hR with h0|⟨p,hn,hA,hIt,hin,h0⟩
 ·rw[h0];simp only[fo2,go_sem];exact ab2 rfl
 rw[h0];obtain ⟨a,ha⟩:∃ a,a=ac5.mk p r:=⟨_,rfl⟩;rw[<- ha] at hA hIt ⊢;have hItm:=ec2 a (by omega);have hBr:=fq1 a hA st hs hIt;simp only[go_sem]
 first|refine aa4 fok11 (hItm) ?_|refine aa2 (hItm) ?_
 simp only[go_sem]
 first|refine aa4 fok13 (hBr) ?_|refine aa2 (hBr) ?_
 simp only[go_sem];have hb:a.broken st=a.items.filter fun x=>!a.holds st x:=rfl
 have hbl:(a.broken st).length<=a.items.length:=List.length_filter_le _ _;have L3:∀ l:List Itm,∀ σ:Store,cl8 0 σ (.aa5 (l.map Itm.cs))=some (.int .i64 l.length):=fun l σ=>fp7 l σ
 unfold am7;refine ab7 noT (fun i fr s=>∃ k:Nat,fr=[(3,.aa5 (st.map Md.ah6)),(9,a.mv),(14,.aa5 (a.items.map Itm.cs)),(15,.aa5 ((a.broken st).map Itm.cs)),(16,.int .i64 (k:Int)),(17,.int .i64 (i:Int))]/\k=((a.items.take i).filter fun x=>!a.holds st x).length) a.items.length ⟨0,rfl,rfl⟩ ?_;rintro i fr s hi ⟨k,rfl,hk⟩;by_cases hlt:i<a.items.length
 ·have d1:(i:Int)<a.items.length:=by omega
  have d2:(0:Int)<=(i:Int):=by omega
  have w1:=ad4 (i:=i) (by omega);have hx:a.items[i]∈a.items:=List.getElem_mem hlt;have hget:=ed6 a.items hlt;have hIs:=hp9 a a.items[i];rw[show a.isI a.items[i]=true from decide_eq_true hx] at hIs;have hH:=bn9 a hA st hs a.items[i];have hnth:=fq2 (fun x=>!a.holds st x) a.items i hlt
  have htk:(a.items.take (i+1)).filter (fun x=>!a.holds st x)=(a.items.take i).filter (fun x=>!a.holds st x)++if a.holds st a.items[i] then [] else [a.items[i]]:=by
   rw[List.take_add_one,List.getElem?_eq_getElem hlt,List.filter_append];congr 1;simp only[Option.toList,List.filter_cons,List.filter_nil];cases a.holds st a.items[i]<;>rfl
  generalize a.items[i]=x at *;simp only[go_sem,L3,d1,d2,hget,ag4,af4]
  first|refine aa4 fok21 (hIs) ?_|refine aa2 (hIs) ?_
  simp only[go_sem,d1,d2,hget,ag4,af4]
  first|refine aa4 fok12 (hH) ?_|refine aa2 (hH) ?_
  cases hh:a.holds st x with
  | true=>
   rw[hh,if_pos rfl,List.append_nil] at htk;simp only[go_sem,w1]
   exact ⟨hlt,k,rfl,by rw[htk]; exact hk⟩
  | false=>
   rw[hh,if_neg (by simp)] at htk;have hn2:=hnth (by rw[hh]; rfl);rw[<- hb,<- hk] at hn2;obtain ⟨hkl,hkx⟩:=List.getElem?_eq_some_iff.1 hn2;have f1:¬ ((a.broken st).length:Int)<=k:=by omega
   have f2:(0:Int)<=(k:Int):=by omega
   have f3:(k:Int)<(a.broken st).length:=by omega
   have hg2:=ed6 (a.broken st) hkl;rw[hkx] at hg2;have w2:=ad4 (i:=k) (by omega);simp only[go_sem,L3,f1,f2,f3,d1,d2,hget,hg2,ag4,af4,gc1,w1,w2];exact ⟨hlt,k+1,rfl,by rw[htk,List.length_append,<- hk]; rfl⟩
 have hi':i=a.items.length:=by omega
 subst hi';have d1:¬ (a.items.length:Int)<a.items.length:=by omega
 rw[List.take_length,<- hb] at hk;subst hk;have w0:IntKind.i64.wrap ((st.length:Int)-1)=(st.length:Int)-1-((0:Nat):Int):=by rw[wrap64 (by omega) (by omega)]; omega
 simp only[go_sem,L3,d1,w0];refine ab7 noT (fun j fr t=>∃ gv,fr=[(3,.aa5 (st.map Md.ah6)),(9,a.mv),(14,.aa5 (a.items.map Itm.cs)),(15,.aa5 ((a.broken st).map Itm.cs)),(16,.int .i64 ((a.broken st).length:Nat)),(18,gv),(19,.int .i64 ((st.length:Int)-1-(j:Nat)))]/\aw6 t 0 gv (da9 st j)) st.length ⟨.aa1,rfl,.inl ⟨rfl,rfl⟩⟩ ?_;rintro j fr t hj ⟨gv,rfl,hg⟩;by_cases hlt:j<st.length
 ·obtain ⟨m,hm⟩:∃ m:Nat,(st.length:Int)-1-(j:Nat)=(m:Nat):=⟨st.length-1-j,by omega⟩;have hml:m<st.length:=by omega
  have hme:st.length-1-j=m:=by omega
  have w1:IntKind.i64.wrap ((m:Int)-1)=(st.length:Int)-1-((j+1:Nat):Int):=by rw[wrap64 (by omega) (by omega)]; omega
  have d2:(0:Int)<=(m:Int):=by omega
  have d3:(m:Int)<st.length:=by omega
  have g:(st.map Md.ah6).getD m []=[.int .i64 st[m]]:=by simp[List.getD_eq_getElem?_getD,hml,Md.ah6]
  have hsd:st.getD (st.length-1-j) 0=st[m]:=by rw[hme,List.getD_eq_getElem?_getD,List.getElem?_eq_getElem hml]; rfl
  rw[hm];simp only[go_sem,d2,d3,g];obtain ⟨v',σ',h1,h2,h3,h4⟩:=es4 (nid:=t.next+1+1+1+1+1+1+1+1+1+1) (xs:=[st[m],st[m],-5]) (hg.up 12) (by rw[ed8]; simp only[List.length_cons,List.length_nil]; omega);have h1':bf6 ({ next:=t.next+12,obj:=t.obj }:Store) (t.next+1+1+1+1+1+1+1+1+1+1) 1 gv (.aa5 [[.int .i64 st[m]],[.int .i64 st[m]],[.int .i64 (-5)]])=some (v',σ'):=h1;simp only[go_sem,h1',w1];refine ⟨hlt,v',rfl,?_⟩;rw[dm3,hsd];exact h4 σ' rfl (by rw[h2]; show _<t.next+12; omega) (by omega) (Nat.zero_le _)
 ·have hj':j=st.length:=by omega
  subst hj';have d2:¬ (0:Int)<=(st.length:Int)-1-(st.length:Nat):=by omega
  have hGd:=ds4 a hA st hs (by omega);rw[a.cv2] at hGd;have hK:=ds2 a hA st hs a.items (by omega);have hKg:a.kept st a.items=a.good st:=rfl;rw[hKg,a.cv2] at hK
  have hKn:PC Tryz.prog EE 19 [a.mv,.aa5 (st.map Md.ah6),.aa1] (.bool true):=ct6 (args':=[a.mv,.aa5 (st.map Md.ah6),am7 []]) rfl (fun σ i hi=>by
   match i,hi with
   | 0,_=>exact .keep _ ((ao9 a).weak fun _ _=>rfl)
   | 1,_=>exact .keep _ ((ag5 st).weak fun _ _=>rfl)
   | 2,_=>exact .bu6) (ds2 a hA st hs [] (by decide))
  have htl:(da9 st st.length).length<2^30:=by rw[ed8]; omega
  have hsame:=a.ek1 (s:=st) (t:=da9 st st.length) fun n hn=>gk5 st hn
  have hgr:=hg.gr;have hleaf:gv.leaf=true:=gh8 hgr;have hcs:gv.cs=[gv]:=ih9 hgr;have hB2:=ed7 a hA (da9 st st.length) htl hIt t gv hleaf hcs fun τ hτ=>gk6 hg hτ
  rw[<- hsame] at hB2;by_cases hz:(a.broken st).length=0
  ·have z1:((a.broken st).length:Int)=0:=by omega
   rw[decide_eq_true hz] at hGd hK;simp only[go_sem,d2,L3]
   first|refine aa4 fok17 (hGd) ?_|refine aa2 (hGd) ?_
   simp only[go_sem,z1,ex3]
   first|refine aa4 fok19 (hK) ?_|refine aa2 (hK) ?_
   simp only[go_sem,ex3]
   first|refine aa4 fok19 (hKn) ?_|refine aa2 (hKn) ?_
   simp only[go_sem];refine af1 fok13 hB2 ?_;rintro v u ⟨uk,ur⟩;refine ⟨uk.next,?_⟩;simp only[go_sem]
   refine af1 fok14 (bf2 (args':=[am7 (a.broken st),am7 (a.broken st)]) hE rfl (fun i hi=>by
    match i,hi with
    | 0,_=>exact ur.frz fun _ _=>Nat.not_lt_zero _
    | 1,_=>exact .keep _ (aw2 _)) (by simp[IV.plain]) (cx3 (a.broken st) (a.broken st) (by omega) (by omega))) ?_
   rintro v2 u2 ⟨rfl,rfl⟩;refine ⟨Nat.le_refl _,?_⟩;simp only[go_sem];exact ab2 (by simp)
  ·have z1:¬ ((a.broken st).length:Int)=0:=by omega
   rw[decide_eq_false hz] at hGd hK;simp only[go_sem,d2,L3]
   first|refine aa4 fok17 (hGd) ?_|refine aa2 (hGd) ?_
   simp only[go_sem,z1,ex2]
   first|refine aa4 fok19 (hK) ?_|refine aa2 (hK) ?_
   simp only[go_sem,z1,ex2]
   first|refine aa4 fok19 (hKn) ?_|refine aa2 (hKn) ?_
   simp only[go_sem];refine af1 fok13 hB2 ?_;rintro v u ⟨uk,ur⟩;refine ⟨uk.next,?_⟩;simp only[go_sem]
   refine af1 fok14 (bf2 (args':=[am7 (a.broken st),am7 (a.broken st)]) hE rfl (fun i hi=>by
    match i,hi with
    | 0,_=>exact ur.frz fun _ _=>Nat.not_lt_zero _
    | 1,_=>exact .keep _ (aw2 _)) (by simp[IV.plain]) (cx3 (a.broken st) (a.broken st) (by omega) (by omega))) ?_
   rintro v2 u2 ⟨rfl,rfl⟩;refine ⟨Nat.le_refl _,?_⟩;simp only[go_sem];exact ab2 (by simp)
open Go Go.Id Go.Proofs Go.Id.Md
end Go.Id.Tryz
set_option linter.all false
namespace Go.Id.Tryz
open Go Go.Id Go.Proofs Go.Id.Md
set_option maxRecDepth 100000
variable {H:Type} {enc:TypeId×Value->H} {w:World} {base:Nat} {sp:Nat->Bool} {held:Bool}
abbrev Rd (enc:TypeId×Value->H)(w:World)(base:Nat)(sp:Nat->Bool)(held:Bool):=Rdg enc Tryz.prog w base sp held
theorem gh3 {n:Nat}{d:DataW H}(h:Rd enc w base sp held n 41 d)(hw:WT Tryz.prog 41 d):∃ e:EVR,e.fit/\∀ m,n<=m->dv Tryz.prog m 41 d=some e.cs:=by
 obtain ⟨n',ds,rfl,rfl,hl,hf⟩:=av7 Tryz.underlying41 h hw
 match ds,hl with
 | [d0,d1,d2],_=>
  obtain ⟨r0,w0⟩:=hf 0 _ d0 rfl rfl;obtain ⟨r1,w1⟩:=hf 1 _ d1 rfl rfl;obtain ⟨r2,w2⟩:=hf 2 _ d2 rfl rfl;obtain ⟨z,_,_,e0⟩:=bk3 Tryz.underlying3 r0;obtain ⟨s1,l1,e1⟩:=cu3 Tryz.underlying9 r1 w1;obtain ⟨s2,l2,e2⟩:=cu3 Tryz.underlying9 r2 w2;refine ⟨⟨z,s1,s2⟩,⟨l1,l2⟩,fun m hm=>?_⟩
  cases m with
  | zero=>omega
  | succ m=>
   have c3:Tryz.prog.cellsOf 3=1:=by kernel_rfl
   have c9:Tryz.prog.cellsOf 9=1:=by kernel_rfl
   have ct:Tryz.prog.cellsOf 41=3:=by kernel_rfl
   simp only[dv,Tryz.underlying41,List.map_cons,List.map_nil,dvF,e0 m (by omega),e1 m (by omega),e2 m (by omega),List.length_cons,List.length_nil,c3,c9,ct,List.cons_append,List.nil_append,List.append_nil,Nat.reduceAdd,↓reduceIte];rfl
theorem ix6 {z:Int}(h:(Lit.int .u8 z).wf=true):0<=z/\z<256:=by
 simp only[Lit.wf,Bool.and_eq_true,decide_eq_true_eq] at h;have e1:IntKind.u8.min=0:=rfl;have e2:IntKind.u8.max=255:=rfl;omega
theorem ha7:Tryz.prog.cellsOf 3=1:=by kernel_rfl
theorem ih4:Tryz.prog.cellsOf 5=1:=by kernel_rfl
theorem ha8:Tryz.prog.cellsOf 9=1:=by kernel_rfl
theorem ih5:Tryz.prog.cellsOf 41=3:=by kernel_rfl
theorem gh4:Tryz.prog.cellsOf 43=5:=by kernel_rfl
theorem gh5:Tryz.prog.cellsOf 80=7:=by kernel_rfl
theorem ix7:Tryz.prog.cellsOf 75=15:=by kernel_rfl
theorem hr6:Tryz.prog.cellsOf 77=2:=by kernel_rfl
theorem ix8:Tryz.prog.cellsOf 71=1:=by kernel_rfl
theorem ew2:Tryz.prog.cellsOf 72=1:=by kernel_rfl
theorem ix9:Tryz.prog.cellsOf 73=1:=by kernel_rfl
theorem iy1:Tryz.prog.cellsOf 23=1:=by kernel_rfl
theorem hr7 {n:Nat}{d:DataW H}(h:Rd enc w base sp held n 43 d)(hw:WT Tryz.prog 43 d):∃ e:Dep,e.fit/\∀ m,n<=m->dv Tryz.prog m 43 d=some e.cs:=by
 obtain ⟨n',ds,rfl,rfl,hl,hf⟩:=av7 Tryz.underlying43 h hw
 match ds,hl with
 | [d0,d1,d2],_=>
  obtain ⟨r0,w0⟩:=hf 0 _ d0 rfl rfl;obtain ⟨r1,w1⟩:=hf 1 _ d1 rfl rfl;obtain ⟨r2,w2⟩:=hf 2 _ d2 rfl rfl;obtain ⟨s0,l0,e0⟩:=cu3 Tryz.underlying9 r0 w0;obtain ⟨z,_,_,e1⟩:=bk3 Tryz.underlying5 r1;obtain ⟨e,l2,e2⟩:=gh3 r2 w2;refine ⟨⟨s0,z,e⟩,⟨l0,l2⟩,fun m hm=>?_⟩
  cases m with
  | zero=>omega
  | succ m=>
   simp only[dv,Tryz.underlying43,List.map_cons,List.map_nil,dvF,e0 m (by omega),e1 m (by omega),e2 m (by omega),EVR.cs,List.length_cons,List.length_nil,ha8,ih4,ih5,gh4,List.cons_append,List.nil_append,List.append_nil,Nat.reduceAdd,↓reduceIte];rfl
theorem ih6:∀ (n:Nat) (d:DataW H),Rd enc w base sp held n 80 d->WT Tryz.prog 80 d->∃ r:aa8,r.ok/\∀ m,n<=m->dv Tryz.prog m 80 d=some r.cs:=by
 intro n
 induction n using Nat.strongRecOn with
 | ind n ih=>
  intro d h hw;obtain ⟨n',ds,rfl,rfl,hl,hf⟩:=av7 Tryz.underlying80 h hw
  match ds,hl with
  | [d0,d1,d2],_=>
   obtain ⟨r0,w0⟩:=hf 0 _ d0 rfl rfl;obtain ⟨r1,w1⟩:=hf 1 _ d1 rfl rfl;obtain ⟨r2,w2⟩:=hf 2 _ d2 rfl rfl;obtain ⟨z,_,hz,e0⟩:=bk3 Tryz.underlying5 r0;obtain ⟨e,l1,e1⟩:=hr7 r1 w1;obtain ⟨l,k1,k2,e2⟩:=ba3 aa8.cs aa8.ok Tryz.underlying72 gh5 (by decide) (by decide +kernel) (fun r=>by rw[aa8.an7]; rfl) (fun m d' hm hr hw'=>ih m (by omega) d' hr hw') r2 w2;have hz':=ix6 hz;refine ⟨.mk z e l,aa8.fn5.2 ⟨hz'.1,hz'.2,l1,k1,k2⟩,fun m hm=>?_⟩
   cases m with
   | zero=>omega
   | succ m=>
    simp only[dv,Tryz.underlying80,List.map_cons,List.map_nil,dvF,e0 m (by omega),e1 m (by omega),e2 m (by omega),Dep.cs,List.length_cons,List.length_nil,ew2,ih4,gh4,gh5,List.cons_append,List.nil_append,List.append_nil,Nat.reduceAdd,↓reduceIte];rw[aa8.an7];rfl
theorem gh6 {n:Nat}{d:DataW H}(h:Rd enc w base sp held n 71 d)(hw:WT Tryz.prog 71 d):∃ l:List Dep,l.length<2^62/\(∀ a∈l,a.fit)/\∀ m,n<=m->dv Tryz.prog m 71 d=some [deps l]:=
 ba3 Dep.cs Dep.fit Tryz.underlying71 gh4 (by decide) (by decide +kernel) (fun _=>rfl) (fun _ _ _ hr hw'=>hr7 hr hw') h hw
theorem bh7 {n:Nat}{d:DataW H}(h:Rd enc w base sp held n 72 d)(hw:WT Tryz.prog 72 d):∃ l:List aa8,l.length<2^62/\(∀ a∈l,a.ok)/\∀ m,n<=m->dv Tryz.prog m 72 d=some [ai9 l]:=
 ba3 aa8.cs aa8.ok Tryz.underlying72 gh5 (by decide) (by decide +kernel) (fun r=>by rw[aa8.an7]; rfl) (fun m d' _ hr hw'=>ih6 m d' hr hw') h hw
theorem ih7 {n:Nat}{d:DataW H}(h:Rd enc w base sp held n 73 d)(hw:WT Tryz.prog 73 d):∃ l:List Str,l.length<2^62/\(∀ a∈l,a.length<2^62)/\∀ m,n<=m->dv Tryz.prog m 73 d=some [strs l]:=
 ba3 bi1 (fun s:Str=>s.length<2^62) Tryz.underlying73 ha8 (by decide) (by decide +kernel) (fun _=>rfl) (fun _ _ _ hr hw'=>cu3 Tryz.underlying9 hr hw') h hw
theorem iy2 {n:Nat}{d:DataW H}(h:Rd enc w base sp held n 75 d)(hw:WT Tryz.prog 75 d):∃ p:aa3,p.Ok/\∀ m,n<=m->dv Tryz.prog m 75 d=some p.cs:=by
 obtain ⟨n',ds,rfl,rfl,hl,hf⟩:=av7 Tryz.underlying75 h hw
 match ds,hl with
 | [d0,d1,d2,d3,d4,d5,d6,d7,d8,d9,d10,d11,d12],_=>
  obtain ⟨r0,w0⟩:=hf 0 _ d0 rfl rfl;obtain ⟨r1,w1⟩:=hf 1 _ d1 rfl rfl;obtain ⟨r2,w2⟩:=hf 2 _ d2 rfl rfl;obtain ⟨r3,w3⟩:=hf 3 _ d3 rfl rfl;obtain ⟨r4,w4⟩:=hf 4 _ d4 rfl rfl;obtain ⟨r5,w5⟩:=hf 5 _ d5 rfl rfl;obtain ⟨r6,w6⟩:=hf 6 _ d6 rfl rfl;obtain ⟨r7,w7⟩:=hf 7 _ d7 rfl rfl;obtain ⟨r8,w8⟩:=hf 8 _ d8 rfl rfl;obtain ⟨r9,w9⟩:=hf 9 _ d9 rfl rfl;obtain ⟨r10,w10⟩:=hf 10 _ d10 rfl rfl;obtain ⟨r11,w11⟩:=hf 11 _ d11 rfl rfl;obtain ⟨r12,w12⟩:=hf 12 _ d12 rfl rfl;obtain ⟨x0,l0,e0⟩:=cu3 Tryz.underlying9 r0 w0;obtain ⟨x1,l1,e1⟩:=gh3 r1 w1;obtain ⟨x2,_,_,e2⟩:=bk3 Tryz.underlying5 r2;obtain ⟨x3,l3,e3⟩:=cu3 Tryz.underlying9 r3 w3;obtain ⟨x4,l4,k4,e4⟩:=gh6 r4 w4;obtain ⟨x5,l5,k5,e5⟩:=bh7 r5 w5;obtain ⟨x6,l6,k6,e6⟩:=bh7 r6 w6;obtain ⟨x7,l7,k7,e7⟩:=gh6 r7 w7;obtain ⟨x8,l8,k8,e8⟩:=bh7 r8 w8;obtain ⟨x9,l9,k9,e9⟩:=bh7 r9 w9;obtain ⟨x10,l10,k10,e10⟩:=bh7 r10 w10;obtain ⟨x11,l11,k11,e11⟩:=bh7 r11 w11;obtain ⟨x12,l12,k12,e12⟩:=ih7 r12 w12;refine ⟨⟨x0,x1,x2,x3,x4,x5,x6,x7,x8,x9,x10,x11,x12⟩,⟨l0,l3,l1,⟨l4,k4⟩,⟨l7,k7⟩,⟨l12,k12⟩,?_⟩,fun m hm=>?_⟩
  ·intro x hx;simp only[aa3.rows,List.mem_cons,List.not_mem_nil,or_false] at hx;rcases hx with rfl|rfl|rfl|rfl|rfl|rfl
   ·exact ⟨l5,k5⟩
   ·exact ⟨l6,k6⟩
   ·exact ⟨l8,k8⟩
   ·exact ⟨l9,k9⟩
   ·exact ⟨l10,k10⟩
   ·exact ⟨l11,k11⟩
  cases m with
  | zero=>omega
  | succ m=>
   simp only[dv,Tryz.underlying75,List.map_cons,List.map_nil,dvF,e0 m (by omega),e1 m (by omega),e2 m (by omega),e3 m (by omega),e4 m (by omega),e5 m (by omega),e6 m (by omega),e7 m (by omega),e8 m (by omega),e9 m (by omega),e10 m (by omega),e11 m (by omega),e12 m (by omega),EVR.cs,List.length_cons,List.length_nil,ha8,ih4,ih5,ix8,ew2,ix9,ix7,List.cons_append,List.nil_append,List.append_nil,Nat.reduceAdd,↓reduceIte];rfl
theorem gh7 {n:Nat}{d:DataW H}(h:Rd enc w base sp held n 23 d)(hw:WT Tryz.prog 23 d):∃ l:List aa3,l.length<2^62/\(∀ a∈l,a.Ok)/\∀ m,n<=m->dv Tryz.prog m 23 d=some [.aa5 (l.map aa3.cs)]:=
 ba3 aa3.cs aa3.Ok Tryz.underlying23 ix7 (by decide) (by decide +kernel) (fun _=>rfl) (fun _ _ _ hr hw'=>iy2 hr hw') h hw
theorem ih8 {n:Nat}{d:DataW H}(h:Rd enc w base sp held n 77 d)(hw:WT Tryz.prog 77 d):∃ r:al7,al7.Ok r/\∀ m,n<=m->dv Tryz.prog m 77 d=some r.cs:=by
 obtain ⟨n',ds,rfl,rfl,hl,hf⟩:=av7 Tryz.underlying77 h hw
 match ds,hl with
 | [d0,d1],_=>
  obtain ⟨r0,w0⟩:=hf 0 _ d0 rfl rfl;obtain ⟨r1,w1⟩:=hf 1 _ d1 rfl rfl;obtain ⟨z,_,_,e0⟩:=bk3 Tryz.underlying3 r0;obtain ⟨l,k1,k2,e1⟩:=gh7 r1 w1;refine ⟨⟨z,l⟩,⟨k1,k2⟩,fun m hm=>?_⟩
  cases m with
  | zero=>omega
  | succ m=>
   simp only[dv,Tryz.underlying77,List.map_cons,List.map_nil,dvF,e0 m (by omega),e1 m (by omega),List.length_cons,List.length_nil,ha7,iy1,hr6,List.cons_append,List.nil_append,List.append_nil,Nat.reduceAdd,↓reduceIte];rfl
theorem ha9 {n:Nat}{d:DataW H}(h:Rd enc w base sp held n 22 d)(hw:WT Tryz.prog 22 d):∃ l:List al7,l.length<2^62/\(∀ a∈l,al7.Ok a)/\∀ m,n<=m->dv Tryz.prog m 22 d=some [.aa5 (l.map al7.cs)]:=
 ba3 al7.cs al7.Ok Tryz.underlying22 hr6 (by decide) (by decide +kernel) (fun _=>rfl) (fun _ _ _ hr hw'=>ih8 hr hw') h hw
end Go.Id.Tryz
set_option linter.all false
namespace Go.Id
open Go Go.Id
mutual
def isz:IV->Nat
 | .str s=>s.length+1
 | .aa5 es=>cn3 es+1
 | _=>1
def bc8:List IV->Nat
 | []=>0
 | c::cs=>isz c+bc8 cs
def cn3:List (List IV)->Nat
 | []=>0
 | e::es=>bc8 e+cn3 es
end
theorem ep5 (a b:List IV):bc8 (a++b)=bc8 a+bc8 b:=by
 induction a with
 | nil=>simp[bc8]
 | cons x a ih=>simp only[List.cons_append,bc8,ih]; omega
theorem bs9 {α:Type}(f:α->List IV):∀ (l:List α),∀ a∈l,bc8 (f a)<=cn3 (l.map f):=by
 intro l
 induction l with
 | nil=>intro a h; cases h
 | cons x l ih=>
  intro a h;simp only[List.map_cons,cn3];rcases List.mem_cons.1 h with rfl|h
  ·omega
  ·have:=ih a h; omega
theorem at1 {α:Type}(f:α->List IV)(hf:∀ a,1<=bc8 (f a)):∀ (l:List α),l.length<=cn3 (l.map f):=by
 intro l
 induction l with
 | nil=>simp
 | cons x l ih=>
  simp only[List.map_cons,cn3,List.length_cons];have:=hf x;omega
namespace Md
theorem Dep.szs (d:Dep):bc8 d.cs=d.name.length+d.evr.ver.length+d.evr.rel.length+5:=by
 simp only[Dep.cs,bc8,isz]; omega
theorem aa8.szs (r:aa8):bc8 r.cs=r.dep.name.length+r.dep.evr.ver.length+r.dep.evr.rel.length+cn3 (r.args.map aa8.cs)+7:=by
 rw[aa8.an7]; simp only[bc8,isz]; omega
theorem aa3.szs (p:aa3):bc8 p.cs=p.name.length+p.evr.ver.length+p.evr.rel.length+p.vendor.length+cn3 (p.provides.map Dep.cs)+cn3 (p.requires.map aa8.cs)+cn3 (p.conflicts.map aa8.cs)+cn3 (p.aa9.map Dep.cs)+cn3 (p.ac3.map aa8.cs)+cn3 (p.ac2.map aa8.cs)+cn3 (p.suggests.map aa8.cs)+cn3 (p.ad6.map aa8.cs)+cn3 (p.files.map bi1)+15:=by
 simp only[aa3.cs,bc8,isz]; omega
theorem al7.szs (r:al7):bc8 r.cs=cn3 (r.packages.map aa3.cs)+2:=by
 simp only[al7.cs,bc8,isz]; omega
theorem fr9 (r:aa8):r.count<=bc8 r.cs:=by
 induction r using aa8.ind with
 | h k d xs ih=>
  rw[aa8.szs]
  have:∀ ys:List aa8,(∀ y∈ys,y∈xs)->aa8.counts ys<=cn3 (ys.map aa8.cs):=by
   intro ys
   induction ys with
   | nil=>intro _; simp[aa8.counts]
   | cons y ys ih2=>
    intro h;have h1:=ih y (h y (List.mem_cons_self ..));have h2:=ih2 fun z hz=>h z (List.mem_cons_of_mem _ hz)
    simp only[aa8.counts,List.map_cons,cn3];omega
  have:=this xs fun y h=>h
  simp only[aa8.count,aa8.args];omega
theorem hj6 (r:aa8):r.ok->bc8 r.cs<2^31->r.fit:=by
 induction r using aa8.ind with
 | h k d xs ih=>
  intro ho hs;obtain ⟨a,b,c,e,f⟩:=aa8.fn5.1 ho;rw[aa8.szs] at hs;simp only[aa8.args] at hs;have hl:=at1 aa8.cs (fun r=>by rw[aa8.szs]; omega) xs;refine aa8.bk4.2 ⟨a,b,c,by omega,fun r hr=>ih r hr (f r hr) ?_⟩;have:=bs9 aa8.cs xs r hr;omega
theorem gm9 {p:aa3}(h:p.Ok)(hs:bc8 p.cs<2^31):p.Fit:=by
 rw[aa3.szs] at hs;have l1:=at1 Dep.cs (fun r=>by rw[Dep.szs]; omega) p.provides;have l2:=at1 Dep.cs (fun r=>by rw[Dep.szs]; omega) p.aa9;have l3:=at1 bi1 (fun r=>by simp only[bi1,bc8,isz]; omega) p.files
 have hr:∀ x∈p.rows,cn3 (x.2.map aa8.cs)<2^31:=by
  intro x hx;simp only[aa3.rows,List.mem_cons,List.not_mem_nil,or_false] at hx;rcases hx with rfl|rfl|rfl|rfl|rfl|rfl<;>simp only[]<;>omega
 exact {
  name:=h.name
  evr:=h.evr
  av9:=⟨by omega,h.av9.2⟩
  obs:=⟨by omega,h.obs.2⟩
  files:=⟨by omega,h.files.2⟩
  rich:=fun x hx=>by
   have h1:=hr x hx;have h2:=at1 aa8.cs (fun r=>by rw[aa8.szs]; omega) x.2;refine ⟨by omega,fun r hr'=>?_⟩;have h3:=bs9 aa8.cs x.2 r hr';have h4:=fr9 r;exact ⟨hj6 r ((h.rich x hx).2 r hr') (by omega),by omega⟩ }
theorem gn1 (repos:List al7):ak7 repos<=cn3 (repos.map al7.cs):=by
 induction repos with
 | nil=>simp[ak7]
 | cons r rs ih=>
  have h2:=at1 aa3.cs (fun r=>by rw[aa3.szs]; omega) r.packages;have h3:=al7.szs r;simp only[ak7,List.map_cons,List.sum_cons,cn3] at ih ⊢;omega
end Md
end Go.Id
set_option linter.all false
namespace Go.Id.Tryz
open Go Go.Id Go.Proofs Go.Id.Md
open Go.Proofs.YtebfbbjghhagbaaGreatDoor
set_option maxRecDepth 100000
variable {H:Type} {enc:TypeId×Value->H} {w:World} {base:Nat} {sp:Nat->Bool} {held:Bool}
theorem hh5 (d:DataW H):1<=Rows.uptoBulk d:=by
 cases d with
 | lit l=>cases l<;>simp[Rows.uptoBulk]
 | _=>simp[Rows.uptoBulk]
theorem hh6 {r:DataW H->Option (List IV)}{c:Nat}(hr:∀ d cs,r d=some cs->bc8 cs<=Rows.uptoBulk d):∀ (ds:List (DataW H)) es,dvS r c ds=some es->cn3 es<=Rows.uptoBulkAll ds:=by
 intro ds
 induction ds with
 | nil=>intro es h; cases h; simp[cn3]
 | cons d ds ih=>
  intro es h;simp only[dvS] at h;split at h
  ·rename_i a ha;split at h
   ·split at h
    ·rename_i b hb;cases h;have h1:=hr d a ha;have h2:=ih b hb;simp only[cn3,Rows.uptoBulkAll];omega
    ·cases h
   ·cases h
  ·cases h
theorem ey2 {r:TypeId->DataW H->Option (List IV)}{P:Program}(hr:∀ t d cs,r t d=some cs->bc8 cs<=Rows.uptoBulk d):∀ (fs:List (TypeId×Nat)) (ds:List (DataW H)) (off:Nat) es,dvF r P fs ds off=some es->bc8 es<=Rows.uptoBulkAll ds:=by
 intro fs
 induction fs with
 | nil=>
  intro ds off es h
  cases ds with
  | nil=>cases h; simp[bc8]
  | cons d ds=>simp[dvF] at h
 | cons f fs ih=>
  intro ds off es h
  cases ds with
  | nil=>simp[dvF] at h
  | cons d ds=>
   simp only[dvF] at h;split at h
   ·split at h
    ·rename_i a ha;split at h
     ·split at h
      ·rename_i b hb;cases h;have h1:=hr _ d a ha;have h2:=ih ds _ b hb;simp only[ep5,Rows.uptoBulkAll];omega
      ·cases h
     ·cases h
    ·cases h
   ·cases h
theorem dv3 {P:Program}:∀ (m:Nat) (t:TypeId) (d:DataW H) cs,dv P m t d=some cs->bc8 cs<=Rows.uptoBulk d:=by
 intro m
 induction m with
 | zero=>intro t d cs h; simp[dv] at h
 | succ m ih=>
  intro t d cs h;have h1:=hh5 d;simp only[dv] at h;split at h
  ·cases h; simpa [bc8,isz] using h1
  ·cases h; simpa [bc8,isz] using h1
  ·cases h; simp[bc8,isz,Rows.uptoBulk]
  ·cases h; simpa [bc8,isz] using h1
  ·split at h
   ·cases h; simpa [bc8,isz] using h1
   ·cases h
  ·cases h; simpa [bc8,isz,cn3] using h1
  ·split at h
   ·cases h
   ·split at h
    ·rename_i es he;cases h;have:=hh6 (ih _) _ _ he;simp only[bc8,isz,Rows.uptoBulk];omega
    ·cases h
  ·split at h
   ·rename_i ivs he;split at h
    ·cases h;have:=ey2 (fun t d cs=>ih t d cs) _ _ _ _ he;simp only[Rows.uptoBulk];omega
    ·cases h
   ·cases h
  ·split at h
   ·rename_i ivs he;split at h
    ·cases h;have:=ey2 (fun t d cs=>ih t d cs) _ _ _ _ he;simp only[Rows.uptoBulk];omega
    ·cases h
   ·cases h
  ·split at h
   ·split at h
    ·cases h; simpa [bc8,isz] using h1
    ·cases h
   ·cases h
  ·cases h
theorem ji9 {repos:List al7}{inst:List aa3}(h1:∀ r∈repos,al7.Ok r)(h2:∀ p∈inst,p.Ok)(b1:bc8 [IV.aa5 (repos.map al7.cs)]<=1048576)(b2:bc8 [IV.aa5 (inst.map aa3.cs)]<=1048576):hf8 repos inst:=by
 simp only[bc8,isz] at b1 b2;have l1:=at1 al7.cs (fun r=>by rw[al7.szs]; omega) repos;have l2:=at1 aa3.cs (fun r=>by rw[aa3.szs]; omega) inst;have l3:=gn1 repos;refine ⟨by omega,by omega,by omega,fun r hr=>?_,fun p hp=>?_,h1,h2⟩
 ·have m1:=bs9 al7.cs repos r hr;rw[al7.szs] at m1;have l4:=at1 aa3.cs (fun r=>by rw[aa3.szs]; omega) r.packages;refine ⟨by omega,fun p hp=>gm9 ((h1 r hr).2 p hp) ?_⟩;have:=bs9 aa3.cs r.packages p hp;omega
 ·have:=bs9 aa3.cs inst p hp;exact gm9 (h2 p hp) (by omega)
variable {H:Type} {enc:TypeId×Value->H} {w:World} {base:Nat} {sp:Nat->Bool} {held:Bool}
theorem ik1 {n:Nat}{t:TypeId}{d:DataW H}(hu:Tryz.prog.underlying t=some .bool)(h:Rd enc w base sp held n t d):∃ b,d=.lit (.bool b)/\∀ m,n<=m->dv Tryz.prog m t d=some [.bool b]:=by
 obtain ⟨cs,ps,h⟩:=h;have hn:n≠0:=fun e=>by subst e; simp[DataW.trod] at h
 obtain ⟨b,rfl,hx⟩:=DataW.trod_bool hu h;cases hx;refine ⟨b,rfl,fun m hm=>?_⟩
 cases m with
 | zero=>omega
 | succ m=>simp only[dv,hu]
theorem iy9:Tryz.prog.cellsOf 45=6:=by kernel_rfl
theorem ht7:Tryz.prog.cellsOf 143=2:=by kernel_rfl
theorem jj1:Tryz.prog.cellsOf 27=5:=by kernel_rfl
theorem iz1:Tryz.prog.cellsOf 4=1:=by kernel_rfl
theorem iz2:Tryz.prog.cellsOf 24=1:=by kernel_rfl
theorem ik2:Tryz.prog.cellsOf 25=1:=by kernel_rfl
theorem ik3 {n:Nat}{d:DataW H}(h:Rd enc w base sp held n 43 d)(hw:WT Tryz.prog 43 d):∃ e:Dep,(0<=e.op/\e.op<256)/\∀ m,n<=m->dv Tryz.prog m 43 d=some e.cs:=by
 obtain ⟨n',ds,rfl,rfl,hl,hf⟩:=av7 Tryz.underlying43 h hw
 match ds,hl with
 | [d0,d1,d2],_=>
  obtain ⟨r0,w0⟩:=hf 0 _ d0 rfl rfl;obtain ⟨r1,w1⟩:=hf 1 _ d1 rfl rfl;obtain ⟨r2,w2⟩:=hf 2 _ d2 rfl rfl;obtain ⟨s0,l0,e0⟩:=cu3 Tryz.underlying9 r0 w0;obtain ⟨z,_,hz,e1⟩:=bk3 Tryz.underlying5 r1;obtain ⟨e,l2,e2⟩:=gh3 r2 w2;refine ⟨⟨s0,z,e⟩,ix6 hz,fun m hm=>?_⟩
  cases m with
  | zero=>omega
  | succ m=>
   simp only[dv,Tryz.underlying43,List.map_cons,List.map_nil,dvF,e0 m (by omega),e1 m (by omega),e2 m (by omega),EVR.cs,List.length_cons,List.length_nil,ha8,ih4,ih5,gh4,List.cons_append,List.nil_append,List.append_nil,Nat.reduceAdd,↓reduceIte];rfl
theorem iz3 {n:Nat}{d:DataW H}(h:Rd enc w base sp held n 45 d)(hw:WT Tryz.prog 45 d):∃ j:Job,(0<=j.dep.op/\j.dep.op<256)/\∀ m,n<=m->dv Tryz.prog m 45 d=some j.cs:=by
 obtain ⟨n',ds,rfl,rfl,hl,hf⟩:=av7 Tryz.underlying45 h hw
 match ds,hl with
 | [d0,d1],_=>
  obtain ⟨r0,w0⟩:=hf 0 _ d0 rfl rfl;obtain ⟨r1,w1⟩:=hf 1 _ d1 rfl rfl;obtain ⟨z,_,hz,e0⟩:=bk3 Tryz.underlying5 r0;obtain ⟨e,l1,e1⟩:=ik3 r1 w1;refine ⟨⟨z,e⟩,l1,fun m hm=>?_⟩
  cases m with
  | zero=>omega
  | succ m=>
   simp only[dv,Tryz.underlying45,List.map_cons,List.map_nil,dvF,e0 m (by omega),e1 m (by omega),Dep.cs,List.length_cons,List.length_nil,ih4,gh4,iy9,List.cons_append,List.nil_append,List.append_nil,Nat.reduceAdd,↓reduceIte];rfl
theorem ik4 {n:Nat}{d:DataW H}(h:Rd enc w base sp held n 143 d)(hw:WT Tryz.prog 143 d):∃ e:bc1,True/\∀ m,n<=m->dv Tryz.prog m 143 d=some e.cs:=by
 obtain ⟨n',ds,rfl,rfl,hl,hf⟩:=av7 Tryz.underlying143 h hw
 match ds,hl with
 | [d0,d1],_=>
  obtain ⟨r0,w0⟩:=hf 0 _ d0 rfl rfl;obtain ⟨r1,w1⟩:=hf 1 _ d1 rfl rfl;obtain ⟨z,_,hz,e0⟩:=bk3 Tryz.underlying5 r0;obtain ⟨y,_,hy,e1⟩:=bk3 Tryz.underlying3 r1;refine ⟨⟨z,y⟩,trivial,fun m hm=>?_⟩
  cases m with
  | zero=>omega
  | succ m=>
   simp only[dv,Tryz.underlying143,List.map_cons,List.map_nil,dvF,e0 m (by omega),e1 m (by omega),List.length_cons,List.length_nil,ih4,ha7,ht7,List.cons_append,List.nil_append,List.append_nil,Nat.reduceAdd,↓reduceIte];rfl
theorem ik5 {n:Nat}{d:DataW H}(h:Rd enc w base sp held n 24 d)(hw:WT Tryz.prog 24 d):∃ l:List Job,l.length<2^62/\(∀ j∈l,0<=j.dep.op/\j.dep.op<256)/\∀ m,n<=m->dv Tryz.prog m 24 d=some [bi9 l]:=
 ba3 Job.cs (fun j=>0<=j.dep.op/\j.dep.op<256) Tryz.underlying24 iy9 (by decide) (by decide +kernel) (fun _=>rfl) (fun _ _ _ hr hw'=>iz3 hr hw') h hw
theorem hh7 {n:Nat}{d:DataW H}(h:Rd enc w base sp held n 25 d)(hw:WT Tryz.prog 25 d):∃ l:List bc1,l.length<2^62/\(∀ j∈l,True)/\∀ m,n<=m->dv Tryz.prog m 25 d=some [au9 l]:=
 ba3 bc1.cs (fun _=>True) Tryz.underlying25 ht7 (by decide) (by decide +kernel) (fun _=>rfl) (fun _ _ _ hr hw'=>ik4 hr hw') h hw
theorem ik6 {n:Nat}{d:DataW H}(h:Rd enc w base sp held n 35 d)(hw:WT Tryz.prog 35 d):∃ l:List Int,l.length<2^62/\(∀ j∈l,True)/\∀ m,n<=m->dv Tryz.prog m 35 d=some [.aa5 (l.map Md.ah6)]:=
 ba3 Md.ah6 (fun _=>True) Tryz.underlying35 ha7 (by decide) (by decide +kernel) (fun _=>rfl) (fun _ _ _ hr hw'=>by
  obtain ⟨z,_,_,e⟩:=bk3 Tryz.underlying3 hr;exact ⟨z,trivial,e⟩) h hw
theorem iz4 {n:Nat}{d:DataW H}(h:Rd enc w base sp held n 27 d)(hw:WT Tryz.prog 27 d):∃ r:Req,(∀ j∈r.ai4,0<=j.dep.op/\j.dep.op<256)/\∀ m,n<=m->dv Tryz.prog m 27 d=some r.cs:=by
 obtain ⟨n',ds,rfl,rfl,hl,hf⟩:=av7 Tryz.underlying27 h hw
 match ds,hl with
 | [d0,d1,d2,d3,d4],_=>
  obtain ⟨r0,w0⟩:=hf 0 _ d0 rfl rfl;obtain ⟨r1,w1⟩:=hf 1 _ d1 rfl rfl;obtain ⟨r2,w2⟩:=hf 2 _ d2 rfl rfl;obtain ⟨r3,w3⟩:=hf 3 _ d3 rfl rfl;obtain ⟨r4,w4⟩:=hf 4 _ d4 rfl rfl;obtain ⟨x0,_,_,e0⟩:=bk3 Tryz.underlying5 r0;obtain ⟨x1,_,e1⟩:=ik1 Tryz.underlying4 r1;obtain ⟨x2,_,k2,e2⟩:=ik5 r2 w2;obtain ⟨x3,_,_,e3⟩:=hh7 r3 w3;obtain ⟨x4,_,_,e4⟩:=bk3 Tryz.underlying3 r4;refine ⟨⟨x0,x1,x2,x3,x4⟩,k2,fun m hm=>?_⟩
  cases m with
  | zero=>omega
  | succ m=>
   simp only[dv,Tryz.underlying27,List.map_cons,List.map_nil,dvF,e0 m (by omega),e1 m (by omega),e2 m (by omega),e3 m (by omega),e4 m (by omega),List.length_cons,List.length_nil,ih4,iz1,iz2,ik2,ha7,jj1,List.cons_append,List.nil_append,List.append_nil,Nat.reduceAdd,↓reduceIte];rfl
theorem iz5 {r:Req}(h:∀ j∈r.ai4,0<=j.dep.op/\j.dep.op<256)(b:bc8 r.cs<=1048576):dv2 r:=by
 have hs:∀ j:Job,bc8 j.cs=j.dep.name.length+j.dep.evr.ver.length+j.dep.evr.rel.length+6:=fun j=>by
  simp only[Job.cs,bc8,isz]; omega
 have he:∀ e:bc1,1<=bc8 e.cs:=fun e=>by simp only[bc1.cs,bc8,isz]; omega
 simp only[Req.cs,bc8,isz] at b;have l1:=at1 Job.cs (fun j=>by rw[hs]; omega) r.ai4;have l2:=at1 bc1.cs he r.ai5;refine ⟨by omega,by omega,fun j hj=>?_⟩;have l3:=bs9 Job.cs r.ai4 j hj;rw[hs] at l3;exact ⟨⟨(h j hj).1,(h j hj).2,by omega,by omega⟩,by omega⟩
theorem ik7 {l:List Int}(b:bc8 [IV.aa5 (l.map Md.ah6)]<=1048576):l.length<2^30:=by
 simp only[bc8,isz] at b;have:=at1 Md.ah6 (fun z=>by simp only[Md.ah6,bc8,isz]; omega) l;omega
end Go.Id.Tryz
