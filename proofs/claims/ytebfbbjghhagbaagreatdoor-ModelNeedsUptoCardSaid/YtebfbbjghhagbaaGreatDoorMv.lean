/- What a state must hold to,in plain words: items,which there are,and when a state holds to one. Conditions: none; no program in sight. -/
import Derived.Test.YtebfbbjghhagbaaGreatDoorMw
set_option linter.all false
namespace Go.Id.Md
open Go Go.Id
structure Itm where
 kind:Int
 p:Int
 q:Int
 deriving DecidableEq,Inhabited
def Itm.cs (x:Itm):List IV:=[.int .u8 x.kind,.int .i64 x.p,.int .i64 x.q]
theorem Itm.iq4 {x y:Itm}(h:x.cs=y.cs):x=y:=by
 cases x; cases y; simpa [Itm.cs] using h
abbrev bk2 (l:List Itm):IV:=.aa5 (l.map Itm.cs)
theorem hj8 (a b:Itm):allEq [1,1,1] a.cs b.cs=some (decide (a=b)):=by
 cases a; cases b;simp[Itm.cs,allEq,aj9,Itm.mk.injEq,Bool.decide_and]
def ba1 (l:List Itm):List (IV×IV):=l.map fun x=>(.agg x.cs,.agg [])
theorem dp6 (x y:Itm):an8 6 (.agg x.cs) (.agg y.cs)=some (decide (x=y)):=hj8 x y
theorem er3 (x:Itm):kOK 6 (.agg x.cs)=true:=by
 show (an8 6 (.agg x.cs) (.agg x.cs)).isSome=true;rw[dp6]; rfl
theorem ga3 (x:Itm):∀ l:List Itm,aw6 6 (.agg x.cs) (ba1 l)=some (if x∈l then some (.agg []) else none):=by
 intro l
 induction l with
 | nil=>simp only[ba1,List.map_nil,aw6,er3]; simp
 | cons y l ih=>
  unfold ba1 at *;simp only[List.map_cons,aw6,dp6];by_cases h:x=y
  ·simp[h]
  ·simp only[h,decide_false,ih,List.mem_cons,false_or]
theorem gs7 {x:Itm}:∀ {l:List Itm},x ∉ l->ed5 6 (.agg x.cs) (.agg []) (ba1 l)=some (ba1 (l++[x])):=by
 intro l
 induction l with
 | nil=>intro _; simp only[ba1,List.map_nil,ed5,er3]; rfl
 | cons y l ih=>
  intro h;rw[List.mem_cons,not_or] at h;have:=ih h.2;unfold ba1 at *;simp only[List.map_cons,List.cons_append,ed5,dp6,h.1,decide_false,this,Option.map_some]
theorem ga4 {l:List Itm}(h:l.Nodup):da3 (ba1 l):=by
 refine ⟨?_,.agg [.u8,.i64,.i64],fun e he=>?_⟩
 ·unfold ba1;rw[List.map_map];refine List.pairwise_map.2 (h.imp fun {a b} hab e=>hab ?_);exact Itm.iq4 (IV.agg.inj e)
 ·obtain ⟨x,_,rfl⟩:=List.mem_map.1 he;refine ⟨rfl,fun i hi=>?_⟩;have hi:i<3:=hi
  match i,hi with
  | 0,_=>exact ⟨_,rfl⟩
  | 1,_=>exact ⟨_,rfl⟩
  | 2,_=>exact ⟨_,rfl⟩
def bl4 (k:Int)(p n:Nat):List Itm:=(List.range n).map fun (q:Nat)=>⟨k,p,q⟩
theorem fk4 (k:Int)(p n:Nat):bl4 k p (n+1)=bl4 k p n++[⟨k,p,n⟩]:=by
 unfold bl4;rw[List.range_succ,List.map_append]; rfl
def bb1 (f:Nat->Bool)(g:Nat->Itm)(n:Nat):List Itm:=((List.range n).filter f).map g
theorem bs4 (f:Nat->Bool)(g:Nat->Itm)(n:Nat):bb1 f g (n+1)=bb1 f g n++if f n then [g n] else []:=by
 unfold bb1;rw[List.range_succ,List.filter_append,List.map_append];cases h:f n<;>simp[h]
theorem as1 {f:Nat->Bool}{g:Nat->Itm}{n:Nat}{x:Itm}:x∈bb1 f g n↔∃ m,m<n/\f m=true/\x=g m:=by
 unfold bb1;simp only[List.mem_map,List.mem_filter,List.mem_range];constructor
 ·rintro ⟨m,⟨h1,h2⟩,rfl⟩; exact ⟨m,h1,h2,rfl⟩
 ·rintro ⟨m,h1,h2,rfl⟩; exact ⟨m,⟨h1,h2⟩,rfl⟩
theorem av6 {k:Int}{p n:Nat}{x:Itm}:x∈bl4 k p n↔∃ q:Nat,q<n/\x=⟨k,p,q⟩:=by
 unfold bl4;simp only[List.mem_map,List.mem_range];constructor
 ·rintro ⟨q,h,rfl⟩; exact ⟨q,h,rfl⟩
 ·rintro ⟨q,h,rfl⟩; exact ⟨q,h,rfl⟩
namespace ac4
variable (a:ac4)
def bn3 (p:Nat):List Itm:=if a.fits p then [] else [⟨1,p,0⟩]
def gl3 (p:Nat):List Itm:=a.bn3 p++bl4 2 p (a.pk p).requires.length++bl4 3 p (a.pk p).conflicts.length++bl4 4 p (a.pk p).aa9.length
def cu6 (p k:Nat):List Itm:=bb1 (fun q=>decide (p<q)&&a.twins p q) (fun q=>⟨5,p,q⟩) k
def gs8 (p:Nat):List Itm:=a.cu6 p a.l.length
def bu5 (k:Nat):List Itm:=bb1 (fun i=>!a.goes i) (fun i=>⟨6,i,0⟩) k
def fq3 (k:Nat):List Itm:=bb1 (fun i=>!a.dropped i) (fun i=>⟨7,i,0⟩) k
def owns (k:Nat):List Itm:=(List.range k).flatMap a.gl3
def as2 (k:Nat):List Itm:=(List.range k).flatMap a.gs8
def items:List Itm:=a.owns a.l.length++a.as2 a.l.length++a.bu5 a.p.inst.toNat++a.fq3 a.r.ah4.length
theorem cu7 (k:Nat):a.owns (k+1)=a.owns k++a.gl3 k:=by unfold owns; rw[List.range_succ,List.flatMap_append]; simp
theorem bu6 (k:Nat):a.as2 (k+1)=a.as2 k++a.gs8 k:=by unfold as2; rw[List.range_succ,List.flatMap_append]; simp
inductive Has (a:ac4):Itm->Prop
 | aq4 (p:Nat):p<a.l.length->a.fits p=false->Has a ⟨1,p,0⟩
 | need (p q:Nat):p<a.l.length->q<(a.pk p).requires.length->Has a ⟨2,p,q⟩
 | clash (p q:Nat):p<a.l.length->q<(a.pk p).conflicts.length->Has a ⟨3,p,q⟩
 | over (p q:Nat):p<a.l.length->q<(a.pk p).aa9.length->Has a ⟨4,p,q⟩
 | twin (p q:Nat):p<q->q<a.l.length->a.twins p q=true->Has a ⟨5,p,q⟩
 | keep (i:Nat):i<a.p.inst.toNat->a.goes i=false->Has a ⟨6,i,0⟩
 | job (j:Nat):j<a.r.ah4.length->a.dropped j=false->Has a ⟨7,j,0⟩
theorem ga5 {p:Nat}{x:Itm}:x∈a.gl3 p↔(a.fits p=false/\x=⟨1,p,0⟩)\/(∃ q:Nat,q<(a.pk p).requires.length/\x=⟨2,p,q⟩)\/(∃ q:Nat,q<(a.pk p).conflicts.length/\x=⟨3,p,q⟩)\/(∃ q:Nat,q<(a.pk p).aa9.length/\x=⟨4,p,q⟩):=by
 unfold gl3 bn3;simp only[List.mem_append,av6,or_assoc];refine or_congr ?_ Iff.rfl;cases h:a.fits p<;>simp
theorem cu8 {x:Itm}:x∈a.items↔a.Has x:=by
 unfold items owns as2 bu5 fq3;simp only[List.mem_append,List.mem_flatMap,List.mem_range,ga5,as1];constructor
 ·rintro (((⟨p,hp,h⟩|⟨p,hp,h⟩)|⟨i,hi,h,rfl⟩)|⟨j,hj,h,rfl⟩)
  ·rcases h with ⟨h,rfl⟩|⟨q,hq,rfl⟩|⟨q,hq,rfl⟩|⟨q,hq,rfl⟩
   ·exact .aq4 p hp h
   ·exact .need p q hp hq
   ·exact .clash p q hp hq
   ·exact .over p q hp hq
  ·obtain ⟨q,hq,h3,rfl⟩:=as1.1 h;rw[Bool.and_eq_true] at h3;exact .twin p q (of_decide_eq_true h3.1) hq h3.2
  ·exact .keep i hi (by simpa using h)
  ·exact .job j hj (by simpa using h)
 ·intro h
  cases h with
  | aq4 p hp h=>exact .inl (.inl (.inl ⟨p,hp,.inl ⟨h,rfl⟩⟩))
  | need p q hp hq=>exact .inl (.inl (.inl ⟨p,hp,.inr (.inl ⟨q,hq,rfl⟩)⟩))
  | clash p q hp hq=>exact .inl (.inl (.inl ⟨p,hp,.inr (.inr (.inl ⟨q,hq,rfl⟩))⟩))
  | over p q hp hq=>exact .inl (.inl (.inl ⟨p,hp,.inr (.inr (.inr ⟨q,hq,rfl⟩))⟩))
  | twin p q h1 h2 h3=>exact .inl (.inl (.inr ⟨p,by omega,as1.2 ⟨q,h2,by simp[h1,h3],rfl⟩⟩))
  | keep i hi h=>exact .inl (.inr ⟨i,hi,by simp[h],rfl⟩)
  | job j hj h=>exact .inr ⟨j,hj,by simp[h],rfl⟩
theorem cj1 (k:Int)(p n:Nat):(bl4 k p n).Nodup:=by
 unfold bl4;refine List.pairwise_map.2 (List.nodup_range.imp fun {x y} h e=>h ?_);have:=congrArg Itm.q e;simp only at this;omega
theorem cj3 {f:Nat->Bool}{g:Nat->Itm}(hg:∀ x y,g x=g y->x=y)(n:Nat):(bb1 f g n).Nodup:=by
 unfold bb1;exact List.pairwise_map.2 ((List.nodup_range.filter _).imp fun {x y} h e=>h (hg _ _ e))
theorem dj2 {g:Nat->List Itm}(h1:∀ p,(g p).Nodup)(h2:∀ p,∀ x∈g p,x.p=(p:Int))(n:Nat):((List.range n).flatMap g).Nodup:=by
 induction n with
 | zero=>exact List.Pairwise.nil
 | succ n ih=>
  rw[List.range_succ,List.flatMap_append,List.flatMap_cons,List.flatMap_nil,List.append_nil];refine List.nodup_append.2 ⟨ih,h1 n,fun x hx y hy e=>?_⟩;obtain ⟨p,hp,hx⟩:=List.mem_flatMap.1 hx;have:=h2 p x hx;have:=h2 n y hy;rw[<- e] at this;have:=List.mem_range.1 hp;omega
theorem by4 {p:Nat}{x:Itm}(h:x∈a.gl3 p):x.p=(p:Int)/\1<=x.kind/\x.kind<=4:=by
 rcases a.ga5.1 h with ⟨_,rfl⟩|⟨q,_,rfl⟩|⟨q,_,rfl⟩|⟨q,_,rfl⟩<;>exact ⟨rfl,by simp only<;>omega,by simp only<;>omega⟩
theorem ga6 (p:Nat):(a.gl3 p).Nodup:=by
 unfold gl3 bn3;refine List.nodup_append.2 ⟨List.nodup_append.2 ⟨List.nodup_append.2 ⟨?_,cj1 ..,fun x hx y hy e=>?_⟩,cj1 ..,fun x hx y hy e=>?_⟩,cj1 ..,fun x hx y hy e=>?_⟩
 ·cases a.fits p<;>simp
 ·obtain ⟨q,_,rfl⟩:=av6.1 hy;cases hf:a.fits p<;>rw[hf] at hx<;>simp at hx;rw[hx] at e; simp at e
 ·obtain ⟨q,_,rfl⟩:=av6.1 hy;rcases List.mem_append.1 hx with hx|hx
  ·cases hf:a.fits p<;>rw[hf] at hx<;>simp at hx;rw[hx] at e; simp at e
  ·obtain ⟨r,_,rfl⟩:=av6.1 hx;simp at e
 ·obtain ⟨q,_,rfl⟩:=av6.1 hy;rcases List.mem_append.1 hx with hx|hx
  ·rcases List.mem_append.1 hx with hx|hx
   ·cases hf:a.fits p<;>rw[hf] at hx<;>simp at hx;rw[hx] at e; simp at e
   ·obtain ⟨r,_,rfl⟩:=av6.1 hx;simp at e
  ·obtain ⟨r,_,rfl⟩:=av6.1 hx;simp at e
theorem bn4 {p k:Nat}{x:Itm}(h:x∈a.cu6 p k):x.p=(p:Int)/\x.kind=5:=by
 obtain ⟨q,_,_,rfl⟩:=as1.1 h;exact ⟨rfl,rfl⟩
theorem nodup:a.items.Nodup:=by
 unfold items;refine List.nodup_append.2 ⟨List.nodup_append.2 ⟨List.nodup_append.2 ⟨?_,?_,fun x hx y hy e=>?_⟩,?_,fun x hx y hy e=>?_⟩,?_,fun x hx y hy e=>?_⟩
 ·exact dj2 a.ga6 (fun p x hx=>(a.by4 hx).1) _
 ·exact dj2 (fun p=>cj3 (fun x y e=>by have:=congrArg Itm.q e; simp only at this; omega) _) (fun p x hx=>(a.bn4 hx).1) _
 ·obtain ⟨p,_,hx⟩:=List.mem_flatMap.1 hx;obtain ⟨q,_,hy⟩:=List.mem_flatMap.1 hy;have:=(a.by4 hx).2;have:=(a.bn4 hy).2;rw[<- e] at this; omega
 ·exact cj3 (fun x y e=>by have:=congrArg Itm.p e; simp only at this; omega) _
 ·obtain ⟨i,_,_,rfl⟩:=as1.1 hy;rcases List.mem_append.1 hx with hx|hx
  ·obtain ⟨p,_,hx⟩:=List.mem_flatMap.1 hx;have:=(a.by4 hx).2;rw[e] at this; simp at this
  ·obtain ⟨p,_,hx⟩:=List.mem_flatMap.1 hx;have:=(a.bn4 hx).2;rw[e] at this; simp at this
 ·exact cj3 (fun x y e=>by have:=congrArg Itm.p e; simp only at this; omega) _
 ·obtain ⟨j,_,_,rfl⟩:=as1.1 hy;rcases List.mem_append.1 hx with hx|hx
  ·rcases List.mem_append.1 hx with hx|hx
   ·obtain ⟨p,_,hx⟩:=List.mem_flatMap.1 hx;have:=(a.by4 hx).2;rw[e] at this; simp at this
   ·obtain ⟨p,_,hx⟩:=List.mem_flatMap.1 hx;have:=(a.bn4 hx).2;rw[e] at this; simp at this
  ·obtain ⟨i,_,_,rfl⟩:=as1.1 hx;simp at e
theorem cu9 {k:Nat}{y:Itm}(h:y∈a.owns k):1<=y.kind/\y.kind<=4/\∃ p:Nat,p<k/\y.p=p:=by
 obtain ⟨p,hp,hy⟩:=List.mem_flatMap.1 h;have:=a.by4 hy;exact ⟨this.2.1,this.2.2,p,List.mem_range.1 hp,this.1⟩
theorem ia3 {p:Nat}{y:Itm}(h:y∈a.bn3 p):y.kind=1:=by
 unfold bn3 at h;split at h
 ·cases h
 ·rw[List.mem_singleton] at h; rw[h]
theorem dp7 {k:Nat}{y:Itm}(h:y∈a.as2 k):y.kind=5/\∃ p:Nat,p<k/\y.p=p:=by
 obtain ⟨p,hp,hy⟩:=List.mem_flatMap.1 h;have:=a.bn4 hy;exact ⟨this.2,p,List.mem_range.1 hp,this.1⟩
theorem gs9 {p k:Nat}{y:Itm}(h:y∈a.cu6 p k):y.kind=5/\y.p=p/\∃ q:Nat,q<k/\y.q=q:=by
 obtain ⟨q,hq,_,rfl⟩:=as1.1 h;exact ⟨rfl,rfl,q,hq,rfl⟩
theorem ga7 {k:Nat}{y:Itm}(h:y∈a.bu5 k):y.kind=6/\∃ q:Nat,q<k/\y.p=q:=by
 obtain ⟨q,hq,_,rfl⟩:=as1.1 h;exact ⟨rfl,q,hq,rfl⟩
theorem iq5 {k:Nat}{y:Itm}(h:y∈a.fq3 k):y.kind=7/\∃ q:Nat,q<k/\y.p=q:=by
 obtain ⟨q,hq,_,rfl⟩:=as1.1 h;exact ⟨rfl,q,hq,rfl⟩
def nsI (p j:Nat):Nat:=if j=0 then (a.pk p).requires.length else if j=1 then (a.pk p).conflicts.length else (a.pk p).aa9.length
def dp8 (p j:Nat):List Itm:=(List.range j).flatMap fun i=>bl4 ((2+i:Nat):Int) p (a.nsI p i)
theorem as3 (p j:Nat):a.dp8 p (j+1)=a.dp8 p j++bl4 ((2+j:Nat):Int) p (a.nsI p j):=by unfold dp8; rw[List.range_succ,List.flatMap_append]; simp
theorem hj9 (p:Nat):a.gl3 p=a.bn3 p++a.dp8 p 3:=by
 rw[as3,as3,as3];unfold gl3 nsI;simp[dp8]
theorem iq6 {p j:Nat}{y:Itm}(h:y∈a.dp8 p j):2<=y.kind/\y.kind<2+(j:Int):=by
 obtain ⟨i,hi,hy⟩:=List.mem_flatMap.1 h;obtain ⟨q,_,rfl⟩:=av6.1 hy;have:=List.mem_range.1 hi;simp only;omega
theorem dy7 {k m:Nat}(h:k<=m):(a.owns k).length<=(a.owns m).length:=by
 obtain ⟨d,rfl⟩:∃ d,m=k+d:=⟨m-k,by omega⟩
 induction d with
 | zero=>exact Nat.le_refl _
 | succ d ih=>
  have:=ih (by omega);rw[show k+(d+1)=k+d+1 from rfl,a.cu7,List.length_append];omega
theorem fk5 {k m:Nat}(h:k<=m):(a.as2 k).length<=(a.as2 m).length:=by
 obtain ⟨d,rfl⟩:∃ d,m=k+d:=⟨m-k,by omega⟩
 induction d with
 | zero=>exact Nat.le_refl _
 | succ d ih=>
  have:=ih (by omega);rw[show k+(d+1)=k+d+1 from rfl,a.bu6,List.length_append];omega
theorem cv2 (f:Nat->Bool)(g:Nat->Itm){k m:Nat}(h:k<=m):(bb1 f g k).length<=(bb1 f g m).length:=by
 obtain ⟨d,rfl⟩:∃ d,m=k+d:=⟨m-k,by omega⟩
 induction d with
 | zero=>exact Nat.le_refl _
 | succ d ih=>
  have:=ih (by omega);rw[show k+(d+1)=k+d+1 from rfl,bs4,List.length_append];omega
theorem by5 (k:Int)(p n:Nat):(bl4 k p n).length=n:=by unfold bl4; rw[List.length_map,List.length_range]
theorem bb5:a.items.length=(a.owns a.l.length).length+(a.as2 a.l.length).length+(a.bu5 a.p.inst.toNat).length+(a.fq3 a.r.ah4.length).length:=by
 unfold items; simp only[List.length_append]
theorem ga8 {p j q:Nat}(hp:p<a.l.length)(hj:j<3)(hq:q<=a.nsI p j):(a.owns p++a.bn3 p++a.dp8 p j++bl4 ((2+j:Nat):Int) p q).length<=a.items.length:=by
 have h1:=a.dy7 (show p+1<=a.l.length from hp);have h2:=a.bb5;rw[a.cu7,a.hj9,List.length_append,List.length_append] at h1
 have h3:(a.dp8 p j).length+q<=(a.dp8 p 3).length:=by
  have e3:(a.dp8 p 3).length=a.nsI p 0+a.nsI p 1+a.nsI p 2:=by
   rw[a.as3,a.as3,a.as3];simp only[List.length_append,by5];simp[dp8]
  rw[e3];have:j=0\/j=1\/j=2:=by omega
  rcases this with rfl|rfl|rfl
  ·simp only[dp8,List.range_zero,List.flatMap_nil,List.length_nil]; omega
  ·rw[a.as3]; simp only[dp8,List.range_zero,List.flatMap_nil,List.nil_append,by5]; omega
  ·rw[a.as3,a.as3]; simp only[dp8,List.range_zero,List.flatMap_nil,List.nil_append,List.length_append,by5]; omega
 simp only[List.length_append,by5];omega
theorem gt1 {p:Nat}(hp:p<a.l.length):(a.owns p).length<=a.items.length:=by
 have h1:=a.dy7 (show p<=a.l.length by omega);have h2:=a.bb5;omega
theorem gt2 {p k:Nat}(hp:p<a.l.length)(hk:k<=a.l.length):(a.owns a.l.length++a.as2 p++a.cu6 p k).length<=a.items.length:=by
 have h1:=a.fk5 (show p+1<=a.l.length from hp);have h2:=a.bb5;have h3:(a.cu6 p k).length<=(a.gs8 p).length:=cv2 _ _ hk;rw[a.bu6,List.length_append] at h1;simp only[List.length_append];omega
theorem gt3 {k:Nat}(hk:k<=a.p.inst.toNat):(a.owns a.l.length++a.as2 a.l.length++a.bu5 k).length<=a.items.length:=by
 have h2:=a.bb5;have h3:(a.bu5 k).length<=(a.bu5 a.p.inst.toNat).length:=cv2 _ _ hk;simp only[List.length_append];omega
theorem ia4 {k:Nat}(hk:k<=a.r.ah4.length):(a.owns a.l.length++a.as2 a.l.length++a.bu5 a.p.inst.toNat++a.fq3 k).length<=a.items.length:=by
 have h2:=a.bb5;have h3:(a.fq3 k).length<=(a.fq3 a.r.ah4.length).length:=cv2 _ _ hk;simp only[List.length_append];omega
theorem ei4 (p:Nat):a.cu6 p (p+1)=[]:=by
 unfold cu6 bb1;rw[List.map_eq_nil_iff,List.filter_eq_nil_iff];intro q hq;have:=List.mem_range.1 hq;have:¬ p<q:=by omega
 simp[this]
theorem ga9 (hA:∀ p∈a.l,p.requires.length<=2^20/\p.conflicts.length<=2^20/\p.aa9.length<=2^20)(hl:a.l.length<=256)(hi:a.p.inst<=a.l.length)(hj:a.r.ah4.length<=64):a.items.length<2^30:=by
 have fl:∀ (g:Nat->List Itm) (m n:Nat),(∀ p,p<n->(g p).length<=m)->((List.range n).flatMap g).length<=n*m:=by
  intro g m n
  induction n with
  | zero=>intro _; simp
  | succ n ih=>
   intro h;have:=ih fun p hp=>h p (by omega)
   have:=h n (by omega);rw[List.range_succ,List.flatMap_append,List.length_append,Nat.succ_mul];simp only[List.flatMap_cons,List.flatMap_nil,List.append_nil];omega
 have pl:∀ f g n,(bb1 f g n).length<=n:=fun f g n=>by
  unfold bb1;rw[List.length_map];exact Nat.le_trans (List.length_filter_le _ _) (by rw[List.length_range]; exact Nat.le_refl _)
 have h1:(a.owns a.l.length).length<=a.l.length*(1+3*2^20):=fl _ _ _ fun p hp=>by
  have hm:a.pk p∈a.l:=by
   have:a.pk p=a.l[p]:=by simp[pk,List.getD_eq_getElem?_getD,hp]
   rw[this]; exact List.getElem_mem hp
  obtain ⟨q1,q2,q3⟩:=hA _ hm;unfold gl3 bn3 bl4;simp only[List.length_append,List.length_map,List.length_range];split<;>simp only[List.length_nil,List.length_singleton]<;>omega
 have h2:(a.as2 a.l.length).length<=a.l.length*256:=fl _ _ _ fun p hp=>Nat.le_trans (pl _ _ _) hl
 have h3:=pl (fun i=>!a.goes i) (fun i=>⟨6,i,0⟩) a.p.inst.toNat;have h4:=pl (fun i=>!a.dropped i) (fun i=>⟨7,i,0⟩) a.r.ah4.length;have e1:a.l.length*(1+3*2^20)<=256*(1+3*2^20):=Nat.mul_le_mul hl (Nat.le_refl _);have e2:a.l.length*256<=256*256:=Nat.mul_le_mul hl (Nat.le_refl _);unfold items bu5 fq3;simp only[List.length_append];omega
def iq7 (x:Itm):aa8:=(a.pk x.p).requires.getD x.q.toNat default
def hk6 (x:Itm):aa8:=(a.pk x.p).conflicts.getD x.q.toNat default
def gt4 (x:Itm):Dep:=(a.pk x.p).aa9.getD x.q.toNat default
def inS (st:List Int)(n:Int):Bool:=decide (n∈st)
def less (st:List Int)(n:Int):List Int:=st.filter fun m=>!decide (m=n)
def keeps (st:List Int)(x:Itm):Bool :=
 if x.kind=1 then !inS st x.p
 else if x.kind=2 then !inS st x.p||ia9 a.l st (a.iq7 x)
 else if x.kind=3 then !inS st x.p || !ia9 a.l (less st x.p) (a.hk6 x)
 else if x.kind=4 then !inS st x.p || !((ao9 a.l (a.gt4 x)).any fun n=>!decide (n=x.p)&&inS st n)
 else if x.kind=5 then !inS st x.p || !inS st x.q
 else if x.kind=6 then some st (a.bi5 x.p)
 else a.bv1 x.p st
def isI (x:Itm):Bool:=decide (x∈a.items)
def holds (st:List Int)(x:Itm):Bool:=!a.isI x||a.keeps st x
def kept (st:List Int)(l:List Itm):Bool:=!l.any fun x=>!a.holds st x
def good (st:List Int):Bool:=a.kept st a.items
theorem holds_of {st:List Int}{x:Itm}(h:x∈a.items):a.holds st x=a.keeps st x:=by
 unfold holds isI;rw[decide_eq_true h]; rfl
theorem er4 {st:List Int}:a.good st=true↔∀ x∈a.items,a.keeps st x=true:=by
 unfold good kept;rw[Bool.not_eq_true',List.any_eq_false];constructor
 ·intro h x hx;have:=h x hx;rw[a.holds_of hx] at this
  simpa using this
 ·intro h x hx;rw[a.holds_of hx,h x hx]; simp
theorem fk6 {st:List Int}(hg:a.good st=true){n:Nat}(hn:n<a.l.length)(hi:(n:Int)∈st):a.fits n=true/\(∀ k:Nat,k<a.l.length->(k:Int)∈st->a.twins n k=false/\(!decide ((n:Int)=k)&&aa9 (a.pk n) (a.pk k))=false):=by
 have hk:=a.er4.1 hg;have hin:∀ {m:Int},m∈st->inS st m=true:=fun h=>decide_eq_true h
 refine ⟨?_,fun k hkl hki=>⟨?_,?_⟩⟩
 ·cases hf:a.fits n with
  | true=>rfl
  | false=>
   have:=hk _ (a.cu8.2 (.aq4 n hn hf));unfold keeps at this;rw[if_pos rfl,hin hi] at this;cases this
 ·cases ht:a.twins n k with
  | false=>rfl
  | true=>
   have hne:n≠k:=fun e=>by rw[e,a.fm2] at ht; cases ht
   have hcase:∀ {x y:Nat},x<y->y<a.l.length->a.twins x y=true->(x:Int)∈st->(y:Int)∈st->False:=fun h1 h2 h3 h4 h5=>by
    have:=hk _ (a.cu8.2 (.twin _ _ h1 h2 h3));unfold keeps at this;rw[if_neg (by simp),if_neg (by simp),if_neg (by simp),if_neg (by simp),if_pos rfl,hin h4,hin h5] at this;cases this
   rcases Nat.lt_or_gt_of_ne hne with h1|h1
   ·exact (hcase h1 hkl ht hi hki).elim
   ·exact (hcase h1 hn (by rw[a.fm1]; exact ht) hki hi).elim
 ·rw[Bool.and_eq_false_iff];by_cases hne:(n:Int)=k
  ·exact .inl (by simp[hne])
  ·refine .inr (Bool.eq_false_iff.2 fun hc=>?_);obtain ⟨d,hd,hnd⟩:=List.any_eq_true.1 hc;obtain ⟨q,hq,rfl⟩:=List.mem_iff_getElem.1 hd;have:=hk _ (a.cu8.2 (.over n q hn hq));unfold keeps at this;rw[if_neg (by simp),if_neg (by simp),if_neg (by simp),if_pos rfl,hin hi] at this;simp only[Bool.not_true,Bool.false_or,Bool.not_eq_true',List.any_eq_false] at this
   have hov:a.gt4 ⟨4,n,q⟩=(a.pk n).aa9[q]:=by
    unfold gt4;simp[List.getD_eq_getElem?_getD,hq]
   rw[hov] at this;refine this k (bg4.2 ⟨k,rfl,hkl,?_⟩) ?_
   ·exact hnd
   ·rw[hin hki,Bool.and_true,Bool.not_eq_true',decide_eq_false_iff_not];exact fun e=>hne e.symm
theorem gt5 {st:List Int}(hg:a.good st=true){j:Nat}(hj:j<a.r.ah4.length)(hd:a.dropped j=false):a.bv1 j st=true:=by
 have:=a.er4.1 hg _ (a.cu8.2 (.job j hj hd));unfold keeps at this
 rwa [if_neg (by simp),if_neg (by simp),if_neg (by simp),if_neg (by simp),if_neg (by simp),if_neg (by simp)] at this
end ac4
end Go.Id.Md
set_option linter.all false
namespace Go.Id.Md
open Go Go.Id
def gt6 (wh:Int)(k:Int)(d:Dep)(n:Nat)(alone:Bool):Bool :=
 if k=1 then decide (n=0)&&ah5 d else
 (if k=2\/k=3\/k=6 then decide (2<=n) else if k=7 then decide (n=2) else
  if k=4 then (decide (n=2)||decide (n=3))&&!alone&&decide (wh=1) else
  if k=5 then (decide (n=2)||decide (n=3))&&!alone&&decide (wh<=2) else false)&&decide (d=by2)
mutual
def aa8.co1 (wh:Int):aa8->Bool->Bool
 | .mk k d aZ,alone=>gt6 wh k d aZ.length alone&&(aa8.dj3 wh aZ (alone||decide (k=6)||decide (k=7)))
def aa8.dj3 (wh:Int):List aa8->Bool->Bool
 | [],_=>true
 | r::rs,alone=>r.co1 wh alone&&aa8.dj3 wh rs alone
end
theorem aa8.fk7 (wh:Int)(l:List aa8)(alone:Bool):aa8.dj3 wh l alone=l.all fun r=>r.co1 wh alone:=by
 induction l with
 | nil=>rfl
 | cons r l ih=>simp only[aa8.dj3,List.all_cons,ih]
theorem ia5 {wh:Int}(h1:1<=wh)(h3:wh<=3)(k:Int)(d:Dep)(aZ:List aa8)(alone:Bool)(hn:aZ.length<=24):gt6 wh k d aZ.length alone=aj2 wh (.mk k d aZ) alone:=by
 unfold gt6 aj2 asks;simp only[aa8.kind,aa8.args,aa8.dep];rw[Bool.eq_iff_iff];by_cases e1:k=1
 ·subst e1;simp only[if_true];have:¬ (3:Int)<wh:=by omega
  cases ah5 d<;>cases alone<;>simp[this]<;>omega
 by_cases e2:k=2
 ·subst e2;have:¬ (3:Int)<wh:=by omega
  by_cases hd:d=by2<;>cases alone<;>simp[this,hd]<;>omega
 by_cases e3:k=3
 ·subst e3;have:¬ (3:Int)<wh:=by omega
  by_cases hd:d=by2<;>cases alone<;>simp[this,hd]<;>omega
 by_cases e4:k=4
 ·subst e4;by_cases hd:d=by2<;>cases alone<;>by_cases hw:(1:Int)<wh<;>simp[hd,hw]<;>omega
 by_cases e5:k=5
 ·subst e5;by_cases hd:d=by2<;>cases alone<;>by_cases hw:(2:Int)<wh<;>simp[hd,hw]<;>omega
 by_cases e6:k=6
 ·subst e6;have:¬ (3:Int)<wh:=by omega
  by_cases hd:d=by2<;>cases alone<;>simp[this,hd]<;>omega
 by_cases e7:k=7
 ·subst e7;have:¬ (3:Int)<wh:=by omega
  by_cases hd:d=by2<;>cases alone<;>simp[this,hd]<;>omega
 have:(0:Int)<wh:=by omega
 simp[e1,e2,e3,e4,e5,e6,e7,this]
theorem aa8.dj4 {l:List aa8}{r:aa8}(h:r∈l):r.count<=aa8.counts l:=by
 induction l with
 | nil=>cases h
 | cons x l ih=>
  simp only[aa8.counts];rcases List.mem_cons.1 h with rfl|h
  ·omega
  ·have:=ih h; omega
theorem aa8.gb1 (r:aa8):1<=r.count:=by cases r; simp only[aa8.count]; omega
theorem aa8.fk8 (l:List aa8):l.length<=aa8.counts l:=by
 induction l with
 | nil=>exact Nat.le_refl _
 | cons x l ih=>simp only[aa8.counts,List.length_cons]; have:=x.gb1; omega
theorem aa8.fk9 {wh:Int}(h1:1<=wh)(h3:wh<=3)(r:aa8):r.count<=24->∀ alone,r.co1 wh alone=(r.parts alone).all fun p=>aj2 wh p.1 p.2:=by
 refine aa8.ind (p:=fun r=>r.count<=24->∀ alone,r.co1 wh alone=(r.parts alone).all fun p=>aj2 wh p.1 p.2) (fun k d aZ ih hc alone=>?_) r;simp only[aa8.count] at hc;simp only[aa8.co1,aa8.parts,List.all_cons];have:=aa8.fk8 aZ;rw[ia5 h1 h3 k d aZ alone (by omega)];congr 1;generalize (alone||decide (k=6)||decide (k=7))=al
 have:∀ l:List aa8,(∀ x∈l,x∈aZ)->aa8.dj3 wh l al=(aa8.bg1 l al).all fun p=>aj2 wh p.1 p.2:=by
  intro l
  induction l with
  | nil=>intro _; rfl
  | cons x l ih2=>
   intro h;have hx:=h x List.mem_cons_self;simp only[aa8.dj3,aa8.bg1,List.all_append];rw[ih x hx (by have:=aa8.dj4 hx; omega),ih2 fun y hy=>h y (List.mem_cons_of_mem _ hy)]
 exact this aZ fun _ h=>h
theorem ei5 (r:aa8)(wh:Int):ar4 r wh=if wh<1\/3<wh then 1 else if r.count>24 then 40 else if r.depth>8 then 21 else if r.co1 wh false=false then 4 else 0:=by
 unfold ar4;by_cases h1:wh<1\/3<wh
 ·rw[if_pos h1,if_pos h1]
 rw[if_neg h1,if_neg h1];by_cases h2:r.count>24
 ·rw[if_pos h2,if_pos h2]
 rw[if_neg h2,if_neg h2];by_cases h3:r.depth>8
 ·rw[if_pos h3,if_pos h3]
 rw[if_neg h3,if_neg h3,aa8.fk9 (by omega) (by omega) r (by omega)];cases h:(r.parts false).all fun p=>aj2 wh p.1 p.2<;>simp
end Go.Id.Md
set_option linter.all false
namespace Go.Id.Md
open Go Go.Id
theorem cq3 {p:UInt8->Bool}(l:Str):(l.dropWhile p).length<=l.length:=by
 induction l with
 | nil=>exact Nat.le_refl _
 | cons a l ih=>
  rw[List.dropWhile_cons];split
  ·exact Nat.le_trans ih (Nat.le_succ _)
  ·exact Nat.le_refl _
theorem ej3:∀ (n m:Nat) (l:Str),l.length<=n->l.length<=m->au4 n l=au4 m l:=by
 intro n
 induction n with
 | zero=>
  intro m l h1 _;have:l=[]:=List.length_eq_zero_iff.1 (Nat.le_zero.1 h1);subst this
  cases m<;>rfl
 | succ n ih=>
  intro m l h1 h2
  cases l with
  | nil=>cases m<;>rfl
  | cons b l=>
   cases m with
   | zero=>simp at h2
   | succ m=>
    simp only[List.length_cons] at h1 h2
    have hd:af1 b=af1 b->((b::l).dropWhile fun c=>af1 c==af1 b).length<=l.length:=fun _=>by
     rw[List.dropWhile_cons,if_pos (by simp)];exact cq3 l
    have hd:=hd rfl;simp only[au4];rw[ih m l (by omega) (by omega),ih m _ (Nat.le_trans hd (by omega)) (Nat.le_trans hd (by omega))]
def gb3 (b:UInt8)(l:Str):Nat:=(l.takeWhile fun c=>af1 c==af1 b).length
theorem gu4 {b:UInt8}{l:Str}(h:af1 b=0):af5 (b::l)=af5 l:=by
 unfold af5;simp only[List.length_cons,au4,h,if_true]
theorem gu5 {b:UInt8}{l:Str}(h:af1 b≠0)(h4:af1 b<4):af5 (b::l)=⟨af1 b,[]⟩::af5 l:=by
 unfold af5;simp only[List.length_cons,au4,h,h4,if_true,if_false]
theorem dq3 (p:UInt8->Bool)(l:Str):l.takeWhile p=l.take (l.takeWhile p).length/\l.dropWhile p=l.drop (l.takeWhile p).length:=by
 induction l with
 | nil=>exact ⟨rfl,rfl⟩
 | cons a l ih=>
  rw[List.takeWhile_cons,List.dropWhile_cons]
  cases h:p a with
  | true=>
   simp only[if_true,List.length_cons,List.take_succ_cons,List.drop_succ_cons]
   exact ⟨by rw[<- ih.1],ih.2⟩
  | false=>simp
theorem gu6 {b:UInt8}{l:Str}(h4:¬ af1 b<4):af5 (b::l)=⟨af1 b,if af1 b=5 then ((b::l).take (gb3 b l+1)).dropWhile (· == 48) else (b::l).take (gb3 b l+1)⟩::af5 (l.drop (gb3 b l)):=by
 have h0:af1 b≠0:=by omega
 unfold af5;simp only[List.length_cons,au4,h0,h4,if_false]
 have e1:(b::l).takeWhile (fun c=>af1 c==af1 b)=(b::l).take (gb3 b l+1):=by
  rw[List.takeWhile_cons,if_pos (by simp),List.take_succ_cons,(dq3 (fun c=>af1 c==af1 b) l).1];unfold gb3; rw[<- (dq3 (fun c=>af1 c==af1 b) l).1]
 have e2:(b::l).dropWhile (fun c=>af1 c==af1 b)=l.drop (gb3 b l):=by
  rw[List.dropWhile_cons,if_pos (by simp)];exact (dq3 (fun c=>af1 c==af1 b) l).2
 rw[e1,e2,ej3 l.length (l.drop (gb3 b l)).length _ (by rw[List.length_drop]; omega) (Nat.le_refl _)]
theorem je5 {p:UInt8->Bool}:∀ (l:Str) (m:Nat),m<(l.takeWhile p).length->∃ c,l[m]? = some c/\p c=true:=by
 intro l
 induction l with
 | nil=>intro m h; simp at h
 | cons a l ih=>
  intro m h;rw[List.takeWhile_cons] at h
  cases hp:p a with
  | false=>rw[hp] at h; simp at h
  | true=>
   rw[hp] at h
   cases m with
   | zero=>exact ⟨a,rfl,hp⟩
   | succ m=>exact ih m (by simpa using h)
theorem je6 {p:UInt8->Bool}:∀ (l:Str) (c:UInt8),l[(l.takeWhile p).length]? = some c->p c=false:=by
 intro l
 induction l with
 | nil=>intro c h; simp at h
 | cons a l ih=>
  intro c h;rw[List.takeWhile_cons] at h
  cases hp:p a with
  | false=>rw[hp] at h; simp at h; rw[<- h]; exact hp
  | true=>rw[hp] at h; exact ih c (by simpa using h)
theorem ir2 {b:UInt8}{l:Str}{m:Nat}(h:m<gb3 b l):∃ c,l[m]? = some c/\af1 c=af1 b:=by
 obtain ⟨c,h1,h2⟩:=je5 l m h;exact ⟨c,h1,by simpa using h2⟩
theorem ir3 {b:UInt8}{l:Str}{c:UInt8}(h:l[gb3 b l]? = some c):af1 c≠af1 b:=by
 have:=je6 l c h
 simpa using this
theorem ir4 (b:UInt8)(l:Str):gb3 b l<=l.length:=(List.takeWhile_sublist _).length_le
end Go.Id.Md
