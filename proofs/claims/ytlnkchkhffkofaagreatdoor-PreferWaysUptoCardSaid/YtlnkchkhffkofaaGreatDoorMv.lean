/- What is told of an installed package's ways: in plain words. Conditions: none; no program in sight. -/
import Derived.Test.YtlnkchkhffkofaaGreatDoorMf
set_option linter.all false
namespace Go.Id.Md
open Go Go.Id
def du3 (l:List Int)(x:Int):Nat:=l.countP fun y=>decide (y=x)
theorem ft9 (l:List Int)(x y:Int):du3 (l++[y]) x=du3 l x+if y=x then 1 else 0:=by
 unfold du3;rw[List.countP_append];by_cases h:y=x<;>simp[h]
theorem hk6 (l:List Int)(x:Int):du3 l x<=l.length:=List.countP_le_length
theorem gl9:∀ {l:List Int} {x:Int},x ∉ l->du3 l x=0:=by
 intro l x h;unfold du3;rw[List.countP_eq_zero];intro y hy e;exact h (of_decide_eq_true e▸hy)
theorem gm1:∀ {l:List Int} {x:Int},l.Nodup->x∈l->du3 l x=1:=by
 intro l x hd hx
 induction l with
 | nil=>cases hx
 | cons y l ih=>
  rw[List.nodup_cons] at hd
  have e:du3 (y::l) x=du3 l x+if y=x then 1 else 0:=by
   unfold du3;rw[List.countP_cons];by_cases h:y=x<;>simp[h]
  rw[e];by_cases h:y=x
  ·subst h; rw[gl9 hd.1,if_pos rfl]
  ·rw[if_neg h,ih hd.2 ((List.mem_cons.1 hx).resolve_left fun e=>h e.symm)]
theorem gm2 {l ws:List Int}(hp:l.Perm ws)(hd:ws.Nodup){x:Int}(hx:x∈ws):du3 l x=1 :=
 gm1 (hp.nodup_iff.2 hd) (hp.mem_iff.2 hx)
namespace ak1
variable (o:ak1)
theorem de7 {i:Int}(h:o.a.inst i=true):i∈o.a.aw7 i:=by
 unfold ah7.aw7;rw[if_pos h]
 have h1:o.a.is i=true:=by
  unfold ah7.inst at h;rw[Bool.and_eq_true] at h; exact h.1
 unfold ah7.is at h1;simp only[Bool.and_eq_true,decide_eq_true_eq] at h1;refine at5.2 ⟨i.toNat,by omega,by omega,?_⟩;have e:((i.toNat:Nat):Int)=i:=by omega
 rw[e]; simp
theorem ff9 {i:Int}(h:o.a.aw7 i≠[]):o.a.inst i=true:=by
 unfold ah7.aw7 at h;split at h
 ·assumption
 ·exact absurd rfl h
variable (hr:∀ n,o.a.is n=true->(o.a.pk n).evr.rel≠[])
include hr
theorem dk8 {i:Int}:∀ f∈[bb9 i],WO o.cm2 f:=fun f hf=>by
 rw[List.mem_singleton] at hf; subst hf; exact o.hj8 i
theorem fu1 {i:Int}:∀ f∈[o.upF i],WO o.cm2 f:=fun f hf=>by
 rw[List.mem_singleton] at hf; subst hf; exact o.ij8 i
theorem en4 {i:Int}:∀ f∈[o.bv8,o.upF i],WO o.cm2 f:=fun f hf=>by
 simp only[List.mem_cons,List.not_mem_nil,or_false] at hf;rcases hf with rfl|rfl
 ·exact o.hj9
 ·exact o.ij8 i
theorem hk7 {i x:Int}(h:cv8 [bb9 i] o.cmp x i<0):x=i:=by
 refine Classical.byContradiction fun hne=>?_
 simp[cv8,bb9,ba4,hne,Md.lex,am5] at h
theorem cr6 {i:Int}(h:o.a.inst i=true)(hl:0<(o.an6 [bb9 i] i).length):(o.an6 [bb9 i] i)[0]=i:=by
 have hup:=o.cn6 hr (o.dk8 hr (i:=i)) i;have hm:i∈o.an6 [bb9 i] i:=(o.ar9 _ i).mem_iff.2 (o.de7 h);obtain ⟨k,hk,e⟩:=List.mem_iff_getElem.1 hm
 cases k with
 | zero=>exact e
 | succ k=>
  have h1:=List.pairwise_iff_getElem.1 hup 0 (k+1) hl hk (Nat.succ_pos k);rw[e] at h1;exact o.hk7 hr h1
theorem dk9 {fs:List (Int->Int->Int)}{i x:Int}(hx:x∈o.an6 fs i):o.a.is x=true:=o.cn5 ((o.ar9 fs i).mem_iff.1 hx)
theorem fg1 {i:Int}(h:o.a.inst i=true){k:Nat}(h1:1<=k)(h2:k+1<(o.an6 [bb9 i] i).length):o.better (o.an6 [bb9 i] i)[k] (o.an6 [bb9 i] i)[k+1]=true:=by
 have hup:=o.cn6 hr (o.dk8 hr (i:=i)) i;have hnd:(o.an6 [bb9 i] i).Nodup:=(o.ar9 _ i).nodup_iff.2 (o.bf1 i);have h0:=o.cr6 hr h (by omega);have n1:=List.pairwise_iff_getElem.1 hnd 0 k (by omega) (by omega) (by omega);have n2:=List.pairwise_iff_getElem.1 hnd 0 (k+1) (by omega) (by omega) (by omega);rw[h0] at n1 n2;have h3:=List.pairwise_iff_getElem.1 hup k (k+1) (by omega) h2 (by omega);have i1:=o.dk9 hr (List.getElem_mem (show k<(o.an6 [bb9 i] i).length by omega));have i2:=o.dk9 hr (List.getElem_mem h2);generalize (o.an6 [bb9 i] i)[k]=x at *;generalize (o.an6 [bb9 i] i)[k+1]=y at *;have e1:¬ x=i:=fun e=>n1 e.symm
 have e2:¬ y=i:=fun e=>n2 e.symm
 have h4:o.cmp x y<0:=by simpa [cv8,bb9,ba4,e1,e2,Md.lex,am5] using h3
 unfold better;rw[i1,i2];simp[h4]
theorem hk8 {i:Int}{k:Nat}(h2:k+1<(o.an6 [o.upF i] i).length)(hn:(o.a.pk (o.an6 [o.upF i] i)[k+1]).name=(o.a.pk i).name) :
  (o.a.pk (o.an6 [o.upF i] i)[k]).name=(o.a.pk i).name/\¬ ak8 (o.a.pk (o.an6 [o.upF i] i)[k]).evr (o.a.pk (o.an6 [o.upF i] i)[k+1]).evr<0:=by
 have hup:=o.cn6 hr (o.fu1 hr (i:=i)) i;have h3:=List.pairwise_iff_getElem.1 hup k (k+1) (by omega) h2 (by omega);generalize (o.an6 [o.upF i] i)[k]=x at *;generalize (o.an6 [o.upF i] i)[k+1]=y at *;have hneg:=df2 (o.a.pk y).evr (o.a.pk x).evr;by_cases hx:(o.a.pk x).name=(o.a.pk i).name
 ·refine ⟨hx,fun hlt=>?_⟩;have c1:¬ ak8 (o.a.pk y).evr (o.a.pk x).evr=0:=by omega
  have h4:ak8 (o.a.pk y).evr (o.a.pk x).evr<0:=by simpa [cv8,upF,ff8,ba4,hx,hn,Md.lex,am5,c1] using h3
  omega
 ·exfalso;simp[cv8,upF,ff8,ba4,hx,hn,Md.lex,am5] at h3
theorem gm3 {i:Int}{k:Nat}(h2:k+1<(o.an6 [o.bv8,o.upF i] i).length)(hn:0<=o.a.p.az5 (o.an6 [o.bv8,o.upF i] i)[k+1]) :
  ¬ o.a.p.az5 (o.an6 [o.bv8,o.upF i] i)[k]<0:=by
 have hup:=o.cn6 hr (o.en4 hr (i:=i)) i;have h3:=List.pairwise_iff_getElem.1 hup k (k+1) (by omega) h2 (by omega);generalize (o.an6 [o.bv8,o.upF i] i)[k]=x at *;generalize (o.an6 [o.bv8,o.upF i] i)[k+1]=y at *;intro hx;have c1:¬ 0<=o.a.p.az5 x:=by omega
 simp[cv8,bv8,ba4,hn,c1,Md.lex,am5] at h3
end ak1
end Go.Id.Md
set_option linter.all false
namespace Go.Id.Md
open Go Go.Id
theorem cn7 {p:UInt8->Bool}(l:Str):(l.dropWhile p).length<=l.length:=by
 induction l with
 | nil=>exact Nat.le_refl _
 | cons a l ih=>
  rw[List.dropWhile_cons];split
  ·exact Nat.le_trans ih (Nat.le_succ _)
  ·exact Nat.le_refl _
theorem ee8:∀ (n m:Nat) (l:Str),l.length<=n->l.length<=m->ar8 n l=ar8 m l:=by
 intro n
 induction n with
 | zero=>
  intro m l h1 _;have:l=[]:=List.length_eq_zero_iff.1 (Nat.le_zero.1 h1);subst this
  cases m<;>rfl
 | succ n ih=>
  intro m l h1 h2
  cases l with
  | nil=>cases m<;>rfl
  | cons b l=>
   cases m with
   | zero=>simp at h2
   | succ m=>
    simp only[List.length_cons] at h1 h2
    have hd:ae3 b=ae3 b->((b::l).dropWhile fun c=>ae3 c==ae3 b).length<=l.length:=fun _=>by
     rw[List.dropWhile_cons,if_pos (by simp)];exact cn7 l
    have hd:=hd rfl;simp only[ar8];rw[ih m l (by omega) (by omega),ih m _ (Nat.le_trans hd (by omega)) (Nat.le_trans hd (by omega))]
def fu2 (b:UInt8)(l:Str):Nat:=(l.takeWhile fun c=>ae3 c==ae3 b).length
theorem gm4 {b:UInt8}{l:Str}(h:ae3 b=0):ae9 (b::l)=ae9 l:=by
 unfold ae9;simp only[List.length_cons,ar8,h,if_true]
theorem gm5 {b:UInt8}{l:Str}(h:ae3 b≠0)(h4:ae3 b<4):ae9 (b::l)=⟨ae3 b,[]⟩::ae9 l:=by
 unfold ae9;simp only[List.length_cons,ar8,h,h4,if_true,if_false]
theorem dl1 (p:UInt8->Bool)(l:Str):l.takeWhile p=l.take (l.takeWhile p).length/\l.dropWhile p=l.drop (l.takeWhile p).length:=by
 induction l with
 | nil=>exact ⟨rfl,rfl⟩
 | cons a l ih=>
  rw[List.takeWhile_cons,List.dropWhile_cons]
  cases h:p a with
  | true=>
   simp only[if_true,List.length_cons,List.take_succ_cons,List.drop_succ_cons]
   exact ⟨by rw[<- ih.1],ih.2⟩
  | false=>simp
theorem gm6 {b:UInt8}{l:Str}(h4:¬ ae3 b<4):ae9 (b::l)=⟨ae3 b,if ae3 b=5 then ((b::l).take (fu2 b l+1)).dropWhile (· == 48) else (b::l).take (fu2 b l+1)⟩::ae9 (l.drop (fu2 b l)):=by
 have h0:ae3 b≠0:=by omega
 unfold ae9;simp only[List.length_cons,ar8,h0,h4,if_false]
 have e1:(b::l).takeWhile (fun c=>ae3 c==ae3 b)=(b::l).take (fu2 b l+1):=by
  rw[List.takeWhile_cons,if_pos (by simp),List.take_succ_cons,(dl1 (fun c=>ae3 c==ae3 b) l).1];unfold fu2; rw[<- (dl1 (fun c=>ae3 c==ae3 b) l).1]
 have e2:(b::l).dropWhile (fun c=>ae3 c==ae3 b)=l.drop (fu2 b l):=by
  rw[List.dropWhile_cons,if_pos (by simp)];exact (dl1 (fun c=>ae3 c==ae3 b) l).2
 rw[e1,e2,ee8 l.length (l.drop (fu2 b l)).length _ (by rw[List.length_drop]; omega) (Nat.le_refl _)]
theorem ix9 {p:UInt8->Bool}:∀ (l:Str) (m:Nat),m<(l.takeWhile p).length->∃ c,l[m]? = some c/\p c=true:=by
 intro l
 induction l with
 | nil=>intro m h; simp at h
 | cons a l ih=>
  intro m h;rw[List.takeWhile_cons] at h
  cases hp:p a with
  | false=>rw[hp] at h; simp at h
  | true=>
   rw[hp] at h
   cases m with
   | zero=>exact ⟨a,rfl,hp⟩
   | succ m=>exact ih m (by simpa using h)
theorem iy1 {p:UInt8->Bool}:∀ (l:Str) (c:UInt8),l[(l.takeWhile p).length]? = some c->p c=false:=by
 intro l
 induction l with
 | nil=>intro c h; simp at h
 | cons a l ih=>
  intro c h;rw[List.takeWhile_cons] at h
  cases hp:p a with
  | false=>rw[hp] at h; simp at h; rw[<- h]; exact hp
  | true=>rw[hp] at h; exact ih c (by simpa using h)
theorem ij9 {b:UInt8}{l:Str}{m:Nat}(h:m<fu2 b l):∃ c,l[m]? = some c/\ae3 c=ae3 b:=by
 obtain ⟨c,h1,h2⟩:=ix9 l m h;exact ⟨c,h1,by simpa using h2⟩
theorem ik1 {b:UInt8}{l:Str}{c:UInt8}(h:l[fu2 b l]? = some c):ae3 c≠ae3 b:=by
 have:=iy1 l c h
 simpa using this
theorem ik2 (b:UInt8)(l:Str):fu2 b l<=l.length:=(List.takeWhile_sublist _).length_le
end Go.Id.Md
