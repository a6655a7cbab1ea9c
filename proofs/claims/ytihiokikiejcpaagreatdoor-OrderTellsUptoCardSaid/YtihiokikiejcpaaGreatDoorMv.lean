/- The document's row of steps: the least that may be next; ways found by going on from whom one needs. Conditions: none; no program in sight. -/
import Derived.Test.YtihiokikiejcpaaGreatDoorMb
set_option linter.all false
namespace Go.Id.Md
open Go Go.Id
section
variable {R w:Int->Int->Bool} {L left:List Int}
def bp6 (w:Int->Int->Bool)(left:List Int)(n:Int):Bool:=!left.any fun m=>w n m
theorem dp5 (n:Int):bp6 w (aq6 left) n=bp6 w left n:=by
 unfold bp6;congr 1;rw[Bool.eq_iff_iff,List.any_eq_true,List.any_eq_true];exact ⟨fun ⟨m,hm,h⟩=>⟨m,(ak1 left).mem_iff.1 hm,h⟩,fun ⟨m,hm,h⟩=>⟨m,(ak1 left).mem_iff.2 hm,h⟩⟩
theorem bt3 {n:Int}:bp6 w left n=true↔∀ m∈left,w n m=false:=by
 unfold bp6;rw[Bool.not_eq_true',List.any_eq_false];exact ⟨fun h m hm=>by simpa using h m hm,fun h m hm=>by rw[h m hm]; decide⟩
theorem ew8 {b:Nat}(hb:b<left.length)(h1:bp6 w left left[b]=true)(h2:∀ x∈left,bp6 w left x=true->left[b]<=x) :
  dk6 w left.length (aq6 left)=left[b]::dk6 w (left.eraseIdx b).length (aq6 (left.eraseIdx b)):=by
 have hp:=ak1 left;have hm:left[b]∈left:=List.getElem_mem hb;have h0:aq6 left≠[]:=fun e=>by rw[e] at hp; have:=hp.mem_iff.2 hm; cases this
 obtain ⟨k,hk⟩:∃ k,left.length=k+1:=⟨left.length-1,by omega⟩;have hlt:=df5 (w:=w) h0
 have hfree:=ew6 (w:=w) (left:=aq6 left) ⟨left[b],hp.mem_iff.2 hm,by
  rw[<- bt3,dp5]; exact h1⟩
 have hg:(aq6 left).getD (aj5 w (aq6 left)) 0=(aq6 left)[aj5 w (aq6 left)]:=by simp[List.getD_eq_getElem?_getD,hlt]
 have e1:left[b]<=(aq6 left)[aj5 w (aq6 left)]:=h2 _ (hp.mem_iff.1 (List.getElem_mem hlt)) (by
  rw[<- dp5,bt3,<- hg]; exact hfree)
 obtain ⟨j,hj,hjb⟩:=List.mem_iff_getElem.1 (hp.mem_iff.2 hm)
 have hpj:aj5 w (aq6 left)<=j:=by
  rcases Nat.lt_or_ge j (aj5 w (aq6 left)) with h|h
  ·obtain ⟨m,hm2,h3⟩:=dy6 h hj;rw[hjb] at h3;rw[bt3.1 h1 m (hp.mem_iff.1 hm2)] at h3; cases h3
  ·exact h
 have e2:(aq6 left)[aj5 w (aq6 left)]<=left[b]:=by
  rw[<- hjb];rcases Nat.lt_or_ge (aj5 w (aq6 left)) j with h|h
  ·exact List.pairwise_iff_getElem.1 (df8 left) _ _ hlt hj h
  ·have:aj5 w (aq6 left)=j:=by omega
   simp only[this]; exact Int.le_refl _
 have e:(aq6 left)[aj5 w (aq6 left)]=left[b]:=Int.le_antisymm e2 e1;rw[hk,co2 h0,hg,e];congr 1;have p1:=ar5 (l:=aq6 left) hlt;have p2:=ar5 (l:=left) hb;have hg2:left.getD b 0=left[b]:=by simp[List.getD_eq_getElem?_getD,hb]
 rw[hg,e] at p1;rw[hg2] at p2;have p3:=((p1.trans hp).trans p2.symm).cons_inv;have hl:(left.eraseIdx b).length=k:=by rw[List.length_eraseIdx_of_lt hb]; omega
 rw[hl,df9 p3 ((df8 left).sublist (List.eraseIdx_sublist _ _))]
structure ch9 (R:Int->Int->Bool) (L:List Int) (n m:Int) (met:List Int):Prop where
 from_:∀ x∈met,x∈L/\(x=n\/Way R L n x)
 has:n∈met
 nd:met.Nodup
theorem ch9.zero {n m:Int}(hn:n∈L):ch9 R L n m [n] where
 from_:=fun x hx=>by rw[List.mem_singleton] at hx; subst hx; exact ⟨hn,.inl rfl⟩
 has:=List.mem_singleton.2 rfl
 nd:=(List.nodup_cons.2 ⟨fun h=>(by cases h),List.nodup_nil⟩)
theorem ch9.next {n m x a:Int}{met:List Int}(h:ch9 R L n m met)(hx:x∈met)(ha:a∈L)(hr:R x a=true):Way R L n a:=by
 obtain ⟨h1,h2⟩:=h.from_ x hx;rcases h2 with rfl|h2
 ·exact .once h1 ha hr
 ·exact h2.trans (.once h1 ha hr)
theorem ch9.push {n m x a:Int}{met:List Int}(h:ch9 R L n m met)(hx:x∈met)(ha:a∈L)(hr:R x a=true)(hi:a ∉ met):ch9 R L n m (met++[a]) where
 from_:=fun y hy=>by
  rcases List.mem_append.1 hy with hy|hy
  ·exact h.from_ y hy
  ·rw[List.mem_singleton] at hy; subst hy; exact ⟨ha,.inr (h.next hx ha hr)⟩
 has:=List.mem_append_left _ h.has
 nd:=List.nodup_append.2 ⟨h.nd,(List.nodup_cons.2 ⟨fun h=>(by cases h),List.nodup_nil⟩),fun y hy z hz e=>by rw[List.mem_singleton] at hz; subst hz; subst e; exact hi hy⟩
theorem ch9.len {n m:Int}{met:List Int}(h:ch9 R L n m met):met.length<=L.length:=by
 have:∀ (l m:List Int),l.Nodup->(∀ x∈l,x∈m)->l.length<=m.length:=by
  intro l
  induction l with
  | nil=>intro m _ _; exact Nat.zero_le _
  | cons a l ih=>
   intro m hd hs;obtain ⟨h1,h2⟩:=List.nodup_cons.1 hd;obtain ⟨i,hi,e⟩:=List.mem_iff_getElem.1 (hs a List.mem_cons_self);have hg:m.getD i 0=a:=by simp[List.getD_eq_getElem?_getD,hi,e]
   have hp:=ar5 hi;rw[hg] at hp
   have:=ih (m.eraseIdx i) h2 fun x hx=>by
    rcases List.mem_cons.1 (hp.mem_iff.2 (hs x (List.mem_cons_of_mem _ hx))) with rfl|h
    ·exact absurd hx h1
    ·exact h
   have hl:=hp.length_eq;simp only[List.length_cons] at hl ⊢; omega
 exact this met L h.nd fun x hx=>(h.from_ x hx).1
def hc9 (R:Int->Int->Bool)(L:List Int)(m:Int)(met:List Int)(x:Int):Prop:=∀ a∈L,R x a=true->a∈met/\a≠m
theorem gh4 {n m:Int}{met:List Int}(hn:n∈met)(h:∀ x∈met,hc9 R L m met x):da8 R L n m=false:=by
 rw[Bool.eq_false_iff];intro hw;have hw:=ay6.1 hw
 have:∀ x y,Way R L x y->x∈met->y=m->False:=by
  intro x y hxy
  induction hxy with
  | once h1 h2 h3=>intro hx e; exact (h _ hx _ h2 h3).2 e
  | step h1 h2 h3 _ ih=>intro hx e; exact ih (h _ hx _ h2 h3).1 e
 exact this n m hw hn rfl
theorem hd8 {s:List Int}(hs:s.Pairwise (·<=·)){x:Int}{n:Nat}(h1:∀ j (h:j<s.length),j<n->s[j]<x)(h2:∀ h:n<s.length,¬ s[n]<x) :
  (s.take n++[x]++s.drop n).Pairwise (·<=·)/\(s.take n++[x]++s.drop n).Perm (s++[x]):=by
 have e:s.take n++s.drop n=s:=List.take_append_drop n s;have hs':=hs;rw[<- e] at hs';obtain ⟨p1,p2,p3⟩:=List.pairwise_append.1 hs'
 have lo:∀ a∈s.take n,a<=x:=fun a ha=>by
  obtain ⟨j,hj,rfl⟩:=List.mem_iff_getElem.1 ha;rw[List.length_take] at hj;rw[List.getElem_take];have:=h1 j (by omega) (by omega);omega
 have hi:∀ b∈s.drop n,x<=b:=fun b hb=>by
  obtain ⟨j,hj,rfl⟩:=List.mem_iff_getElem.1 hb;rw[List.length_drop] at hj;rw[List.getElem_drop];have h3:=h2 (by omega);rcases Nat.eq_zero_or_pos j with h0|h0
  ·subst h0; simp only[Nat.add_zero]; omega
  ·have:=List.pairwise_iff_getElem.1 hs n (n+j) (by omega) (by omega) (by omega);omega
 refine ⟨?_,?_⟩
 ·rw[List.append_assoc];refine List.pairwise_append.2 ⟨p1,List.pairwise_append.2 ⟨List.pairwise_singleton _ _,p2,fun a ha b hb=>?_⟩,fun a ha b hb=>?_⟩
  ·rw[List.mem_singleton] at ha; subst ha; exact hi b hb
  ·rcases List.mem_append.1 hb with hb|hb
   ·rw[List.mem_singleton] at hb; subst hb; exact lo a ha
   ·exact p3 a ha b hb
 ·rw[List.append_assoc]
  have q1:(s.take n++([x]++s.drop n)).Perm ([x]++(s.take n++s.drop n)):=by
   show (s.take n++(x::s.drop n)).Perm (x::(s.take n++s.drop n));exact List.perm_middle
  rw[e] at q1;exact q1.trans List.perm_append_comm
theorem gh5 {l:List Int}{x:Int}{n:Nat}(h1:∀ j (h:j<(aq6 l).length),j<n->(aq6 l)[j]<x)(h2:∀ h:n<(aq6 l).length,¬ (aq6 l)[n]<x) :
  (aq6 l).take n++[x]++(aq6 l).drop n=aq6 (l++[x]):=by
 obtain ⟨a,b⟩:=hd8 (df8 l) h1 h2;exact df9 (b.trans ((ak1 l).append_right _)) a
theorem gh6 {l:List Step}(hd:hb9 l){n:Int}(hn:n∈l.map (·.p)):l.filter (fun s=>decide (s.p=n))=[⟨df7 l n,n⟩]:=by
 obtain ⟨s,hs,rfl⟩:=List.mem_map.1 hn;rw[gg7 hd hs];unfold hb9 at hd;clear hn
 induction l with
 | nil=>cases hs
 | cons t l ih=>
  rw[List.map_cons,List.nodup_cons] at hd;rw[List.filter_cons];rcases List.mem_cons.1 hs with rfl|hs
  ·have h0:l.filter (fun u=>decide (u.p=s.p))=[]:=List.filter_eq_nil_iff.2 fun u hu e=>hd.1 (List.mem_map.2 ⟨u,hu,of_decide_eq_true e⟩)
   rw[if_pos (by simp),h0]
  ·have hne:¬ t.p=s.p:=fun e=>hd.1 (e▸List.mem_map.2 ⟨s,hs,rfl⟩)
   rw[if_neg (by simpa using hne)];exact ih hd.2 hs
end
def cr6 (p:aa9×Bool):Option Dep:=if p.1.kind=1 then some p.1.dep else none
theorem ew9 (r:aa9):∀ b c,(r.parts b).filterMap cr6=(r.parts c).filterMap cr6:=by
 induction r using aa9.ind with
 | h k d xs ih=>
  intro b c
  have hs:∀ (ys:List aa9),(∀ y∈ys,y∈xs)->∀ b c,(aa9.av3 ys b).filterMap cr6=(aa9.av3 ys c).filterMap cr6:=by
   intro ys
   induction ys with
   | nil=>intro _ b c; rfl
   | cons y ys ih2=>
    intro h b c;simp only[aa9.av3,List.filterMap_append];rw[ih y (h y List.mem_cons_self) b c,ih2 (fun z hz=>h z (List.mem_cons_of_mem _ hz)) b c]
  simp only[aa9.parts,List.filterMap_cons];rw[hs xs (fun _ h=>h) _ (c||decide (k=6)||decide (k=7))];rfl
theorem dp6 (xs:List aa9):∀ b,(aa9.av3 xs b).filterMap cr6=xs.flatMap aa9.atoms:=by
 induction xs with
 | nil=>intro b; rfl
 | cons y ys ih=>
  intro b;simp only[aa9.av3,List.filterMap_append,List.flatMap_cons];rw[ih b,ew9 y b false]; rfl
theorem gh7 (k:Int)(d:Dep)(xs:List aa9):(aa9.mk k d xs).atoms=(if k=1 then [d] else [])++xs.flatMap aa9.atoms:=by
 show (aa9.parts (aa9.mk k d xs) false).filterMap cr6=_;simp only[aa9.parts,List.filterMap_cons];rw[dp6];by_cases h:k=1
 ·have:cr6 (aa9.mk k d xs,false)=some d:=by unfold cr6; rw[if_pos]; rfl; exact h
  rw[this,if_pos h]; rfl
 ·have:cr6 (aa9.mk k d xs,false)=none:=by unfold cr6; rw[if_neg]; exact h
  rw[this,if_neg h]; rfl
theorem aa9.dp7 {k:Int}{d:Dep}{xs:List aa9}{a:aa9}(h:a∈xs):a.count<=(aa9.mk k d xs).count:=by
 have:∀ ys:List aa9,a∈ys->a.count<=aa9.counts ys:=by
  intro ys
  induction ys with
  | nil=>intro h; cases h
  | cons y ys ih=>
   intro h;simp only[aa9.counts];rcases List.mem_cons.1 h with rfl|h
   ·omega
   ·have:=ih h; omega
 have:=this xs h;simp only[aa9.count]; omega
end Go.Id.Md
set_option linter.all false
namespace Go.Id.Md
open Go Go.Id
structure OkM (ab5:List ak2) (inst:List aa4):Prop where
 n:ab5.length<=16
 all:inst.length+ag6 ab5<=256
 inst:inst.all ah1=true
 ab5:∀ r∈ab5,0<=r.priority/\r.priority<=1024/\r.packages.all ah1=true
theorem dq4:∀ (rs:List ak2) (i:Nat) (st:List bb9×Nms),(∀ r∈rs,0<=r.priority/\r.priority<=1024/\r.packages.all ah1=true)->∃ out,ag5 i rs st=some out:=by
 intro rs
 induction rs with
 | nil=>intro i st _; exact ⟨st,rfl⟩
 | cons r rs ih=>
  intro i st h;obtain ⟨h1,h2,h3⟩:=h r List.mem_cons_self;simp only[ag5];rw[if_neg (by rw[h3]; simp; omega)];exact ih _ _ fun x hx=>h x (List.mem_cons_of_mem _ hx)
theorem OkM.new {ab5:List ak2}{inst:List aa4}(h:OkM ab5 inst):∃ p,co5 ab5 inst=.inl p:=by
 obtain ⟨⟨rows,nm⟩,ho⟩:=dq4 ab5 0 (rowsOf inst (-1) 1025,cr7 [] 0 inst) h.ab5;unfold co5;have:=h.n;have:=h.all;rw[if_neg (by omega),if_neg (by rw[h.inst]; simp),ho];exact ⟨_,rfl⟩
theorem ey9 (a b:List ak2):ag6 (a++b)=ag6 a+ag6 b:=by simp[ag6]
theorem OkM.last {a:List ak2}{l:ak2}{inst:List aa4}{ps:List aa4}(h:OkM (a++[l]) inst)(hp:∀ p∈ps,p∈l.packages)(hl:ps.length<=l.packages.length):OkM (a++[⟨l.priority,ps⟩]) inst where
 n:=by have:=h.n; rw[List.length_append] at this ⊢; exact this
 all:=by
  have:=h.all;rw[ey9] at this ⊢;have e:ag6 [l]=l.packages.length:=by simp[ag6]
  have e2:ag6 [⟨l.priority,ps⟩]=ps.length:=by simp[ag6]
  omega
 inst:=h.inst
 ab5:=fun r hr=>by
  rcases List.mem_append.1 hr with hr|hr
  ·exact h.ab5 r (List.mem_append_left _ hr)
  ·rw[List.mem_singleton] at hr;subst hr;obtain ⟨h1,h2,h3⟩:=h.ab5 l (by simp);exact ⟨h1,h2,List.all_eq_true.2 fun p hp'=>List.all_eq_true.1 h3 p (hp p hp')⟩
end Go.Id.Md
/- Pools whose packages were altered: in plain words. Conditions: none; no program in sight. -/
namespace Go.Id.Md
open Go Go.Id
def ie4 (f:aa4->aa4)(l:List ak2):List ak2:=l.map fun r=>⟨r.priority,r.packages.map f⟩
theorem gi8 (f:aa4->aa4)(l:List ak2):(ie4 f l).length=l.length:=by simp[ie4]
theorem gi9 (f:aa4->aa4)(l:List ak2):ag6 (ie4 f l)=ag6 l:=by
 unfold ag6 ie4;rw[List.map_map];congr 1;exact List.map_congr_left fun r _=>List.length_map ..
theorem OkM.map {ab5:List ak2}{inst:List aa4}{f g:aa4->aa4}(h:OkM ab5 inst)(hf:∀ q,ah1 q=true->ah1 (f q)=true)(hg:∀ q,ah1 q=true->ah1 (g q)=true):OkM (ie4 f ab5) (inst.map g) where
 n:=by rw[gi8]; exact h.n
 all:=by rw[gi9,List.length_map]; exact h.all
 inst:=List.all_eq_true.2 fun x hx=>by
  obtain ⟨y,hy,rfl⟩:=List.mem_map.1 hx;exact hg y (List.all_eq_true.1 h.inst y hy)
 ab5:=fun r hr=>by
  obtain ⟨y,hy,rfl⟩:=List.mem_map.1 hr;obtain ⟨h1,h2,h3⟩:=h.ab5 y hy;refine ⟨h1,h2,List.all_eq_true.2 fun x hx=>?_⟩;obtain ⟨z,hz,rfl⟩:=List.mem_map.1 hx;exact hf z (List.all_eq_true.1 h3 z hz)
end Go.Id.Md
set_option linter.all false
namespace Go.Id.Md
open Go Go.Id
section
variable {R:Int->Int->Bool} {L:List Int} {g g0 g1:Int->Nat}
def bt6 (R:Int->Int->Bool)(n:Int)(l:List Int)(s:Nat):Nat:=l.foldl (fun s m=>if R n m then s ||| 2^m.toNat else s) s
def ar1 (R:Int->Int->Bool)(L:List Int)(n:Int):Nat:=bt6 R n L 0
theorem ex3 (n:Int)(l:List Int)(m:Int)(s:Nat):bt6 R n (l++[m]) s=if R n m then bt6 R n l s ||| 2^m.toNat else bt6 R n l s:=by
 unfold bt6; rw[List.foldl_append]; rfl
theorem co6 (n:Int):∀ (l:List Int) (s k:Nat),(bt6 R n l s).testBit k=(s.testBit k||l.any fun m=>R n m&&decide (m.toNat=k)):=by
 intro l
 induction l with
 | nil=>intro s k; simp[bt6]
 | cons a l ih=>
  intro s k;have e:bt6 R n (a::l) s=bt6 R n l (if R n a then s ||| 2^a.toNat else s):=rfl;rw[e,ih,List.any_cons]
  cases hr:R n a with
  | true=>
   simp only[if_true,Nat.testBit_or,Nat.testBit_two_pow,Bool.true_and,Bool.or_assoc]
  | false=>simp
theorem gs3 (hp:∀ n∈L,0<=n/\n<256):Reach R L (ar1 R L) where
 pos:=hp
 once:=fun n hn m hm h=>by
  unfold ar1;rw[co6,Bool.or_eq_true];exact .inr (List.any_eq_true.2 ⟨m,hm,by rw[h]; simp⟩)
 way:=fun n hn k h=>by
  unfold ar1 at h;rw[co6,Nat.zero_testBit,Bool.false_or,List.any_eq_true] at h;obtain ⟨m,hm,h⟩:=h;simp only[Bool.and_eq_true,decide_eq_true_eq] at h;have e:(k:Int)=m:=by have:=(hp m hm).1; omega
  rw[e];exact .once hn hm h.1
theorem fo7 (hp:∀ n∈L,0<=n/\n<256)(n:Int){m:Int}(hm:m∈L):(ar1 R L n).testBit m.toNat=R n m:=by
 unfold ar1;rw[co6,Nat.zero_testBit,Bool.false_or,Bool.eq_iff_iff,List.any_eq_true];constructor
 ·rintro ⟨x,hx,h⟩;simp only[Bool.and_eq_true,decide_eq_true_eq] at h;have e:x=m:=by have:=(hp m hm).1; have:=(hp x hx).1; omega
  rw[<- e]; exact h.1
 ·intro h; exact ⟨m,hm,by rw[h]; simp⟩
def stepG (L:List Int)(g:Int->Nat)(n:Int):Int->Nat:=cg7 g n (al8 g L (g n))
def co7 (L:List Int)(g:Int->Nat)(l:List Int):Int->Nat:=l.foldl (stepG L) g
def ex4 (L:List Int)(g:Int->Nat):Nat->Int->Nat
 | 0=>g
 | k+1=>co7 L (ex4 L g k) L
def dg4 (R:Int->Int->Bool)(L:List Int):Int->Nat:=ex4 L (ar1 R L) (ax2 L (ar1 R L) L+1)
theorem dp8 (g:Int->Nat)(n:Int):cg7 g n (g n)=g:=by
 funext x; unfold cg7; split
 ·rename_i h; rw[h]
 ·rfl
theorem db4 (g:Int->Nat)(l:List Int)(n:Int):co7 L g (l++[n])=stepG L (co7 L g l) n:=by
 unfold co7; rw[List.foldl_append]; rfl
structure ci2 (R:Int->Int->Bool) (L:List Int) (g0 g:Int->Nat) (done:List Int) (again:Bool):Prop where
 is:g=co7 L g0 done
 reach:Reach R L g
 no:again=false->g=g0/\∀ n∈done,al8 g0 L (g0 n)=g0 n
 yes:again=true->ax2 L g L<ax2 L g0 L
theorem ci2.init (h:Reach R L g0):ci2 R L g0 g0 [] false:=⟨rfl,h,fun _=>⟨rfl,fun _ h=>by cases h⟩,fun h=>by cases h⟩
theorem ci2.eq {done:List Int}{again:Bool}(h:ci2 R L g0 g done again){n:Int}(he:al8 g L (g n)=g n):ci2 R L g0 g (done++[n]) again where
 is:=by rw[db4,<- h.is]; unfold stepG; rw[he,dp8]
 reach:=h.reach
 no:=fun ha=>by
  obtain ⟨h1,h2⟩:=h.no ha;refine ⟨h1,fun m hm=>?_⟩;rcases List.mem_append.1 hm with hm|hm
  ·exact h2 m hm
  ·rw[List.mem_singleton] at hm; subst hm; rw[h1] at he; exact he
 yes:=h.yes
theorem ci2.ne {done:List Int}{again:Bool}(h:ci2 R L g0 g done again)(hd:L.Nodup){n:Int}(hn:n∈L)(he:al8 g L (g n)≠g n):ci2 R L g0 (cg7 g n (al8 g L (g n))) (done++[n]) true where
 is:=by rw[db4,<- h.is]; rfl
 reach:=h.reach.upd hn
 no:=fun ha=>by cases ha
 yes:=fun _=>by
  have h1:=dy8 (L:=L) (g:=g) (s:=al8 g L (g n)) hd hn;have h2:=gh3 h.reach hn he
  cases hb:again with
  | true=>have:=h.yes hb; omega
  | false=>have:=(h.no hb).1; rw[this] at h1 h2 ⊢; omega
theorem gi1 (h:Reach R L g0)(hd:L.Nodup):∀ k,k<=L.length->∃ again,ci2 R L g0 (co7 L g0 (L.take k)) (L.take k) again:=by
 intro k
 induction k with
 | zero=>exact fun _=>⟨false,.init h⟩
 | succ k ih=>
  intro hl;obtain ⟨again,hp⟩:=ih (by omega);have ht:L.take (k+1)=L.take k++[L[k]]:=by rw[List.take_add_one,List.getElem?_eq_getElem (by omega)]; rfl
  rw[ht];by_cases he:al8 (co7 L g0 (L.take k)) L (co7 L g0 (L.take k) L[k])=co7 L g0 (L.take k) L[k]
  ·have:=hp.eq he;rw[<- this.is]; exact ⟨_,this⟩
  ·have:=hp.ne hd (List.getElem_mem (by omega)) he;rw[<- this.is]; exact ⟨_,this⟩
structure ex5 (R:Int->Int->Bool) (L:List Int) (g1:Int->Nat) (i:Nat) (g:Int->Nat) (again:Bool):Prop where
 is:g=ex4 L g1 i
 reach:Reach R L g
 yes:again=true->ax2 L g L+i<=ax2 L g1 L
 no:again=false->∀ n∈L,al8 g L (g n)=g n
theorem ex5.init (h:Reach R L g1):ex5 R L g1 0 g1 true:=⟨rfl,h,fun _=>Nat.le_refl _,fun h=>by cases h⟩
theorem ex5.next {i:Nat}{g':Int->Nat}{again:Bool}(h:ex5 R L g1 i g true)(hp:ci2 R L g g' L again):ex5 R L g1 (i+1) g' again where
 is:=by rw[hp.is,h.is]; rfl
 reach:=hp.reach
 yes:=fun ha=>by have:=hp.yes ha; have:=h.yes rfl; omega
 no:=fun ha=>by obtain ⟨h1,h2⟩:=hp.no ha; rw[h1]; exact h2
theorem ex6 (h:∀ n∈L,al8 g L (g n)=g n):∀ l:List Int,(∀ x∈l,x∈L)->co7 L g l=g:=by
 intro l
 induction l with
 | nil=>intro _; rfl
 | cons a l ih=>
  intro hl;have e:stepG L g a=g:=by unfold stepG; rw[h a (hl a (by simp)),dp8]
  show (l.foldl (stepG L) (stepG L g a))=g;rw[e]; exact ih fun x hx=>hl x (List.mem_cons_of_mem _ hx)
theorem ex5.stay {i:Nat}(h:ex5 R L g1 i g false):∀ k,i<=k->ex4 L g1 k=g:=by
 intro k hk
 induction k with
 | zero=>
  have:i=0:=by omega
  subst this; exact h.is.symm
 | succ k ih=>
  by_cases e:i=k+1
  ·subst e; exact h.is.symm
  ·show co7 L (ex4 L g1 k) L=g;rw[ih (by omega)];exact ex6 (h.no rfl) L fun _ h=>h
theorem ex5.lim {i:Nat}(h:ex5 R L (ar1 R L) i g false)(hi:i<=ax2 L (ar1 R L) L+1):g=dg4 R L:=(h.stay _ hi).symm
theorem gi2 (h:Reach R L g1)(hd:L.Nodup):∀ k,(∃ i,i<=k/\∃ g,ex5 R L g1 i g false)\/ex5 R L g1 k (ex4 L g1 k) true:=by
 intro k
 induction k with
 | zero=>exact .inr (.init h)
 | succ k ih=>
  rcases ih with ⟨i,hi,g,hg⟩|ho
  ·exact .inl ⟨i,by omega,g,hg⟩
  ·obtain ⟨again,hp⟩:=gi1 ho.reach hd L.length (Nat.le_refl _);rw[List.take_length] at hp;have:=ho.next hp
   cases again with
   | true=>exact .inr this
   | false=>exact .inl ⟨k+1,Nat.le_refl _,_,this⟩
theorem ef5 (hp:∀ n∈L,0<=n/\n<256)(hd:L.Nodup){n m:Int}(hn:n∈L)(hm:m∈L):(dg4 R L n).testBit m.toNat=da8 R L n m:=by
 have h0:=gs3 (R:=R) hp;rcases gi2 h0 hd (ax2 L (ar1 R L) L+1) with ⟨i,hi,g,hg⟩|ho
 ·have e:=hg.lim hi;rw[<- e];exact hg.reach.done (hg.no rfl) hn hm
 ·have:=ho.yes rfl;omega
def au7 (g:Int->Nat)(l:List Int):List (IV×IV):=l.map fun n=>(.int .i64 n,.agg (aq3 (g n)))
theorem ex8 {g g':Int->Nat}{l:List Int}(h:∀ n∈l,g n=g' n):au7 g l=au7 g' l:=List.map_congr_left fun n hn=>by rw[h n hn]
theorem ce1 (a b:Int):ai4 1 (.int .i64 a) (.int .i64 b)=some (decide (a=b)):=by
 by_cases h:a=b<;>simp[ai4,ah4,h]
theorem bm5 (g:Int->Nat)(n:Int):∀ l:List Int,at6 1 (.int .i64 n) (au7 g l)=some (if n∈l then some (.agg (aq3 (g n))) else none):=by
 intro l
 induction l with
 | nil=>rfl
 | cons a l ih=>
  show (match ai4 1 (.int .i64 n) (.int .i64 a) with|some true=>some (some (IV.agg (aq3 (g a))))|some false=>at6 1 (.int .i64 n) (au7 g l)|none=>none)=_;rw[ce1];by_cases h:n=a
  ·subst h; simp
  ·simp[h,ih]
theorem he6 (g:Int->Nat)(n:Int)(v:IV):∀ l:List Int,n ∉ l->ct1 1 (.int .i64 n) v (au7 g l)=some (au7 g l++[(.int .i64 n,v)]):=by
 intro l
 induction l with
 | nil=>intro _; rfl
 | cons a l ih=>
  intro h;rw[List.mem_cons,not_or] at h;have hk:=ce1 n a;rw[decide_eq_false h.1] at hk;show ct1 1 (.int .i64 n) v ((.int .i64 a,.agg (aq3 (g a)))::au7 g l)=_;simp only[ct1,hk,ih h.2];rfl
theorem he7 (g:Int->Nat)(n:Int)(s:Nat):∀ l:List Int,l.Nodup->n∈l->ct1 1 (.int .i64 n) (.agg (aq3 s)) (au7 g l)=some (au7 (cg7 g n s) l):=by
 intro l
 induction l with
 | nil=>intro _ h; cases h
 | cons a l ih=>
  intro hd hn;rw[List.nodup_cons] at hd;show ct1 1 (.int .i64 n) (.agg (aq3 s)) ((.int .i64 a,.agg (aq3 (g a)))::au7 g l)=_;by_cases h:n=a
  ·subst h;have hk:=ce1 n n;rw[decide_eq_true rfl] at hk
   have e:au7 g l=au7 (cg7 g n s) l:=ex8 fun m hm=>by
    unfold cg7; rw[if_neg fun e=>hd.1 (by rw[<- e]; exact hm)]
   have e2:cg7 g n s n=s:=by unfold cg7; rw[if_pos rfl]
   simp only[ct1,hk];rw[e];show _=some ((.int .i64 n,.agg (aq3 (cg7 g n s n)))::au7 (cg7 g n s) l);rw[e2]
  ·have hk:=ce1 n a;rw[decide_eq_false h] at hk;have e2:cg7 g n s a=g a:=by unfold cg7; rw[if_neg fun e=>h e.symm]
   simp only[ct1,hk,ih hd.2 ((List.mem_cons.1 hn).resolve_left h)];show some _=some ((.int .i64 a,.agg (aq3 (cg7 g n s a)))::au7 (cg7 g n s) l);rw[e2]
end
end Go.Id.Md
set_option linter.all false
namespace Go.Id.Md
open Go Go.Id
theorem cj9 {p:UInt8->Bool}(l:Str):(l.dropWhile p).length<=l.length:=by
 induction l with
 | nil=>exact Nat.le_refl _
 | cons a l ih=>
  rw[List.dropWhile_cons];split
  ·exact Nat.le_trans ih (Nat.le_succ _)
  ·exact Nat.le_refl _
theorem dz3:∀ (n m:Nat) (l:Str),l.length<=n->l.length<=m->aq4 n l=aq4 m l:=by
 intro n
 induction n with
 | zero=>
  intro m l h1 _;have:l=[]:=List.length_eq_zero_iff.1 (Nat.le_zero.1 h1);subst this
  cases m<;>rfl
 | succ n ih=>
  intro m l h1 h2
  cases l with
  | nil=>cases m<;>rfl
  | cons b l=>
   cases m with
   | zero=>simp at h2
   | succ m=>
    simp only[List.length_cons] at h1 h2
    have hd:ac5 b=ac5 b->((b::l).dropWhile fun c=>ac5 c==ac5 b).length<=l.length:=fun _=>by
     rw[List.dropWhile_cons,if_pos (by simp)];exact cj9 l
    have hd:=hd rfl;simp only[aq4];rw[ih m l (by omega) (by omega),ih m _ (Nat.le_trans hd (by omega)) (Nat.le_trans hd (by omega))]
def fd5 (b:UInt8)(l:Str):Nat:=(l.takeWhile fun c=>ac5 c==ac5 b).length
theorem ey8:ab4 []=[]:=rfl
theorem eg6 {b:UInt8}{l:Str}(h:ac5 b=0):ab4 (b::l)=ab4 l:=by
 unfold ab4;simp only[List.length_cons,aq4,h,if_true]
theorem eg7 {b:UInt8}{l:Str}(h:ac5 b≠0)(h4:ac5 b<4):ab4 (b::l)=⟨ac5 b,[]⟩::ab4 l:=by
 unfold ab4;simp only[List.length_cons,aq4,h,h4,if_true,if_false]
theorem ck3 (p:UInt8->Bool)(l:Str):l.takeWhile p=l.take (l.takeWhile p).length/\l.dropWhile p=l.drop (l.takeWhile p).length:=by
 induction l with
 | nil=>exact ⟨rfl,rfl⟩
 | cons a l ih=>
  rw[List.takeWhile_cons,List.dropWhile_cons]
  cases h:p a with
  | true=>
   simp only[if_true,List.length_cons,List.take_succ_cons,List.drop_succ_cons]
   exact ⟨by rw[<- ih.1],ih.2⟩
  | false=>simp
theorem eg8 {b:UInt8}{l:Str}(h4:¬ ac5 b<4):ab4 (b::l)=⟨ac5 b,if ac5 b=5 then ((b::l).take (fd5 b l+1)).dropWhile (· == 48) else (b::l).take (fd5 b l+1)⟩::ab4 (l.drop (fd5 b l)):=by
 have h0:ac5 b≠0:=by omega
 unfold ab4;simp only[List.length_cons,aq4,h0,h4,if_false]
 have e1:(b::l).takeWhile (fun c=>ac5 c==ac5 b)=(b::l).take (fd5 b l+1):=by
  rw[List.takeWhile_cons,if_pos (by simp),List.take_succ_cons,(ck3 (fun c=>ac5 c==ac5 b) l).1];unfold fd5; rw[<- (ck3 (fun c=>ac5 c==ac5 b) l).1]
 have e2:(b::l).dropWhile (fun c=>ac5 c==ac5 b)=l.drop (fd5 b l):=by
  rw[List.dropWhile_cons,if_pos (by simp)];exact (ck3 (fun c=>ac5 c==ac5 b) l).2
 rw[e1,e2,dz3 l.length (l.drop (fd5 b l)).length _ (by rw[List.length_drop]; omega) (Nat.le_refl _)]
theorem ie2 {p:UInt8->Bool}:∀ (l:Str) (m:Nat),m<(l.takeWhile p).length->∃ c,l[m]? = some c/\p c=true:=by
 intro l
 induction l with
 | nil=>intro m h; simp at h
 | cons a l ih=>
  intro m h;rw[List.takeWhile_cons] at h
  cases hp:p a with
  | false=>rw[hp] at h; simp at h
  | true=>
   rw[hp] at h
   cases m with
   | zero=>exact ⟨a,rfl,hp⟩
   | succ m=>exact ih m (by simpa using h)
theorem ie3 {p:UInt8->Bool}:∀ (l:Str) (c:UInt8),l[(l.takeWhile p).length]? = some c->p c=false:=by
 intro l
 induction l with
 | nil=>intro c h; simp at h
 | cons a l ih=>
  intro c h;rw[List.takeWhile_cons] at h
  cases hp:p a with
  | false=>rw[hp] at h; simp at h; rw[<- h]; exact hp
  | true=>rw[hp] at h; exact ih c (by simpa using h)
theorem gs6 {b:UInt8}{l:Str}{m:Nat}(h:m<fd5 b l):∃ c,l[m]? = some c/\ac5 c=ac5 b:=by
 obtain ⟨c,h1,h2⟩:=ie2 l m h;exact ⟨c,h1,by simpa using h2⟩
theorem gs7 {b:UInt8}{l:Str}{c:UInt8}(h:l[fd5 b l]? = some c):ac5 c≠ac5 b:=by
 have:=ie3 l c h
 simpa using this
theorem gs8 (b:UInt8)(l:Str):fd5 b l<=l.length:=(List.takeWhile_sublist _).length_le
end Go.Id.Md
