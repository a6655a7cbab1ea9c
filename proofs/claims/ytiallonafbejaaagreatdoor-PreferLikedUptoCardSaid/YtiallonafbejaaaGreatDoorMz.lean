/- Pools without their last package,or repository: in plain words. Conditions: none; no program in sight. -/
import Derived.Test.YtiallonafbejaaaGreatDoorMw
set_option linter.all false
namespace Go.Id.Md
open Go Go.Id
structure OkM (repos:List Repo) (inst:List Package):Prop where
 n:repos.length≤16
 all:inst.length+af1 repos≤256
 inst:inst.all ac3=true
 repos:∀ r∈repos,0≤r.priority∧r.priority≤1024∧r.packages.all ac3=true
theorem dj5:∀ (rs:List Repo) (i:Nat) (st:List PRow×Nms),(∀ r∈rs,0≤r.priority∧r.priority≤1024∧r.packages.all ac3=true)→∃ out,ad9 i rs st=some out:=by
 intro rs
 induction rs with
 | nil=>intro i st _; exact ⟨st,rfl⟩
 | cons r rs ih=>
  intro i st h
  obtain ⟨h1,h2,h3⟩:=h r List.mem_cons_self
  simp only[ad9]
  rw[if_neg (by rw[h3]; simp; omega)]
  exact ih _ _ fun x hx=>h x (List.mem_cons_of_mem _ hx)
theorem cl9:∀ (rs:List Repo) (i:Nat) (st out:List PRow×Nms),ad9 i rs st=some out→∀ r∈rs,0≤r.priority∧r.priority≤1024∧r.packages.all ac3=true:=by
 intro rs
 induction rs with
 | nil=>intro i st out _ r hr; cases hr
 | cons x xs ih=>
  intro i st out h r hr
  simp only[ad9] at h
  split at h
  ·cases h
  ·rename_i hc
   rcases List.mem_cons.1 hr with rfl|hr
   ·refine ⟨by omega,by omega,?_⟩
    cases hb:r.packages.all ac3 with
    | true=>rfl
    | false=>exact absurd (.inr (.inr hb)) hc
   ·exact ih _ _ _ h r hr
theorem OkM.new {repos:List Repo}{inst:List Package}(h:OkM repos inst):∃ p,az9 repos inst=.inl p:=by
 obtain ⟨⟨rows,nm⟩,ho⟩:=dj5 repos 0 (rowsOf inst (-1) 1025,cl7 [] 0 inst) h.repos
 unfold az9
 have:=h.n
 have:=h.all
 rw[if_neg (by omega),if_neg (by rw[h.inst]; simp),ho]
 exact ⟨_,rfl⟩
theorem ea8 {repos:List Repo}{inst:List Package}{p:Pool}(h:az9 repos inst=.inl p):OkM repos inst:=by
 obtain ⟨h1,h2,h3,_⟩:=bh5 h
 refine ⟨h1,h2,h3,?_⟩
 unfold az9 at h
 split at h
 ·cases h
 split at h
 ·cases h
 split at h
 ·rename_i rows nm hr
  exact cl9 _ _ _ _ hr
 ·cases h
theorem et2 (a b:List Repo):af1 (a++b)=af1 a+af1 b:=by simp[af1]
theorem OkM.last {a:List Repo}{l:Repo}{inst:List Package}{ps:List Package}(h:OkM (a++[l]) inst)(hp:∀ p∈ps,p∈l.packages)(hl:ps.length≤l.packages.length):OkM (a++[⟨l.priority,ps⟩]) inst where
 n:=by have:=h.n; rw[List.length_append] at this ⊢; exact this
 all:=by
  have:=h.all
  rw[et2] at this ⊢
  have e:af1 [l]=l.packages.length:=by simp[af1]
  have e2:af1 [⟨l.priority,ps⟩]=ps.length:=by simp[af1]
  omega
 inst:=h.inst
 repos:=fun r hr=>by
  rcases List.mem_append.1 hr with hr|hr
  ·exact h.repos r (List.mem_append_left _ hr)
  ·rw[List.mem_singleton] at hr
   subst hr
   obtain ⟨h1,h2,h3⟩:=h.repos l (by simp)
   exact ⟨h1,h2,List.all_eq_true.2 fun p hp'=>List.all_eq_true.1 h3 p (hp p hp')⟩
end Go.Id.Md
/- Pools whose packages were altered: in plain words. Conditions: none; no program in sight. -/
namespace Go.Id.Md
open Go Go.Id
def fh3:Str:=[111,116,104,101,114]
def af6 (q:Package):Package:={ q with vendor:=[],suggests:=[],enhances:=[] }
def aj8 (q:Package):Package:={ q with vendor:=fh3 }
def noV (q:Package):Package:={ q with vendor:=[] }
def ba1 (f:Package→Package)(l:List Repo):List Repo:=l.map fun r=>⟨r.priority,r.packages.map f⟩
theorem ea9 {q:Package}(h:ac3 q=true):ac3 (af6 q)=true:=by
 unfold ac3 at h ⊢
 simp only[Bool.and_eq_true,decide_eq_true_eq] at h ⊢
 obtain ⟨⟨⟨⟨⟨⟨⟨⟨⟨⟨⟨⟨⟨⟨h1,h2⟩,h3⟩,h4⟩,h5⟩,h6⟩,h7⟩,h8⟩,h9⟩,h10⟩,h11⟩,h12⟩,h13⟩,h14⟩,h15⟩:=h
 exact ⟨⟨⟨⟨⟨⟨⟨⟨⟨⟨⟨⟨⟨⟨h1,h2⟩,h3⟩,h4⟩,Nat.zero_le _⟩,h6⟩,h7⟩,h8⟩,h9⟩,h10⟩,h11⟩,h12⟩,h13⟩,rfl⟩,rfl⟩
theorem fy8 {q:Package}(h:ac3 q=true):ac3 (aj8 q)=true:=by
 unfold ac3 at h ⊢
 simp only[Bool.and_eq_true,decide_eq_true_eq] at h ⊢
 obtain ⟨⟨⟨⟨⟨⟨⟨⟨⟨⟨⟨⟨⟨⟨h1,h2⟩,h3⟩,h4⟩,h5⟩,h6⟩,h7⟩,h8⟩,h9⟩,h10⟩,h11⟩,h12⟩,h13⟩,h14⟩,h15⟩:=h
 exact ⟨⟨⟨⟨⟨⟨⟨⟨⟨⟨⟨⟨⟨⟨h1,h2⟩,h3⟩,h4⟩,(by decide:fh3.length≤64)⟩,h6⟩,h7⟩,h8⟩,h9⟩,h10⟩,h11⟩,h12⟩,h13⟩,h14⟩,h15⟩
theorem bh7 (f:Package→Package)(l:List Repo):(ba1 f l).length=l.length:=by simp[ba1]
theorem eb1 (f:Package→Package)(l:List Repo):af1 (ba1 f l)=af1 l:=by
 unfold af1 ba1
 rw[List.map_map]
 congr 1
 exact List.map_congr_left fun r _=>List.length_map ..
theorem OkM.map {repos:List Repo}{inst:List Package}{f g:Package→Package}(h:OkM repos inst)(hf:∀ q,ac3 q=true→ac3 (f q)=true)(hg:∀ q,ac3 q=true→ac3 (g q)=true):OkM (ba1 f repos) (inst.map g) where
 n:=by rw[bh7]; exact h.n
 all:=by rw[eb1,List.length_map]; exact h.all
 inst:=List.all_eq_true.2 fun x hx=>by
  obtain ⟨y,hy,rfl⟩:=List.mem_map.1 hx
  exact hg y (List.all_eq_true.1 h.inst y hy)
 repos:=fun r hr=>by
  obtain ⟨y,hy,rfl⟩:=List.mem_map.1 hr
  obtain ⟨h1,h2,h3⟩:=h.repos y hy
  refine ⟨h1,h2,List.all_eq_true.2 fun x hx=>?_⟩
  obtain ⟨z,hz,rfl⟩:=List.mem_map.1 hx
  exact hf z (List.all_eq_true.1 h3 z hz)
def onP (f:Package→Package)(r:PRow):PRow:=⟨f r.pkg,r.repo,r.prio⟩
theorem cv5 (f:Package→Package)(l:List Package)(a b:Int):rowsOf (l.map f) a b=(rowsOf l a b).map (onP f):=by simp[rowsOf,onP]
theorem da7 (f:Package→Package):∀ (l:List Repo) (i:Nat),ae1 i (ba1 f l)=(ae1 i l).map (onP f):=by
 intro l
 induction l with
 | nil=>intro i; rfl
 | cons r rs ih=>
  intro i
  have h:ba1 f (r::rs)=⟨r.priority,r.packages.map f⟩::ba1 f rs:=rfl
  rw[h,ae1,ae1,ih,List.map_append,cv5]
theorem fh4 {repos:List Repo}{inst:List Package}{p:Pool}{f g:Package→Package}(h:az9 repos inst=.inl p)(hf:∀ q,ac3 q=true→ac3 (f q)=true)(hg:∀ q,ac3 q=true→ac3 (g q)=true) :
  ∃ p',az9 (ba1 f repos) (inst.map g)=.inl p'∧p'.inst=p.inst∧p.inst=inst.length∧p.rows=rowsOf inst (-1) 1025++ae1 0 repos∧p'.rows=(rowsOf inst (-1) 1025).map (onP g)++(ae1 0 repos).map (onP f):=by
 obtain ⟨p',hp⟩:=((ea8 h).map hf hg).new
 obtain ⟨h1,h2⟩:=cd3 h
 obtain ⟨h3,h4⟩:=cd3 hp
 refine ⟨p',hp,by rw[h4,h2,List.length_map],h2,h1,?_⟩
 rw[h3,cv5,da7]
theorem fh5 {repos:List Repo}{inst:List Package}{p p':Pool}(h1:p.rows=rowsOf inst (-1) 1025++ae1 0 repos)(h2:p'.rows=(rowsOf inst (-1) 1025).map (onP af6)++(ae1 0 repos).map (onP af6)):ab2 p'=(ab2 p).map af6:=by
 unfold ab2
 rw[h1,h2,← List.map_append,List.map_map,List.map_map]
 rfl
theorem fy9 {repos:List Repo}{inst:List Package}{p p':Pool}(h1:p.rows=rowsOf inst (-1) 1025++ae1 0 repos)(h2:p'.rows=(rowsOf inst (-1) 1025).map (onP id)++(ae1 0 repos).map (onP aj8)):(ab2 p').map noV=(ab2 p).map noV∧p'.rows.map (·.prio)=p.rows.map (·.prio):=by
 unfold ab2
 rw[h1,h2]
 simp only[List.map_append,List.map_map]
 exact ⟨rfl,rfl⟩
/-! ### Vendors count for nothing -/
theorem fz1 (l:List Package)(d:Dep):ag4 (l.map noV) d=ag4 l d:=by
 unfold ag4 numsOf
 simp only[List.length_map]
 congr 1
 refine List.filter_congr fun n hn=>?_
 have hn:=List.mem_range.1 hn
 simp[List.getD_eq_getElem?_getD,hn]
 try rfl
theorem gp5 (l:List Package)(k:Int)(d:Dep)(fs:List (List Bool→Bool))(st:List Bool):trK (l.map noV) k d fs st=trK l k d fs st:=by
 unfold trK
 rw[fz1]
mutual
theorem gi3 (l:List Package):∀ (r:Rich) (st:List Bool),r.tr (l.map noV) st=r.tr l st
 | .mk k d xs,st=>by
  simp only[Rich.tr]
  rw[fh6 l xs,gp5]
theorem fh6 (l:List Package):∀ (rs:List Rich),Rich.trs (l.map noV) rs=Rich.trs l rs
 | []=>rfl
 | r::rs=>by
  simp only[Rich.trs]
  rw[fh6 l rs]
  congr 1
  funext st
  exact gi3 l r st
end
theorem gp6 (l:List Package)(zs:List Int)(r:Rich):ew2 (l.map noV) zs r=ew2 l zs r:=by
 unfold ew2
 rw[gi3,List.length_map]
def cv6 (L:List Package):List Dep:=L.flatMap fun q=>q.suggests.flatMap Rich.atoms
def bi9 (l:List Package)(n:Nat)(q:Package):Bool:=((cv6 (l.take n)).any fun d=>provides q d)||q.enhances.any fun r=>ew2 l (al6 (fun _=>true) n) r
theorem fh7 (l:List Package):cv6 (l.map noV)=cv6 l:=by
 unfold cv6
 rw[List.flatMap_map]; rfl
theorem dj6 (l:List Package)(n:Nat):(l.map noV).map (bi9 (l.map noV) n)=l.map (bi9 l n):=by
 rw[List.map_map]
 refine List.map_congr_left fun q _=>?_
 show bi9 (l.map noV) n (noV q)=bi9 l n q
 unfold bi9
 rw[← List.map_take,fh7]
 congr 1
 show (q.enhances.any fun r=>ew2 (l.map noV) (al6 (fun _=>true) n) r)=_
 congr 1
 funext r
 exact gp6 l _ r
theorem et3 {l l':List Package}(h:l'.map noV=l.map noV)(n:Nat):l'.map (bi9 l' n)=l.map (bi9 l n):=by
 rw[← dj6 l',← dj6 l,h]
theorem et4 (l:List Package)(n:Nat):∀ b∈(l.map af6).map (bi9 (l.map af6) n),b=false:=by
 intro b hb
 obtain ⟨q,hq,rfl⟩:=List.mem_map.1 hb
 obtain ⟨q0,_,rfl⟩:=List.mem_map.1 hq
 have h1:cv6 ((l.map af6).take n)=[]:=by
  unfold cv6
  rw[← List.map_take,List.flatMap_map]
  exact List.flatMap_eq_nil_iff.2 fun x _=>rfl
 unfold bi9
 rw[h1]; rfl
theorem hk8 {l l':List Package}(h:l'.map noV=l.map noV)(n:Nat):noV (l'.getD n default)=noV (l.getD n default):=by
 have hl:l'.length=l.length:=by have:=congrArg List.length h; simpa using this
 by_cases hn:n<l.length
 ·have h1:(l'.map noV).getD n default=(l.map noV).getD n default:=by rw[h]
  simpa [List.getD_eq_getElem?_getD,hn,hl] using h1
 ·simp[List.getD_eq_getElem?_getD,hn,hl]
theorem dt5 {o o':OrdM}(h1:o'.a.l.map noV=o.a.l.map noV)(h2:o'.a.p.rows.map (·.prio)=o.a.p.rows.map (·.prio))(h3:o'.a.r.arch=o.a.r.arch)(h4:o'.liked=o.liked)(n m:Int):o'.better n m=o.better n m:=by
 have hl:o'.a.l.length=o.a.l.length:=by have:=congrArg List.length h1; simpa using this
 have hi:∀ n,o'.a.is n=o.a.is n:=fun n=>by unfold AskM.is; rw[hl]
 have hpk:∀ n,noV (o'.a.pk n)=noV (o.a.pk n):=fun n=>hk8 h1 n.toNat
 have ha:∀ n,(o'.a.pk n).arch=(o.a.pk n).arch:=fun n=>(Package.mk.inj (hpk n)).2.2.1
 have he:∀ n,(o'.a.pk n).evr=(o.a.pk n).evr:=fun n=>(Package.mk.inj (hpk n)).2.1
 have hf:∀ n,o'.a.fits n=o.a.fits n:=fun n=>by unfold AskM.fits; rw[hi,h3,ha]
 have hk:∀ n,o'.lk n=o.lk n:=fun n=>by unfold OrdM.lk; rw[h4]
 have hp:∀ n,o'.prio n=o.prio n:=fun n=>by
  have hlr:o'.a.p.rows.length=o.a.p.rows.length:=by have:=congrArg List.length h2; simpa using this
  unfold OrdM.prio
  by_cases hn:n.toNat<o.a.p.rows.length
  ·have h5:(o'.a.p.rows.map (·.prio)).getD n.toNat 0=(o.a.p.rows.map (·.prio)).getD n.toNat 0:=by rw[h2]
   simpa [List.getD_eq_getElem?_getD,hn,hlr] using h5
  ·simp[List.getD_eq_getElem?_getD,hn,hlr]
 unfold OrdM.better OrdM.cmp
 simp only[hi,hf,h3,ha,he,hk,hp]
theorem fh8 {o o':OrdM}(hl:o'.a.l.length=o.a.l.length)(h4:o'.liked=o.liked)(n:Int):o'.likes n=o.likes n:=by
 unfold OrdM.likes OrdM.lk AskM.is
 rw[h4,hl]
/-! ### Who is installed is better -/
def Pool.repoOf (p:Pool)(n:Int):Int:=if 0≤n∧n<p.rows.length then (p.rows.getD n.toNat ⟨default,0,0⟩).repo else -1
theorem bo4 {r:PRow}:∀ (l:List Repo) (i:Nat),r∈ae1 i l→0≤r.repo∧∃ x∈l,r.prio=x.priority:=by
 intro l
 induction l with
 | nil=>intro i h; cases h
 | cons x xs ih=>
  intro i h
  rw[ae1] at h
  rcases List.mem_append.1 h with h|h
  ·obtain ⟨q,_,rfl⟩:=List.mem_map.1 h
   exact ⟨Int.natCast_nonneg _,x,List.mem_cons_self,rfl⟩
  ·obtain ⟨h1,y,hy,h2⟩:=ih _ h
   exact ⟨h1,y,List.mem_cons_of_mem _ hy,h2⟩
theorem dt6 {repos:List Repo}{inst:List Package}{o:OrdM}(h:az9 repos inst=.inl o.a.p){n m:Int}(hn:o.a.is n=true)(hm:o.a.is m=true)(h1:o.a.p.repoOf n<0)(h2:0≤o.a.p.repoOf m)(h3:(o.a.pk n).arch=(o.a.pk m).arch):o.better n m=true:=by
 have hr:=(cd3 h).1
 have hok:=ea8 h
 have hlen:o.a.l.length=o.a.p.rows.length:=by simp[AskM.l,ab2]
 have hat:∀ k:Int,o.a.is k=true→∃ x∈o.a.p.rows,o.a.p.repoOf k=x.repo∧o.prio k=x.prio:=fun k hk=>by
  unfold AskM.is at hk
  simp only[Bool.and_eq_true,decide_eq_true_eq] at hk
  have hk2:k.toNat<o.a.p.rows.length:=by omega
  refine ⟨o.a.p.rows[k.toNat],List.getElem_mem hk2,?_,?_⟩
  ·unfold Pool.repoOf
   rw[if_pos (by omega)]
   simp[List.getD_eq_getElem?_getD,hk2]
  ·unfold OrdM.prio
   simp[List.getD_eq_getElem?_getD,hk2]
 obtain ⟨x,hx,x1,x2⟩:=hat n hn
 obtain ⟨y,hy,y1,y2⟩:=hat m hm
 rw[hr] at hx hy
 have px:x.prio=1025:=by
  rcases List.mem_append.1 hx with hx|hx
  ·obtain ⟨q,_,rfl⟩:=List.mem_map.1 hx; rfl
  ·have:=(bo4 _ _ hx).1; omega
 have py:y.prio≤1024:=by
  rcases List.mem_append.1 hy with hy|hy
  ·obtain ⟨q,_,rfl⟩:=List.mem_map.1 hy
   rw[y1] at h2
   exact absurd h2 (by show ¬ (0:Int)≤-1; decide)
  ·obtain ⟨_,r,hr,e⟩:=bo4 _ _ hy
   rw[e]; exact (hok.repos r hr).2.1
 have hf:o.a.fits n=o.a.fits m:=by unfold AskM.fits; rw[hn,hm,h3]
 have hlt:ai7 y.prio x.prio=-1:=by
  unfold ai7
  rw[if_pos (by omega)]
 have hz:∀ a:Int,ai7 a a=0:=fun a=>bo3.2 rfl
 unfold OrdM.better OrdM.cmp Md.lex
 rw[hn,hm,hf,h3,x2,y2,hlt,hz,hz]
 rfl
end Go.Id.Md
