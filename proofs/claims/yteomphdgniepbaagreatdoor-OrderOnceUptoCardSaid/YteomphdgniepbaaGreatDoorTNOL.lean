/- OrderOnce: the law walked. Conditions: sizes that fit. -/
import Derived.Test.YteomphdgniepbaaGreatDoorTNOJ
import Derived.Test.YteomphdgniepbaaGreatDoorMg
import Derived.Test.YteomphdgniepbaaGreatDoorTNTN
set_option linter.all false
namespace Go.Id.Tryz
open Go Go.Id Go.Proofs Go.Shelf Go.Id.Md
set_option maxRecDepth 100000
set_option maxHeartbeats 1000000
def ex1 (l:List Step)(x:Step):Nat:=l.countP fun y=>decide (y=x)
theorem fo2 (l:List Step)(x y:Step):ex1 (l++[y]) x=ex1 l x+if y=x then 1 else 0:=by
 unfold ex1;rw[List.countP_append];by_cases h:y=x<;>simp[h]
theorem gz3 (l:List Step)(x:Step):ex1 l x≤l.length:=List.countP_le_length
theorem gg7:∀ {l:List Step} {x:Step},x ∉ l→ex1 l x=0:=by
 intro l x h;unfold ex1;rw[List.countP_eq_zero];intro y hy e;exact h (of_decide_eq_true e▸hy)
theorem gg8:∀ {l:List Step} {x:Step},l.Nodup→x∈l→ex1 l x=1:=by
 intro l x hd hx
 induction l with
 | nil=>cases hx
 | cons y l ih=>
  rw[List.nodup_cons] at hd
  have e:ex1 (y::l) x=ex1 l x+if y=x then 1 else 0:=by
   unfold ex1;rw[List.countP_cons];by_cases h:y=x<;>simp[h]
  rw[e];by_cases h:y=x
  ·subst h; rw[gg7 hd.1,if_pos rfl]
  ·rw[if_neg h,ih hd.2 ((List.mem_cons.1 hx).resolve_left fun e=>h e.symm)]
structure ix4 (R:Int→Int→Bool) (l r:List Step):Prop where
 len:r.length=l.length
 one:∀ s∈r,ex1 l s=1
 part:∀ i (h:i+1<r.length),¬ aq4 r[i+1].kind<aq4 r[i].kind
 mid:∀ i (h:i+1<r.length),aq4 r[i+1].kind=1→aq4 r[i].kind=1→¬ r[i+1].p≤r[i].p
 none:(∀ s∈l,∀ t∈l,R s.p t.p=false)→∀ i (h:i+1<r.length),aq4 r[i+1].kind=aq4 r[i].kind→¬ r[i+1].p≤r[i].p
theorem db7 (R:Int→Int→Bool)(l:List Step){i:Nat}(h:i<(am4 R l).length):∃ h2:i<(br7 R l).length,(am4 R l)[i]=⟨bo7 l (br7 R l)[i],(br7 R l)[i]⟩:=by
 have h2:i<(br7 R l).length:=by unfold am4 at h; rw[List.length_map] at h; exact h
 refine ⟨h2,?_⟩;show ((br7 R l).map fun n=>(⟨bo7 l n,n⟩:Step))[i]'_=_;exact List.getElem_map ..
theorem co6 (R:Int→Int→Bool){l:List Step}(hd:dy1 l){i:Nat}(h:i+1<(br7 R l).length):Beside R l (br7 R l)[i] (br7 R l)[i+1]:=by
 have:=dy3 (R:=R) hd i h;have e1:(br7 R l).getD i 0=(br7 R l)[i]:=by simp[List.getD_eq_getElem?_getD,show i<(br7 R l).length by omega]
 have e2:(br7 R l).getD (i+1) 0=(br7 R l)[i+1]:=by simp[List.getD_eq_getElem?_getD,h]
 rw[e1,e2] at this;exact this
theorem fo3 (R:Int→Int→Bool){l:List Step}(hd:dy1 l):ix4 R l (am4 R l) where
 len:=bs8 R l
 one:=fun s hs=>gg8 (eu7 hd) (eu6 hd hs)
 part:=fun i h=>by
  obtain ⟨h1,e1⟩:=db7 R l (show i<(am4 R l).length by omega);obtain ⟨h2,e2⟩:=db7 R l h;rw[e1,e2];have:=(co6 R hd h2).part;unfold ay3 at this;simp only;omega
 mid:=fun i h k1 k2=>by
  obtain ⟨h1,e1⟩:=db7 R l (show i<(am4 R l).length by omega);obtain ⟨h2,e2⟩:=db7 R l h;rw[e2] at k1;rw[e1] at k2;rw[e1,e2];have:=(co6 R hd h2).one;unfold ay3 at this;simp only at k1 k2 ⊢;have:=this (by rw[k1,k2]) k1;omega
 none:=fun hR i h hk=>by
  obtain ⟨h1,e1⟩:=db7 R l (show i<(am4 R l).length by omega);obtain ⟨h2,e2⟩:=db7 R l h;rw[e1,e2] at hk;rw[e1,e2];have hb:=co6 R hd h2;have hnd:(br7 R l).Nodup:=(bf7 (R:=R) (l:=l)).nodup_iff.2 hd;have hne:=List.pairwise_iff_getElem.1 hnd i (i+1) h1 h2 (Nat.lt_succ_self i)
  have hmem:∀ n∈br7 R l,∃ s∈l,s.p=n:=fun n hn=>by
   have:=(bf7 (R:=R) (l:=l)).mem_iff.1 hn;obtain ⟨s,hs,e⟩:=List.mem_map.1 this;exact ⟨s,hs,e⟩
  obtain ⟨s,hs,es⟩:=hmem _ (List.getElem_mem h1);obtain ⟨t,ht,et⟩:=hmem _ (List.getElem_mem h2);have r1:=hR t ht s hs;have r2:=hR s hs t ht;rw[es,et] at r1 r2;simp only at hk ⊢;generalize (br7 R l)[i]=x at *;generalize (br7 R l)[i+1]=y at *;have hk':ay3 l x=ay3 l y:=hk.symm;have c1:as8 R (ab4 l 0) y x=false:=by unfold as8; rw[r1]; rfl
  have c2:as8 (fun a b=>R b a) (ab4 l 2) y x=false:=by
   show (R x y&&!dx7 (fun a b=>R b a) (ab4 l 2) x y)=false;rw[r2]; rfl
  intro hle;have hlt:y<x:=by have:¬ x=y:=hne; omega
  rcases cc3 (bo7 l y) with hp|hp|hp
  ·have:=hb.zero hk' hp hlt;rw[c1] at this; cases this
  ·have:=hb.one hk' hp;omega
  ·have:=hb.two hk' hp hlt;rw[c2] at this; cases this
def cc5 (R:Int→Int→Bool)(l:List Step)(i:Nat):Bool:=(l.take i).any fun s=>l.any fun t=>R s.p t.p
theorem ex2 (R:Int→Int→Bool){l:List Step}{i:Nat}(h:i<l.length):cc5 R l (i+1)=(cc5 R l i||l.any fun t=>R l[i].p t.p):=by
 unfold cc5;rw[List.take_add_one,List.getElem?_eq_getElem h,List.any_append];simp
theorem gg9 {R:Int→Int→Bool}{l:List Step}(h:cc5 R l l.length=false):∀ s∈l,∀ t∈l,R s.p t.p=false:=fun s hs t ht=>by
 unfold cc5 at h;rw[List.take_length,List.any_eq_false] at h;have:=h s hs;rw[Bool.not_eq_true,List.any_eq_false] at this
 simpa using this t ht
theorem ia2 {f:Nat}{xs:List IX}{E:Nat→IV}{fr:Frm}{σ:Store}:bo6 E fr σ (.call f xs)=True:=rfl
theorem io3 {n:Nat}{x:IX}{lo hi:Option IX}{E:Nat→IV}{fr:Frm}{σ:Store}:bo6 E fr σ (.q (.slc n x lo hi))=True:=rfl
theorem dq7 {s:Store}{v:IV}{nid:Nat}{es xs:List (List IV)}(hg:Grow s v 2 es)(h:∀ x∈es,x.length=2∧x.all IV.leaf=true)(hx:∀ x∈xs,x.length=2∧x.all IV.leaf=true)(hn:es.length+xs.length≤2147483648)(hnid:nid<s.next) :
  ∃ v' s',be2 s nid 2 v (.aa3 xs)=some (v',s')∧s'.next=s.next∧Grow s' v' 2 (es++xs):=by
 rcases ft4 (nid:=nid) hg h hx hn with ⟨rfl,h1⟩|h1
 ·exact ⟨v,s,h1,rfl,by rw[List.append_nil]; exact hg⟩
 ·refine ⟨_,_,h1,by rw[aa8,ae1],.inr ⟨nid,by rw[List.length_append],by simp only[aa2,if_true],by rw[aa8,ae1]; exact hnid⟩⟩
theorem gh1 {N:Nat}{l l':List Step}(h:l'.Perm l):okS N l'=okS N l:=by
 unfold okS;have h1:decide ((l'.map (·.p)).Nodup)=decide ((l.map (·.p)).Nodup):=decide_eq_decide.2 (h.map _).nodup_iff
 have h2:l'.all (as4 N)=l.all (as4 N):=by
  rw[Bool.eq_iff_iff,List.all_eq_true,List.all_eq_true];exact ⟨fun q x hx=>q x (h.mem_iff.2 hx),fun q x hx=>q x (h.mem_iff.1 hx)⟩
 rw[h1,h2]
theorem dq8 (ab9:List al2)(inst:List aa4)(l:List Step)(n:Int)(hI:hd8 ab9 inst)(hl:l.length<2^30) :
  PC Tryz.prog EE 4 [bd4 ab9,bc6 inst,ae9 l,.int .i64 n] (.bool true):=by
 refine gw3 hE fok4 (nZ rfl) (gc9 (cp5 ab9) (ci5 inst) (as1 l) (.int _ _)) ?_;have hL:=ew7 ab9 inst l (by have:=hI.r1; omega) (by have:=hI.i1; omega) hI.ro hI.po;have hp:=bb3 ab9 inst hI.r1 hI.i1 hI.s1 hI.rf hI.pf;simp only[ic4];refine aa9 (ab3 ?_);simp only[go_sem];refine aa9 (ab3 ?_);simp only[go_sem]
 first|refine aa5 fok19 (bl7) ?_|refine aa7 (bl7) ?_
 simp only[go_sem]
 cases hlg:bs7 ab9 inst l with
 | true=>
  rw[hlg] at hL
  first|refine aa5 fok20 (hL) ?_|refine aa7 (hL) ?_
  simp only[go_sem]
  first|refine aa5 fok19 (bl7) ?_|refine aa7 (bl7) ?_
  simp only[go_sem]
  exact ap4 rfl
 | false=>
 rw[hlg] at hL
 first|refine aa5 fok20 (hL) ?_|refine aa7 (hL) ?_
 simp only[go_sem];have hl60:=dz2 hlg;refine aa9 (ab3 ?_);simp only[go_sem]
 first|refine aa5 fok21 (hp) ?_|refine aa7 (hp) ?_
 cases hn:ch7 ab9 inst with
 | inr e=>
  have he:¬ e=0:=by rcases ge6 hn with rfl|rfl<;>decide
  simp only[hv9,go_sem];refine aa9 (ab3 ?_);simp only[go_sem,he]
  exact ap4 rfl
 | inl p=>
 have hG:=dh3 hI hn;have hr:=co4 p hG l (by omega);simp only[hv9,go_sem];refine aa9 (ab3 ?_);simp only[go_sem];refine aa9 (ab3 ?_);simp only[go_sem]
 first|refine aa5 fok22 (hr) ?_|refine aa7 (hr) ?_
 cases hok:okS p.rows.length l with
 | false=>
  have n40:¬ (4:Int)=0:=by decide
  simp only[go_sem,Bool.false_eq_true,if_false];refine aa9 (ab3 ?_);simp only[go_sem,n40]
  exact ap4 rfl
 | true=>
 have hd:dy1 l:=by
  unfold okS at hok;rw[Bool.and_eq_true] at hok;exact (of_decide_eq_true hok.1:(l.map (·.p)).Nodup)
 have F:=fo3 (ac9 p) hd;have hnd:=fun a b=>bt9 p hG a b
 have hsame:∀ l':List Step,l'.Perm l→am4 (ac9 p) l'=am4 (ac9 p) l:=fun l' h=>(dy2 hd h.symm).symm
 simp only[go_sem,if_true];generalize hrr:am4 (ac9 p) l=r at *;have hrl:=F.len;refine aa9 (ab3 ?_);simp only[go_sem];refine aa9 (ab3 ?_);simp only[go_sem,hrl];refine aa9 (ab3 ?_);simp only[go_sem];refine aa9 (aa9 (ab3 ?_));simp only[go_sem];refine af6 (ai6 (fun e f s=>e=.exit 0∧∃ rst:Frm,f=(2,ae9 l)::(3,.int .i64 n)::(9,p.v)::(11,ae9 r)::(12,.bool (cc5 (ac9 p) l l.length))::rst) (ax7 (fun i fr t=>fr=[(2,ae9 l),(3,.int .i64 n),(9,p.v),(11,ae9 r),(12,.bool (cc5 (ac9 p) l i)),(13,.int .i64 (i:Int))]) l.length rfl ?_) ?_)
 ·rintro i fr t hi rfl;refine aa9 (ab3 ?_);by_cases hil:i<l.length
  ·have c1:(i:Int)<l.length:=by omega
   have c2:(0:Int)≤(i:Int):=by omega
   have hir:i<r.length:=by omega
   have gl:∀ j (h:j<l.length),(l.map Step.cs).getD j []=l[j].cs:=fun j h=>by simp[List.getD_eq_getElem?_getD,h]
   have gr:∀ j (h:j<r.length),(r.map Step.cs).getD j []=r[j].cs:=fun j h=>by simp[List.getD_eq_getElem?_getD,h]
   have gli:=gl i hil;have gri:=gr i hir;have w1:=ad6 (i:=i) (by omega);have hone:=F.one r[i] (List.getElem_mem hir);have hnb:=ex2 (ac9 p) hil;simp only[go_sem,c1,hrl];refine aa9 (af6 (aa9 (ab3 ?_)));simp only[go_sem];refine aa9 (aa9 (ab3 ?_));simp only[go_sem];refine af6 (ai6 (fun e f s=>e=.exit 2∧∃ rst:Frm,f=(2,ae9 l)::(3,.int .i64 n)::(9,p.v)::(11,ae9 r)::(12,.bool (cc5 (ac9 p) l (i+1)))::(13,.int .i64 (i:Int))::(14,.int .i64 1)::rst) (ab6 noT (fun k fr t=>fr=[(2,ae9 l),(3,.int .i64 n),(9,p.v),(11,ae9 r),(12,.bool (cc5 (ac9 p) l i||(l.take k).any fun t=>ac9 p l[i].p t.p)),(13,.int .i64 (i:Int)),(14,.int .i64 (ex1 (l.take k) r[i]:Int)),(15,.int .i64 (k:Int))]) l.length ?_ ?_) ?_)
   ·rw[List.take_zero,List.any_nil,Bool.or_false]; rfl
   ·rintro k fr t hk rfl;by_cases hkl:k<l.length
    ·have d1:(k:Int)<l.length:=by omega
     have d2:(0:Int)≤(k:Int):=by omega
     have glk:=gl k hkl;have w2:=ad6 (i:=k) (by omega);have htk:l.take (k+1)=l.take k++[l[k]]:=by rw[List.take_add_one,List.getElem?_eq_getElem hkl]; rfl
     have hc:=fo2 (l.take k) r[i] l[k];rw[← htk] at hc;have hcl:=gz3 (l.take k) r[i];rw[List.length_take] at hcl;have w3:=ad6 (i:=ex1 (l.take k) r[i]) (by omega);have heq:=gp5 l[k] r[i];have hn2:=hnd l[i].p l[k].p;have hany:((l.take (k+1)).any fun t=>ac9 p l[i].p t.p)=(((l.take k).any fun t=>ac9 p l[i].p t.p)||ac9 p l[i].p l[k].p):=by rw[htk,List.any_append]; simp
     have xi:(l[i].cs.drop 1).head? = some (.int .i64 l[i].p):=rfl;have xk:(l[k].cs.drop 1).head? = some (.int .i64 l[k].p):=rfl;obtain ⟨nb,hnb2⟩:∃ nb,nb=(cc5 (ac9 p) l i||(l.take k).any fun t=>ac9 p l[i].p t.p):=⟨_,rfl⟩;have hnx:(cc5 (ac9 p) l i||(l.take (k+1)).any fun t=>ac9 p l[i].p t.p)=(nb||ac9 p l[i].p l[k].p):=by rw[hany,← Bool.or_assoc,hnb2]
     rw[← hnb2];by_cases he:l[k]=r[i]
     case' pos=>
      have heq:allEq [1,1] l[k].cs r[i].cs=some true:=by rw[heq,decide_eq_true he]
      rw[if_pos he] at hc;simp only[go_sem,d1,d2,c1,c2,hrl,glk,gri,gli,aj2,ah5,ah4,heq,Option.map_some,w3]
     case' neg=>
      have heq:allEq [1,1] l[k].cs r[i].cs=some false:=by rw[heq,decide_eq_false he]
      rw[if_neg he] at hc;simp only[go_sem,d1,d2,c1,c2,hrl,glk,gri,gli,aj2,ah5,ah4,heq,Option.map_some]
     all_goals
      cases hb:nb with
      | true=>
       rw[hb,Bool.true_or] at hnx;simp only[go_sem,w2]
       exact ⟨hkl,by rw[hnx,hc]; try rfl⟩
      | false=>
       rw[hb,Bool.false_or] at hnx;simp only[go_sem,d1,d2,c1,c2,glk,gli,xi,xk,aj2]
       first|refine aa5 fok23 (hn2) ?_|refine aa7 (hn2) ?_
       simp only[go_sem,w2];exact ⟨hkl,by rw[hnx,hc]; try rfl⟩
    ·have d1:¬ (k:Int)<l.length:=by omega
     rw[List.take_of_length_le (by omega),hone,← hnb];simp only[go_sem,d1];exact ⟨_,rfl⟩
   rintro e f t ⟨rfl,rst,rfl⟩;simp only[go_sem];refine ab3 ?_
   cases i with
   | zero=>
    have e0:((0:Nat):Int)=0:=rfl;simp only[go_sem,e0,w1];refine ab3 ?_;simp only[go_sem]
    first|exact hil|exact ⟨hil,rfl⟩
   | succ j=>
    have p1:=F.part j (by omega);have p2:=F.mid j (by omega);have k1:=ci3 r[j+1].kind;have k2:=ci3 r[j].kind;have grj:=gr j (by omega);have d1:(0:Int)<((j+1:Nat):Int):=by omega
    have d2:(0:Int)≤(j:Int):=by omega
    have d3:(j:Int)<l.length:=by omega
    have w0:IntKind.i64.wrap (((j+1:Nat):Int)-1)=(j:Int):=by rw[wrap64 (by omega) (by omega)]; omega
    have x0:r[j+1].cs.head? = some (.int .u8 r[j+1].kind):=rfl;have y0:r[j].cs.head? = some (.int .u8 r[j].kind):=rfl;have x1:(r[j+1].cs.drop 1).head? = some (.int .i64 r[j+1].p):=rfl;have y1:(r[j].cs.drop 1).head? = some (.int .i64 r[j].p):=rfl;simp only[go_sem,d1,d2,d3,c1,c2,hrl,gri,grj,aj2,ah5,ah4,w0,x0,y0,x1,y1]
    first|refine aa5 fok24 (k1) ?_|refine aa7 (k1) ?_
    simp only[go_sem,d1,d2,d3,c1,c2,hrl,gri,grj,aj2,ah5,ah4,w0,x0,y0,x1,y1]
    first|refine aa5 fok24 (k2) ?_|refine aa7 (k2) ?_
    simp only[go_sem,d1,d2,d3,c1,c2,hrl,gri,grj,aj2,ah5,ah4,w0,x0,y0,x1,y1,p1]
    first|refine aa5 fok24 (k1) ?_|refine aa7 (k1) ?_
    by_cases h1:aq4 r[j+1].kind=1
    ·simp only[go_sem,d1,d2,d3,c1,c2,hrl,gri,grj,aj2,ah5,ah4,w0,x0,y0,x1,y1,h1]
     first|refine aa5 fok24 (k2) ?_|refine aa7 (k2) ?_
     by_cases h2:aq4 r[j].kind=1
     ·have p3:=p2 h1 h2;simp only[go_sem,d1,d2,d3,c1,c2,hrl,gri,grj,aj2,ah5,ah4,w0,x0,y0,x1,y1,h2,p3];refine ab3 ?_;simp only[go_sem,w1]
      first|exact hil|exact ⟨hil,rfl⟩|exact ⟨hil,trivial⟩
     ·simp only[go_sem,d1,d2,d3,c1,c2,hrl,gri,grj,aj2,ah5,ah4,w0,x0,y0,x1,y1,h2];refine ab3 ?_;simp only[go_sem,w1]
      first|exact hil|exact ⟨hil,rfl⟩|exact ⟨hil,trivial⟩
    ·simp only[go_sem,d1,d2,d3,c1,c2,hrl,gri,grj,aj2,ah5,ah4,w0,x0,y0,x1,y1,h1];refine ab3 ?_;simp only[go_sem,w1]
     first|exact hil|exact ⟨hil,rfl⟩|exact ⟨hil,trivial⟩
  ·have c1:¬ (i:Int)<l.length:=by omega
   have ei:i=l.length:=by omega
   subst ei;simp only[go_sem,hrl,c1];exact ⟨_,rfl⟩
 rintro e f t ⟨rfl,rst,rfl⟩;simp only[go_sem];refine aa9 (aa9 (ab3 ?_));simp only[go_sem];refine af6 (ai6 (fun e f s=>e=.exit 4∧∃ rst:Frm,f=(2,ae9 l)::(3,.int .i64 n)::(9,p.v)::(11,ae9 r)::rst) (ax7 (fun j fr t=>fr=[(2,ae9 l),(3,.int .i64 n),(9,p.v),(11,ae9 r),(12,.bool (cc5 (ac9 p) l l.length)),(16,.int .i64 ((j+1:Nat):Int))]) l.length rfl ?_) ?_)
 ·rintro j fr t hj rfl;refine aa9 (ab3 ?_);by_cases hjl:j+1<l.length
  ·have c1:((j+1:Nat):Int)<l.length:=by omega
   have c2:(0:Int)≤((j+1:Nat):Int):=by omega
   have d2:(0:Int)≤(j:Int):=by omega
   have d3:(j:Int)<l.length:=by omega
   have w0:IntKind.i64.wrap (((j+1:Nat):Int)-1)=(j:Int):=by rw[wrap64 (by omega) (by omega)]; omega
   have w1:=ad6 (i:=j+1) (by omega)
   cases hnb:cc5 (ac9 p) l l.length with
   | true=>
    simp only[go_sem,hrl,c1]
    exact ⟨_,rfl⟩
   | false=>
   have p1:=F.none (gg9 hnb) j (by omega);have k1:=ci3 r[j+1].kind;have k2:=ci3 r[j].kind;have gri:(r.map Step.cs).getD (j+1) []=r[j+1].cs:=by simp[List.getD_eq_getElem?_getD,show j+1<r.length by omega]
   have grj:(r.map Step.cs).getD j []=r[j].cs:=by simp[List.getD_eq_getElem?_getD,show j<r.length by omega]
   have x0:r[j+1].cs.head? = some (.int .u8 r[j+1].kind):=rfl;have y0:r[j].cs.head? = some (.int .u8 r[j].kind):=rfl;have x1:(r[j+1].cs.drop 1).head? = some (.int .i64 r[j+1].p):=rfl;have y1:(r[j].cs.drop 1).head? = some (.int .i64 r[j].p):=rfl;simp only[go_sem,hrl,c1];refine aa9 (af6 (ab3 ?_));simp only[go_sem,d2,d3,c1,c2,hrl,gri,grj,aj2,ah5,ah4,w0,x0,y0,x1,y1]
   first|refine aa5 fok24 (k1) ?_|refine aa7 (k1) ?_
   simp only[go_sem,d2,d3,c1,c2,hrl,gri,grj,aj2,ah5,ah4,w0,x0,y0,x1,y1]
   first|refine aa5 fok24 (k2) ?_|refine aa7 (k2) ?_
   by_cases h1:aq4 r[j+1].kind=aq4 r[j].kind
   case' pos=>
    have p3:=p1 h1;simp only[go_sem,d2,d3,c1,c2,hrl,gri,grj,aj2,ah5,ah4,w0,x0,y0,x1,y1,h1,p3]
   case' neg=>
    simp only[go_sem,d2,d3,c1,c2,hrl,gri,grj,aj2,ah5,ah4,w0,x0,y0,x1,y1,h1]
   all_goals
    refine ab3 ?_;simp only[go_sem,w1]
    first|omega|exact ⟨by omega,rfl⟩|exact ⟨by omega,trivial⟩
  ·have c1:¬ ((j+1:Nat):Int)<l.length:=by omega
   simp only[go_sem,hrl,c1];exact ⟨_,rfl⟩
 rintro e f t ⟨rfl,rst,rfl⟩;simp only[go_sem]
 have hn0:0≤IntKind.u64.wrap n∧IntKind.u64.wrap n<18446744073709551616:=by
  show 0≤n%18446744073709551616∧n%18446744073709551616<18446744073709551616;omega
 have w1:=ad6 (i:=l.length) (by omega);have w2:IntKind.u64.wrap ((l.length+1:Nat):Int)=((l.length+1:Nat):Int):=ch5 (by omega);obtain ⟨m,hm⟩:∃ m:Nat,IntKind.u64.wrap n=(m:Int):=⟨(IntKind.u64.wrap n).toNat,by omega⟩;refine aa9 (ab3 ?_);simp only[go_sem,w1,w2,hm];have hk0:¬ ((l.length+1:Nat):Int)=0:=by omega
 obtain ⟨k,hk⟩:∃ k:Nat,IntKind.i64.wrap ((m:Int).tmod ((l.length+1:Nat):Int))=(k:Int)∧k≤l.length:=by
  have e:(m:Int).tmod ((l.length+1:Nat):Int)=((m%(l.length+1):Nat):Int):=rfl;have:=Nat.mod_lt m (show 0<l.length+1 by omega);rw[e];exact ⟨m%(l.length+1),wrap64 (by omega) (by omega),by omega⟩
 obtain ⟨hk,hkl⟩:=hk;rw[hk];refine ⟨hk0,?_⟩;refine aa9 (ab3 ?_);have c1:(0:Int)≤(k:Int):=by omega
 have hall:∀ l:List Step,∀ x∈l.map Step.cs,x.length=2∧x.all IV.leaf=true:=fun l x hx=>by
  obtain ⟨y,_,rfl⟩:=List.mem_map.1 hx;exact ⟨rfl,rfl⟩
 have hsl1:cq2 2 (some (.int .i64 (k:Int))) none (ae9 l)=some (ae9 (l.drop k)):=by
  have hal:(l.map Step.cs).all (fun e=>e.length==2)=true:=List.all_eq_true.2 fun x hx=>by rw[(hall l x hx).1]; rfl
  have hkl2:k≤(l.map Step.cs).length:=by rw[List.length_map]; exact hkl
  simp only[cq2,cg5,cq3,c1,if_true,Int.toNat_natCast,hkl2,Nat.le_refl,hal,and_self,List.take_length];rw[← List.map_drop]
 have hsl2:cq2 2 none (some (.int .i64 (k:Int))) (ae9 l)=some (ae9 (l.take k)):=by
  have hal:(l.map Step.cs).all (fun e=>e.length==2)=true:=List.all_eq_true.2 fun x hx=>by rw[(hall l x hx).1]; rfl
  have hkl2:k≤(l.map Step.cs).length:=by rw[List.length_map]; exact hkl
  simp only[cq2,cg5,cq3,c1,if_true,Int.toNat_natCast,hkl2,Nat.zero_le,hal,and_self,List.drop_zero];rw[← List.map_take]
 have hg0:Grow ((⟨t.next+13,t.obj⟩:Store).put (t.next+1) (.row [])) (.slice (t.next+1) 0 0 2) 2 []:=.inr ⟨t.next+1,rfl,by simp only[aa2,if_true]; rfl,Nat.lt_of_lt_of_le (Nat.lt_succ_self _) (by rw[aa8]; show t.next+2≤t.next+13; omega)⟩;obtain ⟨v1,s1,ha1,hn1,hg1⟩:=dq7 (nid:=t.next+5) (xs:=(l.drop k).map Step.cs) hg0 (fun x h=>by cases h) (hall _) (by rw[List.length_map,List.length_drop,List.length_nil]; omega) (by rw[aa8]; show t.next+5<t.next+13; omega);rw[aa8] at hn1;have hn1:s1.next=t.next+13:=hn1;rw[List.nil_append] at hg1;obtain ⟨v2,s2,ha2,hn2,hg2⟩:=dq7 (nid:=t.next+9) (xs:=(l.take k).map Step.cs) hg1 (hall _) (hall _) (by rw[List.length_map,List.length_map,List.length_drop,List.length_take]; omega) (by omega);rw[← List.map_append] at hg2
 have hperm:(l.drop k++l.take k).Perm l:=by
  have:=List.perm_append_comm (l₁:=l.drop k) (l₂:=l.take k);rw[List.take_append_drop] at this;exact this
 have hM:isM p (l.drop k++l.take k) r:=⟨by rw[gh1 hperm]; exact hok,hsame _ hperm⟩;have his:=co5 p hG (l.drop k++l.take k) r (by rw[List.length_append,List.length_drop,List.length_take]; omega) (by omega) true ⟨fun _=>hM,fun _=>rfl⟩
 have hfz:∀ τ:Store,τ.obj=s2.obj→s2.next≤τ.next→df5 τ 0 v2 (ae9 (l.drop k++l.take k)):=fun τ h1 h2=>by
  refine (hg2.mono h2 fun id _ _=>by rw[h1]).frz (fun x hx=>(hall _ x hx).1) (fun _ _=>Nat.not_lt_zero _) fun e he c hc=>?_
  obtain ⟨y,_,rfl⟩:=List.mem_map.1 he;exact ci2 _ c hc
 simp only[go_sem,hsl1,hsl2,io3,ia2,ha1,ha2]
 refine ad1 fok25 (df6 (args':=[p.v,ae9 (l.drop k++l.take k),ae9 r]) hE rfl (fun z hz=>by
  match z,hz with
  | 0,_=>exact .keep _ (ax5 p)
  | 1,_=>exact hfz _ rfl (Nat.le_refl _)
  | 2,_=>exact .keep _ (as1 r)) (by simp[IV.plain]) his) ?_
 rintro v s ⟨rfl,rfl⟩;refine ⟨Nat.le_refl _,?_⟩;simp only[go_sem];refine ab3 ?_;simp only[go_sem];exact ap4 rfl
open Go Go.Id Go.Proofs Go.Id.Md
variable {H:Type} {enc:TypeId×Value→H} {w:World} {base:Nat} {sp:Nat→Bool} {held:Bool}
theorem gp7:Tryz.prog.cellsOf 50=2:=by kernel_rfl
theorem gz4 {n:Nat}{d:DataW H}(h:Rd enc w base sp held n 50 d)(hw:WT Tryz.prog 50 d):∃ e:Step,True∧∀ m,n≤m→dv Tryz.prog m 50 d=some e.cs:=by
 obtain ⟨n',ds,rfl,rfl,hl,hf⟩:=ba4 Tryz.underlying50 h hw
 match ds,hl with
 | [d0,d1],_=>
  obtain ⟨r0,w0⟩:=hf 0 _ d0 rfl rfl;obtain ⟨r1,w1⟩:=hf 1 _ d1 rfl rfl;obtain ⟨z,_,hz,e0⟩:=ce2 Tryz.underlying5 r0;obtain ⟨y,_,hy,e1⟩:=ce2 Tryz.underlying3 r1;refine ⟨⟨z,y⟩,trivial,fun m hm=>?_⟩
  cases m with
  | zero=>omega
  | succ m=>
   simp only[dv,Tryz.underlying50,List.map_cons,List.map_nil,dvF,e0 m (by omega),e1 m (by omega),List.length_cons,List.length_nil,if5,ia5,gp7,List.cons_append,List.nil_append,List.append_nil,Nat.reduceAdd,↓reduceIte];rfl
theorem gh2 {n:Nat}{d:DataW H}(h:Rd enc w base sp held n 42 d)(hw:WT Tryz.prog 42 d):∃ l:List Step,l.length<2^62∧(∀ j∈l,True)∧∀ m,n≤m→dv Tryz.prog m 42 d=some [ae9 l]:=
 bc4 Step.cs (fun _=>True) Tryz.underlying42 gp7 (by decide) (by decide +kernel) (fun _=>rfl) (fun _ _ _ hr hw'=>gz4 hr hw') h hw
theorem gh3 {l:List Step}(b:bb5 [ae9 l]≤1048576):l.length<2^30:=by
 simp only[bb5,isz] at b;have:=ar4 Step.cs (fun z=>by simp only[Step.cs,bb5,isz]; omega) l;omega
end Go.Id.Tryz
