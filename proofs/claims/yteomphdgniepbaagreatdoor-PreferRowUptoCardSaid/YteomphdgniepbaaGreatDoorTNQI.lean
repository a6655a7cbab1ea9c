/- Rows of one's own whose packages are altered: walked. Conditions: sizes that fit. -/
import Derived.Test.YteomphdgniepbaaGreatDoorTNUB
import Derived.Test.YteomphdgniepbaaGreatDoorMz
import Derived.Test.YteomphdgniepbaaGreatDoorFwOr
import Derived.Test.YteomphdgniepbaaGreatDoorTNUF
import Derived.Test.YteomphdgniepbaaGreatDoorTNSL
import Derived.Test.YteomphdgniepbaaGreatDoorTNQL
import Derived.Test.YteomphdgniepbaaGreatDoorTNQO
set_option linter.all false
namespace Go.Id.Tryz
open Go Go.Id Go.Proofs Go.Shelf Go.Id.Md
set_option maxRecDepth 100000
theorem bz2 {σ:Store}{id nid:Nat}(l:List aa2)(ho:σ.obj id=some (.row []))(hl:l.length<2^31) :
  ∃ w σ',bd4 σ nid 15 (.slice id 0 0 15) (bg2 l)=some (.slice w 0 l.length 15,σ')∧σ'.next=σ.next∧σ'.obj w=some (.row (l.map aa2.cs).flatten)∧(w=id∨w=nid)∧∀ j,j≠id→j≠nid→σ'.obj j=σ.obj j:=by
 have ha:∀ x∈l.map aa2.cs,x.length=15∧x.all IV.leaf=true:=by
  intro x hx;obtain ⟨y,_,rfl⟩:=List.mem_map.1 hx;exact ⟨rfl,rfl⟩
 have hsrc:bg6 σ 15 (.aa3 (l.map aa2.cs))=some (l.length,(l.map aa2.cs).flatten):=by
  have h1:(l.map aa2.cs).all (fun e=>e.length==15)=true:=List.all_eq_true.2 fun x hx=>by rw[(ha x hx).1]; rfl
  simp only[bg6,h1,if_true,List.length_map]
 have hx1:(l.map aa2.cs).flatten.all IV.leaf=true:=bh5 fun x hx=>(ha x hx).2
 have hx0:¬ ((l.map aa2.cs).flatten.all IV.leaf=false):=by rw[hx1]; decide
 unfold bd4;rw[hsrc];simp only[hx0,if_false,ho];by_cases h0:l.length=0
 ·have hxs:l=[]:=List.length_eq_zero_iff.1 h0;subst hxs;exact ⟨id,σ,rfl,rfl,ho,.inl rfl,fun _ _ _=>rfl⟩
 ·have h2:0+l.length≤2147483648:=by omega
  have h3:l.length≤2147483648:=by omega
  simp only[h0,and_false,if_false,List.length_nil,Nat.zero_mul,Nat.zero_add,List.drop_nil,List.all_nil,and_self,true_and,List.nil_append,h3,if_true];refine ⟨nid,_,rfl,rfl,?_,.inr rfl,fun j h3 h4=>?_⟩
  ·rw[aa4,if_pos rfl]
  ·rw[aa4,if_neg h4];show (if j=id then none else σ.obj j)=_;rw[if_neg h3]
/-! ### What is altered fits -/
end Go.Id.Tryz
/- PreferRow: the law walked. Conditions: sizes that fit. -/
namespace Go.Id.Md
open Go Go.Id
namespace an5
variable (o:an5)
theorem du2 {n m:Int}(h:o.better n m=true):o.a.is n=true∧o.a.is m=true∧o.cmp n m<0:=by
 unfold better at h;simp only[Bool.and_eq_true,decide_eq_true_eq] at h;exact ⟨h.1.1,h.1.2,h.2⟩
theorem bo6 {n m:Int}(h:o.a.is n=false∨o.a.is m=false):o.better n m=false:=by
 unfold better;rcases h with h|h<;>rw[h]<;>simp
theorem ee5 (n:Int):o.better n n=false:=by
 unfold better;rw[o.bv3]; simp
theorem fd8 {n m:Int}(hn:o.a.is n=true)(hm:o.a.is m=true)(h:n≠m):o.better m n=!o.better n m:=by
 have h1:=o.wo.neg n m;have h2:o.cmp n m≠0:=fun e=>h (o.di9 e)
 unfold better;rw[hn,hm];simp only[Bool.true_and];by_cases hc:o.cmp n m<0
 ·have:¬ o.cmp m n<0:=by omega
  simp[hc,this]
 ·have:o.cmp m n<0:=by omega
  simp[hc,this]
theorem du3 (hr:∀ n,o.a.is n=true→(o.a.pk n).evr.rel≠[]){n m k:Int}(h1:o.better n m=true)(h2:o.better m k=true):o.better n k=true:=by
 obtain ⟨a1,a2,a3⟩:=o.du2 h1;obtain ⟨b1,b2,b3⟩:=o.du2 h2;have:=o.lt_trans hr a1 a2 b2 a3 b3;unfold better;rw[a1,b2];simp[this]
def de3:List Int→List Int→List Int
 | _,[]=>[]
 | seen,x::l=>(if o.a.is x&&!decide (x∈seen) then [x] else [])++de3 (seen++[x]) l
theorem fv5 (x:Int):∀ (l seen:List Int),o.de3 seen (l++[x])=o.de3 seen l++if o.a.is x&&!decide (x∈seen++l) then [x] else []:=by
 intro l
 induction l with
 | nil=>intro seen; simp only[List.nil_append,de3,List.append_nil]
 | cons y l ih=>
  intro seen;simp only[List.cons_append,de3,ih,List.append_assoc];simp only[List.nil_append,List.cons_append]
theorem em5:∀ (l seen:List Int) (x:Int),x∈o.de3 seen l↔x∈l∧o.a.is x=true∧x ∉ seen:=by
 intro l
 induction l with
 | nil=>intro seen x; simp[de3]
 | cons y l ih=>
  intro seen x;simp only[de3,List.mem_append,ih,List.mem_cons,List.not_mem_nil,or_false,not_or];by_cases hxy:x=y
  ·subst hxy;by_cases hs:x∈seen<;>cases hi:o.a.is x<;>simp[hs,hi]
  ·have:x ∉ (if (o.a.is y&&!decide (y∈seen))=true then [y] else []):=by
    split<;>simp[hxy]
   simp[this,hxy]
theorem fd9:∀ (l seen:List Int),(o.de3 seen l).Nodup:=by
 intro l
 induction l with
 | nil=>intro seen; exact List.nodup_nil
 | cons y l ih=>
  intro seen;simp only[de3];refine List.nodup_append.2 ⟨by split<;>simp,ih _,fun a ha b hb e=>?_⟩;subst e;have h1:=((o.em5 _ _ _).1 hb).2.2;split at ha
  ·rw[List.mem_singleton] at ha;subst ha;exact h1 (by simp)
  ·cases ha
theorem gm1 (hr:∀ n,o.a.is n=true→(o.a.pk n).evr.rel≠[])(l:List Int):(o.de3 [] l).length=(o.ak9 l).length:=by
 have hnd:(o.ak9 l).Nodup:=(o.dj1 hr l).imp fun {a b} h e=>by
  rw[e,o.bv3] at h;exact absurd h (by decide)
 refine List.Perm.length_eq ((List.perm_ext_iff_of_nodup (o.fd9 l []) hnd).2 fun x=>?_);rw[o.em5,o.av7];simp
def ee6 (l:List Int):List Int:=l.flatMap fun x=>[x,x]
theorem fv6 (l:List Int)(x:Int):ee6 (l++[x])=ee6 l++[x,x]:=by simp[ee6]
theorem em6 (l:List Int):(ee6 l).length=2*l.length:=by
 unfold ee6
 induction l with
 | nil=>rfl
 | cons x l ih=>simp only[List.flatMap_cons,List.length_append,ih,List.length_cons,List.length_nil]; omega
theorem gm2 {l:List Int}{x:Int}:x∈ee6 l↔x∈l:=by
 unfold ee6;rw[List.mem_flatMap];constructor
 ·rintro ⟨y,hy,h⟩;have:x=y:=by simpa using h
  rw[this]; exact hy
 ·intro h; exact ⟨x,h,by simp⟩
end an5
end Go.Id.Md
namespace Go.Id.Tryz
open Go Go.Id Go.Proofs Go.Shelf Go.Id.Md
set_option maxHeartbeats 1000000
theorem fv7 (p:Pool)(hp:p.rows.length<2^62){σ:Store}{b:Nat}(hb:σ.obj b=some (.cells [p.v]))(n:Int):C Tryz.prog EE 14 [.int .i64 n,.ptr b 0] σ fun v s=>v=.bool (decide (0≤n)&&decide (n<p.rows.length))∧s=σ:=by
 refine C_f fok14 (nZ rfl) ?_;have hc:=av9 p;by_cases h0:0≤n
 ·simp only[ic14,go_sem,h0,hb]
  first|refine aa5 fok15 (hc) ?_|refine aa6 (hc) ?_
  simp only[go_sem,and_self]
 ·simp only[ic14,go_sem,h0,and_self]
theorem du4 (ab5:List ak8)(inst:List aa2)(r:Req)(n m k:Int)(l:List Int)(hI:gt6 ab5 inst)(hR:ef3 r)(hl:l.length<2^30) :
  PC Tryz.prog EE 3 [ay9 ab5,bg2 inst,.agg r.cs,.int .i64 n,.int .i64 m,.int .i64 k,.aa3 (l.map Md.ag3)] (.bool true):=by
 refine ir5 hE fok3 (nZ rfl) (fun v hv=>?_) ?_
 ·simp only[List.mem_cons,List.not_mem_nil,or_false] at hv;rcases hv with rfl|rfl|rfl|rfl|rfl|rfl|rfl
  ·exact bi8 ab5
  ·exact ax2 inst
  ·exact .agg _ (bj6 r)
  ·exact .int _ _
  ·exact .int _ _
  ·exact .int _ _
  ·exact ap3 l
 have hL:=ff3 ab5 inst r (by have:=hI.r1; omega) (by have:=hI.i1; omega) hI.ro hI.po;have hO:=fy5 ab5 inst r hI hR;unfold go9 at hO;simp only[ic3];refine ac6 (ad9 ?_);simp only[go_sem,ap4];refine ac6 (ad9 ?_);simp only[go_sem]
 first|refine aa5 fok11 (ax8) ?_|refine aa6 (ax8) ?_
 cases hlg:dl7 ab5 inst r with
 | true=>
  rw[hlg] at hL;simp only[go_sem,bs2,bo9]
  first|refine aa5 fok12 (hL) ?_|refine aa6 (hL) ?_
  simp only[go_sem]
  first|refine aa5 fok11 (ax8) ?_|refine aa6 (ax8) ?_
  simp only[go_sem]
  exact af7 rfl
 | false=>
 rw[hlg] at hL;simp only[go_sem,bs2,bo9]
 first|refine aa5 fok12 (hL) ?_|refine aa6 (hL) ?_
 by_cases h60:60<l.length
 ·have c1:(60:Int)<l.length:=by omega
  simp only[go_sem,c1]
  first|refine aa5 fok11 (ax8) ?_|refine aa6 (ax8) ?_
  simp only[go_sem];exact af7 rfl
 have c1:¬ (60:Int)<l.length:=by omega
 simp only[go_sem,c1];refine ac6 (ad9 ?_);simp only[go_sem,bs2,bo9]
 first|refine aa5 fok13 (hO) ?_|refine aa6 (hO) ?_
 cases hn:bu9 ab5 inst with
 | inr e=>
  simp only[go_sem];refine ac6 (ad9 ?_);simp only[go_sem]
  exact af7 rfl
 | inl p=>
 by_cases he:¬ as4 r p.inst=0
 ·simp only[go_sem,he];refine ac6 (ad9 ?_);simp only[go_sem];exact af7 rfl
 have he:=Decidable.not_not.1 he;have pcs:p.v.cs=[p.v]:=rfl;have plf:p.v.leaf=true:=rfl;simp only[go_sem,he,pcs,plf];refine ac6 (ad9 ?_);simp only[go_sem];refine ac6 (ad9 ?_);simp only[go_sem]
 have hp256:p.rows.length≤256:=by
  have:=di6 hn;omega
 have oo:=ook hI hn hR he inst.length;have hr:=fy6 (r:=r) (n:=inst.length) (ef8 hn);generalize hT0:Store.put _ _ _=T0;have hb0:T0.obj 0=some (.cells [p.v]):=by rw[← hT0,aa4,if_pos rfl]
 obtain ⟨T,hT⟩:∃ T:Store,T=⟨1,T0.obj⟩:=⟨_,rfl⟩;have hb:T.obj 0=some (.cells [p.v]):=by rw[hT]; exact hb0
 have hnx:T.next=1:=by rw[hT]
 rw[← hT];clear hT hT0 hb0 hL hO;obtain ⟨o,ho⟩:∃ o,o=cu4 p r inst.length:=⟨_,rfl⟩;rw[← ho] at oo hr;rw[show (cu4 p r inst.length).v=o.v by rw[ho]];have hlen:o.a.l.length=p.rows.length:=by rw[ho]; show (ad1 p).length=_; simp[ad1]
 have hIs:∀ (s:Store),s.obj=T.obj→∀ x:Int,C Tryz.prog EE 14 [.int .i64 x,.ptr 0 0] s fun v s'=>v=.bool (o.a.is x)∧s'=s:=fun s hs x=>by
  have h:=fv7 p (by omega) (b:=0) (σ:=s) (by rw[hs]; exact hb) x;have e:(decide (0≤x)&&decide (x<p.rows.length))=o.a.is x:=by unfold av6.is; rw[hlen]
  rw[e] at h;exact h
 have hB:=fun x y=>bj4 o oo x y
 have bst:∀ x:Bool,(x != !x)=true:=fun x=>by cases x<;>rfl
 -- of two just one; of three
 refine ac6 (ay2 (Q:=fun e f s=>e=.normal∧f=[(6,.aa3 (l.map Md.ag3)),(15,o.v),(19,.func (.func 14) [] [.ptr 0 0]),(110,.bool false)]∧s.obj=T.obj∧T.next≤s.next) (ad9 ?_) ?_)
 ·have b1:=hB n m;have b2:=hB m n;have bff:(false != false)=false:=rfl;have bft:(false != true)=true:=rfl;have btf:(true != false)=true:=rfl;have btt:(true != true)=false:=rfl;have is2:=fun (s:Store) (h:s=T) (x:Int)=>hIs s (by rw[h]) x
  simp only[go_sem];refine ad3 fok14 (is2 _ rfl n) ?_;rintro v s ⟨rfl,rfl⟩;refine ⟨Nat.le_refl _,?_⟩
  cases hin:o.a.is n with
  | false=>
   rw[o.bo6 (.inl hin)] at b1;rw[o.bo6 (.inr hin)] at b2
   repeat first|refine aa5 fok16 b1 ?_|refine aa5 fok16 b2 ?_|simp only[go_sem,bff,bft,btf,btt]
   first|exact ⟨rfl,rfl,rfl,Nat.le_refl _⟩|exact ⟨rfl,rfl,Nat.le_refl _⟩|exact ⟨trivial,rfl,Nat.le_refl _⟩|exact ⟨rfl,Nat.le_refl _⟩|exact Nat.le_refl _
  | true=>
  simp only[go_sem];refine ad3 fok14 (is2 _ rfl m) ?_;rintro v s ⟨rfl,rfl⟩;refine ⟨Nat.le_refl _,?_⟩
  cases him:o.a.is m with
  | false=>
   rw[o.bo6 (.inr him)] at b1;rw[o.bo6 (.inl him)] at b2
   repeat first|refine aa5 fok16 b1 ?_|refine aa5 fok16 b2 ?_|simp only[go_sem,bff,bft,btf,btt]
   first|exact ⟨rfl,rfl,rfl,Nat.le_refl _⟩|exact ⟨rfl,rfl,Nat.le_refl _⟩|exact ⟨trivial,rfl,Nat.le_refl _⟩|exact ⟨rfl,Nat.le_refl _⟩|exact Nat.le_refl _
  | true=>
  by_cases hnm:n=m
  ·subst hnm;rw[o.ee5 n] at b1
   repeat first|refine aa5 fok16 b1 ?_|simp only[go_sem,bff,bft,btf,btt]
   first|exact ⟨rfl,rfl,rfl,Nat.le_refl _⟩|exact ⟨rfl,rfl,Nat.le_refl _⟩|exact ⟨trivial,rfl,Nat.le_refl _⟩|exact ⟨rfl,Nat.le_refl _⟩|exact Nat.le_refl _
  have h2:=o.fd8 hin him hnm
  cases hc:o.better n m with
  | false=>
   rw[hc] at b1 h2;rw[h2] at b2
   repeat first|refine aa5 fok16 b1 ?_|refine aa5 fok16 b2 ?_|simp only[go_sem,bff,bft,btf,btt,hnm,Bool.not_false]
   first|exact ⟨rfl,rfl,rfl,Nat.le_refl _⟩|exact ⟨rfl,rfl,Nat.le_refl _⟩|exact ⟨trivial,rfl,Nat.le_refl _⟩|exact ⟨rfl,Nat.le_refl _⟩|exact Nat.le_refl _
  | true=>
   rw[hc] at b1 h2;rw[h2] at b2;have b3:=hB m k
   cases hc2:o.better m k with
   | false=>
    rw[hc2] at b3
    repeat first|refine aa5 fok16 b1 ?_|refine aa5 fok16 b2 ?_|refine aa5 fok16 b3 ?_|simp only[go_sem,bff,bft,btf,btt,hnm,Bool.not_true]
    first|exact ⟨rfl,rfl,rfl,Nat.le_refl _⟩|exact ⟨rfl,rfl,Nat.le_refl _⟩|exact ⟨trivial,rfl,Nat.le_refl _⟩|exact ⟨rfl,Nat.le_refl _⟩|exact Nat.le_refl _
   | true=>
    rw[hc2] at b3;have b4:=hB n k;rw[o.du3 hr hc hc2] at b4
    repeat first|refine aa5 fok16 b1 ?_|refine aa5 fok16 b2 ?_|refine aa5 fok16 b3 ?_|refine aa5 fok16 b4 ?_|simp only[go_sem,bff,bft,btf,btt,hnm,Bool.not_true]
    first|exact ⟨rfl,rfl,rfl,Nat.le_refl _⟩|exact ⟨rfl,rfl,Nat.le_refl _⟩|exact ⟨trivial,rfl,Nat.le_refl _⟩|exact ⟨rfl,Nat.le_refl _⟩|exact Nat.le_refl _
 rintro e f s1 ⟨rfl,rfl,hs1,hn1⟩;have hso:=ci3 o oo hr l (by omega)
 have hIs0:∀ (s:Store),(∀ x,x<s1.next→s.obj x=s1.obj x)→∀ x:Int,C Tryz.prog EE 14 [.int .i64 x,.ptr 0 0] s fun v s'=>v=.bool (o.a.is x)∧s'=s:=fun s hs x=>by
  have h:=fv7 p (by omega) (b:=0) (σ:=s) (by rw[hs 0 (by omega),hs1]; exact hb) x;have e:(decide (0≤x)&&decide (x<p.rows.length))=o.a.is x:=by unfold av6.is; rw[hlen]
  rw[e] at h;exact h
 have hsl:(o.ak9 l).length≤256:=by
  have h1:=bv2 (fun n=>decide ((n:Int)∈l)) o.a.l.length;unfold an5.ak9;rw[List.length_mergeSort];omega
 simp only[go_sem];refine ac6 (ad9 ?_);simp only[go_sem]
 first|refine aa5 fok17 (hso) ?_|refine aa6 (hso) ?_
 simp only[go_sem];refine ac6 (ad9 ?_);simp only[go_sem];refine ac6 (ad9 ?_);simp only[go_sem];have wl:IntKind.i64.wrap ((l.length:Int)-1)=(l.length:Int)-1:=wrap64 (by omega) (by omega);refine ac6 (ac6 (ad9 ?_));simp only[go_sem,wl];refine au2 (as2 (fun e f s=>e=.exit 0∧∃ (gv:IV) (rst:Frm),f=(6,.aa3 (l.map Md.ag3))::(15,o.v)::(19,.func (.func 14) [] [.ptr 0 0])::(20,.aa3 ((o.ak9 l).map Md.ag3))::(21,.int .i64 (o.ak9 l).length)::(22,gv)::rst∧s1.next≤s.next∧(∀ i,i<s1.next→s.obj i=s1.obj i)∧aw8 s s1.next gv (an5.ee6 l.reverse)) (eo6 (fun kk fr t=>∃ (rem cnt:Nat) (gv:IV),fr=[(6,.aa3 (l.map Md.ag3)),(15,o.v),(19,.func (.func 14) [] [.ptr 0 0]),(20,.aa3 ((o.ak9 l).map Md.ag3)),(21,.int .i64 cnt),(22,gv),(23,.int .i64 ((rem:Int)-1))]∧rem+kk=l.length∧s1.next≤t.next∧(∀ i,i<s1.next→t.obj i=s1.obj i)∧aw8 t s1.next gv (an5.ee6 (l.drop rem).reverse)∧cnt+(o.de3 [] (l.take rem)).length=(o.ak9 l).length) l.length ⟨l.length,0,.aa1,rfl,rfl,Nat.le_refl _,fun _ _=>rfl,.inl ⟨rfl,by rw[List.drop_length]; rfl⟩,by rw[List.take_length,Nat.zero_add]; exact o.gm1 hr l⟩ ?_) ?_)
 ·rintro kk fr t hkk ⟨rem,cnt,gv,rfl,hrem,htn,hto,hgv,hcnt⟩;refine ac6 (ad9 ?_)
  cases rem with
  | zero=>
   have e1:¬ (0:Int)≤0-1:=by decide
   have e0:(((0:Nat):Int))=0:=rfl;have hz:cnt=(o.ak9 l).length:=by simpa [an5.de3] using hcnt
   rw[List.drop_zero] at hgv;simp only[go_sem,e0,e1]
   exact ⟨gv,_,by rw[hz],htn,hto,hgv⟩
  | succ i=>
  have e1:(((i+1:Nat):Int)-1)=(i:Int):=by omega
  have c1:(0:Int)≤(i:Int):=by omega
  have hil:i<l.length:=by omega
  have c2:(i:Int)<l.length:=by omega
  have hgx:(l.map Md.ag3).getD i []=Md.ag3 l[i]:=by simp[List.getD_eq_getElem?_getD,hil]
  have hdr:l.drop i=l[i]::l.drop (i+1):=List.drop_eq_getElem_cons hil;have htk:l.take (i+1)=l.take i++[l[i]]:=by rw[List.take_add_one,List.getElem?_eq_getElem hil]; rfl
  simp only[go_sem,e1,c1];refine ac6 (au2 (ac6 (ad9 ?_)))
  -- twice into the row
  obtain ⟨gv',σ',h1,h2,h3,h4⟩:=ei6 (nid:=t.next+1+1+1+1+1+1+1+1+1+1) (xs:=[l[i],l[i]]) (hgv.up 12) (by rw[an5.em6,List.length_reverse,List.length_drop]; simp only[List.length_cons,List.length_nil]; omega);have h1:bd4 ⟨t.next+12,t.obj⟩ (t.next+1+1+1+1+1+1+1+1+1+1) 1 gv (.aa3 [[.int .i64 l[i]],[.int .i64 l[i]]])=_:=h1;simp only[go_sem,c1,c2,hgx,Md.ag3,h1,Int.toNat_natCast]
  have hgv':aw8 σ' s1.next gv' (an5.ee6 (l.drop i).reverse):=by
   have h5:=h4 σ' rfl (by rw[h2]; show _<t.next+12; omega) (by rw[h2]; exact Nat.le_refl _) (by omega);rw[hdr,List.reverse_cons,an5.fv6];exact h5
  have hso':∀ x,x<s1.next→σ'.obj x=s1.obj x:=fun x hx=>by rw[h3 x hx (by omega)]; exact hto x hx
  have hsn':s1.next≤σ'.next:=by rw[h2]; show s1.next≤t.next+12; omega
  clear h1 h2 h3 h4 hgv hto htn;refine ac6 (ad9 ?_);simp only[go_sem]
  -- again?
  refine ac6 (ac6 (ad9 ?_));simp only[go_sem];refine au2 (as2 (fun e f s=>e=.exit 2∧∃ (rst:Frm),f=(6,.aa3 (l.map Md.ag3))::(15,o.v)::(19,.func (.func 14) [] [.ptr 0 0])::(20,.aa3 ((o.ak9 l).map Md.ag3))::(21,.int .i64 cnt)::(22,gv')::(23,.int .i64 (i:Int))::(24,.bool (decide (l[i]∈l.take i)))::rst∧s.obj=σ'.obj∧σ'.next≤s.next) (ab3 noT (fun j fr t=>∃ (rst:Frm),fr=(6,.aa3 (l.map Md.ag3))::(15,o.v)::(19,.func (.func 14) [] [.ptr 0 0])::(20,.aa3 ((o.ak9 l).map Md.ag3))::(21,.int .i64 cnt)::(22,gv')::(23,.int .i64 (i:Int))::(24,.bool (decide (l[i]∈l.take j)))::(25,.int .i64 (j:Int))::rst∧t.obj=σ'.obj∧σ'.next≤t.next) i ⟨[],by simp,rfl,Nat.le_refl _⟩ ?_) ?_)
  ·rintro j fr t hj ⟨rst,rfl,hto,htn⟩;by_cases hji:j<i
   ·have d1:(j:Int)<(i:Int):=by omega
    have d2:(0:Int)≤(j:Int):=by omega
    have d3:(j:Int)<l.length:=by omega
    have hjl:j<l.length:=by omega
    have hgj:(l.map Md.ag3).getD j []=Md.ag3 l[j]:=by simp[List.getD_eq_getElem?_getD,hjl]
    have htj:l.take (j+1)=l.take j++[l[j]]:=by rw[List.take_add_one,List.getElem?_eq_getElem hjl]; rfl
    have w1:=ad6 (i:=j) (by omega);by_cases hin:l[i]∈l.take j
    ·have hin2:decide (l[i]∈l.take (j+1))=true:=decide_eq_true (by rw[htj]; exact List.mem_append_left _ hin);simp only[go_sem,d1,hin,w1];exact ⟨hji,_,by rw[hin2],hto,Nat.le_trans htn (Nat.le_add_right _ _)⟩
    ·have hin2:decide (l[i]∈l.take (j+1))=decide (l[j]=l[i]):=decide_eq_decide.2 (by rw[htj,List.mem_append,List.mem_singleton]; exact ⟨fun h=>h.elim (fun h=>absurd h hin) Eq.symm,fun h=>.inr h.symm⟩);simp only[go_sem,d1,d2,d3,c1,c2,hgj,hgx,Md.ag3,hin,w1,Int.toNat_natCast];exact ⟨hji,_,by rw[hin2],hto,Nat.le_trans htn (Nat.le_add_right _ _)⟩
   ·have d1:¬ (j:Int)<(i:Int):=by omega
    have e:j=i:=by omega
    subst e;simp only[go_sem,d1];exact ⟨_,rfl,hto,htn⟩
  rintro e f t2 ⟨rfl,rst,rfl,ht2o,ht2n⟩;simp only[go_sem];have wi:IntKind.i64.wrap ((i:Int)-1)=(i:Int)-1:=wrap64 (by omega) (by omega);have fstS:o.de3 [] (l.take (i+1))=o.de3 [] (l.take i)++if o.a.is l[i]&&!decide (l[i]∈l.take i) then [l[i]] else []:=by rw[htk,o.fv5,List.nil_append]
  have goon:∀ (cnt':Nat) (s:Store),s.obj=σ'.obj→σ'.next≤s.next→cnt'+(o.de3 [] (l.take i)).length=(o.ak9 l).length→i+(kk+1)=l.length∧s1.next≤s.next∧(∀ x,x<s1.next→s.obj x=s1.obj x)∧aw8 s s1.next gv' (an5.ee6 (l.drop i).reverse)∧cnt'+(o.de3 [] (l.take i)).length=(o.ak9 l).length:=fun cnt' s h5 h6 h7=>⟨by omega,by omega,fun x hx=>by rw[h5]; exact hso' x hx,by
   rcases hgv' with h|⟨id,g1,g2,g3,g4⟩
   ·exact .inl h
   ·exact .inr ⟨id,g1,by omega,g3,by rw[h5]; exact g4⟩,h7⟩
  refine ac6 (ad9 ?_);simp only[go_sem,c1,c2,hgx,Md.ag3,Int.toNat_natCast];refine ad3 fok14 (hIs0 _ (by rw[ht2o]; exact hso') l[i]) ?_;rintro v s ⟨rfl,rfl⟩;refine ⟨Nat.le_refl _,?_⟩
  cases hix:o.a.is l[i] with
  | false=>
   simp only[go_sem];refine ad9 ?_;simp only[go_sem,wi];have hc2:cnt+(o.de3 [] (l.take i)).length=(o.ak9 l).length:=by rw[fstS,hix] at hcnt; simpa using hcnt
   exact ⟨by omega,i,cnt,gv',rfl,goon cnt _ ht2o ht2n hc2⟩
  | true=>
  by_cases hag:l[i]∈l.take i
  ·simp only[go_sem,hag];refine ad9 ?_;simp only[go_sem,wi];have hc2:cnt+(o.de3 [] (l.take i)).length=(o.ak9 l).length:=by rw[fstS,hix] at hcnt; simpa [hag] using hcnt
   exact ⟨by omega,i,cnt,gv',rfl,goon cnt _ ht2o ht2n hc2⟩
  have hc2:(cnt+1)+(o.de3 [] (l.take i)).length=(o.ak9 l).length:=by
   rw[fstS,hix,List.length_append] at hcnt;have e:(!decide (l[i]∈l.take i))=true:=by rw[decide_eq_false hag]; rfl
   rw[e] at hcnt;simp only[Bool.and_self,if_true,List.length_singleton] at hcnt;omega
  have hxS:l[i]∈o.ak9 l:=o.av7.2 ⟨List.getElem_mem hil,hix⟩;have wc:=ad6 (i:=cnt) (by omega);simp only[go_sem,hag];refine ac6 (ad9 ?_);simp only[go_sem,wc];refine ac6 (ad9 ?_);simp only[go_sem];refine ac6 (ac6 (ad9 ?_));simp only[go_sem];obtain ⟨S,hS⟩:∃ S,S=o.ak9 l:=⟨_,rfl⟩;rw[← hS] at hxS hsl goon hc2 ⊢;refine au2 (as2 (fun e f s=>e=.exit 4∧∃ (rst:Frm),f=(6,.aa3 (l.map Md.ag3))::(15,o.v)::(19,.func (.func 14) [] [.ptr 0 0])::(20,.aa3 (S.map Md.ag3))::(21,.int .i64 ((cnt+1:Nat):Int))::(22,gv')::(23,.int .i64 (i:Int))::(26,.bool true)::rst∧s.obj=σ'.obj∧σ'.next≤s.next) (ab3 noT (fun j fr t=>∃ (rst:Frm),fr=(6,.aa3 (l.map Md.ag3))::(15,o.v)::(19,.func (.func 14) [] [.ptr 0 0])::(20,.aa3 (S.map Md.ag3))::(21,.int .i64 ((cnt+1:Nat):Int))::(22,gv')::(23,.int .i64 (i:Int))::(26,.bool (decide (l[i]∈S.take j)))::(27,.int .i64 (j:Int))::rst∧t.obj=σ'.obj∧σ'.next≤t.next) S.length ⟨[],by simp,ht2o,ht2n⟩ ?_) ?_)
  ·rintro j fr t hj ⟨rst,rfl,hto,htn⟩;by_cases hjl:j<S.length
   ·have d1:(j:Int)<S.length:=by omega
    have d2:(0:Int)≤(j:Int):=by omega
    have hgj:(S.map Md.ag3).getD j []=Md.ag3 S[j]:=by simp[List.getD_eq_getElem?_getD,hjl]
    have htj:S.take (j+1)=S.take j++[S[j]]:=by rw[List.take_add_one,List.getElem?_eq_getElem hjl]; rfl
    have w1:=ad6 (i:=j) (by omega);by_cases hin:l[i]∈S.take j
    ·have hin2:decide (l[i]∈S.take (j+1))=true:=decide_eq_true (by rw[htj]; exact List.mem_append_left _ hin);simp only[go_sem,d1,hin,w1];exact ⟨hjl,_,by rw[hin2],hto,Nat.le_trans htn (Nat.le_add_right _ _)⟩
    ·have hin2:decide (l[i]∈S.take (j+1))=decide (S[j]=l[i]):=decide_eq_decide.2 (by rw[htj,List.mem_append,List.mem_singleton]; exact ⟨fun h=>h.elim (fun h=>absurd h hin) Eq.symm,fun h=>.inr h.symm⟩);simp only[go_sem,d1,d2,c1,c2,hgj,hgx,Md.ag3,hin,w1,Int.toNat_natCast];exact ⟨hjl,_,by rw[hin2],hto,Nat.le_trans htn (Nat.le_add_right _ _)⟩
   ·have d1:¬ (j:Int)<S.length:=by omega
    have e:j=S.length:=by omega
    subst e;have e2:decide (l[i]∈S.take S.length)=true:=decide_eq_true (by rw[List.take_length]; exact hxS);rw[e2];simp only[go_sem,d1];exact ⟨_,rfl,hto,htn⟩
  rintro e f t3 ⟨rfl,rst,rfl,ht3o,ht3n⟩;simp only[go_sem];refine ad9 ?_;simp only[go_sem];refine ad9 ?_;simp only[go_sem,wi];rw[hS];rw[hS] at goon hc2;exact ⟨by omega,i,cnt+1,gv',rfl,goon (cnt+1) _ ht3o ht3n hc2⟩
 rintro e f t ⟨rfl,gv,rst,rfl,htn,hto,hgv⟩;simp only[go_sem];obtain ⟨S,hS⟩:∃ S,S=o.ak9 l:=⟨_,rfl⟩;have hup:=o.dj1 hr l;have hmem:∀ x∈S,o.a.is x=true:=fun x hx=>(o.av7.1 (by rw[← hS]; exact hx)).2
 have hsame:o.ak9 (an5.ee6 l.reverse)=o.ak9 l:=o.fc4 hr fun x=>by rw[an5.gm2,List.mem_reverse]
 rw[← hS] at hsl hup hsame ⊢
 -- each better than the next one
 refine ac6 (ac6 (ad9 ?_));simp only[go_sem];refine au2 (as2 (fun e f s=>e=.exit 6∧∃ (rst:Frm),f=(15,o.v)::(20,.aa3 (S.map Md.ag3))::(21,.int .i64 S.length)::(22,gv)::rst∧s.obj=t.obj∧t.next≤s.next) (ab3 noT (fun j fr u=>∃ (rst:Frm),fr=(15,o.v)::(20,.aa3 (S.map Md.ag3))::(21,.int .i64 S.length)::(22,gv)::(28,.int .i64 ((j+1:Nat):Int))::rst∧u.obj=t.obj∧t.next≤u.next) S.length ⟨[],rfl,rfl,Nat.le_refl _⟩ ?_) ?_)
 ·rintro j fr u hj ⟨rst,rfl,huo,hun⟩;by_cases hjl:j+1<S.length
  ·have d1:((j+1:Nat):Int)<S.length:=by omega
   have d2:(0:Int)≤((j+1:Nat):Int):=by omega
   have d3:(0:Int)≤(j:Int):=by omega
   have d4:(j:Int)<S.length:=by omega
   have w0:IntKind.i64.wrap (((j+1:Nat):Int)-1)=(j:Int):=by rw[wrap64 (by omega) (by omega)]; omega
   have w1:=ad6 (i:=j+1) (by omega);have hg1:(S.map Md.ag3).getD j []=Md.ag3 S[j]:=by simp[List.getD_eq_getElem?_getD,show j<S.length by omega]
   have hg2:(S.map Md.ag3).getD (j+1) []=Md.ag3 S[j+1]:=by simp[List.getD_eq_getElem?_getD,hjl]
   have hbt:=hB S[j] S[j+1]
   have hb1:o.better S[j] S[j+1]=true:=by
    have:=List.pairwise_iff_getElem.1 hup j (j+1) (by omega) hjl (by omega);unfold an5.better;rw[hmem _ (List.getElem_mem _),hmem _ (List.getElem_mem _)];simp[this]
   rw[hb1] at hbt;simp only[go_sem,d1,d2,d3,d4,w0,hg1,hg2,Md.ag3,Int.toNat_natCast]
   first|refine aa5 fok16 (hbt) ?_|refine aa6 (hbt) ?_
   simp only[go_sem,w1];exact ⟨by omega,_,rfl,huo,Nat.le_trans hun (Nat.le_add_right _ _)⟩
  ·have d1:¬ ((j+1:Nat):Int)<S.length:=by omega
   simp only[go_sem,d1];exact ⟨_,rfl,huo,hun⟩
 rintro e f u ⟨rfl,rst,rfl,huo,hun⟩;simp only[go_sem]
 -- turned about
 have hgu:aw8 u s1.next gv (an5.ee6 l.reverse):=by
  rcases hgv with h|⟨id,g1,g2,g3,g4⟩
  ·exact .inl h
  ·exact .inr ⟨id,g1,by omega,g3,by rw[huo]; exact g4⟩
 have hst:=ci3 o oo hr (an5.ee6 l.reverse) (by rw[an5.em6,List.length_reverse]; omega);rw[hsame] at hst
 have hcs:C Tryz.prog EE 17 [o.v,gv] u fun v s=>v=.aa3 (S.map Md.ag3)∧u.next≤s.next:=by
  refine (ej1 (args:=[o.v,gv]) (S:=fun i=>decide (i<s1.next)) (args':=[o.v,.aa3 ((an5.ee6 l.reverse).map Md.ag3)]) rfl (fun i hi=>?_) (eb1 hst)).mono fun v s h=>⟨h.1,by rw[h.2]; exact Nat.le_refl _⟩
  match i,hi with
  | 0,_=>exact .keep _ ((ao1 o).weak fun i h=>absurd h (Nat.not_lt_zero _))
  | 1,_=>exact hgu.w.frz fun i hi h=>absurd (of_decide_eq_true h) (by omega)
 have hnm:=ci1 S S (by omega) (by omega);rw[decide_eq_true (rfl:S=S)] at hnm;refine ac6 (ad9 ?_);simp only[go_sem];refine ad3 fok17 hcs ?_;rintro v s ⟨rfl,hsn⟩;refine ⟨hsn,?_⟩;simp only[go_sem]
 first|refine aa5 fok18 (hnm) ?_|refine aa6 (hnm) ?_
 simp only[go_sem];refine ad9 ?_;simp only[go_sem];exact af7 rfl
open Go Go.Id Go.Proofs Go.Id.Md
end Go.Id.Tryz
