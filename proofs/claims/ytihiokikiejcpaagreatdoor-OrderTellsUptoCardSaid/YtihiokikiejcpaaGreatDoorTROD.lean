/- The document's asking who needs whom,and by what way: walked. Conditions: sizes that fit. -/
import Derived.Test.YtihiokikiejcpaaGreatDoorTRTS
import Derived.Test.YtihiokikiejcpaaGreatDoorTROC
import Derived.Test.YtihiokikiejcpaaGreatDoorMv
import Derived.Test.YtihiokikiejcpaaGreatDoorFwZb
import Derived.Test.YtihiokikiejcpaaGreatDoorFwQ
import Derived.Test.YtihiokikiejcpaaGreatDoorMb
set_option linter.all false
namespace Go.Id.Md
open Go Go.Id
def inL (l:List aa4)(n:Int):Bool:=decide (0<=n)&&decide (n<l.length)
def bc2 (l:List aa4)(n m:Int):Bool:=inL l n&&inL l m&&!decide (n=m)&&eh7 (l.getD n.toNat default) (l.getD m.toNat default)
theorem dr3 (p:Pool):bc2 (an9 p)=ai1 p:=by
 funext n m;unfold bc2 ai1 inL isP;have hl:(an9 p).length=p.rows.length:=by simp[an9]
 rw[hl];by_cases h:0<=n/\n<p.rows.length
 ·by_cases h2:0<=m/\m<p.rows.length
  ·have e:∀ k:Int,0<=k/\k<p.rows.length->(an9 p).getD k.toNat default=pkP p k:=fun k hk=>by
    have:k.toNat<p.rows.length:=by omega
    simp[an9,pkP,List.getD_eq_getElem?_getD,this]
   rw[e n h,e m h2]
  ·have:(decide (0<=m)&&decide (m<(p.rows.length:Int)))=false:=by simpa using h2
   rw[this]; simp
 ·have:(decide (0<=n)&&decide (n<(p.rows.length:Int)))=false:=by simpa using h
  rw[this]; simp
end Go.Id.Md
namespace Go.Id.Tryz
open Go Go.Id Go.Proofs Go.Shelf Go.Id.Md
set_option maxRecDepth 100000
set_option maxHeartbeats 1000000
theorem fq5 {σ:Store}{nid:Nat}{d:Dep}:an5 σ nid 5 .aa1 (.aa3 [[.str d.name,.int .u8 d.op,.int .i64 d.evr.am6,.str d.evr.ver,.str d.evr.rel]])=some (.slice nid 0 1 5,σ.put nid (.row d.cs)):=rfl
theorem fq6 (r:aa9):r.fit->r.count<2^30->PC Tryz.prog EE 26 [.agg r.cs] (.aa3 (r.atoms.map Dep.cs)):=by
 induction r using aa9.ind with
 | h k d xs ih=>
  intro hf hc;obtain ⟨f1,f2,f3,f4,f5⟩:=aa9.co4.1 hf;have hal:=dt2 (aa9.mk k d xs);have hat:=gh7 k d xs;refine ao4 hE fok26 (nZ rfl) (ah6 (ax5 _)) ?_;rw[hat] at hal ⊢;rw[aa9.au9]
  have hpre:∀ i,i<=xs.length->((if k=1 then [d] else [])++(xs.take i).flatMap aa9.atoms).length<2^30:=fun i hi=>by
   have e:xs.flatMap aa9.atoms=(xs.take i).flatMap aa9.atoms++(xs.drop i).flatMap aa9.atoms:=by rw[<- List.flatMap_append,List.take_append_drop]
   rw[e] at hal;simp only[List.length_append] at hal ⊢;omega
  by_cases hk:k=1
  ·rw[if_pos hk] at hpre ⊢;obtain ⟨es,hes⟩:∃ es:List Dep,es=[d]:=⟨_,rfl⟩;rw[<- hes] at hpre ⊢;simp only[ic26,go_sem,aa9.kind,aa9.dep,aa9.args,hk,fq5,ah7,ak5,ai9];refine ab3 noT (fun i fr t=>∃ gv,fr=[(1,.ad4 [.int .u8 1,.str d.name,.int .u8 d.op,.int .i64 d.evr.am6,.str d.evr.ver,.str d.evr.rel,ae6 xs]),(3,gv),(4,.int .i64 (i:Int))]/\Grow t gv 5 ((es++(xs.take i).flatMap aa9.atoms).map Dep.cs)) xs.length ?_ ?_
   ·first
     | exact ⟨.aa1,rfl,by rw[hes]; exact .inl ⟨rfl,rfl⟩⟩
     | exact ⟨_,rfl,by rw[hes]; exact .inr ⟨0,rfl,by simp only[aa2,if_true]; rfl,by show 0<1; omega⟩⟩
     | done
   rintro i fr t hi ⟨gv,rfl,hg⟩;by_cases hlt:i<xs.length
   ·obtain ⟨a,ha,_,hdr,hget,htk⟩:=ae8 xs i hlt;have c1:(i:Int)<xs.length:=by omega
    have c2:(0:Int)<=i:=by omega
    have w1:=ad2 (i:=i) (by omega)
    have hia:=ih a ha (f5 a ha) (by
     have:=aa9.dp7 (k:=k) (d:=d) ha;omega)
    have hfl:(xs.take (i+1)).flatMap aa9.atoms=(xs.take i).flatMap aa9.atoms++a.atoms:=by
     rw[htk,List.flatMap_append]; simp
    have hp1:=hpre (i+1) (by omega);rw[hfl] at hp1;obtain ⟨v2,t2,a2,n2,q2,_,_⟩:=bf7 (nid:=t.next) (xs:=a.atoms.map Dep.cs) (hg.mono (σ':=⟨t.next+1,t.obj⟩) (Nat.le_succ _) fun _ _ _=>rfl) (az1 _) (az1 _) (by rw[List.length_map,List.length_map]; simp only[List.length_append] at hp1 ⊢; omega) (Nat.lt_succ_self _);simp only[go_sem,c1,c2,hget,ad5,ag7,ae3]
    first|refine aa5 fok26 (hia) ?_|refine aa8 (hia) ?_
    simp only[go_sem,a2,w1];refine ⟨hlt,v2,rfl,?_⟩;rw[hfl,<- List.append_assoc,List.map_append]; exact q2
   ·have hi':i=xs.length:=by omega
    subst hi';have c1:¬ (xs.length:Int)<xs.length:=by omega
    rw[List.take_length] at hg;simp only[go_sem,c1];refine hg.frz (fun x hx=>(az1 _ x hx).1) (fun _ _=>Nat.not_lt_zero _) fun e he c hc=>?_
    obtain ⟨y,_,rfl⟩:=List.mem_map.1 he;exact dj5 y c hc
  ·rw[if_neg hk] at hpre ⊢;obtain ⟨es,hes⟩:∃ es:List Dep,es=[]:=⟨_,rfl⟩;rw[<- hes] at hpre ⊢;simp only[ic26,go_sem,aa9.kind,aa9.dep,aa9.args,hk,fq5,ah7,ak5,ai9];refine ab3 noT (fun i fr t=>∃ gv,fr=[(1,.ad4 [.int .u8 k,.str d.name,.int .u8 d.op,.int .i64 d.evr.am6,.str d.evr.ver,.str d.evr.rel,ae6 xs]),(3,gv),(4,.int .i64 (i:Int))]/\Grow t gv 5 ((es++(xs.take i).flatMap aa9.atoms).map Dep.cs)) xs.length ?_ ?_
   ·first
     | exact ⟨.aa1,rfl,by rw[hes]; exact .inl ⟨rfl,rfl⟩⟩
     | exact ⟨_,rfl,by rw[hes]; exact .inr ⟨0,rfl,by simp only[aa2,if_true]; rfl,by show 0<1; omega⟩⟩
     | done
   rintro i fr t hi ⟨gv,rfl,hg⟩;by_cases hlt:i<xs.length
   ·obtain ⟨a,ha,_,hdr,hget,htk⟩:=ae8 xs i hlt;have c1:(i:Int)<xs.length:=by omega
    have c2:(0:Int)<=i:=by omega
    have w1:=ad2 (i:=i) (by omega)
    have hia:=ih a ha (f5 a ha) (by
     have:=aa9.dp7 (k:=k) (d:=d) ha;omega)
    have hfl:(xs.take (i+1)).flatMap aa9.atoms=(xs.take i).flatMap aa9.atoms++a.atoms:=by
     rw[htk,List.flatMap_append]; simp
    have hp1:=hpre (i+1) (by omega);rw[hfl] at hp1;obtain ⟨v2,t2,a2,n2,q2,_,_⟩:=bf7 (nid:=t.next) (xs:=a.atoms.map Dep.cs) (hg.mono (σ':=⟨t.next+1,t.obj⟩) (Nat.le_succ _) fun _ _ _=>rfl) (az1 _) (az1 _) (by rw[List.length_map,List.length_map]; simp only[List.length_append] at hp1 ⊢; omega) (Nat.lt_succ_self _);simp only[go_sem,c1,c2,hget,ad5,ag7,ae3]
    first|refine aa5 fok26 (hia) ?_|refine aa8 (hia) ?_
    simp only[go_sem,a2,w1];refine ⟨hlt,v2,rfl,?_⟩;rw[hfl,<- List.append_assoc,List.map_append]; exact q2
   ·have hi':i=xs.length:=by omega
    subst hi';have c1:¬ (xs.length:Int)<xs.length:=by omega
    rw[List.take_length] at hg;simp only[go_sem,c1];refine hg.frz (fun x hx=>(az1 _ x hx).1) (fun _ _=>Nat.not_lt_zero _) fun e he c hc=>?_
    obtain ⟨y,_,rfl⟩:=List.mem_map.1 he;exact dj5 y c hc
theorem ce8 (l:List aa4)(hl:l.length<=256)(hg:∀ p∈l,be1 p)(n m:Int):PC Tryz.prog EE 11 [ao3 l,.int .i64 n,.int .i64 m] (.bool (bc2 l n m)):=by
 refine ao4 hE fok11 (nZ rfl) (dy4 (as7 l) (.int _ _) (.int _ _)) ?_;unfold bc2 inL;by_cases h1:n<0
 ·have e:decide (0<=n)=false:=decide_eq_false (by omega);simp only[ic11,go_sem,h1];exact ah8 (by rw[e]; rfl)
 by_cases h2:m<0
 ·have e:decide (0<=m)=false:=decide_eq_false (by omega);simp only[ic11,go_sem,h1,h2];exact ah8 (by rw[e]; simp)
 by_cases h3:(l.length:Int)<=n
 ·have e:decide (n<(l.length:Int))=false:=decide_eq_false (by omega);simp only[ic11,go_sem,h1,h2,h3];exact ah8 (by rw[e]; simp)
 by_cases h4:(l.length:Int)<=m
 ·have e:decide (m<(l.length:Int))=false:=decide_eq_false (by omega);simp only[ic11,go_sem,h1,h2,h3,h4];exact ah8 (by rw[e]; simp)
 by_cases h5:n=m
 ·have e:decide (n=m)=true:=decide_eq_true h5;simp only[ic11,go_sem,h1,h2,h3,h4,h5];exact ah8 (by simp)
 have e0:(decide (0<=n)&&decide (n<(l.length:Int))&&(decide (0<=m)&&decide (m<(l.length:Int)))&&!decide (n=m))=true:=by
  simp only[Bool.and_eq_true,decide_eq_true_eq,Bool.not_eq_true',decide_eq_false_iff_not]; omega
 rw[e0,Bool.true_and];obtain ⟨a,rfl⟩:=Int.eq_ofNat_of_zero_le (show 0<=n by omega);obtain ⟨b,rfl⟩:=Int.eq_ofNat_of_zero_le (show 0<=m by omega);obtain ⟨p,hp,hpi,_,hgetp,_⟩:=ae8 l a (by omega);obtain ⟨q,hq,hqi,_,hgetq,_⟩:=ae8 l b (by omega);have ep:l.getD (a:Int).toNat default=p:=by rw[Int.toNat_natCast,List.getD_eq_getElem?_getD,hpi]; rfl
 have eq':l.getD (b:Int).toNat default=q:=by rw[Int.toNat_natCast,List.getD_eq_getElem?_getD,hqi]; rfl
 rw[ep,eq'];have c1:(a:Int)<l.length:=by omega
 have c2:(0:Int)<=(a:Int):=by omega
 have c3:(b:Int)<l.length:=by omega
 have c4:(0:Int)<=(b:Int):=by omega
 have gp:=hg p hp;have gq:=hg q hq;have p7:(p.cs.drop 7).head? = some (ae6 p.requires):=rfl;unfold eh7;simp only[ic11,go_sem,h1,h2,h3,h4,h5];refine ab3 noT (fun i fr t=>fr=[(0,ao3 l),(1,.int .i64 (a:Int)),(2,.int .i64 (b:Int)),(7,.int .i64 (i:Int))]/\(p.requires.any fun r=>r.atoms.any fun d=>provides q d)=(p.requires.drop i).any fun r=>r.atoms.any fun d=>provides q d) p.requires.length ⟨rfl,rfl⟩ ?_;rintro i fr t hi ⟨rfl,ha⟩;by_cases hlt:i<p.requires.length
 ·obtain ⟨r,hr,_,hdr,hget,_⟩:=ae8 p.requires i hlt;have d1:(i:Int)<p.requires.length:=by omega
  have d2:(0:Int)<=(i:Int):=by omega
  have w1:=ad2 (i:=i) (by have:=gp.ik2.1; omega);have gr:=gp.ik2.2 r hr;have hat:=fq6 r gr.fit (by have:=gr.count; omega);have hal:=gr.atoms;rw[bu4 hdr] at ha;simp only[go_sem,c1,c2,hgetp,as8,ao9,ap3,p7,d1,d2,hget,ad5,ag7,ae3]
  first|refine aa5 fok26 (hat) ?_|refine aa8 (hat) ?_
  simp only[go_sem];refine ab3 noT (fun j fr t=>fr=[(0,ao3 l),(1,.int .i64 (a:Int)),(2,.int .i64 (b:Int)),(7,.int .i64 (i:Int)),(8,deps r.atoms),(9,.int .i64 (j:Int))]/\(r.atoms.any fun d=>provides q d)=(r.atoms.drop j).any fun d=>provides q d) r.atoms.length ⟨rfl,rfl⟩ ?_;rintro j fr t hj ⟨rfl,hb⟩;by_cases hjl:j<r.atoms.length
  ·obtain ⟨d,hd,_,hdr2,hget2,_⟩:=ae8 r.atoms j hjl;have x1:(j:Int)<r.atoms.length:=by omega
   have x2:(0:Int)<=(j:Int):=by omega
   have w2:=ad2 (i:=j) (by omega);have hpv:=dh5 q d gq.small (gr.small d hd);rw[bu4 hdr2] at hb;simp only[go_sem,c3,c4,hgetq,as8,ao9,ap3,x1,x2,hget2,ak5,ai9,ah7]
   first|refine aa5 fok27 (hpv) ?_|refine aa8 (hpv) ?_
   cases hv:provides q d with
   | true=>
    rw[hv,Bool.true_or] at hb;rw[hb,Bool.true_or] at ha;simp only[go_sem]
    exact ah8 ha.symm
   | false=>
    rw[hv,Bool.false_or] at hb;simp only[go_sem,w2];exact ⟨hjl,hb⟩
  ·have hj':j=r.atoms.length:=by omega
   subst hj';have x1:¬ (r.atoms.length:Int)<r.atoms.length:=by omega
   rw[List.drop_length,List.any_nil] at hb;rw[hb,Bool.false_or] at ha;simp only[go_sem,x1,w1];exact ⟨hlt,ha⟩
 ·have hi':i=p.requires.length:=by omega
  subst hi';have d1:¬ (p.requires.length:Int)<p.requires.length:=by omega
  rw[List.drop_length,List.any_nil] at ha;simp only[go_sem,c1,c2,hgetp,as8,ao9,ap3,p7,d1];exact ah8 ha.symm
set_option maxHeartbeats 1000000
theorem ce9 {t:Store}{lo:Nat}{v:IV}{zs:List Int}(h:ad1 t lo v zs){i:Nat}(hi:i<zs.length):∃ id,v=.slice id 0 zs.length 1/\t.obj id=some (.row (zs.map as4))/\((zs.map as4).drop (i*1)).head? = some (.int .i64 zs[i]):=by
 rcases h with ⟨_,h⟩|⟨id,_,_,h3,h4⟩
 ·subst h; exact absurd hi (Nat.not_lt_zero _)
 ·exact ⟨id,h3,h4,by rw[Nat.mul_one,List.head?_drop,List.getElem?_map,List.getElem?_eq_getElem hi]; rfl⟩
theorem bm9 {t:Store}{lo:Nat}{v:IV}{zs:List Int}(h:ad1 t lo v zs)(σ:Store):cq3 0 σ v=some (.int .i64 (zs.length:Nat)):=by
 rcases h with ⟨rfl,rfl⟩|⟨id,_,_,rfl,_⟩
 ·rfl
 ·rw[bb4]
theorem gk3 (l:List aa4)(hl:l.length<=256)(hg:∀ p∈l,be1 p)(L:List Int)(hL:L.length<2^20)(n m:Int)(hn:n∈L) :
  PC Tryz.prog EE 81 [ao3 l,.aa3 (L.map Md.af9),.int .i64 n,.int .i64 m] (.bool (da8 (bc2 l) L n m)):=by
 refine ao4 hE fok81 (nZ rfl) (gf7 (as7 l) (ay7 L) (.int _ _) (.int _ _)) ?_;have hN:=fun a b=>ce8 l hl hg a b
 generalize bc2 l=R at *;simp only[ic81,go_sem];refine ab3 noT (fun i fr t=>∃ met mv,fr=[(0,ao3 l),(1,.aa3 (L.map Md.af9)),(3,.int .i64 m),(9,mv),(10,.int .i64 (i:Int))]/\ad1 t 0 mv met/\ch9 R L n m met/\i<=met.length/\∀ j (h:j<met.length),j<i->hc9 R L m met met[j]) L.length ?_ ?_
 ·refine ⟨[n],_,rfl,.inr ⟨0,Nat.le_refl _,?_,rfl,?_⟩,ch9.zero hn,Nat.zero_le _,fun j h hj=>absurd hj (Nat.not_lt_zero _)⟩
  ·show 0<1; omega
  ·simp only[aa2,if_true]; rfl
 rintro i fr t hi ⟨met,mv,rfl,hrow,hw,him,hask⟩;have hml:=hw.len;have hlen:=bm9 hrow;by_cases hlt:i<met.length
 ·have c1:(i:Int)<met.length:=by omega
  have c2:(0:Int)<=(i:Int):=by omega
  have w1:=ad2 (i:=i) (by omega);obtain ⟨x,hx⟩:∃ x,met[i]? = some x:=⟨met[i],List.getElem?_eq_getElem hlt⟩;simp only[go_sem,hlen,c1];refine ab3 noT (fun k fr u=>∃ met mv,fr=[(0,ao3 l),(1,.aa3 (L.map Md.af9)),(3,.int .i64 m),(9,mv),(10,.int .i64 (i:Int)),(11,.int .i64 (k:Int))]/\ad1 u 0 mv met/\ch9 R L n m met/\i<met.length/\met[i]? = some x/\(∀ j (h:j<met.length),j<i->hc9 R L m met met[j])/\∀ a∈L.take k,R x a=true->a∈met/\a≠m) L.length ⟨met,mv,rfl,hrow,hw,hlt,hx,hask,fun a h=>by cases h⟩ ?_;clear hrow hw him hask hml hlen hlt hx mv met c1 t;rintro k fr u hk ⟨met,mv,rfl,hrow,hw,hlt,hx,hask,hone⟩;have hml:=hw.len;have hxm:x∈met:=List.mem_of_getElem? hx;have ex:met[i]=x:=by rw[List.getElem?_eq_getElem hlt] at hx; exact Option.some.inj hx
  have c1:(i:Int)<met.length:=by omega
  by_cases hkl:k<L.length
  ·obtain ⟨a,ha,hai,hdr,hget,htk⟩:=ae8 L k hkl;have d1:(k:Int)<L.length:=by omega
   have d2:(0:Int)<=(k:Int):=by omega
   have w2:=ad2 (i:=k) (by omega);have gI:=hget Md.af9;have hNa:=hN x a;obtain ⟨id,rfl,ho,hh⟩:=ce9 hrow hlt;rw[ex] at hh
   have last:∀ {met':List Int},(∀ y∈met,y∈met')->(R x a=true->a∈met'/\a≠m)->∀ b∈L.take (k+1),R x b=true->b∈met'/\b≠m:=fun hs h b hb hr=>by
    rw[htk] at hb;rcases List.mem_append.1 hb with hb|hb
    ·exact ⟨hs _ (hone b hb hr).1,(hone b hb hr).2⟩
    ·rw[List.mem_singleton] at hb; subst hb; exact h hr
   cases hr:R x a with
   | false=>
    rw[hr] at hNa;simp only[go_sem,c1,c2,d1,d2,ho,hh,gI,Md.af9]
    first|refine aa5 fok11 (hNa) ?_|refine aa8 (hNa) ?_
    simp only[go_sem,w2]
    exact ⟨hkl,met,_,rfl,hrow.up _,hw,hlt,hx,hask,last (fun _ h=>h) (by rw[hr]; intro h; cases h)⟩
   | true=>
    rw[hr] at hNa;by_cases ham:a=m
    ·subst ham;simp only[go_sem,c1,c2,d1,d2,ho,hh,gI,Md.af9]
     first|refine aa5 fok11 (hNa) ?_|refine aa8 (hNa) ?_
     simp only[go_sem,d1,d2,gI,Md.af9];exact ah8 (ay6.2 (hw.next hxm ha hr)).symm
    simp only[go_sem,c1,c2,d1,d2,ho,hh,gI,Md.af9]
    first|refine aa5 fok11 (hNa) ?_|refine aa8 (hNa) ?_
    simp only[go_sem,d1,d2,gI,Md.af9,ham];refine ab3 noT (fun j fr s=>fr=[(0,ao3 l),(1,.aa3 (L.map Md.af9)),(3,.int .i64 m),(9,.slice id 0 met.length 1),(10,.int .i64 (i:Int)),(11,.int .i64 (k:Int)),(12,.bool (decide (a∈met.take j))),(13,.int .i64 (j:Int))]/\ad1 s 0 (.slice id 0 met.length 1) met) met.length ?_ ?_
    ·exact ⟨by simp,hrow.up _⟩
    clear hrow ho hh u;rintro j fr s hj ⟨rfl,hrow⟩;have hlen:=bm9 hrow;by_cases hjl:j<met.length
    ·obtain ⟨id',he,ho,hh⟩:=ce9 hrow hjl;cases he;have x1:(j:Int)<met.length:=by omega
     have x2:(0:Int)<=(j:Int):=by omega
     have w3:=ad2 (i:=j) (by omega);have htj:met.take (j+1)=met.take j++[met[j]]:=List.take_succ_eq_append_getElem hjl;by_cases hin:a∈met.take j
     ·have e1:decide (a∈met.take j)=true:=decide_eq_true hin;have e2:decide (a∈met.take (j+1))=true:=decide_eq_true (by rw[htj]; exact List.mem_append_left _ hin);simp only[go_sem,x1,e1,w3];exact ⟨hjl,by rw[e2],hrow.up _⟩
     ·have e1:decide (a∈met.take j)=false:=decide_eq_false hin
      have e2:decide (a∈met.take (j+1))=decide (met[j]=a):=decide_eq_decide.2 (by
       rw[htj,List.mem_append,List.mem_singleton];exact ⟨fun h=>h.elim (fun h=>absurd h hin) fun h=>h.symm,fun h=>.inr h.symm⟩)
      simp only[go_sem,x1,x2,ho,hh,d1,d2,gI,Md.af9,e1,w3];exact ⟨hjl,by rw[e2],hrow.up _⟩
    ·have hj':j=met.length:=by omega
     subst hj';have x1:¬ (met.length:Int)<met.length:=by omega
     rw[List.take_length];by_cases hin:a∈met
     ·have e1:decide (a∈met)=true:=decide_eq_true hin;simp only[go_sem,x1,e1,w2];exact ⟨hkl,met,_,rfl,hrow,hw,hlt,hx,hask,last (fun _ h=>h) fun _=>⟨hin,ham⟩⟩
     ·have e1:decide (a∈met)=false:=decide_eq_false hin;have hap:=bd6 (nid:=s.next) (s:=⟨s.next+1,s.obj⟩) (hrow.up 1) a (by omega);simp only[go_sem,x1,e1,d1,d2,gI,Md.af9,hap,w2];have hwp:=hw.push hxm ha hr hin;refine ⟨hkl,met++[a],_,rfl,?_,hwp,by rw[List.length_append]; omega,by rw[List.getElem?_append_left hlt]; exact hx,fun y hy hyi=>?_,last (fun y hy=>List.mem_append_left _ hy) fun _=>⟨by simp,ham⟩⟩
      ·refine .inr ⟨s.next,Nat.zero_le _,?_,by rw[List.length_append,List.length_singleton],by rw[aa2,if_pos rfl]⟩;show s.next<(ad7 _ _).next;rw[ac1]; show s.next<s.next+1; omega
      ·have hyl:y<met.length:=by omega
       rw[List.getElem_append_left hyl];exact fun b hb hrb=>⟨List.mem_append_left _ (hask y hyl hyi b hb hrb).1,(hask y hyl hyi b hb hrb).2⟩
  ·have hk':k=L.length:=by omega
   subst hk';have d1:¬ (L.length:Int)<L.length:=by omega
   rw[List.take_length] at hone;simp only[go_sem,d1,w1];refine ⟨by omega,met,mv,rfl,hrow,hw,by omega,fun j hj hji=>?_⟩;rcases Nat.lt_or_ge j i with h|h
   ·exact hask j hj h
   ·have:j=i:=by omega
    subst this;rw[ex]; exact hone
 ·have hi':i=met.length:=by omega
  have c1:¬ (i:Int)<met.length:=by omega
  simp only[go_sem,hlen,c1];refine ah8 (gh4 hw.has fun x hx=>?_).symm;obtain ⟨j,hj,rfl⟩:=List.mem_iff_getElem.1 hx;exact hask j hj (by omega)
def ez5 (g:Bool)(R:Int->Int->Bool):Int->Int->Bool:=if g then fun a b=>R b a else R
theorem gk4 (l:List aa4)(hl:l.length<=256)(hg:∀ p∈l,be1 p)(L left:List Int)(hL:L.length<2^20)(hs:∀ x∈left,x∈L)(hll:left.length<2^20)(n:Int)(hn:n∈L)(g:Bool) :
  PC Tryz.prog EE 43 [ao3 l,.aa3 (L.map Md.af9),.aa3 (left.map Md.af9),.int .i64 n,.bool g] (.bool (bp6 (az6 (ez5 g (bc2 l)) L) left n)):=by
 refine ao4 hE fok43 (nZ rfl) (ha9 (as7 l) (ay7 L) (ay7 left) (.int _ _) (.bool _)) ?_;have hN:=fun a b=>ce8 l hl hg a b
 have hW:=fun a b h=>gk3 l hl hg L hL a b h
 generalize bc2 l=R at *;unfold bp6;simp only[ic43,go_sem];refine ab3 noT (fun i fr t=>fr=[(0,ao3 l),(1,.aa3 (L.map Md.af9)),(2,.aa3 (left.map Md.af9)),(3,.int .i64 n),(4,.bool g),(11,.int .i64 (i:Int))]/\(left.any fun m=>az6 (ez5 g R) L n m)=(left.drop i).any fun m=>az6 (ez5 g R) L n m) left.length ⟨rfl,rfl⟩ ?_;rintro i fr t hi ⟨rfl,ha⟩;by_cases hlt:i<left.length
 ·obtain ⟨m,hm,hmi,hdr,hget,htk⟩:=ae8 left i hlt;have d1:(i:Int)<left.length:=by omega
  have d2:(0:Int)<=(i:Int):=by omega
  have w1:=ad2 (i:=i) (by omega);have gI:=hget Md.af9;rw[bu4 hdr] at ha
  cases g with
  | false=>
   have hc:az6 (ez5 false R) L n m=(R n m&&!da8 R L m n):=rfl;have h1:=hN n m;have h2:=hW m n (hs m hm);rw[hc] at ha;simp only[go_sem,d1,d2,gI,Md.af9]
   first|refine aa5 fok11 (h1) ?_|refine aa8 (h1) ?_
   cases hr:R n m with
   | false=>
    rw[hr,Bool.false_and,Bool.false_or] at ha;simp only[go_sem,w1]
    exact ⟨hlt,ha⟩
   | true=>
    simp only[go_sem]
    first|refine aa5 fok81 (h2) ?_|refine aa8 (h2) ?_
    cases hw:da8 R L m n with
    | false=>
     rw[hr,hw] at ha;simp only[go_sem]
     exact ah8 (by rw[ha]; rfl)
    | true=>
     rw[hr,hw] at ha;simp only[Bool.not_true,Bool.and_false,Bool.false_or] at ha;simp only[go_sem,w1]
     exact ⟨hlt,ha⟩
  | true=>
   have hc:az6 (ez5 true R) L n m=(R m n&&!da8 R L n m):=by
    unfold az6 ez5;simp only[if_true];rw[co1]
   have h1:=hN m n;have h2:=hW n m hn;rw[hc] at ha;simp only[go_sem,d1,d2,gI,Md.af9]
   first|refine aa5 fok11 (h1) ?_|refine aa8 (h1) ?_
   cases hr:R m n with
   | false=>
    rw[hr,Bool.false_and,Bool.false_or] at ha;simp only[go_sem,w1]
    exact ⟨hlt,ha⟩
   | true=>
    simp only[go_sem]
    first|refine aa5 fok81 (h2) ?_|refine aa8 (h2) ?_
    cases hw:da8 R L n m with
    | false=>
     rw[hr,hw] at ha;simp only[go_sem]
     exact ah8 (by rw[ha]; rfl)
    | true=>
     rw[hr,hw] at ha;simp only[Bool.not_true,Bool.and_false,Bool.false_or] at ha;simp only[go_sem,w1];exact ⟨hlt,ha⟩
 ·have hi':i=left.length:=by omega
  subst hi';have d1:¬ (left.length:Int)<left.length:=by omega
  rw[List.drop_length,List.any_nil] at ha;simp only[go_sem,d1];exact ah8 (by rw[ha]; rfl)
set_option maxHeartbeats 1000000
theorem gk5 {S:Store}{a nid lo:Nat}{v:IV}{zs:List Int}(h0:S.obj a=some (.row []))(h:ad1 S lo v zs)(hz:zs.length<2^30)(ha:a<nid)(hn:nid<S.next) :
  ∃ v' S',an5 S nid 1 (.slice a 0 0 1) v=some (v',S')/\S'.next=S.next/\ad1 S' a v' zs/\(∀ i,i<a->S'.obj i=S.obj i):=by
 rcases h with ⟨rfl,rfl⟩|⟨id,h1,h2,rfl,h4⟩
 ·exact ⟨.slice a 0 0 1,S,by simp[an5,ax8,h0],rfl,.inr ⟨a,Nat.le_refl _,by omega,rfl,by rw[h0]; rfl⟩,fun _ _=>rfl⟩
 ·have hsrc:ax8 S 1 (.slice id 0 zs.length 1)=some (zs.length,zs.map as4):=by
   simp only[ax8,h4,Nat.zero_add,Nat.mul_one,List.length_map,Nat.le_refl,and_self,if_true,List.drop_zero];rw[List.take_of_length_le (by simp)]
  by_cases hz0:zs.length=0
  ·have hz1:zs=[]:=List.length_eq_zero_iff.1 hz0;subst hz1;refine ⟨.slice a 0 0 1,S,?_,rfl,.inr ⟨a,Nat.le_refl _,by omega,rfl,by rw[h0]; rfl⟩,fun _ _=>rfl⟩;unfold an5;rw[hsrc];simp[h0]
  ·refine ⟨.slice nid 0 zs.length 1,(S.kill a).put nid (.row (zs.map as4)),?_,rfl,.inr ⟨nid,by omega,hn,rfl,by rw[aa2,if_pos rfl]⟩,fun i hi=>?_⟩
   ·unfold an5;rw[hsrc];have h5:zs.length<=2147483648:=by omega
    simp only[bg4,Bool.true_eq_false,if_false,h0,hz0,and_false,Nat.zero_mul,Nat.add_zero,List.length_nil,Nat.zero_add,h5,List.drop_nil,List.all_nil,and_self,if_true,List.nil_append]
   ·rw[aa2,if_neg (by omega)];show (if i=a then none else S.obj i)=_;rw[if_neg (by omega)]
theorem hh7 {S:Store}{a b d lo k:Nat}{v:IV}{zs:List Int}(h0:S.obj a=some (.row []))(h:ad1 S lo v zs)(hz:zs.length<2^30)(hk:k<zs.length)(hlo:∀ id n,v=.slice id 0 n 1->id<a)(hab:a<b)(hbd:b<d)(hd:d<S.next) :
  ∃ x1 v1 S1 x2 v2 S2,bh9 1 none (some (.int .i64 (k:Int))) v=some x1/\an5 S b 1 (.slice a 0 0 1) x1=some (v1,S1)/\bh9 1 (some (.int .i64 ((k+1:Nat):Int))) none v=some x2/\an5 S1 d 1 v1 x2=some (v2,S2)/\S2.next=S.next/\ad1 S2 a v2 (zs.eraseIdx k)/\∀ i,i<a->S2.obj i=S.obj i:=by
 have hb2:∀ m (n:Nat),bq4 m (some (.int .i64 (n:Int)))=some n:=fun m n=>by simp[bq4,cq2]
 have hb0:∀ m,bq4 m none=some m:=fun m=>rfl
 rcases h with ⟨_,rfl⟩|⟨id,h1,h2,rfl,h4⟩
 ·exact absurd hk (Nat.not_lt_zero _)
 have hid:=hlo id _ rfl;have hk1:k<=zs.length:=by omega
 have s1:bh9 1 none (some (.int .i64 (k:Int))) (.slice id 0 zs.length 1)=some (.slice id 0 k 1):=by simp[bh9,hb2,hb0,hk1]
 have s2:bh9 1 (some (.int .i64 ((k+1:Nat):Int))) none (.slice id 0 zs.length 1)=some (.slice id (k+1) (zs.length-(k+1)) 1):=by
  have:k+1<=zs.length:=hk;simp only[bh9,hb2,hb0,this,Nat.le_refl,and_self,if_true,Nat.mul_one,Nat.zero_add]
 have r1:ax8 S 1 (.slice id 0 k 1)=some (k,(zs.take k).map as4):=by
  simp only[ax8,h4,List.length_map,Nat.mul_one,Nat.zero_add,hk1,and_self,if_true,List.drop_zero,List.map_take]
 obtain ⟨i1,S1,a1,o1,g1,n1,hi1,hp1⟩:∃ i1 S1,an5 S b 1 (.slice a 0 0 1) (.slice id 0 k 1)=some (.slice i1 0 k 1,S1)/\S1.obj i1=some (.row ((zs.take k).map as4))/\S1.obj id=some (.row (zs.map as4))/\S1.next=S.next/\(i1=a\/i1=b)/\∀ i,i<a->S1.obj i=S.obj i:=by
  by_cases hz:k=0
  ·subst hz;refine ⟨a,S,?_,by rw[h0]; rfl,h4,rfl,.inl rfl,fun _ _=>rfl⟩;unfold an5;rw[r1];simp[h0]
  ·refine ⟨b,(S.kill a).put b (.row ((zs.take k).map as4)),?_,by rw[aa2,if_pos rfl],?_,rfl,.inr rfl,fun i hi=>?_⟩
   ·unfold an5;rw[r1];have h5:k<=2147483648:=by omega
    simp only[bg4,Bool.true_eq_false,if_false,h0,hz,and_false,Nat.zero_mul,Nat.add_zero,List.length_nil,Nat.zero_add,h5,List.drop_nil,List.all_nil,and_self,if_true,List.nil_append]
   ·rw[aa2,if_neg (by omega)];show (if id=a then none else S.obj id)=_;rw[if_neg (by omega)]; exact h4
   ·rw[aa2,if_neg (by omega)];show (if i=a then none else S.obj i)=_;rw[if_neg (by omega)]
 have he:zs.eraseIdx k=zs.take k++zs.drop (k+1):=List.eraseIdx_eq_take_drop_succ ..
 have r2:ax8 S1 1 (.slice id (k+1) (zs.length-(k+1)) 1)=some (zs.length-(k+1),(zs.drop (k+1)).map as4):=by
  have h5:k+1+(zs.length-(k+1))<=(zs.map as4).length:=by rw[List.length_map]; omega
  simp only[ax8,g1,h5,and_self,if_true,Nat.mul_one];rw[<- List.map_drop,<- List.map_take,List.take_of_length_le (by simp)]
 by_cases hz2:zs.length-(k+1)=0
 ·have hdn:zs.drop (k+1)=[]:=List.drop_eq_nil_of_le (by omega)
  have a3:an5 S1 d 1 (.slice i1 0 k 1) (.slice id (k+1) (zs.length-(k+1)) 1)=some (.slice i1 0 k 1,S1):=by
   unfold an5;rw[r2,hdn,hz2];simp[o1]
  refine ⟨_,_,_,_,_,_,s1,a1,s2,a3,n1,.inr ⟨i1,by omega,by omega,?_,?_⟩,hp1⟩
  ·rw[he,hdn,List.append_nil,List.length_take,Nat.min_eq_left hk1]
  ·rw[he,hdn,List.append_nil]; exact o1
 ·have a3:an5 S1 d 1 (.slice i1 0 k 1) (.slice id (k+1) (zs.length-(k+1)) 1)=some (.slice d 0 (k+(zs.length-(k+1))) 1,(S1.kill i1).put d (.row ((zs.take k).map as4++(zs.drop (k+1)).map as4))):=by
   unfold an5;rw[r2];have h5:0+k*1=((zs.take k).map as4).length:=by rw[List.length_map,List.length_take]; omega
   have h6:k+(zs.length-(k+1))<=2147483648:=by omega
   simp only[bg4,Bool.true_eq_false,if_false,o1,hz2,and_false,h5,h6,List.drop_zero,and_self,if_true]
  refine ⟨_,_,_,_,_,_,s1,a1,s2,a3,n1,.inr ⟨d,by omega,by show d<S1.next; omega,?_,?_⟩,fun i hi=>?_⟩
  ·rw[he,List.length_append,List.length_take,List.length_drop,Nat.min_eq_left hk1]
  ·rw[aa2,if_pos rfl,he,List.map_append]
  ·rw[aa2,if_neg (by omega)];show (if i=i1 then none else S1.obj i)=_;rw[if_neg (by omega)]; exact hp1 i hi
theorem fq7 {s:Store}{lo:Nat}{v:IV}{zs:List Int}(h:ad1 s lo v zs):dk5 s 0 v (.aa3 (zs.map Md.af9)):=h.w.frz fun i _ hi=>Nat.not_lt_zero _ hi
def ja8 (w:Int->Int->Bool)(left:List Int)(j:Nat)(best:Int):Prop :=
 (best=-1/\∀ i (h:i<left.length),i<j->bp6 w left left[i]=false)\/∃ (b:Nat) (h:b<left.length),best=b/\b<j/\bp6 w left left[b]=true/\∀ i (h':i<left.length),i<j->bp6 w left left[i]=true->left[b]<=left[i]
theorem cg9 {E:Nat->IV}{fr:Frm}{σ:Store}{n:Nat}{x:IX}{lo hi:Option IX}:bo1 E fr σ (.q (.slc n x lo hi))=True:=rfl
theorem hh8 (l:List aa4)(hl:l.length<=256)(hg:∀ p∈l,be1 p)(L:List Int)(hL:L.length<2^20)(g:Bool){σ:Store}{lo:Nat}{v:IV}(hv:ad1 σ lo v L) :
  C Tryz.prog EE 23 [ao3 l,v,.bool g] σ fun w s=>Kept σ s/\ad1 s σ.next w (dy7 (ez5 g (bc2 l)) L):=by
 refine C_f fok23 (nZ rfl) ?_;have hM:=fun (left:List Int) hs hll n hn=>gk4 l hl hg L left hL hs hll n hn g
 generalize ez5 g (bc2 l)=R at *;obtain ⟨w,hw⟩:∃ w,w=az6 R L:=⟨_,rfl⟩;have hR:dy7 R L=dk6 w L.length (aq6 L):=by rw[hw]; rfl
 rw[hR];rw[<- hw] at hM;have hring:ef2 w L:=by rw[hw]; exact df6
 have vlf:v.leaf=true:=by rcases hv with ⟨rfl,_⟩|⟨_,_,_,rfl,_⟩<;>rfl
 have vcs:v.cs=[v]:=by rcases hv with ⟨rfl,_⟩|⟨_,_,_,rfl,_⟩<;>rfl
 have hst:∀ (t:Store) (lv:IV) (left:List Int) (n:Int),Kept σ t->ad1 t σ.next lv left->(∀ x∈left,x∈L)->left.length<2^20->n∈L->C Tryz.prog EE 43 [ao3 l,v,lv,.int .i64 n,.bool g] t (ib4 (.bool (bp6 w left n)) t):=fun t lv left n hk hlv hs hll hn=>
  cn7 (args':=[ao3 l,.aa3 (L.map Md.af9),.aa3 (left.map Md.af9),.int .i64 n,.bool g]) hE rfl (fun i hi=>by
   have:i=0\/i=1\/i=2\/i=3\/i=4:=by simp only[List.length_cons,List.length_nil] at hi; omega
   rcases this with rfl|rfl|rfl|rfl|rfl
   ·exact .keep _ (as7 l)
   ·exact fq7 (hv.kept hk)
   ·exact fq7 hlv
   ·exact .keep _ (.int _ _)
   ·exact .keep _ (.bool _)) (by simp[IV.plain]) (hM left hs hll n hn)
 have kS:Kept σ ((⟨σ.next+2,σ.obj⟩:Store).put σ.next (ak4.row [])):=⟨by show σ.next<=σ.next+2; omega,fun i hi=>by rw[aa2,if_neg (by omega)]⟩;obtain ⟨lv0,T,q1,q2,q3,q4⟩:=gk5 (S:=(⟨σ.next+2,σ.obj⟩:Store).put σ.next (ak4.row [])) (a:=σ.next) (nid:=σ.next+1) (by rw[aa2,if_pos rfl]) (hv.kept kS) (by omega) (Nat.lt_succ_self _) (by show σ.next+1<σ.next+2; omega);have kT:Kept σ T:=⟨by rw[q2]; show σ.next<=σ.next+2; omega,fun i hi=>by rw[q4 i hi]; exact kS.obj i hi⟩;simp only[ic23,go_sem,vlf,vcs,q1];refine ab3 noT (fun i fr t=>∃ left lv out ov,fr=[(0,ao3 l),(1,v),(2,.bool g),(7,lv),(8,ov)]/\Kept σ t/\ad1 t σ.next lv left/\ad1 t σ.next ov out/\(∀ a n m,lv=.slice a 0 n 1->ov≠.slice a 0 m 1)/\left.length+i=L.length/\(∀ x∈left,x∈L)/\out.length=i/\out++dk6 w left.length (aq6 left)=dk6 w L.length (aq6 L)) L.length ⟨L,lv0,[],.aa1,rfl,kT,q3,.inl ⟨rfl,rfl⟩,fun _ _ _ _ h=>(by cases h),rfl,fun _ h=>h,rfl,rfl⟩ ?_;rintro i fr t hi ⟨left,lv,out,ov,rfl,hk,hlv,hov,hne,hlen,hsub,hol,hrow⟩;have hll:=bm9 hlv;by_cases h0:left.length=0
 ·have e:left=[]:=List.length_eq_zero_iff.1 h0;subst e;have c1:¬ (0:Int)<((0:Nat):Int):=by decide
  simp only[go_sem,hll,List.length_nil,c1];refine ⟨hk,?_⟩;have:aq6 []=[]:=(ak1 []).eq_nil;rw[this,ef1,List.append_nil] at hrow;rw[<- hrow]; exact hov
 have c1:(0:Int)<(left.length:Int):=by omega
 simp only[go_sem,hll,c1];refine ab3 noT (fun j fr u=>∃ best:Int,fr=[(0,ao3 l),(1,v),(2,.bool g),(7,lv),(8,ov),(9,.int .i64 best),(10,.int .i64 (j:Int))]/\ja8 w left j best/\Kept σ u/\ad1 u σ.next lv left/\ad1 u σ.next ov out) left.length ⟨-1,rfl,.inl ⟨rfl,fun i _ h=>absurd h (Nat.not_lt_zero _)⟩,hk,hlv,hov⟩ ?_;clear hk hlv hov hll t;rintro j fr u hj ⟨best,rfl,hbest,hk,hlv,hov⟩;have hll:=bm9 hlv;by_cases hjl:j<left.length
 ·obtain ⟨id,rfl,ho,hh⟩:=ce9 hlv hjl;have d1:(j:Int)<left.length:=by omega
  have d2:(0:Int)<=(j:Int):=by omega
  have w1:=ad2 (i:=j) (by omega);have hst':=fun k=>hst ⟨u.next+k,u.obj⟩ (.slice id 0 left.length 1) left left[j] (hk.up k) (hlv.up k) hsub (by omega) (hsub _ (List.getElem_mem hjl))
  rcases hbest with ⟨rfl,hno⟩|⟨b,hb,rfl,hbj,hfb,hmin⟩
  ·simp only[go_sem,d1,d2,ho,hh];refine ad3 fok43 (hst' _) ?_;rintro r s ⟨rfl,rfl⟩;refine ⟨Nat.le_refl _,?_⟩
   cases hf:bp6 w left left[j] with
   | true=>
    simp only[go_sem,w1];refine ⟨hjl,j,rfl,.inr ⟨j,hjl,rfl,Nat.lt_succ_self _,hf,fun i h hi hfi=>?_⟩,hk.up _,hlv.up _,hov.up _⟩;rcases Nat.lt_or_ge i j with h2|h2
    ·rw[hno i h h2] at hfi; cases hfi
    ·have:i=j:=by omega
     subst this; exact Int.le_refl _
   | false=>
    simp only[go_sem,w1];refine ⟨hjl,-1,rfl,.inl ⟨rfl,fun i h hi=>?_⟩,hk.up _,hlv.up _,hov.up _⟩;rcases Nat.lt_or_ge i j with h2|h2
    ·exact hno i h h2
    ·have:i=j:=by omega
     subst this; exact hf
  ·have b1:¬ (b:Int)<0:=by omega
   have b2:(0:Int)<=(b:Int):=by omega
   have b3:(b:Int)<left.length:=by omega
   have hhb:((left.map as4).drop (b*1)).head? = some (.int .i64 left[b]):=by rw[Nat.mul_one,List.head?_drop,List.getElem?_map,List.getElem?_eq_getElem hb]; rfl
   by_cases hlt:left[j]<left[b]
   ·simp only[go_sem,d1,d2,ho,hh,b1,b2,b3,hhb,hlt];refine ad3 fok43 (hst' _) ?_;rintro r s ⟨rfl,rfl⟩;refine ⟨Nat.le_refl _,?_⟩
    cases hf:bp6 w left left[j] with
    | true=>
     simp only[go_sem,w1];refine ⟨hjl,j,rfl,.inr ⟨j,hjl,rfl,Nat.lt_succ_self _,hf,fun i h hi hfi=>?_⟩,hk.up _,hlv.up _,hov.up _⟩;rcases Nat.lt_or_ge i j with h2|h2
     ·have:=hmin i h h2 hfi; omega
     ·have:i=j:=by omega
      subst this; exact Int.le_refl _
    | false=>
     simp only[go_sem,w1];refine ⟨hjl,b,rfl,.inr ⟨b,hb,rfl,by omega,hfb,fun i h hi hfi=>?_⟩,hk.up _,hlv.up _,hov.up _⟩;rcases Nat.lt_or_ge i j with h2|h2
     ·exact hmin i h h2 hfi
     ·have:i=j:=by omega
      subst this; rw[hf] at hfi; cases hfi
   ·simp only[go_sem,d1,d2,ho,hh,b1,b2,b3,hhb,hlt,w1];refine ⟨hjl,b,rfl,.inr ⟨b,hb,rfl,by omega,hfb,fun i h hi hfi=>?_⟩,hk.up _,hlv.up _,hov.up _⟩;rcases Nat.lt_or_ge i j with h2|h2
    ·exact hmin i h h2 hfi
    ·have:i=j:=by omega
     subst this; omega
 ·have hj':j=left.length:=by omega
  subst hj';have d1:¬ (left.length:Int)<left.length:=by omega
  rcases hbest with ⟨rfl,hno⟩|⟨b,hb,rfl,hbj,hfb,hmin⟩
  ·exfalso;obtain ⟨n,hn,hfree⟩:=hring left (fun e=>h0 (by rw[e]; rfl)) hsub;obtain ⟨i,hi2,rfl⟩:=List.mem_iff_getElem.1 hn;have:=hno i hi2 hi2;rw[bt3.2 hfree] at this; cases this
  have b1:¬ (b:Int)<0:=by omega
  have b2:(0:Int)<=(b:Int):=by omega
  have b3:(b:Int)<left.length:=by omega
  have w2:=ad2 (i:=b) (by omega);obtain ⟨id,rfl,ho,hh⟩:=ce9 hlv hb
  have hpick:=ew8 hb hfb fun x hx hfx=>by
   obtain ⟨i,hi2,rfl⟩:=List.mem_iff_getElem.1 hx;exact hmin i hi2 hi2 hfx
  have hap:=bd6 (nid:=u.next) (s:=⟨u.next+1,u.obj⟩) (hov.up 1) left[b] (by omega);obtain ⟨hk1,hov1⟩:=ge4 hk hov left[b] (a:=1) (Nat.le_refl u.next) (Nat.lt_succ_self _) (rfl:(out++[left[b]]).map as4=_)
  have hidl:id<u.next:=by
   rcases hlv with ⟨h,_⟩|⟨id',_,h2,h3,_⟩
   ·cases h
   ·cases h3; exact h2
  have hlow:σ.next<=id:=by
   rcases hlv with ⟨h,_⟩|⟨id',h1,_,h3,_⟩
   ·cases h
   ·cases h3; exact h1
  have ho1:((ad7 ov (⟨u.next+1,u.obj⟩:Store)).put u.next (.row ((out++[left[b]]).map as4))).obj id=some (.row (left.map as4)):=by
   rw[aa2,if_neg (by omega)];rcases hov with ⟨rfl,_⟩|⟨id',_,_,rfl,_⟩
   ·exact ho
   ·show (if id=id' then none else u.obj id)=_;rw[if_neg fun e=>hne _ _ _ rfl (by rw[e])]; exact ho
  have hn1:((ad7 ov (⟨u.next+1,u.obj⟩:Store)).put u.next (.row ((out++[left[b]]).map as4))).next=u.next+1:=by rw[aa6,ac1]
  generalize (ad7 ov (⟨u.next+1,u.obj⟩:Store)).put u.next (.row ((out++[left[b]]).map as4))=T1 at hap hk1 hov1 ho1 hn1;simp only[go_sem,hll,d1,b1,b2,b3,ho,hh,hap];have hlv1:ad1 (⟨T1.next+11,T1.obj⟩:Store) σ.next (.slice id 0 left.length 1) left:=.inr ⟨id,hlow,by show id<T1.next+11; omega,rfl,ho1⟩;have hlvS:ad1 ((⟨T1.next+11,T1.obj⟩:Store).put T1.next (ak4.row [])) σ.next (.slice id 0 left.length 1) left:=.inr ⟨id,hlow,by show id<T1.next+11; omega,rfl,by rw[aa2,if_neg (by omega)]; exact ho1⟩;obtain ⟨x1,v1,S1,x2,v2,S2,p1,p2,p3,p4,p5,p6,p7⟩:=hh7 (S:=(⟨T1.next+11,T1.obj⟩:Store).put T1.next (ak4.row [])) (a:=T1.next) (b:=T1.next+4) (d:=T1.next+9) (k:=b) (by rw[aa2,if_pos rfl]) hlvS (by omega) hb (fun a n h=>by cases h; omega) (by omega) (by omega) (by show T1.next+9<T1.next+11; omega);simp only[go_sem,cg9,true_and,p1];simp only[show T1.next+1+1+1+1=T1.next+4 from rfl,p2,go_sem,cg9,true_and,w2,p3];simp only[show T1.next+4+1+1+1+1+1=T1.next+9 from rfl,p4,go_sem];have kS2:Kept T1 S2:=⟨by rw[p5]; show T1.next<=T1.next+11; omega,fun i hi=>by rw[p7 i hi,aa2,if_neg (by omega)]⟩;have hel:=List.length_eraseIdx_of_lt hb;refine ⟨by omega,left.eraseIdx b,v2,out++[left[b]],_,rfl,hk1.trans kS2,p6.low (by omega),hov1.kept kS2,fun a n m h h2=>?_,by omega,fun x hx=>hsub x (List.mem_of_mem_eraseIdx hx),by rw[List.length_append,hol]; rfl,?_⟩
  ·rcases p6 with ⟨h3,_⟩|⟨id',h3,_,h4,_⟩
   ·rw[h3] at h; cases h
   ·rw[h4] at h; cases h; cases h2; omega
  ·rw[<- hrow,hpick,List.append_assoc]; rfl
theorem ea4 (l:List Int)(hl:l.length<2^62):cm9 Tryz.prog EE (.func (.func 80) [] [.ad4 [.aa3 (l.map Md.af9)]]) (l.map Md.af9) (fun _=>True):=by
 intro yid I S σ hown hstab hy hi;refine ⟨fok80.1,?_⟩;refine C_f fok80 (nZ rfl) ?_;simp only[ic80,go_sem];refine ab3 noT (fun j fr t=>fr=[(0,.yield yid),(5,.aa3 (l.map Md.af9)),(6,.int .i64 l.length),(7,.int .i64 (j:Int))]/\σ.next<=t.next/\I ((l.drop j).map Md.af9) t) l.length ⟨rfl,Nat.le_refl _,hi⟩ ?_;rintro j fr t hle ⟨rfl,hn,hI⟩;by_cases hlt:j<l.length
 ·obtain ⟨x,_,_,hdr,hget,_⟩:=ae8 l j hlt;have c1:(j:Int)<l.length:=by omega
  have c2:(0:Int)<=(j:Int):=by omega
  have w1:=ad2 (i:=j) (by omega);rw[hdr,List.map_cons] at hI;simp only[go_sem,c1,c2,hget,Md.af9];refine bx4 hy hI (fun s hs hI2=>?_) (fun s hs hS=>?_)
  ·simp only[go_sem,w1];exact ⟨hlt,by omega,hI2⟩
  ·simp only[go_sem];exact ⟨by omega,.inr hS⟩
 ·have c1:¬ (j:Int)<l.length:=by omega
  rw[List.drop_of_length_le (by omega)] at hI;simp only[go_sem,c1];exact ⟨hn,.inl hI⟩
theorem dr4 (l:List Int):PC Tryz.prog EE 37 [.aa3 (l.map Md.af9)] (.func (.func 80) [] [.ad4 [.aa3 (l.map Md.af9)]]):=by
 refine av1 fok37 (nZ rfl) fun σ=>?_
 simp only[ic37,go_sem]
theorem fq8 (ks:List Int)(fv:IV)(hT:cm9 Tryz.prog EE fv (ks.map Md.af9) (fun _=>True))(hn:ks.length<2^30)(σ:Store) :
  C Tryz.prog EE 110 [.aa1,fv] σ (fm5 σ ks):=by
 refine C_f fok110 (nZ rfl) ?_;simp only[ic110,go_sem];refine bx3 hT (fun rest t=>∃ (zs rs:List Int) (v:IV),rest=rs.map Md.af9/\zs++rs=ks/\t.obj σ.next=some (.cells [v])/\σ.next+1<t.next/\ad1 t (σ.next+2) v zs/\∀ i,i<σ.next->t.obj i=σ.obj i) (fun _ _ _=>trivial) ?_ ?_ ?_ ?_ ?_
 ·rintro rest t t' ⟨zs,rs,v,h1,h2,h3,h4,h5,h6⟩ hn ho;refine ⟨zs,rs,v,h1,h2,by rw[ho _ (by omega)]; exact h3,by omega,?_,fun i hi=>by rw[ho _ (by omega)]; exact h6 i hi⟩;rcases h5 with h5|⟨id,g1,g2,g3,g4⟩
  ·exact .inl h5
  ·exact .inr ⟨id,g1,by omega,g3,by rw[ho _ g2]; exact g4⟩
 ·intro a ha;obtain ⟨p,_,rfl⟩:=List.mem_map.1 ha;rfl
 ·intro o;have e0:¬ σ.next=σ.next+1:=by omega
  refine ⟨[],ks,.aa1,rfl,rfl,?_,by show σ.next+1<σ.next+1+1; omega,.inl ⟨rfl,rfl⟩,fun i hi=>?_⟩
  ·simp only[aa2,aa6,e0,if_false,if_true]
  ·have e1:¬ i=σ.next:=by omega
   have e2:¬ i=σ.next+1:=by omega
   simp only[aa2,aa6,e1,e2,if_false]
 ·rintro L pre a rest t hev ⟨zs,rs,v,h1,h2,h3,h4,h5,h6⟩ hL hlt
  cases rs with
  | nil=>cases h1
  | cons k rs=>
  rw[List.map_cons] at h1;obtain ⟨ha,hrest⟩:=List.cons.inj h1;subst ha;simp only[Md.af9,aa6] at hL hlt ⊢;have e1:¬ σ.next+1=t.next:=by omega
  have e2:¬ σ.next=t.next:=by omega
  have e3:¬ σ.next=σ.next+1:=by omega
  simp only[go_sem,hL,e1,e2,e3,h3];generalize hU:t.put (σ.next+1) (L .busy none)=U
  have hUo:∀ i,i≠σ.next+1->U.obj i=t.obj i:=fun i hne=>by
   rw[<- hU]; simp only[aa2,hne,if_false]
  have hUL:U.obj (σ.next+1)=some (L .busy none):=by rw[<- hU]; simp only[aa2,if_true]
  have hg:ad1 ⟨t.next+1,U.obj⟩ (σ.next+2) v zs:=by
   rcases h5 with h5|⟨id,g1,g2,g3,g4⟩
   ·exact .inl h5
   ·exact .inr ⟨id,g1,by show id<t.next+1; omega,g3,by show U.obj id=_; rw[hUo id (by omega)]; exact g4⟩
  have hzl:zs.length<2^30:=by have:=congrArg List.length h2; rw[List.length_append,List.length_cons] at this; omega
  have hap:=bd6 (nid:=t.next) hg k (by omega);have k1:(ad7 v ⟨t.next+1,U.obj⟩).obj σ.next=some (.cells [v]):=by rw[aq7 hg (by omega)]; show U.obj _=_; rw[hUo _ e3]; exact h3
  have k2:(ad7 v ⟨t.next+1,U.obj⟩).obj (σ.next+1)=some (L .busy none):=by rw[aq7 hg (by omega)]; exact hUL
  have kn:=ac1 (σ:=⟨t.next+1,U.obj⟩) v;have e6:¬ σ.next=t.next:=by omega
  have e7:¬ σ.next+1=t.next:=by omega
  have e8:¬ σ.next+1=σ.next:=by omega
  simp only[go_sem,hap,e6,k1,e7,e8,k2];refine cr1 (by rw[aa6,aa6,aa6,kn]; show t.next<=t.next+1; omega) (by simp only[aa2,if_true]) ?_;refine ⟨zs++[k],rs,.slice t.next 0 (zs.length+1) 1,hrest,by rw[List.append_assoc]; exact h2,?_,?_,?_,fun i hi=>?_⟩
  ·simp only[aa2,e3,if_false,if_true]
  ·simp only[aa6,kn]; omega
  ·refine .inr ⟨t.next,by omega,by simp only[aa6,kn]; omega,by simp,?_⟩;have g1:¬ t.next=σ.next+1:=by omega
   have g2:¬ t.next=σ.next:=by omega
   simp only[aa2,g1,g2,if_false,if_true]
  ·have g1:¬ i=σ.next+1:=by omega
   have g2:¬ i=σ.next:=by omega
   have g3:¬ i=t.next:=by omega
   simp only[aa2,g1,g2,g3,if_false];rw[aq7 hg (by omega)]; show U.obj i=_; rw[hUo _ g1]; exact h6 i hi
 ·rintro t o ⟨zs,rs,v,h1,h2,h3,h4,h5,h6⟩ hlt ho
  cases rs with
  | cons k rs=>cases h1
  | nil=>
  rw[List.append_nil] at h2;subst h2;have e3:¬ σ.next=σ.next+1:=by omega
  simp only[aa6] at hlt ho ⊢;simp only[go_sem,e3,h3];refine ⟨⟨by show σ.next<=t.next; omega,fun i hi=>?_⟩,?_⟩
  ·have g1:¬ i=σ.next+1:=by omega
   show (if i=σ.next+1 then none else t.obj i)=_;rw[if_neg g1]; exact h6 i hi
  ·rcases h5 with h5|⟨id,g1,g2,g3,g4⟩
   ·exact .inl h5
   ·refine .inr ⟨id,by omega,g2,g3,?_⟩;have g5:¬ id=σ.next+1:=by omega
    show (if id=σ.next+1 then none else t.obj id)=_;rw[if_neg g5]; exact g4
theorem fq9 (ks:List Int)(fv:IV)(hT:cm9 Tryz.prog EE fv (ks.map Md.af9) (fun _=>True))(hn:ks.length<2^30)(σ:Store) :
  C Tryz.prog EE 36 [fv] σ (fm5 σ (aq6 ks)):=by
 have hc:∀ σ:Store,C Tryz.prog EE 78 [fv] σ (fm5 σ ks):=fun σ=>by
  refine C_f fok78 (nZ rfl) ?_;simp only[ic78,go_sem];refine ad3 fok110 (fq8 ks fv hT hn _) ?_;rintro v t ⟨h1,h2⟩;refine ⟨h1.next,?_⟩;simp only[go_sem];exact ⟨h1,h2⟩
 refine C_f fok36 (nZ rfl) ?_;simp only[ic36,go_sem];refine ad3 fok78 (hc _) ?_;rintro v t ⟨h1,h2⟩;refine ⟨h1.next,?_⟩;rcases h2 with ⟨rfl,rfl⟩|⟨id,g1,g2,rfl,g4⟩
 ·simp only[go_sem];refine ad3 fok79 fw2 ?_;rintro v s ⟨rfl,rfl⟩;refine ⟨Nat.le_refl _,?_⟩;simp only[go_sem];exact ⟨h1,.inl ⟨rfl,by unfold aq6; exact List.mergeSort_nil⟩⟩
 ·simp only[go_sem];refine ad3 fok79 (fb9 (zs:=ks) (by omega) g4) ?_;rintro v s ⟨rfl,rfl⟩;refine ⟨Nat.le_refl _,?_⟩;simp only[go_sem];have hsl:(aq6 ks).length=ks.length:=List.length_mergeSort _;refine ⟨⟨h1.next,fun i hi=>?_⟩,.inr ⟨id,g1,g2,by rw[hsl],by simp only[aa2,if_true]; rfl⟩⟩;have e:¬ i=id:=by omega
  simp only[aa2,e,if_false];exact h1.obj i hi
def if8:IC :=
 (.seq
 (.reg 0 [oM 6 (.c .aa1)] [0,1,2])
 (.seq
 (.reg 1 [oM 8 (.t 0),oM 9 (.t 1),oM 10 (.t 2),oM 11 (.t 0),oQ 12 (.len 0 (.t 11)),oK 13 (.st (.sl3 1 true) [(.t 8),(.t 9),(.t 10),(.t 12)])] [0,1,2])
 (.seq
 (.seq
 (.reg 2 [oM 14 (.t 1),oM 15 (.t 2),oQ 16 (.bin .eql (.t 14) (.t 15))] [0,1,2,16])
 (.cond (.t 16)
 (.seq
 (.reg 3 [oM 17 (.t 0),oM 6 (.t 17)] [6])
 .ret)
 .skip))
 (.seq
 (.reg 4 [oM 18 (.t 0),oQ 19 (.len 0 (.t 18)),oM 7 (.t 19)] [0,1,2,7])
 (.seq
 (.en3 5 [(0,oM 20 (.t 0),0),(1,oM 21 (.t 1),0),(3,oM 23 (.t 0),0),(4,oM 24 (.t 2),0),(5,oQ 25 (.slc 1 (.t 23) (some (.t 24)) none),0),(2,oK 22 (.st (.rlp 1) [(.t 20),(.t 21)]),0),(6,oK 26 (.st (.apr 1) [(.t 22),(.t 25)]),0),(7,oM 0 (.t 26),0)] [0,7])
 (.seq
 (.reg 6 [oM 27 (.t 0),oM 28 (.t 0),oQ 29 (.len 0 (.t 28)),oM 30 (.t 7),oQ 31 (.slc 1 (.t 27) (some (.t 29)) (some (.t 30))),oN (.clr 1 [(zI 0)] (.t 31))] [0])
 (.seq
 (.reg 7 [oM 32 (.t 0),oM 6 (.t 32)] [6])
 .ret)))))))
theorem gt5:FOK Tryz.prog 42 (33,if8,[(.t 6)]):=ai3 [1000013,1000022,1000026] Tryz.func42 (by kernel_rfl) (by kernel_rfl) (by kernel_rfl) (by kernel_rfl)
theorem iu8 {pt:PT}{ct:CT}{k:SK}{xs:List IX}{id:Nat}{fr:Frm}{σ:Store}{K:IV->Store->Prop}:opT pt ct Tryz.prog EE (.st k xs) id fr σ K=bs8 (stI k id σ (xs.map (·.ev EE fr))) fun r=>K r.1 r.2:=by first|rfl|simp[opT]
theorem iu9 {k:SK}{xs:List IX}:(IK.st k xs).lays=true:=rfl
structure hp9 (s:Store) (id:Nat) (zs:List Int):Prop where
 row:∃ cs,s.obj id=some (.row cs)/\cs.take zs.length=zs.map as4/\zs.length<=cs.length
def unR:IV->IV
 | .ae2 i o l _ e=>.slice i o l e
 | v=>v
theorem is4 {P:Program}{E:Nat->IV}{f:Nat}{args:List IV}{σ:Store}{Q Q':IV->Store->Prop}(h:C P E f args σ Q)(hq:∀ v s,Q v s->Q' (unR v) s):C P E f args σ Q':=by
 intro ρ w rargs hs hr;refine CallsIn.mono (h ρ w rargs hs hr) ?_;rintro e w' ⟨v,r,ρ',σ',rfl,hv,hs',hv',hx⟩;refine ⟨unR v,r,ρ',σ',rfl,hq _ _ hv,hs',?_,hx⟩
 cases v with
 | ae2 i o l m e=>exact dk8 hv'
 | _=>exact hv'
theorem if9 {σ:Store}{id at_:Nat}{zs:List Int}(hid:id<σ.next)(hr:hp9 σ id zs)(hat:at_<zs.length)(hz:zs.length<2^30) :
  C Tryz.prog EE 42 [.slice id 0 zs.length 1,.int .i64 at_,.int .i64 ((at_+1:Nat):Int)] σ fun v s=>v=.slice id 0 (zs.length-1) 1/\σ.next<=s.next/\(∀ i,i<σ.next->i≠id->s.obj i=σ.obj i)/\hp9 s id (zs.eraseIdx at_):=by
 obtain ⟨cs,ho,htk,hle⟩:=hr.row;refine is4 (Q:=fun v s=>v=.ae2 id 0 (zs.length-1) zs.length 1/\σ.next<=s.next/\(∀ i,i<σ.next->i≠id->s.obj i=σ.obj i)/\hp9 s id (zs.eraseIdx at_)) ?_ (fun v s h=>⟨by rw[h.1]; rfl,h.2⟩);refine ge7 gt5 (nZ rfl) ?_;have c1:(0:Int)<=(at_:Int):=by omega
 have c2:(0:Int)<=((at_+1:Nat):Int):=by omega
 have c3:(0:Int)<=(zs.length:Int):=by omega
 have c4:at_<=at_+1:=by omega
 have c5:at_+1<=zs.length:=by omega
 have e1:¬ (at_:Int)=((at_+1:Nat):Int):=by omega
 simp only[if8];refine ab2 (ab8 ?_);simp only[go_sem];refine ab2 (ab8 ?_)
 have s1:∀ (nid:Nat) (τ:Store),stI (.sl3 1 true) nid τ [.slice id 0 zs.length 1,.int .i64 at_,.int .i64 ((at_+1:Nat):Int),.int .i64 zs.length]=some (.undef,τ):=fun nid τ=>by
  simp only[stI,hr8,cq2,il3,c1,c2,c3,if_true,Int.toNat_natCast,c4,c5,Nat.le_refl,and_self]
 have s2:∀ (nid:Nat) (τ:Store),stI (.rlp 1) nid τ [.slice id 0 zs.length 1,.int .i64 at_]=some (.ae2 id 0 at_ zs.length 1,τ):=fun nid τ=>by
  simp only[stI,ii9,cq2,c1,if_true,Int.toNat_natCast,show at_<=zs.length by omega,show 0<zs.length by omega,and_self,Option.map_some]
 have s3:∀ (nid:Nat) (τ:Store),τ.obj id=some (.row cs)->stI (.apr 1) nid τ [.ae2 id 0 at_ zs.length 1,.slice id (at_+1) (zs.length-(at_+1)) 1]=some (.ae2 id 0 (at_+(zs.length-(at_+1))) zs.length 1,τ.put id (.row (ap5 cs (0+at_*1) ((cs.drop (at_+1)).take ((zs.length-(at_+1))*1))))):=fun nid τ hτ=>by
  have l1:cs.length≥zs.length:=hle
  have l2:(((cs.drop (at_+1)).take ((zs.length-(at_+1))*1))).all IV.leaf=true:=by
   refine List.all_eq_true.2 fun x hx=>?_
   have h1:x∈cs.take zs.length:=by
    rw[Nat.mul_one] at hx;have:(cs.drop (at_+1)).take (zs.length-(at_+1))=(cs.take zs.length).drop (at_+1):=by rw[List.drop_take]
    rw[this] at hx;exact List.mem_of_mem_drop hx
   rw[htk] at h1;obtain ⟨n,_,rfl⟩:=List.mem_map.1 h1;rfl
  have i1:at_+1+(zs.length-(at_+1))*1<=cs.length:=by omega
  have i2:at_+(zs.length-(at_+1))<=zs.length:=by omega
  have i3:0+at_*1+(zs.length-(at_+1))*1<=cs.length:=by omega
  simp only[stI,hr9,ax8,hτ,i1,i2,i3,l2,if_true,and_self]
 simp only[go_sem,c1,c2,c3,c4,c5,iu8,iu9,List.map_cons,List.map_nil,s1];refine ab2 (ab8 ?_);simp only[go_sem,e1];refine ab2 (ab8 ?_);simp only[go_sem];refine ab2 (gc5 ?_);simp only[go_sem,c1,c2,c3,c4,c5,iu8,iu9,List.map_cons,List.map_nil,ii2 c5,s2,s3,ho];have hm:at_+(zs.length-(at_+1))=zs.length-1:=by omega
 rw[hm];obtain ⟨c2s,hc2⟩:∃ c2s,c2s=ap5 cs (at_*1) ((cs.drop (at_+1)).take ((zs.length-(at_+1))*1)):=⟨_,rfl⟩;have hc2l:c2s.length=cs.length:=by rw[hc2,ae4 (by simp; omega)]
 have hc2t:c2s.take (zs.length-1)=(zs.eraseIdx at_).map as4:=by
  have hX:(cs.drop (at_+1)).take ((zs.length-(at_+1))*1)=(zs.drop (at_+1)).map as4:=by
   rw[Nat.mul_one,List.map_drop,<- htk,List.drop_take]
  have hA:cs.take (at_*1)=(zs.take at_).map as4:=by
   rw[Nat.mul_one,List.map_take,<- htk,List.take_take,Nat.min_eq_left (by omega)]
  have hl:((zs.take at_).map as4++(zs.drop (at_+1)).map as4).length=zs.length-1:=by simp; omega
  rw[hc2,hX];unfold ap5;rw[hA,List.take_append_of_le_length (by omega),List.take_of_length_le (by omega),<- List.map_append,List.eraseIdx_eq_take_drop_succ]
 rw[<- hc2]
 have s4:bh9 1 (some (.int .i64 ((zs.length-1:Nat):Int))) (some (.int .i64 (zs.length:Int))) (.ae2 id 0 (zs.length-1) zs.length 1)=some (.slice id (zs.length-1) 1 1):=by
  have d1:(0:Int)<=((zs.length-1:Nat):Int):=by omega
  have d2:zs.length-(zs.length-1)=1:=by omega
  simp only[bh9,bq4,cq2,d1,c3,if_true,Int.toNat_natCast,show zs.length-1<=zs.length by omega,Nat.le_refl,and_self,d2,Nat.mul_one,Nat.zero_add]
 have s5:∀ τ:Store,cq3 0 τ (.ae2 id 0 (zs.length-1) zs.length 1)=some (.int .i64 ((zs.length-1:Nat):Int)):=fun _=>rfl
 have s6:∀ τ:Store,τ.obj id=some (.row c2s)->fh6 τ 1 [.int .i64 0] (.slice id (zs.length-1) 1 1)=some (τ.put id (.row (ap5 c2s (zs.length-1) [.int .i64 0]))):=fun τ hτ=>by
  have d1:zs.length-1+1*1<=c2s.length:=by omega
  simp only[fh6,hτ,d1];rfl
 refine ab2 (ab8 ?_);simp only[go_sem,s4,s5,is9,s6];refine ab8 ?_;simp only[go_sem];refine ⟨by omega,fun i hi hne=>?_,⟨⟨ap5 c2s (zs.length-1) [.int .i64 0],by simp only[aa2,if_true],?_,?_⟩⟩⟩
 ·simp only[aa2,hne,if_false]
 ·rw[List.length_eraseIdx_of_lt hat,<- hc2t];unfold ap5;rw[List.append_assoc,List.take_append_of_le_length (by rw[List.length_take]; omega),List.take_take,Nat.min_self]
 ·rw[List.length_eraseIdx_of_lt hat,ae4 (by simp; omega)]; omega
theorem ez6 (q:Int->Bool):∀ (l:List Int) (i:Nat),al3 q l i=match l.findIdx? q with|some k=>((i+k:Nat):Int)|none=>-1:=by
 intro l
 induction l with
 | nil=>intro i; rfl
 | cons x l ih=>
  intro i;have e:=ih (i+1);rw[List.findIdx?_cons];unfold al3
  cases q x with
  | true=>simp
  | false=>
   have e2:al3 q l ((i:Int)+1)=al3 q l ((i+1:Nat):Int):=by rw[Int.natCast_add,Int.natCast_one]
   simp only[Bool.false_eq_true,if_false,e2,e]
   cases l.findIdx? q with
   | none=>rfl
   | some k=>simp only[Option.map_some]; congr 1; omega
theorem gk6 (w:Int->Int->Bool)(left:List Int):mmI true (.int .i64 (al3 (fun n=>!left.any fun m=>w n m) left 0)) (.int .i64 0)=some (.int .i64 ((aj5 w left:Nat):Int)):=by
 have h:=ez6 (fun n=>!left.any fun m=>w n m) left 0;unfold aj5;rw[Int.natCast_zero] at h;rw[h]
 cases left.findIdx? fun n=>!left.any fun m=>w n m with
 | none=>rfl
 | some k=>
  have e:¬ (0:Int)>(k:Int):=by omega
  simp only[Option.getD_some,Nat.zero_add,mmI,if_true,e,if_false]
theorem fr3 {g:Nat}{cap:List IV}{w:Int->Int->Bool}{n m:Int}(hok:okF Tryz.prog g=true)(hb:∀ c∈cap,Bnd 0 c)(hw:PC Tryz.prog EE g ([.int .i64 n,.int .i64 m]++cap) (.bool (w n m))) :
  PC Tryz.prog EE 41 ([]++[.int .i64 m]++[.ad4 [.func (.func g) [] cap],.ad4 [.int .i64 n]]) (.bool (w n m)):=by
 have hbf:Bnd 0 (.func (.func g) [] cap):=.func _ _ _ (fun c hc=>by cases hc) hb;refine ao4 hE fok41 (nZ rfl) (dy4 (.int _ _) (dt3 hbf) (dt3 (.int _ _))) ?_;simp only[ic41,go_sem,List.nil_append,List.cons_append];refine am1 hok hw ?_;simp only[go_sem];exact ah8 rfl
theorem fr4 {g:Nat}{cap:List IV}{w:Int->Int->Bool}{n:Int}{left:List Int}(hok:okF Tryz.prog g=true)(hb:∀ c∈cap,Bnd 0 c)(hl:left.length<2^30)(hw:∀ m∈left,PC Tryz.prog EE g ([.int .i64 n,.int .i64 m]++cap) (.bool (w n m))) :
  PC Tryz.prog EE 39 ([]++[.int .i64 n]++[.ad4 [.aa3 (left.map Md.af9)],.ad4 [.func (.func g) [] cap]]) (.bool (!left.any fun m=>w n m)):=by
 have hbf:Bnd 0 (.func (.func g) [] cap):=.func _ _ _ (fun c hc=>by cases hc) hb;have hc:=fw3 left 41 [] [.ad4 [.func (.func g) [] cap],.ad4 [.int .i64 n]] (fun m=>w n m) (by omega) fok41.1 fun m hm=>fr3 hok hb (hw m hm)
 refine ao4 hE fok39 (nZ rfl) (dy4 (.int _ _) (dt3 (ay7 _)) (dt3 hbf)) ?_;simp only[ic39,go_sem,List.nil_append,List.cons_append]
 first|refine aa5 fok40 (hc) ?_|refine aa8 (hc) ?_
 simp only[go_sem];exact ah8 rfl
def hh9 (s:Store)(B:Nat)(v:IV)(left:List Int):Prop:=(v=.aa1/\left=[])\/∃ id,v=.slice id 0 left.length 1/\(0<id/\id<B)/\hp9 s id left
theorem hh9.frz {s:Store}{B:Nat}{v:IV}{left:List Int}(h:hh9 s B v left)(hB:B<=s.next):dk5 s 0 v (.aa3 (left.map Md.af9)):=by
 rcases h with ⟨rfl,rfl⟩|⟨id,rfl,h2,cs,h3,h4,h5⟩
 ·exact .dm9
 ·exact ee6.frz (lo:=0) (.inr ⟨id,cs,Nat.zero_le _,by omega,rfl,h3,h4,h5⟩) fun _ _=>Nat.not_lt_zero _
theorem hh9.mono {s t:Store}{B:Nat}{v:IV}{left:List Int}(h:hh9 s B v left)(ho:∀ i,0<i->i<B->t.obj i=s.obj i):hh9 t B v left:=by
 rcases h with h|⟨id,h1,h2,cs,h3,h4,h5⟩
 ·exact .inl h
 ·exact .inr ⟨id,h1,h2,cs,by rw[ho id h2.1 h2.2]; exact h3,h4,h5⟩
theorem gt6 (l:List Int)(g:Nat)(cap:List IV)(w:Int->Int->Bool)(hok:okF Tryz.prog g=true)(hb:∀ c∈cap,Bnd 0 c)(hl:l.length<2^30)(hw:∀ n∈l,∀ m∈l,PC Tryz.prog EE g ([.int .i64 n,.int .i64 m]++cap) (.bool (w n m))) :
  PC Tryz.prog EE 19 [.aa3 (l.map Md.af9),.func (.func g) [] cap] (.aa3 ((dk6 w l.length (aq6 l)).map Md.af9)):=by
 have hbf:Bnd 0 (.func (.func g) [] cap):=.func _ _ _ (fun c hc=>by cases hc) hb;refine ao4 hE fok19 (nZ rfl) (au8 (ay7 _) hbf) ?_;simp only[ic19,go_sem]
 first|refine aa5 fok37 (dr4 l) ?_|refine aa8 (dr4 l) ?_
 simp only[go_sem];refine ad3 fok36 (fq9 l _ (ea4 l (by omega)) hl _) ?_;rintro v t ⟨hk,hv⟩;refine ⟨hk.next,?_⟩;have hvc:v.cs=[v]/\v.leaf=true:=by rcases hv with ⟨rfl,_⟩|⟨id,_,_,rfl,_⟩<;>exact ⟨rfl,rfl⟩
 simp only[go_sem,hvc.1,hvc.2];obtain ⟨B,hB⟩:∃ B,B=t.next:=⟨_,rfl⟩;have htn1:1<=t.next:=hk.next
 have hv1:∀ id,v=.slice id 0 (aq6 l).length 1->0<id:=fun id h=>by
  rcases hv with ⟨rfl,_⟩|⟨id',g1,_,rfl,_⟩
  ·cases h
  ·cases h; exact Nat.lt_of_lt_of_le Nat.zero_lt_one g1
 rw[<- hB] at htn1 ⊢;generalize hT:Store.mk B _=T;have hTn:T.next=B:=by rw[<- hT]
 have hTb:T.obj 0=some (.cells [v]):=by rw[<- hT]; simp only[aa2,if_true]
 have hTo:∀ i,0<i->T.obj i=t.obj i:=fun i hi=>by
  have e:¬ i=0:=by omega
  rw[<- hT]; simp only[aa2,e,if_false]
 clear hT;have htn:=hk.next;have hS:(aq6 l).length=l.length:=(ak1 l).length_eq
 have hv0:hh9 T B v (aq6 l):=by
  rcases hv with h|⟨id,g1,g2,g3,g4⟩
  ·exact .inl h
  ·have:=hv1 id g3;exact .inr ⟨id,g3,⟨this,by omega⟩,_,by rw[hTo id this]; exact g4,by rw[List.take_of_length_le (by simp)],by simp⟩
 refine ab3 noT (fun k fr s=>∃ (left zs:List Int) (lv gv:IV),fr=[(3,.ad4 [.func (.func g) [] cap]),(5,.ptr 0 0),(6,gv)]/\B<=s.next/\s.obj 0=some (.cells [lv])/\hh9 s B lv left/\ad1 s B gv zs/\zs++dk6 w left.length left=dk6 w l.length (aq6 l)/\(∀ x∈left,x∈l)/\left.length+k=l.length/\zs.length=k) l.length ⟨aq6 l,[],v,.aa1,rfl,by omega,hTb,hv0,.inl ⟨rfl,rfl⟩,by rw[hS]; rfl,fun x hx=>(ak1 l).mem_iff.1 hx,by omega,rfl⟩ ?_;rintro k fr s hk2 ⟨left,zs,lv,gv,rfl,hsn,hsb,hlv,hgv,hrow,hin,hlen,hzl⟩;by_cases h0:left=[]
 ·subst h0;rw[ef1,List.append_nil] at hrow;have hll:∀ τ,cq3 0 τ lv=some (.int .i64 0):=fun τ=>by rcases hlv with ⟨rfl,_⟩|⟨id,rfl,_,_⟩<;>rfl
  simp only[go_sem,hsb,hll];rw[<- hrow];exact hgv.w.frz fun _ _=>Nat.not_lt_zero _
 have hpos:0<left.length:=List.length_pos_iff.2 h0;obtain ⟨id,rfl,hidB,cs,ho,htk,hle⟩:=hlv.resolve_left fun h=>h0 h.2
 have c1:(0:Int)<left.length:=by omega
 have hpk:=df5 (w:=w) h0;have hix:=cq1 left 39 [] [.ad4 [.aa3 (left.map Md.af9)],.ad4 [.func (.func g) [] cap]] (fun n=>!left.any fun m=>w n m) (by omega) fok39.1 fun n hn=>fr4 hok hb (by omega) fun m hm=>hw n (hin n hn) m (hin m hm)
 have hfm:=gk6 w left
 have hrf:dk6 w left.length left=left.getD (aj5 w left) 0::dk6 w (left.eraseIdx (aj5 w left)).length (left.eraseIdx (aj5 w left)):=by
  obtain ⟨m,hm⟩:∃ m,left.length=m+1:=⟨left.length-1,by omega⟩;have hm2:(left.eraseIdx (aj5 w left)).length=m:=by rw[List.length_eraseIdx_of_lt hpk]; omega
  rw[hm2,hm,co2 h0]
 have hin2:∀ x∈left.eraseIdx (aj5 w left),x∈l:=fun x hx=>hin x (List.mem_of_mem_eraseIdx hx)
 have hgd:left.getD (aj5 w left) 0=left[aj5 w left]:=by simp[List.getD_eq_getElem?_getD,hpk]
 rw[hgd] at hrf;have hrp:hp9 s id left:=⟨cs,ho,htk,hle⟩;simp only[go_sem,hsb,c1]
 refine ad3 fok38 (cn7 (args':=[.aa3 (left.map Md.af9),.func (.func 39) [] [.ad4 [.aa3 (left.map Md.af9)],.ad4 [.func (.func g) [] cap]]]) hE rfl (fun z hz=>by
  match z,hz with
  | 0,_=>exact hlv.frz (by omega)
  | 1,_=>
   refine ii6 (.cons (.ptr 0 0 [_] _ (Nat.not_lt_zero _) (.inl hsb) (Nat.le_refl _) fun j hj=>?_) (.cons (.keep _ (dt3 hbf)) .nil));have hj0:j=0:=by simp only[List.length_singleton] at hj; omega
   subst hj0;exact hlv.frz (by omega)) (by simp[IV.plain]) hix) ?_
 rintro v2 s2 ⟨rfl,rfl⟩;refine ⟨Nat.le_refl _,?_⟩
 have hld:cr4 none (aj5 w left*1) (s2.obj id)=some (as4 left[aj5 w left]):=by
  rw[ho];have h1:=fm6 htk hpk;have h2:aj5 w left<cs.length:=by omega
  rw[Nat.mul_one];show (cs.drop (aj5 w left)).head? = _;rw[List.head?_drop,List.getElem?_eq_getElem h2];rw[List.getD_eq_getElem?_getD,List.getElem?_eq_getElem h2] at h1;exact congrArg some h1
 have c2:(0:Int)<=((aj5 w left:Nat):Int):=by omega
 have c3:((aj5 w left:Nat):Int)<left.length:=by omega
 have w1:=ad2 (i:=aj5 w left) (by omega)
 have hgv2:ad1 ⟨s2.next+1,s2.obj⟩ B gv zs:=by
  rcases hgv with h|⟨i2,g1,g2,g3,g4⟩
  ·exact .inl h
  ·exact .inr ⟨i2,g1,by show i2<s2.next+1; omega,g3,g4⟩
 have hap:=bd6 (nid:=s2.next) hgv2 left[aj5 w left] (by omega);have hkl:∀ i,i<B->(ad7 gv ⟨s2.next+1,s2.obj⟩).obj i=s2.obj i:=fun i hi=>aq7 hgv2 hi
 have e0:¬ 0=s2.next:=by omega
 have k0:=hkl 0 (by omega);rw[show (⟨s2.next+1,s2.obj⟩:Store).obj 0=s2.obj 0 from rfl] at *;have kn:(ad7 gv (⟨s2.next+1,s2.obj⟩:Store)).next=s2.next+1:=ac1 gv;simp only[go_sem,hfm,hsb,c2,c3,hld,hap,e0,k0,kn,w1];generalize hU:Store.put (ad7 gv _) s2.next _=U;have hUn:U.next=s2.next+1:=by rw[<- hU,aa6,kn]
 have hU0:∀ i,i<B->U.obj i=s2.obj i:=fun i hi=>by
  have e:¬ i=s2.next:=by omega
  rw[<- hU]; simp only[aa2,e,if_false]; exact hkl i hi
 have hUr:U.obj s2.next=some (.row ((zs++[left[aj5 w left]]).map as4)):=by rw[<- hU]; simp only[aa2,if_true]
 clear hU hap hkl k0 kn;have hrp2:hp9 ⟨s2.next+1,U.obj⟩ id left:=⟨cs,by show U.obj id=_; rw[hU0 id hidB.2]; exact ho,htk,hle⟩;refine ad3 gt5 (if9 (by show id<s2.next+1; omega) hrp2 hpk (by omega)) ?_;rintro v3 s3 ⟨rfl,hn3,ho3,hr3⟩;refine ⟨hn3,?_⟩;have hn3:s2.next+1<=s3.next:=hn3;have h30:s3.obj 0=some (.cells [.slice id 0 left.length 1]):=by rw[ho3 0 (by show 0<s2.next+1; omega) (by omega)]; show U.obj 0=_; rw[hU0 0 (by omega)]; exact hsb
 simp only[go_sem,h30];have hl2:(left.eraseIdx (aj5 w left)).length=left.length-1:=by rw[List.length_eraseIdx_of_lt hpk]
 refine ⟨by omega,left.eraseIdx (aj5 w left),zs++[left[aj5 w left]],_,_,rfl,by omega,rfl,.inr ⟨id,by rw[hl2],hidB,?_⟩,.inr ⟨s2.next,by omega,by show s2.next<s3.next; omega,by rw[List.length_append]; rfl,?_⟩,?_,hin2,by omega,by rw[List.length_append,hzl]; rfl⟩
 ·obtain ⟨cs3,q1,q2,q3⟩:=hr3;have e:¬ id=0:=by omega
  exact ⟨cs3,by simp only[aa2,e,if_false]; exact q1,q2,q3⟩
 ·have e:¬ s2.next=0:=by omega
  simp only[aa2,e,if_false];rw[ho3 s2.next (by show s2.next<s2.next+1; omega) (by omega)];exact hUr
 ·rw[<- hrow,hrf,List.append_assoc]; rfl
end Go.Id.Tryz
