/- Versions by the reference: kinds,parts. Conditions: sizes that fit. -/
import Derived.Test.YthmabjmjjonlmaaGreatDoorTLQD
import Derived.Test.YthmabjmjjonlmaaGreatDoorGLR
import Derived.Test.YthmabjmjjonlmaaGreatDoorTLPE
import Derived.Test.YthmabjmjjonlmaaGreatDoorMv
open List renaming getD_eq_getElem?_getD→za,not_mem_nil→zb,mem_cons→zd,getElem_mem→ze,length_map→zf,length_singleton→zh,length_take→zi,length_append→zj,getElem?_eq_getElem→zk,take_append_of_le_length→zl,drop_length→zo,getElem?_eq_none→zq,pairwise_iff_getElem→zr,mem_map→zw,mem_cons_self→zy,take_of_length_le→zz,mem_iff_getElem→z1,getElem?_drop→z7,getElem_take→qa,take_length→qc,map_append→qg,drop_drop→qj,getElem?_eq_some_iff→qk,getElem?_append_left→ql,length_filter_le→qn,pairwise_append→qo,mem_cons_of_mem→qp,range→qr,pairwise_cons→qs,filter_append→qt,take_add_one→qu
open Int renaming toNat_natCast→zc,natCast_one→zu,natCast_add→zv,reduceEq→zx,reduceNeg→qm
open Option renaming some→zg,map→z6
open Nat renaming le_refl→zm,testBit_and→zn,lt_of_le_of_lt→z8,zero_add→qb,lt_succ_self→qd,le_of_not_lt→qe,mul_one→qf,not_lt_zero→qh,and_le_left→qi,zero_le→qq
open Bool renaming and_eq_true→zp,false_eq_true→zt
set_option linter.all false
set_option maxRecDepth 100000
set_option maxHeartbeats 1000000
private theorem om{P:Prop}(h:P:=by omega):P:=h
namespace Go.Id.Tryz
open Go Go.Id Go.Proofs Go.Id.Md
theorem ed5 (b:UInt8):PC Tryz.prog EE 234 [.int .u8 b.toNat] (.int .u8 (ad7 b)):=by
 rw[gw3];have hb:=b.toNat_lt;generalize b.toNat=n at *;unfold vkN;refine ad9 hE fok234 (nZ rfl) (af1 (.int _ _)) ?_;by_cases e1:n=126
 ·have e1':(n:Int)=126:=om
  rw[if_pos e1];simp only[ic234,go_sem,e1'];exact .keep _ (.int _ _)
 have e1':¬ (n:Int)=126:=om
 rw[if_neg e1];by_cases e2:n=94
 ·have e2':(n:Int)=94:=om
  have q:¬ (94:Int)=126:=by decide
  rw[if_pos e2];simp only[ic234,go_sem,e2',q];exact .keep _ (.int _ _)
 have e2':¬ (n:Int)=94:=om
 rw[if_neg e2];by_cases e3:97<=n/\n<=122
 ·have f1:(97:Int)<=n:=om
  have f2:(n:Int)<=122:=om
  rw[if_pos (.inl e3)];simp only[ic234,go_sem,e1',e2',f1,f2];exact .keep _ (.int _ _)
 by_cases e4:65<=n/\n<=90
 ·have f1:¬ (97:Int)<=n:=om
  have f3:(65:Int)<=n:=om
  have f4:(n:Int)<=90:=om
  rw[if_pos (.inr e4)];simp only[ic234,go_sem,e1',e2',f1,f3,f4];exact .keep _ (.int _ _)
 rw[if_neg (fun h=>h.elim e3 e4)];by_cases e5:48<=n/\n<=57
 ·have f1:¬ (97:Int)<=n:=om
  have f3:¬ (65:Int)<=n:=om
  have f5:(48:Int)<=n:=om
  have f6:(n:Int)<=57:=om
  rw[if_pos e5];simp only[ic234,go_sem,e1',e2',f1,f3,f5,f6];exact .keep _ (.int _ _)
 rw[if_neg e5];by_cases f1:(97:Int)<=n
 ·have f2:¬ (n:Int)<=122:=om
  have f3:(65:Int)<=n:=om
  have f4:¬ (n:Int)<=90:=om
  have f5:(48:Int)<=n:=om
  have f6:¬ (n:Int)<=57:=om
  simp only[ic234,go_sem,e1',e2',f1,f2,f3,f4,f5,f6];exact .keep _ (.int _ _)
 by_cases f3:(65:Int)<=n
 ·have f4:¬ (n:Int)<=90:=om
  have f5:(48:Int)<=n:=om
  have f6:¬ (n:Int)<=57:=om
  simp only[ic234,go_sem,e1',e2',f1,f3,f4,f5,f6];exact .keep _ (.int _ _)
 by_cases f5:(48:Int)<=n
 ·have f6:¬ (n:Int)<=57:=om
  simp only[ic234,go_sem,e1',e2',f1,f3,f5,f6];exact .keep _ (.int _ _)
 ·simp only[ic234,go_sem,e1',e2',f1,f3,f5];exact .keep _ (.int _ _)
theorem fi2 (p:Part):∀ c∈Part.cs p,Bnd 0 c:=ag4 (.int _ _) (.str _)
theorem em5 (l:List Part):Bnd 0 (.aa4 (l.map Part.cs)):=.aa4 _ fun e he c hc=>by
 obtain ⟨d,_,rfl⟩:=zw.1 he; exact fi2 d c hc
theorem bg3 {t:Store}{gv:IV}{esz n nid:Nat}{es:List (List IV)}{e:List IV}(hg:Grow t gv esz es)(hall:∀ x∈es,x.length=esz/\x.all IV.leaf=true)(he:e.length=esz/\e.all IV.leaf=true)(hl:es.length<2147483648)(h1:t.next<=nid)(h2:nid<t.next+n) :
  ∃ v' σ',ba5 ⟨t.next+n,t.obj⟩ nid esz gv (.aa4 [e])=zg (v',σ')/\σ'.next=t.next+n/\Grow σ' v' esz (es++[e]):=by
 have hg2:Grow ⟨t.next+n,t.obj⟩ gv esz es:=hg.mono (Nat.le_add_right _ _) fun _ _ _=>rfl
 have hap:=al6 (nid:=nid) (e:=e) hg2 hall he hl;have kn:(aj5 gv (⟨t.next+n,t.obj⟩:Store)).next=t.next+n:=ae7 gv;refine ⟨_,_,hap,by rw[ab7,kn],.inr ⟨nid,by rw[zj,zh],by simp only[aa5,if_true],by rw[ab7,kn]; exact h2⟩⟩
theorem em6 (s:Str)(hs:s.length<2^30):PC Tryz.prog EE 186 [.str s] (.aa4 ((ab9 s).map Part.cs)):=by
 refine ad9 hE fok186 (nZ rfl) (ah9 (.str _)) ?_;simp only[ic186,go_sem];refine ab2 noT (fun j fr t=>∃ (a:Nat) (gv:IV) (pre:List Part),fr=[(0,.str s),(3,gv),(4,.int .i64 (a:Int))]/\j<=a/\a<=s.length/\pre.length<=a/\ab9 s=pre++ab9 (s.drop a)/\Grow t gv 2 (pre.map Part.cs)) s.length ⟨0,.aa1,[],rfl,zm _,qq _,zm _,rfl,.inl ⟨rfl,rfl⟩⟩ ?_;rintro j fr t hj ⟨a,gv,pre,rfl,hja,has,hpl,hv,hg⟩;by_cases hlt:a<s.length
 ·obtain ⟨b,hb,hget,hdr,_,htk⟩:=ac7 s a hlt;have c1:(a:Int)<s.length:=om
  have c2:(0:Int)<=a:=om
  have w1:=ac2 (i:=a) om;have hk:=ed5 b;rw[hdr] at hv;simp only[go_sem,c1,be5,c2,zc,hget,z6];refine aa2 fok234 (hk) ?_;by_cases h0:ad7 b=0
  ·have k0:((ad7 b:Nat):Int)=0:=om
   rw[ff1 h0] at hv;simp only[go_sem,k0,w1];exact ⟨om,a+1,gv,pre,rfl,om,om,om,hv,hg⟩
  have k0:¬ ((ad7 b:Nat):Int)=0:=om
  by_cases h4:ad7 b<4
  ·have k4:((ad7 b:Nat):Int)<4:=om
   rw[ff2 h0 h4] at hv;obtain ⟨v',σ',h1,h2,h3⟩:=bg3 (n:=1) (nid:=t.next) (e:=[.int .u8 (ad7 b:Nat),.str []]) hg (bi3 _) ⟨rfl,rfl⟩ (by rw[zf]; omega) (zm _) om;simp only[go_sem,k0,k4,h1,w1];refine ⟨om,a+1,v',pre++[⟨ad7 b,[]⟩],rfl,om,om,by rw[zj]; simp only[zh]; omega,by rw[hv]; simp,?_⟩;rw[qg]; exact h3
  have k4:¬ ((ad7 b:Nat):Int)<4:=om
  simp only[go_sem,k0,k4];obtain ⟨R,hR⟩:∃ R,R=gc8 b (s.drop (a+1)):=⟨_,rfl⟩;have hrl:=ik8 b (s.drop (a+1));rw[<- hR,List.length_drop] at hrl
  have hrun:∀ m,m<R+1->∃ c,s[a+m]? = zg c/\ad7 c=ad7 b:=fun m hm=>by
   cases m with
   | zero=>exact ⟨b,hget,rfl⟩
   | succ m=>
    obtain ⟨c,h1,h2⟩:=ik6 (b:=b) (l:=s.drop (a+1)) (m:=m) om;rw[z7] at h1;exact ⟨c,by rw[<- h1]; congr 1; omega,h2⟩
  have hend:∀ c,s[a+(R+1)]? = zg c->ad7 c≠ad7 b:=fun c h=>ik7 (l:=s.drop (a+1)) (by rw[<- hR,z7,<- h]; congr 1; omega)
  refine ab2 noT (fun m fr u=>fr=[(0,.str s),(3,gv),(4,.int .i64 (a:Int)),(5,.int .u8 (ad7 b:Nat)),(6,.int .i64 ((a+m:Nat):Int))]/\u.obj=t.obj/\t.next<=u.next) (R+1) ⟨rfl,rfl,zm _⟩ ?_;rintro m fr u hmR ⟨rfl,uo,un⟩;have d2:(0:Int)<=((a+m:Nat):Int):=om
  have w2:=ac2 (i:=a+m) om;by_cases hm:m<R+1
  ·obtain ⟨c,hc1,hc2⟩:=hrun m hm;have k2:((a+m:Nat):Int)<s.length:=om
   have k3:=ed5 c;rw[hc2] at k3;simp only[go_sem,k2,be5,d2,zc,hc1,z6];refine aa2 fok234 (k3) ?_;simp only[go_sem,w2];exact ⟨hm,rfl,uo,un⟩
  have hm':m=R+1:=om
  subst hm';have hw:((b::s.drop (a+1)).take (R+1))=(s.drop a).take (R+1):=by rw[hdr]
  have hv4:=hv;rw[ff3 h4,<- hR,hw,qj] at hv4;have hdd:a+1+R=a+(R+1):=om
  rw[hdd] at hv4;obtain ⟨w,hwd⟩:∃ w,w=(s.drop a).take (R+1):=⟨_,rfl⟩;rw[<- hwd] at hv4;have hwl:w.length=R+1:=by rw[hwd,zi,List.length_drop]; omega
  have hwg:∀ z,z<R+1->w[z]? = s[a+z]?:=fun z hz=>by rw[hwd,List.getElem?_take,if_pos hz,z7]
  by_cases hen:a+(R+1)<s.length
  case' pos=>
   have k2:((a+(R+1):Nat):Int)<s.length:=om
   have hc:s[a+(R+1)]? = zg s[a+(R+1)]:=zk hen;have hne:=hend _ hc;have k7:¬ ((ad7 s[a+(R+1)]:Nat):Int)=ad7 b:=om
   have k3:=ed5 s[a+(R+1)];simp only[go_sem,k2,be5,d2,zc,hc,z6];refine aa2 fok234 (k3) ?_;simp only[go_sem,k7]
  case' neg=>
   have k2:¬ ((a+(R+1):Nat):Int)<s.length:=om
   simp only[go_sem,k2]
  all_goals
   obtain ⟨Z,hZ⟩:∃ Z,Z=if ad7 b=5 then (w.takeWhile (· == 48)).length else 0:=⟨_,rfl⟩
   have hZl:Z<=R+1:=by
    rw[hZ]; split
    ·rw[<- hwl]; exact (List.takeWhile_sublist _).length_le
    ·omega
   have hdw:(if ad7 b=5 then w.dropWhile (· == 48) else w)=w.drop Z:=by
    rw[hZ]; split
    ·exact (cy1 _ w).2
    ·rfl
   rw[hdw] at hv4;refine ab2 noT (fun z fr v=>(∃ tl:Frm,fr=(0,.str s)::(3,gv)::(4,.int .i64 ((a+z:Nat):Int))::(5,.int .u8 (ad7 b:Nat))::(6,.int .i64 ((a+(R+1):Nat):Int))::tl)/\v.obj=t.obj/\t.next<=v.next) Z ⟨⟨_,rfl⟩,uo,by first|exact un|(show t.next<=_; omega)⟩ ?_;rintro z fr v hz ⟨⟨tl,rfl⟩,vo,vn⟩;have z2:(0:Int)<=((a+z:Nat):Int):=om
   have z3:=ac2 (i:=a+z) om;by_cases hzz:z<Z
   ·have h5:ad7 b=5:=by
     by_cases h:ad7 b=5
     ·exact h
     ·rw[if_neg h] at hZ; omega
    have k5:((ad7 b:Nat):Int)=5:=om
    rw[if_pos h5] at hZ;obtain ⟨c,hc1,hc2⟩:=jk7 (p:=fun c=>c==48) w z om;have hc0:c=48:=by simpa using hc2
    rw[hwg z om,hc0] at hc1;have e1:((a+z:Nat):Int)<((a+(R+1):Nat):Int):=om
    have e2:((a+z:Nat):Int)<s.length:=om
    have e3:((48:UInt8).toNat:Int)=48:=rfl;simp only[go_sem,k5,e1,e2,be5,z2,zc,hc1,z6,e3,z3];exact ⟨hzz,⟨_,rfl⟩,vo,vn⟩
   ·have hz':z=Z:=om
    subst hz'
    have hss:cu6 (zg (.int .i64 ((a+z:Nat):Int))) (zg (.int .i64 ((a+(R+1):Nat):Int))) (.str s)=zg (.str (w.drop z)):=by
     have e1:(0:Int)<=((a+(R+1):Nat):Int):=om
     have e2:a+z<=a+(R+1)/\a+(R+1)<=s.length:=om
     simp only[cu6,cs3,eo1,z2,e1,if_true,zc,e2,and_self];rw[hwd,List.drop_take,List.drop_take,qj];congr 3; omega
    have hvg:Grow v gv 2 (pre.map Part.cs):=hg.mono vn fun _ _ _=>by rw[vo]
    obtain ⟨v',σ',h1,h2,h3⟩:=bg3 (n:=1) (nid:=v.next) (e:=[.int .u8 (ad7 b:Nat),.str (w.drop z)]) hvg (bi3 _) ⟨rfl,rfl⟩ (by rw[zf]; omega) (zm _) om
    have fin:ab9 s=(pre++[(⟨ad7 b,w.drop z⟩:Part)])++ab9 (s.drop (a+(R+1)))/\Grow σ' v' 2 ((pre++[(⟨ad7 b,w.drop z⟩:Part)]).map Part.cs)/\(pre++[(⟨ad7 b,w.drop z⟩:Part)]).length<=a+(R+1):=by
     refine ⟨by rw[hv4]; simp,by rw[qg]; exact h3,by rw[zj,zh]; omega⟩
    by_cases h5:ad7 b=5
    ·have k5:((ad7 b:Nat):Int)=5:=om
     rw[if_pos h5] at hZ;by_cases hzR:z<R+1
     ·have e1:((a+z:Nat):Int)<((a+(R+1):Nat):Int):=om
      have e2:((a+z:Nat):Int)<s.length:=om
      have hc:s[a+z]? = zg s[a+z]:=zk om
      have hne:¬ s[a+z]=48:=by
       have:=jk8 (p:=fun c=>c==48) w s[a+z] (by rw[<- hZ,hwg z hzR]; exact hc)
       simpa using this
      have hne2:¬ (s[a+z].toNat:Int)=48:=fun h=>hne (UInt8.toNat_inj.1 (by show _=48; omega))
      simp only[k5] at h1;simp only[go_sem,k5,e1,e2,be5,z2,zc,hc,z6,hne2,hss,h1];exact ⟨om,a+(R+1),v',_,rfl,om,om,fin.2.2,fin.1,fin.2.1⟩
     ·have e1:¬ ((a+z:Nat):Int)<((a+(R+1):Nat):Int):=om
      simp only[k5] at h1;simp only[go_sem,k5,e1,hss,h1];exact ⟨om,a+(R+1),v',_,rfl,om,om,fin.2.2,fin.1,fin.2.1⟩
    ·have k5:¬ ((ad7 b:Nat):Int)=5:=om
     simp only[go_sem,k5,hss,h1];exact ⟨om,a+(R+1),v',_,rfl,om,om,fin.2.2,fin.1,fin.2.1⟩
 ·have ha:a=s.length:=om
  subst ha;have c1:¬ (s.length:Int)<s.length:=om
  rw[zo,fy4,List.append_nil] at hv;rw[hv];simp only[go_sem,c1];exact hg.frz (fun x hx=>(bi3 _ x hx).1) (fun _ _=>qh _) (al3 (em5 pre))
end Go.Id.Tryz
namespace Go.Id.Tryz
open Go Go.Id Go.Proofs Go.Id.Md
theorem gx1 (a b:EVR):PC Tryz.prog EE 201 [.ab8 a.cs,.ab8 b.cs] (.int .i64 (at5 a.ai5 b.ai5)):=by
 refine bc1 fok201 (nZ rfl) fun σ=>?_
 simp only[ic201,go_sem,EVR.cs];refine aa2 fok202 (gw1 _ _) ?_;simp only[go_sem,and_self]
theorem gx2 (a b:EVR)(h1:a.ver.length<2^30)(h2:b.ver.length<2^30):PC Tryz.prog EE 203 [.ab8 a.cs,.ab8 b.cs] (.int .i64 (aq6 a.ver b.ver)):=by
 refine bc1 fok203 (nZ rfl) fun σ=>?_
 simp only[ic203,go_sem,EVR.cs];refine aa2 fok204 (cg3 _ _ h1 h2) ?_;simp only[go_sem,and_self]
theorem gx3 (a b:EVR)(h1:a.rel.length<2^30)(h2:b.rel.length<2^30):PC Tryz.prog EE 205 [.ab8 a.cs,.ab8 b.cs] (.int .i64 (if a.rel=[]\/b.rel=[] then 0 else aq6 a.rel b.rel)):=by
 refine bc1 fok205 (nZ rfl) fun σ=>?_
 by_cases e1:a.rel=[]
 ·simp only[ic205,go_sem,EVR.cs,e1,true_or,and_self]
 ·by_cases e2:b.rel=[]
  ·simp only[ic205,go_sem,EVR.cs,e1,e2,or_true,and_self]
  ·simp only[ic205,go_sem,EVR.cs,e1,e2,or_self];refine aa2 fok204 (cg3 _ _ h1 h2) ?_;simp only[go_sem,and_self]
def fnC (f:Nat×List IV):List IV:=[.func (.func f.1) [] f.2]
theorem ey3 (fs:List (Nat×List IV))(vals:List Int)(hl:fs.length=vals.length)(hn:fs.length<2^40)(hb:∀ f∈fs,∀ c∈f.2,Bnd 0 c)
  (h:∀ i (h1:i<fs.length) (h2:i<vals.length),okF Tryz.prog fs[i].1=true/\PC Tryz.prog EE fs[i].1 fs[i].2 (.int .i64 vals[i])):PC Tryz.prog EE 200 [.aa4 (fs.map fnC)] (.int .i64 (orM vals)):=by
 refine ad9 hE fok200 (nZ rfl) (af1 (.aa4 _ fun e he c hc=>?_)) ?_
 ·obtain ⟨f,hf,rfl⟩:=zw.1 he
  cases hc with
  | head=>exact .func _ _ _ (fun c hc=>by cases hc) (hb f hf)
  | tail _ h=>cases h
 simp only[ic200,go_sem];refine ab2 noT (fun i fr s=>fr=[(6,.aa4 (fs.map fnC)),(7,.int .i64 fs.length),(8,.int .i64 i)]/\orM vals=orM (vals.drop i)) fs.length ⟨rfl,rfl⟩ ?_;rintro i fr s hle ⟨rfl,hI⟩;by_cases hlt:i<fs.length
 ·obtain ⟨f,hf,hget0,hdr,hget,htk⟩:=ac7 fs i hlt;have hlt2:i<vals.length:=om
  have c1:(i:Int)<fs.length:=om
  have c2:(0:Int)<=i:=om
  have w1:=ac2 (i:=i) om;obtain ⟨k1,k2⟩:=h i hlt hlt2
  have hfi:fs[i]=f:=by
   have:=zk hlt; rw[this] at hget0; exact zg.inj hget0
  rw[hfi] at k1 k2;rw[List.drop_eq_getElem_cons hlt2,orM] at hI;generalize vals[i]=x at *;simp only[go_sem,c1,c2,hget,fnC];refine ed4 k1 k2 ?_;by_cases hx:x=0
  ·subst hx;simp only[go_sem,w1];exact ⟨hlt,by simpa using hI⟩
  ·rw[if_neg hx] at hI;simp only[go_sem,hx];rw[hI]; exact ad5 _ _
 ·have hi':i=fs.length:=om
  subst hi';have c1:¬ (fs.length:Int)<fs.length:=om
  rw[hl,zo,orM] at hI;simp only[go_sem,c1];rw[hI]; exact ad5 _ _
theorem fi3 (a:EVR):Bnd 0 (.ab8 a.cs):=.ab8 _ fun c hc=>by
 simp only[EVR.cs,zd,zb,or_false] at hc;rcases hc with rfl|rfl|rfl
 ·exact .int _ _
 ·exact .str _
 ·exact .str _
theorem bx8 (a:EVR):Bnd 0 (.agg a.cs):=.agg _ fun c hc=>by
 simp only[EVR.cs,zd,zb,or_false] at hc;rcases hc with rfl|rfl|rfl
 ·exact .int _ _
 ·exact .str _
 ·exact .str _
def EVR.small (e:EVR):Prop:=e.ver.length<2^30/\e.rel.length<2^30
theorem bo4 (a b:EVR)(ha:EVR.small a)(hb:EVR.small b):PC Tryz.prog EE 142 [.agg a.cs,.agg b.cs] (.int .i64 (ar5 a b)):=by
 refine ad9 hE fok142 (nZ rfl) (al4 (bx8 a) (bx8 b)) ?_
 have hv:ar5 a b=orM [at5 a.ai5 b.ai5,aq6 a.ver b.ver,if a.rel=[]\/b.rel=[] then 0 else aq6 a.rel b.rel]:=by
  rw[jr3]; unfold ar5;split
  ·rfl
  ·split
   ·rfl
   ·rfl
 have hf:=ey3 [(201,[.ab8 a.cs,.ab8 b.cs]),(203,[.ab8 a.cs,.ab8 b.cs]),(205,[.ab8 a.cs,.ab8 b.cs])] [at5 a.ai5 b.ai5,aq6 a.ver b.ver,if a.rel=[]\/b.rel=[] then 0 else aq6 a.rel b.rel] rfl (by simp)
  (fun f hf c hc=>by
   simp only[zd,zb,or_false] at hf;rcases hf with rfl|rfl|rfl<;>exact al4 (fi3 a) (fi3 b) c hc)
  (fun i h1 h2=>by
   match i,h1 with
   | 0,_=>exact ⟨fok201.1,gx1 a b⟩
   | 1,_=>exact ⟨fok203.1,gx2 a b ha.1 hb.1⟩
   | 2,_=>exact ⟨fok205.1,gx3 a b ha.2 hb.2⟩
   | i+3,h=>simp at h; omega)
 rw[<- hv] at hf;have ea:(IV.agg a.cs).cs.all IV.leaf=true:=rfl;have eb:(IV.agg b.cs).cs.all IV.leaf=true:=rfl;simp only[EVR.cs] at hf ⊢;simp only[ic142,go_sem];refine aa2 fok200 hf ?_;simp only[go_sem];exact ad5 _ _
end Go.Id.Tryz
namespace Go.Id.Tryz
open Go Go.Id Go.Proofs Go.Id.Md
def bp5 (a b:Int):Int:=IntKind.u8.wrap ((BitVec.ofInt 8 a &&& BitVec.ofInt 8 b).toNat:Int)
theorem av9 (a b:Int):bc5 .and (.int .u8 a) (.int .u8 b)=zg (.int .u8 (bp5 a b)):=rfl
theorem jy6 {n:Nat}(h:n<256):IntKind.u8.wrap (n:Int)=n:=by
 simp[IntKind.wrap,IntKind.bits,IntKind.signed]; omega
theorem ar8 (a b:Nat)(ha:a<256)(hb:b<256):bp5 a b=((a &&& b:Nat):Int):=by
 unfold bp5;rw[BitVec.toNat_and]
 have e:∀ n:Nat,n<256->(BitVec.ofInt 8 (n:Int)).toNat=n:=fun n hn=>by
  rw[BitVec.toNat_ofInt]; omega
 rw[e a ha,e b hb];exact jy6 (z8 qi ha)
theorem and7:∀ a,a<256->((a &&& 7=0)↔a%8=0):=by decide +kernel
theorem ed6:∀ x,x<256->((x &&& 7=0)↔(x.testBit 0=false/\x.testBit 1=false/\x.testBit 2=false)):=by decide +kernel
theorem and1:∀ a,a<256->((a &&& 1=0)↔a.testBit 0=false):=by decide +kernel
theorem im9:∀ a,a<256->((a &&& 4=0)↔a.testBit 2=false):=by decide +kernel
theorem gx4 (a b:Int):at5 a b=-1\/at5 a b=0\/at5 a b=1:=by
 unfold at5; split
 ·exact .inl rfl
 ·split
  ·exact .inr (.inl rfl)
  ·exact .inr (.inr rfl)
theorem jo2 (a b:Str):cp9 a b=-1\/cp9 a b=0\/cp9 a b=1:=by
 unfold cp9; split
 ·exact .inl rfl
 ·split
  ·exact .inr (.inl rfl)
  ·exact .inr (.inr rfl)
theorem em7 (a b:Part):af9 a b=-1\/af9 a b=0\/af9 a b=1:=by
 have h:∀ k n s:Int,(k=-1\/k=0\/k=1)->(n=-1\/n=0\/n=1)->(s=-1\/s=0\/s=1)->((if k≠0 then k else if n≠0 then n else s)=-1\/(if k≠0 then k else if n≠0 then n else s)=0\/(if k≠0 then k else if n≠0 then n else s)=1):=by
  intro k n s h1 h2 h3;rcases h1 with rfl|rfl|rfl<;>rcases h2 with rfl|rfl|rfl<;>simp<;>exact h3
 refine h (at5 a.kind b.kind) (if a.kind=5/\b.kind=5 then at5 a.s.length b.s.length else 0) (cp9 a.s b.s) (gx4 _ _) ?_ (jo2 _ _);split
 ·exact gx4 _ _
 ·exact .inr (.inl rfl)
theorem ga9:∀ (l m:List Part),ah2 l m=-1\/ah2 l m=0\/ah2 l m=1:=by
 intro l
 induction l with
 | nil=>intro m; exact .inr (.inl (by rw[ah2]; intros; contradiction))
 | cons a l ih=>
  intro m
  cases m with
  | nil=>exact .inr (.inl (by rw[ah2]; intros; contradiction))
  | cons b m=>
   rw[ah2];split
   ·exact em7 a b
   ·exact ih m
theorem fi4 (a b:Str):aq6 a b=-1\/aq6 a b=0\/aq6 a b=1:=ga9 _ _
theorem fi5 (a b:EVR):ar5 a b=-1\/ar5 a b=0\/ar5 a b=1:=by
 unfold ar5;split
 ·exact gx4 _ _
 ·split
  ·exact fi4 _ _
  ·split
   ·exact .inr (.inl rfl)
   ·exact fi4 _ _
def Dep.small (d:Dep):Prop:=0<=d.op/\d.op<256/\EVR.small d.evr
theorem an6 (d:Dep):Bnd 0 (.agg d.cs):=.agg _ fun c hc=>by
 simp only[Dep.cs,zd,zb,or_false] at hc;rcases hc with rfl|rfl|rfl|rfl|rfl
 ·exact .str _
 ·exact .int _ _
 ·exact .int _ _
 ·exact .str _
 ·exact .str _
theorem ey4 (a b:Dep)(ha:Dep.small a)(hb:Dep.small b):PC Tryz.prog EE 241 [.agg a.cs,.agg b.cs] (.bool (meet a b)):=by
 refine ad9 hE fok241 (nZ rfl) (al4 (an6 a) (an6 b)) ?_;obtain ⟨a1,a2,a3⟩:=ha;obtain ⟨b1,b2,b3⟩:=hb;have hc:=bo4 a.evr b.evr a3 b3;have h3:=fi5 a.evr b.evr;unfold meet;generalize ar5 a.evr b.evr=n at hc h3;simp only[EVR.cs] at hc;obtain ⟨x,hx⟩:∃ x:Nat,a.op=x:=⟨a.op.toNat,om⟩;obtain ⟨y,hy⟩:∃ y:Nat,b.op=y:=⟨b.op.toNat,om⟩;have hx2:x<256:=om
 have hy2:y<256:=om
 have ex7:bp5 x 7=((x &&& 7:Nat):Int):=ar8 x 7 hx2 om;have ey7:bp5 y 7=((y &&& 7:Nat):Int):=ar8 y 7 hy2 om;rw[hx,hy,zc,zc];by_cases hx0:x%8=0
 ·have q:=(and7 x hx2).2 hx0;rw[q] at ex7;have q':bp5 x 7=0:=ex7;simp only[ic241,go_sem,Dep.cs,hx,hy,av9,q',hx0,true_or];exact ab3 _
 ·have q:¬ (x &&& 7=0):=fun e=>hx0 ((and7 x hx2).1 e)
  have q':¬ bp5 x 7=0:=by rw[ex7]; omega
  by_cases hy0:y%8=0
  ·have r:=(and7 y hy2).2 hy0;rw[r] at ey7;have r':bp5 y 7=0:=ey7;simp only[ic241,go_sem,Dep.cs,hx,hy,av9,q',r',hy0,or_true];exact ab3 _
  ·have r:¬ (y &&& 7=0):=fun e=>hy0 ((and7 y hy2).1 e)
   have r':¬ bp5 y 7=0:=by rw[ey7]; omega
   simp only[ic241,go_sem,Dep.cs,hx,hy,av9,q',r',hx0,hy0,or_self];refine aa2 fok142 hc ?_;have exy:bp5 x y=((x &&& y:Nat):Int):=ar8 x y hx2 hy2;have hxy:x &&& y<256:=z8 qi hx2;have exy7:bp5 ((x &&& y:Nat):Int) 7=((x &&& y &&& 7:Nat):Int):=ar8 _ 7 hxy om;have s1:=gw2 1 (.inr (.inr rfl));have s2:=gw2 (-1) (.inl rfl);have n1:¬ ((1:Int)<0):=by decide
   have n2:¬ ((1:Int)=0):=by decide
   have n3:((-1:Int)<0):=by decide
   rw[if_neg n1,if_neg n2] at s1;rw[if_pos n3] at s2;have x1:bp5 x 1=((x &&& 1:Nat):Int):=ar8 x 1 hx2 om;have x4:bp5 x 4=((x &&& 4:Nat):Int):=ar8 x 4 hx2 om;have y1:bp5 y 1=((y &&& 1:Nat):Int):=ar8 y 1 hy2 om;have y4:bp5 y 4=((y &&& 4:Nat):Int):=ar8 y 4 hy2 om;have w1:IntKind.i64.wrap (0 - -1)=1:=by decide
   have w2:IntKind.i64.wrap (0-1)=-1:=by decide
   have bt:∀ (k i:Nat),bit (k:Int) i=k.testBit i:=fun k i=>by unfold bit; rw[zc]
   have z0:∀ k:Nat,((k:Int)=0)↔k=0:=fun k=>by omega
   rcases h3 with rfl|rfl|rfl
   ·have g1:side (- -1)=2:=by decide
    have g2:side (-1)=0:=by decide
    have m0:¬ ((-1:Int)=0):=by decide
    simp only[go_sem,m0,w1,g1,g2,bt];refine aa8 s1 ?_
    cases hb:x.testBit 2 with
    | true=>
     have e:¬ bp5 x 4=0:=by rw[x4,z0,im9 x hx2,hb]; simp
     simp only[go_sem,av9,e]
     exact ab3 _
    | false=>
     have e:bp5 x 4=0:=by rw[x4,z0,im9 x hx2,hb]
     simp only[go_sem,av9,e];refine aa8 s2 ?_
     cases hc:y.testBit 0 with
     | true=>
      have e2:¬ bp5 y 1=0:=by rw[y1,z0,and1 y hy2,hc]; simp
      simp only[go_sem,av9,e2]
      exact ab3 _
     | false=>
      have e2:bp5 y 1=0:=by rw[y1,z0,and1 y hy2,hc]
      simp only[go_sem,av9,e2];exact ab3 _
   ·simp only[go_sem,av9,exy,exy7,bt]
    have e:(!decide (((x &&& y &&& 7:Nat):Int)=0))=(x.testBit 0&&y.testBit 0||x.testBit 1&&y.testBit 1||x.testBit 2&&y.testBit 2):=by
     by_cases hz:x &&& y &&& 7=0
     ·obtain ⟨t0,t1,t2⟩:=(ed6 _ hxy).1 hz;rw[zn] at t0 t1 t2;rw[hz,t0,t1,t2]; rfl
     ·have hz':¬ ((x &&& y &&& 7:Nat):Int)=0:=fun h=>hz om
      have ht:¬ ((x &&& y).testBit 0=false/\(x &&& y).testBit 1=false/\(x &&& y).testBit 2=false):=fun h=>hz ((ed6 _ hxy).2 h)
      rw[zn,zn,zn] at ht;rw[decide_eq_false hz']
      revert ht
      generalize (x.testBit 0&&y.testBit 0)=b0;generalize (x.testBit 1&&y.testBit 1)=b1;generalize (x.testBit 2&&y.testBit 2)=b2;cases b0<;>cases b1<;>cases b2<;>simp
    rw[e];exact ab3 _
   ·have g1:side (-1)=0:=by decide
    have g2:side 1=2:=by decide
    simp only[go_sem,n2,w2,g1,g2,bt];refine aa8 s2 ?_
    cases hb:x.testBit 0 with
    | true=>
     have e:¬ bp5 x 1=0:=by rw[x1,z0,and1 x hx2,hb]; simp
     simp only[go_sem,av9,e]
     exact ab3 _
    | false=>
     have e:bp5 x 1=0:=by rw[x1,z0,and1 x hx2,hb]
     simp only[go_sem,av9,e];refine aa8 s1 ?_
     cases hc:y.testBit 2 with
     | true=>
      have e2:¬ bp5 y 4=0:=by rw[y4,z0,im9 y hy2,hc]; simp
      simp only[go_sem,av9,e2]
      exact ab3 _
     | false=>
      have e2:bp5 y 4=0:=by rw[y4,z0,im9 y hy2,hc]
      simp only[go_sem,av9,e2];exact ab3 _
theorem bi4 (d:Dep):Bnd 0 (.ab8 d.cs):=.ab8 _ fun c hc=>by
 simp only[Dep.cs,zd,zb,or_false] at hc;rcases hc with rfl|rfl|rfl|rfl|rfl
 ·exact .str _
 ·exact .int _ _
 ·exact .int _ _
 ·exact .str _
 ·exact .str _
theorem fi6 (a d:Dep)(ha:Dep.small a)(hd:Dep.small d):PC Tryz.prog EE 197 [.agg a.cs,.agg d.cs] (.bool (meets a d)):=by
 refine ad9 hE fok197 (nZ rfl) (al4 (an6 a) (an6 d)) ?_;have hm:=ey4 a d ha hd;unfold meets;simp only[Dep.cs] at hm;by_cases h:a.name=d.name
 ·simp only[ic197,go_sem,Dep.cs,h] at hm ⊢;refine aa2 fok241 hm ?_;simp only[go_sem];exact ab3 _
 ·simp only[ic197,go_sem,Dep.cs,h];exact ab3 _
theorem gx5 (n:Str)(e:EVR):PC Tryz.prog EE 242 [.str n,.agg e.cs] (.agg (Dep.cs ⟨n,2,e⟩)):=by
 refine ad9 hE fok242 (nZ rfl) (al4 (.str _) (bx8 e)) ?_;simp only[ic242,go_sem,EVR.cs,Dep.cs]
 exact .keep _ (.agg _ fun c hc=>by
  simp only[zd,zb,or_false] at hc;rcases hc with rfl|rfl|rfl|rfl|rfl
  ·exact .str _
  ·exact .int _ _
  ·exact .int _ _
  ·exact .str _
  ·exact .str _)
theorem gx6 (p:aa3):PC Tryz.prog EE 198 [.agg p.cs] (.agg (own p).cs):=by
 refine ad9 hE fok198 (nZ rfl) (af1 (al2 p)) ?_;have ho:=gx5 p.name p.evr;simp only[EVR.cs,Dep.cs] at ho;simp only[ic198,go_sem,aa3.cs,own,Dep.cs];refine aa2 fok242 ho ?_;simp only[go_sem];exact .keep _ (an6 (own p))
def Pkg.small (p:aa3):Prop:=EVR.small p.evr/\(∀ d∈p.provides,Dep.small d)/\(∀ d∈p.aa7,Dep.small d)/\p.provides.length<2^40/\p.aa7.length<2^40/\p.files.length<2^40
theorem em8 {p:aa3}(h:Pkg.small p):Dep.small (own p):=⟨by show (0:Int)<=2; decide,by show (2:Int)<256; decide,h.1⟩
theorem ai8 (p:aa3):p.cs.length=15:=rfl
theorem ai1 (p:aa3):p.cs.take 15=p.cs:=rfl
theorem ah1 (p:aa3):p.cs.all IV.leaf=true:=rfl
theorem ed7 (p:aa3)(d:Dep)(hp:Pkg.small p)(hd:Dep.small d):PC Tryz.prog EE 137 [.agg p.cs,.agg d.cs] (.bool (named p d)):=by
 refine ad9 hE fok137 (nZ rfl) (al4 (al2 p) (an6 d)) ?_;have ho:=gx6 p;have hm:=fi6 (own p) d (em8 hp) hd;generalize hx:Dep.cs (own p)=x at ho hm;simp only[ic137,go_sem,ai8,ai1,ah1,ak2,ah7,ag7];refine aa8 ho ?_;simp only[go_sem,ak2,ah7,ag7];refine aa8 hm ?_;simp only[go_sem];exact ab3 _
theorem if2 (q:aa3)(d:Dep)(hq:Pkg.small q)(hd:Dep.small d):PC Tryz.prog EE 247 ([]++[.agg d.cs]++[.ab8 q.cs]) (.bool (named q d)):=by
 refine ad9 hE fok247 (nZ rfl) (al4 (an6 d) (.ab8 _ (bc3 q))) ?_;simp only[ic247,go_sem,ai8,ai1,ah1,ak2,ah7,ag7];refine aa2 fok137 (ed7 q d hq hd) ?_;simp only[go_sem];exact ab3 _
theorem em9 (p q:aa3)(hp:Pkg.small p)(hq:Pkg.small q):PC Tryz.prog EE 208 [.agg p.cs,.agg q.cs] (.bool (aa7 p q)):=by
 refine ad9 hE fok208 (nZ rfl) (al4 (al2 p) (al2 q)) ?_;have hc:=de3 p.aa7 247 [] [.ab8 q.cs] (fun d=>named q d) (by have:=hp.2.2.2.2.1; omega) fok247.1 fun d hd=>if2 q d hq (hp.2.2.1 d hd)
 have hf:(p.cs.drop 9).head? = zg (deps p.aa7):=rfl;simp only[ic208,go_sem,ah1,hf];refine aa2 fok217 hc ?_;simp only[go_sem];exact ab3 _
theorem gx7 (a d:Dep)(ha:Dep.small a)(hd:Dep.small d):PC Tryz.prog EE 281 ([]++[.agg a.cs]++[.ab8 d.cs]) (.bool (meets a d)):=by
 refine ad9 hE fok281 (nZ rfl) (al4 (an6 a) (bi4 d)) ?_;simp only[ic281,go_sem,ak2,ah7,ag7];refine aa2 fok197 (fi6 a d ha hd) ?_;simp only[go_sem];exact ab3 _
theorem ey5 (l:List Str)(s:Str)(hl:l.length<2^40):PC Tryz.prog EE 289 [.aa4 (l.map bh4),.str s] (.int .i64 (ai7 (fun x=>decide (s=x)) l 0)):=by
 refine bc1 fok289 (nZ rfl) fun σ=>?_
 simp only[ic289,go_sem];refine ab2 noT (fun i fr t=>t=σ/\fr=[(0,.aa4 (l.map bh4)),(1,.str s),(7,.int .i64 l.length),(8,.int .i64 i)]/\ai7 (fun x=>decide (s=x)) l 0=ai7 (fun x=>decide (s=x)) (l.drop i) i) l.length ⟨rfl,rfl,rfl⟩ ?_;rintro i fr t hi ⟨rfl,rfl,hf⟩;by_cases hlt:i<l.length
 ·obtain ⟨x,ha,_,hdr,hget,_⟩:=ac7 l i hlt;have c1:(i:Int)<l.length:=om
  have c2:(0:Int)<=i:=om
  have w1:=ac2 (i:=i) om;rw[hdr,ai7] at hf;by_cases e:s=x
  ·rw[if_pos (by simpa using e)] at hf;subst e;simp only[go_sem,c1,c2,hget,ec6,bh4,hf,and_self]
  ·rw[if_neg (by simpa using e)] at hf;simp only[go_sem,c1,c2,hget,ec6,bh4,e,w1];exact ⟨hlt,by rw[hf]; simp only[zv,zu]⟩
 ·have hi':i=l.length:=om
  subst hi';have c1:¬ (l.length:Int)<l.length:=om
  rw[zo] at hf;simp only[go_sem,c1,hf,ai7,and_self]
theorem gx8 (l:List Str)(s:Str)(hl:l.length<2^40):PC Tryz.prog EE 282 [.aa4 (l.map bh4),.str s] (.bool (l.contains s)):=by
 refine bc1 fok282 (nZ rfl) fun σ=>?_
 simp only[ic282,go_sem];refine aa2 fok289 (ey5 l s hl) ?_
 have e:l.any (fun x=>decide (s=x))=l.contains s:=by
  induction l with
  | nil=>rfl
  | cons a l ih=>rw[List.any_cons,List.contains_cons,ih (by simp at hl; omega)]; congr 1; by_cases h:s=a<;>simp[h]
 simp only[go_sem,au2,e,and_self]
theorem ey6 (p:aa3)(d:Dep)(hp:Pkg.small p)(hd:Dep.small d):PC Tryz.prog EE 270 [.agg p.cs,.agg d.cs] (.bool (provides p d)):=by
 refine ad9 hE fok270 (nZ rfl) (al4 (al2 p) (an6 d)) ?_;have hn:=ed7 p d hp hd;have hc:=de3 p.provides 281 [] [.ab8 d.cs] (fun a=>meets a d) (by have:=hp.2.2.2.1; omega) fok281.1 fun a ha=>gx7 a d (hp.2.1 a ha) hd
 have hs:=gx8 p.files d.name hp.2.2.2.2.2;have hf:(p.cs.drop 6).head? = zg (deps p.provides):=rfl;have hg:(p.cs.drop 14).head? = zg (strs p.files):=rfl;have d0:d.cs.head? = zg (.str d.name):=rfl;have d1:(d.cs.drop 1).head? = zg (.int .u8 d.op):=rfl;unfold provides
 cases hb:named p d with
 | true=>
  rw[hb] at hn;simp only[ic270,go_sem,ai8,ai1,ah1,ak2,ah7,ag7];refine aa2 fok137 hn ?_;simp only[go_sem]
  exact ab3 _
 | false=>
  rw[hb] at hn;simp only[ic270,go_sem,ai8,ai1,ah1,ak2,ah7,ag7];refine aa2 fok137 hn ?_;simp only[go_sem,hf];refine aa2 fok217 hc ?_
  cases ha:p.provides.any (fun a=>meets a d) with
  | true=>
   simp only[go_sem]
   exact ab3 _
  | false=>
   by_cases h0:d.op=0
   ·simp only[go_sem,d0,d1,h0,hg];refine aa2 fok282 hs ?_;simp only[go_sem];exact ab3 _
   ·simp only[go_sem,d0,d1,h0];exact ab3 _
end Go.Id.Tryz
namespace Go.Id.Tryz
open Go Go.Id Go.Proofs Go.Id.Md
theorem gb1 (p:aa3)(n:Int)(d:Dep)(hp:Pkg.small p)(hd:Dep.small d):PC Tryz.prog EE 269 [.agg p.cs,.int .i64 n,.ab8 d.cs] (.bool (provides p d)):=by
 refine ad9 hE fok269 (nZ rfl) (fun a ha=>by
  simp only[zd,zb,or_false] at ha;rcases ha with rfl|rfl|rfl
  ·exact al2 p
  ·exact .int _ _
  ·exact bi4 d) ?_
 simp only[ic269,go_sem,ai8,ai1,ah1,ak2,ah7,ag7];refine aa2 fok270 (ey6 p d hp hd) ?_;simp only[go_sem];exact ab3 _
theorem de7 (p:aa3)(n:Int)(d:Dep)(hp:Pkg.small p)(hd:Dep.small d):PC Tryz.prog EE 136 [.agg p.cs,.int .i64 n,.ab8 d.cs] (.bool (named p d)):=by
 refine ad9 hE fok136 (nZ rfl) (fun a ha=>by
  simp only[zd,zb,or_false] at ha;rcases ha with rfl|rfl|rfl
  ·exact al2 p
  ·exact .int _ _
  ·exact bi4 d) ?_
 simp only[ic136,go_sem,ai8,ai1,ah1,ak2,ah7,ag7];refine aa2 fok137 (ed7 p d hp hd) ?_;simp only[go_sem];exact ab3 _
theorem fi8 (nm:Nms)(σ:Store)(k:Str):∃ v,cz6 σ 2 .aa1 false (.an9 (nmV nm)) (.str k)=zg v/\(v=.aa4 ((ae8 nm k).map Md.ae1)\/v=.aa1/\ae8 nm k=[]):=by
 have h:∀ nm:Nms,∃ r,ay9 2 (.str k) (nmV nm)=zg r/\((∃ v,r=zg v/\v=.aa4 ((ae8 nm k).map Md.ae1))\/r=none/\ae8 nm k=[]):=by
  intro nm
  induction nm with
  | nil=>exact ⟨none,rfl,.inr ⟨rfl,rfl⟩⟩
  | cons t ts ih=>
   obtain ⟨r,h1,h2⟩:=ih;simp only[nmV,List.map_cons,ay9,fc3,ae8] at h1 ⊢;by_cases e:k=t.1
   ·simp only[e,decide_true,if_true];exact ⟨_,rfl,.inl ⟨_,rfl,rfl⟩⟩
   ·simp only[e,decide_false,if_false];exact ⟨r,h1,h2⟩
 obtain ⟨r,h1,h2⟩:=h nm;rcases h2 with ⟨v,rfl,rfl⟩|⟨rfl,h3⟩
 ·refine ⟨.aa4 ((ae8 nm k).map Md.ae1),?_,.inl rfl⟩;simp only[cz6,ch7,h1];rfl
 ·refine ⟨.aa1,?_,.inr ⟨rfl,h3⟩⟩;simp only[cz6,ch7,h1];rfl
theorem numsOf_at {q:aa3->Bool}{l:List aa3}{n:Int}(h:n∈numsOf q l):∃ m:Nat,n=m/\m<l.length:=by
 obtain ⟨m,h1,h2,_⟩:=ao3.1 h;exact ⟨m,h1,h2⟩
theorem getD_at (l:List aa3)(m:Nat)(h:m<l.length):l.getD m default=l[m]:=by simp[za,h]
theorem bs7 (l:List aa3)(d:Dep)(hl:l.length<2^20)(hs:∀ p∈l,Pkg.small p)(hd:Dep.small d):PC Tryz.prog EE 235 [(aj2 l).v,.agg d.cs] (.aa4 ((aj7 l d).map Md.ae1)):=by
 have hi:=bn5 l;have hb:=bg2 (aj2 l);refine ad9 hE fok235 (nZ rfl) (al4 hb (an6 d)) ?_;have hlook:=hi.ax9 d.name
 have hsift:∀ v,(v=.aa4 ((ae8 (aj2 l).ax9 d.name).map Md.ae1)\/v=.aa1/\ae8 (aj2 l).ax9 d.name=[])->PC Tryz.prog EE 135 [(aj2 l).v,v,.func (.func 269) [] [.ab8 d.cs]] (.aa4 ((aj7 l d).map Md.ae1)):=by
  intro v hv
  have h:=gw7 (aj2 l) (ae8 (aj2 l).ax9 d.name) (by rw[hlook]; have:=aj3 (fun p=>decide (d.name∈dc9 p)) l; omega) 269 [.ab8 d.cs] (fun n=>provides (l.getD n.toNat default) d) (af1 (bi4 d)) fok269.1 (fun n hn=>by
   rw[hlook] at hn;obtain ⟨m,rfl,hm⟩:=numsOf_at hn;refine ⟨m,rfl,by rw[hi.all]; exact hm,?_⟩;have e:(aj2 l).all[m]'(by rw[hi.all]; exact hm)=l[m]:=by simp only[hi.all]
   rw[e,zc,getD_at l m hm];exact gb1 l[m] m d (hs _ (ze hm)) hd)
  rw[ej8] at h;rcases hv with rfl|⟨rfl,h0⟩
  ·exact h
  ·rw[h0] at h;have hw:∀ {v:IV} {σ:Store},Bnd 0 v->Frz σ (fun _=>true=true) v v:=fun h=>.keep _ (h.weak fun _ _=>rfl)
   refine dx1 (args':=[(aj2 l).v,.aa4 [],.func (.func 269) [] [.ab8 d.cs]]) rfl (fun σ i hi=>?_) h
   match i,hi with
   | 0,_=>exact hw hb
   | 1,_=>exact .by5
   | 2,_=>exact hw (.func _ _ _ (fun c hc=>by cases hc) (af1 (bi4 d)))
 have hx:(aj2 l).v=.ab8 [.aa4 ((aj2 l).all.map aa3.cs),.an9 (nmV (aj2 l).ax9),.an9 (nmV (aj2 l).names),.an9 (nmV (aj2 l).over)]:=rfl;have d0:d.cs.head? = zg (.str d.name):=rfl;have hres:=ad3 (aj7 l d)
 have hk0:∀ σ:Store,∃ v,cz6 σ 2 .aa1 false (.an9 (nmV (aj2 l).ax9)) (.str d.name)=zg v/\PC Tryz.prog EE 135 [(aj2 l).v,v,.func (.func 269) [] [.ab8 d.cs]] (.aa4 ((aj7 l d).map Md.ae1)):=fun σ=>
  let ⟨v,h1,h2⟩:=fi8 (aj2 l).ax9 σ d.name
  ⟨v,h1,hsift v h2⟩
 clear hsift hlook;rw[hx] at hk0 ⊢;generalize (aj2 l).all.map aa3.cs=a0 at *;simp only[ic235,go_sem,ak2,ah7,ag7,d0];obtain ⟨v,hk,hsv⟩:=hk0 ⟨11,emp.obj⟩;simp only[go_sem,hk];refine aa2 fok135 hsv ?_;simp only[go_sem];exact .keep _ hres
theorem cb1 (l:List aa3)(d:Dep)(hl:l.length<2^20)(hs:∀ p∈l,Pkg.small p)(hd:Dep.small d):PC Tryz.prog EE 86 [(aj2 l).v,.agg d.cs] (.aa4 ((am3 l d).map Md.ae1)):=by
 have hi:=bn5 l;have hb:=bg2 (aj2 l);refine ad9 hE fok86 (nZ rfl) (al4 hb (an6 d)) ?_;have hlook:=hi.names d.name
 have hsift:∀ v,(v=.aa4 ((ae8 (aj2 l).names d.name).map Md.ae1)\/v=.aa1/\ae8 (aj2 l).names d.name=[])->PC Tryz.prog EE 135 [(aj2 l).v,v,.func (.func 136) [] [.ab8 d.cs]] (.aa4 ((am3 l d).map Md.ae1)):=by
  intro v hv
  have h:=gw7 (aj2 l) (ae8 (aj2 l).names d.name) (by rw[hlook]; have:=aj3 (fun p=>decide (p.name=d.name)) l; omega) 136 [.ab8 d.cs] (fun n=>named (l.getD n.toNat default) d) (af1 (bi4 d)) fok136.1 (fun n hn=>by
   rw[hlook] at hn;obtain ⟨m,rfl,hm⟩:=numsOf_at hn;refine ⟨m,rfl,by rw[hi.all]; exact hm,?_⟩;have e:(aj2 l).all[m]'(by rw[hi.all]; exact hm)=l[m]:=by simp only[hi.all]
   rw[e,zc,getD_at l m hm];exact de7 l[m] m d (hs _ (ze hm)) hd)
  rw[fd8] at h;rcases hv with rfl|⟨rfl,h0⟩
  ·exact h
  ·rw[h0] at h;have hw:∀ {v:IV} {σ:Store},Bnd 0 v->Frz σ (fun _=>true=true) v v:=fun h=>.keep _ (h.weak fun _ _=>rfl)
   refine dx1 (args':=[(aj2 l).v,.aa4 [],.func (.func 136) [] [.ab8 d.cs]]) rfl (fun σ i hi=>?_) h
   match i,hi with
   | 0,_=>exact hw hb
   | 1,_=>exact .by5
   | 2,_=>exact hw (.func _ _ _ (fun c hc=>by cases hc) (af1 (bi4 d)))
 have hx:(aj2 l).v=.ab8 [.aa4 ((aj2 l).all.map aa3.cs),.an9 (nmV (aj2 l).ax9),.an9 (nmV (aj2 l).names),.an9 (nmV (aj2 l).over)]:=rfl;have d0:d.cs.head? = zg (.str d.name):=rfl;have hres:=ad3 (am3 l d)
 have hk0:∀ σ:Store,∃ v,cz6 σ 2 .aa1 false (.an9 (nmV (aj2 l).names)) (.str d.name)=zg v/\PC Tryz.prog EE 135 [(aj2 l).v,v,.func (.func 136) [] [.ab8 d.cs]] (.aa4 ((am3 l d).map Md.ae1)):=fun σ=>
  let ⟨v,h1,h2⟩:=fi8 (aj2 l).names σ d.name
  ⟨v,h1,hsift v h2⟩
 clear hsift hlook;rw[hx] at hk0 ⊢;generalize (aj2 l).all.map aa3.cs=a0 at *;simp only[ic86,go_sem,ak2,ah7,ag7,d0];obtain ⟨v,hk,hsv⟩:=hk0 ⟨11,emp.obj⟩;simp only[go_sem,hk];refine aa2 fok135 hsv ?_;simp only[go_sem];exact .keep _ hres
end Go.Id.Tryz
namespace Go.Id.Tryz
open Go Go.Id Go.Proofs Go.Id.Md
end Go.Id.Tryz
namespace Go.Id.Tryz
open Go Go.Id Go.Proofs Go.Id.Md
end Go.Id.Tryz
namespace Go.Id.Tryz
open Go Go.Id Go.Proofs Go.Id.Md
abbrev wr (n:Int):Int:=IntKind.i64.wrap n
structure if4 (repos:List ao2) (inst:List aa3):Prop where
 r1:repos.length<2^20
 i1:inst.length<2^20
 s1:am4 repos<2^40
 rf:∀ r∈repos,ao2.Fit r
 pf:∀ p∈inst,p.Fit
 ro:∀ r∈repos,ao2.Ok r
 po:∀ p∈inst,p.Ok
theorem gb2 {p:aa3}(h:p.Tiny):Pkg.small p:=by
 have e:∀ v:EVR,v.tiny->EVR.small v:=fun v hv=>⟨by have:=hv.1; omega,by have:=hv.2; omega⟩
 refine ⟨e _ h.evr,fun d hd=>?_,fun d hd=>?_,?_,?_,?_⟩
 ·obtain ⟨a,b,c,_⟩:=h.ax9.2 d hd; exact ⟨a,b,e _ c⟩
 ·obtain ⟨a,b,c,_⟩:=h.obs.2 d hd; exact ⟨a,b,e _ c⟩
 ·have:=h.ax9.1; omega
 ·have:=h.obs.1; omega
 ·have:=h.files; omega
theorem in1 {repos:List ao2}{inst:List aa3}{p:Pool}(hI:if4 repos inst)(h:by3 repos inst=.inl p):∀ x∈af6 p,x.Fit/\Pkg.small x/\x.Tiny:=by
 intro x hx;obtain ⟨h1,h2⟩:=fe2 h x hx;refine ⟨?_,gb2 (fe5 h1),fe5 h1⟩;rcases h2 with h2|⟨r,hr,h2⟩
 ·exact hI.pf x h2
 ·exact (hI.rf r hr).2 x h2
end Go.Id.Tryz
namespace Go.Id.Tryz
open Go Go.Id Go.Proofs Go.Id.Md
theorem iy8 (x:Index)(n:Int):PC Tryz.prog EE 206 [x.v,.int .i64 n] (.bool (decide (0<=n)&&decide (n<x.all.length))):=by
 refine ad9 hE fok206 (nZ rfl) (al4 (bg2 x) (.int _ _)) ?_;have hx:x.v=.ab8 [.aa4 (x.all.map aa3.cs),.an9 (nmV x.ax9),.an9 (nmV x.names),.an9 (nmV x.over)]:=rfl;have hnil:∀ (d:TypeId) (cs:List IV) (c:IV),by9 (.pointer d) (.ab8 (c::cs))=zg false:=fun _ _ _=>rfl
 rw[hx];have hlen:(x.all.map aa3.cs).length=x.all.length:=zf ..;generalize x.all.map aa3.cs=es at *;generalize x.all.length=k at *;by_cases h1:0<=n
 ·by_cases h2:n<(k:Nat)
  ·have h2':n<(es.length:Nat):=om
   simp only[ic206,go_sem,hnil,h1,h2,h2',hlen,Bool.and_self];exact ab3 _
  ·have h2':¬ n<(es.length:Nat):=om
   simp only[ic206,go_sem,hnil,h1,h2,h2',hlen,Bool.and_false];exact ab3 _
 ·simp only[ic206,go_sem,hnil,h1,Bool.false_and];exact ab3 _
theorem gx9 (l:List aa3)(m n:Nat)(hm:m<l.length)(hn:n<l.length)(hs:∀ p∈l,Pkg.small p) :
  PC Tryz.prog EE 207 [.agg l[m].cs,.int .i64 m,.ab8 [.int .i64 n],.ab8 [(aj2 l).v]] (.bool (decide (m≠n)&&aa7 l[m] l[n])):=by
 refine ad9 hE fok207 (nZ rfl) (fun a ha=>by
  simp only[zd,zb,or_false] at ha;rcases ha with rfl|rfl|rfl|rfl
  ·exact al2 _
  ·exact .int _ _
  ·exact .ab8 _ (af1 (.int _ _))
  ·exact .ab8 _ (af1 (bg2 _))) ?_
 have hx:(aj2 l).v=.ab8 [.aa4 (l.map aa3.cs),.an9 (nmV (aj2 l).ax9),.an9 (nmV (aj2 l).names),.an9 (nmV (aj2 l).over)]:=by
  show IV.ab8 [.aa4 ((aj2 l).all.map aa3.cs),_,_,_]=_;rw[(bn5 l).all]
 have ho:=em9 l[m] l[n] (hs _ (ze hm)) (hs _ (ze hn));have hg:(l.map aa3.cs).getD n []=l[n].cs:=by simp[za,hn]
 have hl:(l.map aa3.cs).length=l.length:=zf ..;rw[hx];generalize l.map aa3.cs=es at *;by_cases e:m=n
 ·have e':(m:Int)=n:=om
  simp only[ic207,go_sem,ai8,ai1,ah1,e',e,ne_eq,not_true_eq_false,decide_false,Bool.false_and];exact ab3 _
 ·have e':¬ (m:Int)=n:=om
  have c1:(0:Int)<=n:=om
  have c2:(n:Int)<es.length:=om
  simp only[ic207,go_sem,ai8,ai1,ah1,e',e,c1,c2,hg,ne_eq,not_false_eq_true,decide_true,Bool.true_and];refine aa2 fok208 ho ?_;simp only[go_sem];exact ab3 _
def an3 (l:List aa3)(n:Nat):List Int:=(ae8 (aj2 l).over (l.getD n default).name).filter fun k=>decide (k.toNat≠n)&&aa7 (l.getD k.toNat default) (l.getD n default)
theorem de8 {l:List aa3}{n:Nat}{k:Int}:k∈an3 l n↔∃ m:Nat,k=m/\m<l.length/\m≠n/\aa7 (l.getD m default) (l.getD n default)=true:=by
 unfold an3;rw[(bn5 l).over,List.mem_filter];constructor
 ·rintro ⟨h1,h2⟩;obtain ⟨m,rfl,h3,_⟩:=ao3.1 h1;simp only[zc,zp,decide_eq_true_eq] at h2;exact ⟨m,rfl,h3,h2.1,h2.2⟩
 ·rintro ⟨m,rfl,h1,h2,h3⟩;refine ⟨ao3.2 ⟨m,rfl,h1,?_⟩,?_⟩
  ·obtain ⟨d,h4,h5⟩:=List.any_eq_true.1 h3;refine decide_eq_true ⟨d,h4,?_⟩;simp only[named,meets,zp,decide_eq_true_eq] at h5;exact h5.1.symm
  ·simp only[zc,zp,decide_eq_true_eq];exact ⟨h2,h3⟩
theorem de9 (l:List aa3)(n:Nat):(an3 l n).length<=l.length:=by
 unfold an3;rw[(bn5 l).over];exact Nat.le_trans (qn _ _) (aj3 _ _)
end Go.Id.Tryz
namespace Go.Id.Tryz
open Go Go.Id Go.Proofs Go.Id.Md
abbrev iv (n:Int):IV:=.int .i64 n
theorem gy1 {id n k:Nat}(h:k<=n):cw7 1 (zg (.int .i64 (k:Int))) none (.slice id 0 n 1)=zg (.slice id k (n-k) 1):=by
 have e:(0:Int)<=k:=om
 simp[cw7,cs3,eo1,e,h]
theorem in2 {id n k:Nat}(h:k<=n):cw7 1 none (zg (.int .i64 (k:Int))) (.slice id 0 n 1)=zg (.slice id 0 k 1):=by
 have e:(0:Int)<=k:=om
 simp[cw7,cs3,eo1,e,h]
theorem cu1 {zs:List Int}{p:Nat}(h:p+1<zs.length)(x:Int):x∈zs.take (p+1+1)↔x∈zs.take (p+1)\/x=zs[p+1]:=by
 rw[qu (i:=p+1),zk h,List.mem_append];simp[Option.toList]
theorem cu2 {zs:List Int}{p:Nat}(h:p+1<zs.length)(e:zs[p+1]=zs[p])(x:Int):x∈zs.take (p+1)↔x∈zs.take (p+1+1):=by
 rw[cu1 h];refine ⟨.inl,fun q=>q.elim (fun q=>q) fun q=>?_⟩;rw[q,e];exact z1.2 ⟨p,by rw[zi]; omega,by rw[qa]⟩
theorem df1 {cs vs:List IV}{k:Nat}(h:k<=cs.length):(ay4 cs k vs).take k=cs.take k:=by
 unfold ay4;rw[List.append_assoc,zl (by rw[zi]; omega),List.take_take,Nat.min_self]
theorem dt7 {cs:List IV}{v:IV}{k:Nat}(h:k<=cs.length):(ay4 cs k [v]).take (k+1)=cs.take k++[v]:=by
 unfold ay4;have e:(cs.take k++[v]).length=k+1:=by rw[zj,zi,zh]; omega
 rw[zl om,zz om]
theorem dt8 {cs:List IV}{v:IV}{k q:Nat}(h:k<q)(hk:k<=cs.length):(ay4 cs k [v]).drop q=cs.drop q:=by
 unfold ay4;have e:(cs.take k++[v]).length=k+1:=by rw[zj,zi,zh]; omega
 rw[List.drop_append,e,List.drop_of_length_le om,List.nil_append,qj,zh];congr 1; omega
theorem iy9 {pt:PT}{ct:CT}{P:Program}{E:Nat->IV}{e id:Nat}{z:List IV}{x:IX}{fr:Frm}{σ:Store}{K:IV->Store->Prop}:opT pt ct P E (.clr e z x) id fr σ K=ca1 (fm8 σ e z (x.ev E fr)) fun σ'=>σ'.next=σ.next/\K .undef σ':=rfl
theorem gy2 {σ:Store}{id k n:Nat}{cs:List IV}(ho:σ.obj id=zg (.row cs))(h1:k<n)(h2:n<=cs.length):fm8 σ 1 [.int .i64 0] (.slice id k (n-k) 1)=zg (σ.put id (.row (ay4 cs k (rep [.int .i64 0] (n-k))))):=by
 have e1:¬ n-k=0:=om
 have e2:k+(n-k)*1<=cs.length:=om
 unfold fm8;simp only[e1,if_false,ho,e2,true_and];rfl
structure ka5 (R:Int->Int->Prop) (σ:Store) (id:Nat) (zs:List Int) (v:IV) (s:Store):Prop where
 out:∃ (D:List Int) (cs:List IV),D.Pairwise R/\(∀ x,x∈D↔x∈zs)/\v=.slice id 0 D.length 1/\s.obj id=zg (.row cs)/\cs.take D.length=D.map iv/\D.length<=cs.length
 next:σ.next<=s.next
 other:∀ i,i≠id->s.obj i=σ.obj i
theorem gb3 {R:Int->Int->Prop}{σ:Store}{id:Nat}{zs:List Int}{tl:List IV}(hT:∀ a∈zs,∀ b∈zs,∀ c∈zs,R a b->R b c->R a c)(hz:zs.length<2^40)(ho:σ.obj id=zg (.row (zs.map iv++tl)))(hs:zs.Pairwise fun a b=>a=b\/R a b) :
  C Tryz.prog EE 146 [.slice id 0 zs.length 1] σ (ka5 R σ id zs):=by
 refine C_f fok146 (nZ rfl) ?_;by_cases h2:(zs.length:Int)<2
 ·simp only[ic146,go_sem,h2];refine ⟨⟨zs,zs.map iv++tl,?_,fun _=>Iff.rfl,rfl,ho,by rw[zl (by simp),zz (by simp)],by simp⟩,zm _,fun _ _=>rfl⟩
  match zs,h2 with
  | [],_=>exact .nil
  | [a],_=>simp
  | a::b::l,h2=>simp only[List.length_cons] at h2; omega
 simp only[ic146,go_sem,h2];refine ab2 noT (fun i fr t=>(t.obj=σ.obj/\σ.next<=t.next)/\fr=[(0,.slice id 0 zs.length 1),(3,.int .i64 ((i+1:Nat):Int))]/\i+1<=zs.length/\(zs.take (i+1)).Pairwise R) zs.length ⟨⟨rfl,zm _⟩,rfl,om,?_⟩ ?_
 ·cases zs with
  | nil=>exact .nil
  | cons a l=>simp
 rintro i fr t hi ⟨⟨hob,hnx⟩,rfl,hle,hpw⟩;have hot:t.obj id=zg (.row (zs.map iv++tl)):=by rw[hob]; exact ho
 have hh:∀ (j:Nat) (h:j<zs.length),((zs.map iv++tl).drop j).head? = zg (.int .i64 zs[j]):=fun j h=>by simp[List.head?_drop,ql,h]
 have hml:zs.length<=(zs.map iv++tl).length:=by rw[zj,zf]; omega
 by_cases hlt:i+1<zs.length
 ·have c1:((i+1:Nat):Int)<zs.length:=om
  have c2:(0:Int)<=((i+1:Nat):Int):=om
  have c3:IntKind.i64.wrap (((i+1:Nat):Int)-1)=(i:Int):=by rw[wrap64 om om]; omega
  have c4:(0:Int)<=(i:Int):=om
  have c5:(i:Int)<zs.length:=om
  have w1:=ac2 (i:=i+1) om;have g1:=hh (i+1) hlt;have g2:=hh i om;have hle2:zs[i]=zs[i+1]\/R zs[i] zs[i+1]:=zr.1 hs i (i+1) om hlt om;by_cases e:zs[i+1]=zs[i]'om
  ·simp only[go_sem,c1,c2,c3,c4,c5,hot,g1,g2,e,zc,qb,qf,w1,gy1 (show i+1<=zs.length by omega)]
   refine ab2 noT (fun j fr t=>∃ (k:Nat) (cs:List IV) (D:List Int),fr=[(0,.slice id 0 zs.length 1),(3,.int .i64 (k:Int)),(4,.slice id (i+1) (zs.length-(i+1)) 1),(5,.int .i64 ((j+1:Nat):Int))] /\
    (σ.next<=t.next/\∀ q,q≠id->t.obj q=σ.obj q)/\t.obj id=zg (.row cs)/\zs.length<=cs.length/\k<=i+1+j/\i+1+j<zs.length/\D.length=k/\cs.take k=D.map iv/\D.Pairwise R/\(∀ x,x∈D↔x∈zs.take (i+1+j+1)) /\
    ∀ (q:Nat) (h:q<zs.length),k<=q->(cs.drop q).head? = zg (.int .i64 zs[q])) (zs.length-(i+1)) ?_ ?_
   ·refine ⟨i+1,zs.map iv++tl,zs.take (i+1),rfl,⟨by show σ.next<=t.next+10; omega,fun q _=>by rw[hob]⟩,hot,hml,om,om,by rw[zi]; omega,by rw[zl (by rw[zf]; omega),List.map_take],hpw,fun x=>?_,fun q h _=>hh q h⟩;exact cu2 (p:=i) hlt e x
   rintro j fr u hj ⟨k,cs,D,rfl,⟨un,uo⟩,hoc,hcl,hk1,hk2,hDl,hDt,hDp,hDm,hcs⟩;by_cases hl2:j+1<zs.length-(i+1)
   ·have d1:((j+1:Nat):Int)<(zs.length-(i+1):Nat):=om
    have d2:(0:Int)<=((j+1:Nat):Int):=om
    have d3:IntKind.i64.wrap (((j+1:Nat):Int)-1)=(j:Int):=by rw[wrap64 om om]; omega
    have d4:(0:Int)<=(j:Int):=om
    have d5:(j:Int)<(zs.length-(i+1):Nat):=om
    have d6:(0:Int)<=(k:Int):=om
    have d7:(k:Int)<zs.length:=om
    have d8:k+1<=cs.length:=om
    have w2:=ac2 (i:=j+1) om;have w3:=ac2 (i:=k) om;have f1:=hcs (i+1+(j+1)) om om;have f2:=hcs (i+1+j) om om;by_cases e2:zs[i+1+(j+1)]=zs[i+1+j]
    ·simp only[go_sem,d1,d2,d3,d4,d5,hoc,f1,f2,e2,zc,qb,qf,w2];exact ⟨om,k,cs,D,rfl,⟨om,uo⟩,rfl,hcl,om,om,hDl,hDt,hDp,fun x=>(hDm x).trans (cu2 (p:=i+1+j) om e2 x),hcs⟩
    ·simp only[go_sem,d1,d2,d3,d4,d5,d6,d7,d8,hoc,f1,f2,e2,zc,qb,qf,w2,w3];have hle3:zs[i+1+j]=zs[i+1+(j+1)]\/R zs[i+1+j] zs[i+1+(j+1)]:=zr.1 hs (i+1+j) (i+1+(j+1)) om om om;have hn:=cu1 (zs:=zs) (p:=i+1+j) om;have hR3:R zs[i+1+j] zs[i+1+(j+1)]:=hle3.elim (fun q=>absurd q.symm e2) fun q=>q
     have hlt3:∀ x∈D,R x zs[i+1+(j+1)]:=by
      intro x hx;obtain ⟨q,hq,rfl⟩:=z1.1 ((hDm x).1 hx);rw[zi] at hq;rw[qa];by_cases hqe:q=i+1+j
      ·subst hqe; exact hR3
      ·rcases zr.1 hs q (i+1+j) om om om with h|h
       ·rw[h]; exact hR3
       ·exact hT _ (ze _) _ (ze _) _ (ze _) h hR3
     have hb1:σ.next<=u.next+10:=om
     refine ⟨om,k+1,ay4 cs k [.int .i64 zs[i+1+(j+1)]],D++[zs[i+1+(j+1)]],rfl,⟨hb1,fun q hq=>by rw[if_neg hq]; exact uo q hq⟩,rfl,?_,om,om,by rw[zj,hDl]; rfl,?_,?_,fun x=>?_,fun q h hq=>?_⟩
     ·rw[ai2 (by rw[zh]; omega)]; exact hcl
     ·rw[dt7 om,hDt,qg]; rfl
     ·exact qo.2 ⟨hDp,by simp,fun a ha b hb=>by
       simp only[zd,zb,or_false] at hb;subst hb; exact hlt3 a ha⟩
     ·rw[List.mem_append,hDm x];refine Iff.trans ?_ (hn x).symm;simp only[zd,zb,or_false];exact Iff.rfl
     ·rw[dt8 om om];exact hcs q h om
   ·have d1:¬ ((j+1:Nat):Int)<(zs.length-(i+1):Nat):=om
    have hkn:k<zs.length:=om
    have hj':i+1+j+1=zs.length:=om
    rw[hj',qc] at hDm;simp only[go_sem,d1,gy1 (show k<=zs.length by omega),in2 (show k<=zs.length by omega),hoc,iy9,gy2 hoc hkn om];have hrl:(rep [IV.int .i64 0] (zs.length-k)).length=zs.length-k:=by rw[ar1]; simp
    refine ⟨⟨D,ay4 cs k (rep [IV.int .i64 0] (zs.length-k)),hDp,hDm,by rw[hDl],by simp only[aa5,if_true],by rw[hDl,df1 om]; exact hDt,?_⟩,un,fun q hq=>?_⟩
    ·rw[ai2 (by rw[hrl]; omega),hDl]; omega
    ·simp only[aa5,if_neg hq];exact uo q hq
  ·simp only[go_sem,c1,c2,c3,c4,c5,hot,g1,g2,e,zc,qb,qf,w1];refine ⟨om,⟨hob,by show σ.next<=_; omega⟩,om,?_⟩;rw[qu,zk hlt,qo];refine ⟨hpw,by simp,fun a ha b hb=>?_⟩;simp only[Option.toList,zd,zb,or_false] at hb;subst hb;obtain ⟨j,hj,rfl⟩:=z1.1 ha;rw[zi] at hj;rw[qa];have hR2:R zs[i] zs[i+1]:=hle2.elim (fun q=>absurd q.symm e) fun q=>q
   by_cases hji:j=i
   ·subst hji; exact hR2
   ·rcases zr.1 hs j i om om om with h|h
    ·rw[h]; exact hR2
    ·exact hT _ (ze _) _ (ze _) _ (ze _) h hR2
 ·have hi':i+1=zs.length:=om
  have c1:¬ ((i+1:Nat):Int)<zs.length:=om
  simp only[go_sem,c1];rw[hi',qc] at hpw;exact ⟨⟨zs,zs.map iv++tl,hpw,fun _=>Iff.rfl,rfl,hot,by rw[zl (by simp),zz (by simp)],by simp⟩,hnx,fun j _=>by rw[hob]⟩
abbrev Cmp:=ka5 (· < ·)
theorem gy3 {σ:Store}{id:Nat}{zs:List Int}(hz:zs.length<2^40)(ho:σ.obj id=zg (.row (zs.map iv)))(hs:zs.Pairwise (·<=·)) :
  C Tryz.prog EE 146 [.slice id 0 zs.length 1] σ (Cmp σ id zs):=
 gb3 (tl:=[]) (fun _ _ _ _ _ _ h h2=>Int.lt_trans h h2) hz (by rw[List.append_nil]; exact ho) (hs.imp fun h=>om)
end Go.Id.Tryz
namespace Go.Id.Tryz
open Go Go.Id Go.Proofs Go.Shelf
def kl8:Go.Shelf.Ren where
 f:=fun n=>(List.lookup n [(0,0),(1,1),(2,2),(99,180),(107,115),(108,182),(109,289),(110,282),(119,299),(122,202),(125,210),(128,257),(129,258),(137,178),(151,296),(152,298),(161,285),(189,145),(197,295),(206,232),(215,244),(216,254),(217,231),(224,300),(225,301),(227,291),(228,294),(231,290),(233,292),(235,293),(257,209),(260,297),(266,267),(294,248),(295,249),(296,250),(297,251),(298,252),(299,253),(300,255),(301,256),(328,276),(329,277),(330,278),(331,279),(332,280),(336,287),(343,288),(347,302),(348,303),(349,304),(350,305),(351,306),(352,307),(353,308),(354,309),(355,310),(356,311),(357,312),(358,313),(359,314),(360,315),(361,316),(366,319),(367,327)]).getD 0
 t:=fun n=>(List.lookup n [(0,0),(1,1),(2,2),(3,3),(4,4),(5,5),(7,7),(8,8),(9,9),(10,10),(11,11),(12,12),(13,13),(14,14),(15,15),(16,16),(17,17),(18,18),(20,20),(21,21),(22,210),(23,287),(27,178),(28,28),(29,103),(30,211),(31,59),(32,291),(33,284),(34,52),(35,188),(40,307),(41,119),(43,224),(45,42),(46,227),(47,226),(51,261),(52,260),(53,263),(54,262),(55,208),(63,301),(64,302),(80,309),(81,129),(102,204),(104,157),(105,299),(106,300),(111,94),(112,95),(114,308),(115,293),(116,294),(117,295),(118,296),(119,303),(122,292),(123,297),(124,298),(127,318),(131,110),(134,225),(137,304),(139,306),(164,324),(181,253),(182,254),(183,255),(184,256),(185,257),(186,258),(187,259),(214,242),(218,278),(219,279),(220,280),(221,281),(222,282),(223,283),(228,288),(229,289),(230,290),(238,310),(239,311),(240,312),(241,313),(242,314),(245,317),(248,321)]).getD 0
 g:=fun n=>n
theorem jo3:Lays.n189 Tryz.prog kl8 where
 mixed:=by kernel_rfl
 f125:=Tryz.func210.trans (congrArg zg (by kernel_rfl))
 f128:=Tryz.func257.trans (congrArg zg (by kernel_rfl))
 f129:=Tryz.func258.trans (congrArg zg (by kernel_rfl))
 f189:=Tryz.func145.trans (congrArg zg (by kernel_rfl))
 f215:=Tryz.func244.trans (congrArg zg (by kernel_rfl))
 f216:=Tryz.func254.trans (congrArg zg (by kernel_rfl))
 f257:=Tryz.func209.trans (congrArg zg (by kernel_rfl))
 f294:=Tryz.func248.trans (congrArg zg (by kernel_rfl))
 f295:=Tryz.func249.trans (congrArg zg (by kernel_rfl))
 f296:=Tryz.func250.trans (congrArg zg (by kernel_rfl))
 f297:=Tryz.func251.trans (congrArg zg (by kernel_rfl))
 f298:=Tryz.func252.trans (congrArg zg (by kernel_rfl))
 f299:=Tryz.func253.trans (congrArg zg (by kernel_rfl))
 f300:=Tryz.func255.trans (congrArg zg (by kernel_rfl))
 f301:=Tryz.func256.trans (congrArg zg (by kernel_rfl))
 f328:=Tryz.func276.trans (congrArg zg (by kernel_rfl))
 f329:=Tryz.func277.trans (congrArg zg (by kernel_rfl))
 f330:=Tryz.func278.trans (congrArg zg (by kernel_rfl))
 f331:=Tryz.func279.trans (congrArg zg (by kernel_rfl))
 f332:=Tryz.func280.trans (congrArg zg (by kernel_rfl))
 f343:=Tryz.func288.trans (congrArg zg (by kernel_rfl))
 t0:=by kernel_rfl
 a0:=Tryz.isAgg0
 z0:=fun _=>by kernel_rfl
 v0:=fun _=>by kernel_rfl
 t3:=by kernel_rfl
 a3:=Tryz.isAgg3
 z3:=fun _=>by kernel_rfl
 v3:=fun _=>by kernel_rfl
 t4:=by kernel_rfl
 a4:=Tryz.isAgg4
 z4:=fun _=>by kernel_rfl
 v4:=fun _=>by kernel_rfl
 t5:=by kernel_rfl
 a5:=Tryz.isAgg5
 z5:=fun _=>by kernel_rfl
 v5:=fun _=>by kernel_rfl
 t9:=by kernel_rfl
 a9:=Tryz.isAgg9
 z9:=fun _=>by kernel_rfl
 v9:=fun _=>by kernel_rfl
 t28:=by kernel_rfl
 a28:=Tryz.isAgg28
 z28:=fun _=>by kernel_rfl
 v28:=fun _=>by kernel_rfl
 t46:=by kernel_rfl
 a46:=Tryz.isAgg227
 z46:=fun _=>by kernel_rfl
 v46:=fun _=>by kernel_rfl
 t51:=by kernel_rfl
 a51:=Tryz.isAgg261
 z51:=fun _=>by kernel_rfl
 v51:=fun _=>by kernel_rfl
 t53:=by kernel_rfl
 a53:=Tryz.isAgg263
 z53:=fun _=>by kernel_rfl
 v53:=fun _=>by kernel_rfl
 t131:=by kernel_rfl
 a131:=Tryz.isAgg110
 z131:=fun _=>by kernel_rfl
 v131:=fun _=>by kernel_rfl
 t182:=by kernel_rfl
 a182:=Tryz.isAgg254
 z182:=fun _=>by kernel_rfl
 v182:=fun _=>by kernel_rfl
 t183:=by kernel_rfl
 a183:=Tryz.isAgg255
 z183:=fun _=>by kernel_rfl
 v183:=fun _=>by kernel_rfl
 t218:=by kernel_rfl
 a218:=Tryz.isAgg278
 z218:=fun _=>by kernel_rfl
 v218:=fun _=>by kernel_rfl
 t222:=by kernel_rfl
 a222:=Tryz.isAgg282
 z222:=fun _=>by kernel_rfl
 v222:=fun _=>by kernel_rfl
 t228:=by kernel_rfl
 a228:=Tryz.isAgg288
 z228:=fun _=>by kernel_rfl
 v228:=fun _=>by kernel_rfl
 t229:=by kernel_rfl
 a229:=Tryz.isAgg289
 z229:=fun _=>by kernel_rfl
 v229:=fun _=>by kernel_rfl
def iz1 (l:List Int):List Int:=l.mergeSort fun x y=>decide (x<=y)
theorem gb4 {σ:Store}{id:Nat}{zs:List Int}(hz:zs.length<4611686018427387904)(ho:σ.obj id=zg (.row (zs.map (IV.int .i64)))) :
  C Tryz.prog EE 145 [.slice id 0 zs.length 1] σ fun v s=>v=.tuple []/\s=σ.put id (.row ((iz1 zs).map (IV.int .i64))):=
 is1 (enc:=Value.int .i64) (en:=IV.int .i64) (srt:=iz1) (fun _ _ x=>.int _ _) (fun _ _ x r h=>by cases h; rfl) (fun l=>List.length_mergeSort l) (by unfold iz1; rw[List.mergeSort_nil])
  (fun blk off cap zs w h1 h2 h3=>Any.slices_Sort_int jo3 blk off cap zs w h1 h2 h3) (fun p cap w=>Any.slices_Sort_int_none jo3 p cap w) hz ho
end Go.Id.Tryz
namespace Go.Id.Tryz
open Go Go.Id Go.Proofs Go.Shelf Go.Id.Md
theorem gy4:∀ {a b:List Int},a.Pairwise (· < ·)->b.Pairwise (· < ·)->(∀ x,x∈a↔x∈b)->a=b:=by
 intro a
 induction a with
 | nil=>
  intro b _ _ h
  cases b with
  | nil=>rfl
  | cons y b=>exact absurd ((h y).2 (zy ..)) (by simp)
 | cons x a ih=>
  intro b ha hb h
  cases b with
  | nil=>exact absurd ((h x).1 (zy ..)) (by simp)
  | cons y b=>
   obtain ⟨a1,a2⟩:=qs.1 ha;obtain ⟨b1,b2⟩:=qs.1 hb
   have e:x=y:=by
    rcases zd.1 ((h x).1 (zy ..)) with e|e
    ·exact e
    ·have l1:=b1 x e;rcases zd.1 ((h y).2 (zy ..)) with e2|e2
     ·exact e2.symm
     ·have l2:=a1 y e2; omega
   subst e;rw[ih a2 b2 fun z=>?_];constructor
   ·intro hz;have l1:=a1 z hz;rcases zd.1 ((h z).1 (qp _ hz)) with e|e
    ·omega
    ·exact e
   ·intro hz;have l1:=b1 z hz;rcases zd.1 ((h z).2 (qp _ hz)) with e|e
    ·omega
    ·exact e
end Go.Id.Tryz
namespace Go.Id
open Go Go.Id
end Go.Id
namespace Go.Id.Tryz
open Go Go.Id Go.Proofs Go.Shelf Go.Id.Md
end Go.Id.Tryz
namespace Go.Id.Tryz
open Go Go.Id Go.Proofs Go.Id.Md
def mP (name:Str)(ax9 obs:List Dep)(files:List Str):aa3:={ name:=name,evr:=⟨0,[49],[49]⟩,ap9:=1,vendor:=[],provides:=ax9,requires:=[],conflicts:=[],aa7:=obs,ac6:=[],ac1:=[],suggests:=[],af4:=[],files:=files }
def dP (name:Str)(op:Int)(ver:Str):Dep:=⟨name,op,⟨0,ver,[]⟩⟩
def cP (name:Str)(ax9 obs files:IV):List IV:=[.str name,.int .i64 0,.str [49],.str [49],.int .u8 1,.str [],ax9,.aa1,.aa1,obs,.aa1,.aa1,.aa1,.aa1,files]
def mA:aa3:=mP [97] [] [] []
def mB:aa3:=mP [98] [dP [97] 2 [50]] [dP [97] 1 [50]] []
def mC:aa3:=mP [99] [] [] [[47,102]]
def mT:aa3:=mP [97] [dP [97] 2 [51],dP [97] 2 [52],dP [97] 0 []] [dP [97] 0 [],dP [98] 0 [],dP [98] 1 [57]] []
def mD:aa3:=mP [98] [] [] []
def cA:List IV:=cP [97] .aa1 .aa1 .aa1
def cB:List IV:=cP [98] (deps [dP [97] 2 [50]]) (deps [dP [97] 1 [50]]) .aa1
def cC:List IV:=cP [99] .aa1 .aa1 (strs [[47,102]])
def cT:List IV:=cP [97] (deps [dP [97] 2 [51],dP [97] 2 [52],dP [97] 0 []]) (deps [dP [97] 0 [],dP [98] 0 [],dP [98] 1 [57]]) .aa1
def cD:List IV:=cP [98] .aa1 .aa1 .aa1
theorem jo4 {name:Str}{ax9 obs:List Dep}{files:List Str}(h1:name.length<100)(h2:ax9.length<100)(h3:obs.length<100)(h4:files.length<100)(h5:(ax9++obs).all (fun d=>decide (d.name.length<100)&&decide (d.evr.ver.length<100)&&decide (d.evr.rel.length<100))=true)(h6:files.all (fun s=>decide (s.length<100))=true):(mP name ax9 obs files).Fit:=by
 have hd:∀ d∈ax9++obs,d.fit:=fun d hd=>by
  have:=List.all_eq_true.1 h5 d hd;simp only[zp,decide_eq_true_eq] at this;exact ⟨om,by show d.evr.ver.length<_; omega,by show d.evr.rel.length<_; omega⟩
 refine ⟨by show name.length<_; omega,⟨by show ([49]:Str).length<2^62; decide,by show ([49]:Str).length<2^62; decide⟩,⟨by show ax9.length<_; omega,fun d h=>hd d (List.mem_append_left _ h)⟩,⟨by show obs.length<_; omega,fun d h=>hd d (List.mem_append_right _ h)⟩,⟨by show files.length<_; omega,fun s h=>by have:=List.all_eq_true.1 h6 s h; simp only[decide_eq_true_eq] at this; omega⟩,fun x hx=>?_⟩;simp only[aa3.rows,mP,zd,zb,or_false] at hx;rcases hx with rfl|rfl|rfl|rfl|rfl|rfl<;>exact ⟨by decide,fun r h=>by cases h⟩
theorem df2:∀ p∈[mA,mB,mC,mT,mD],p.Fit:=by
 intro p hp;simp only[zd,zb,or_false] at hp;rcases hp with rfl|rfl|rfl|rfl|rfl<;>exact jo4 (by decide) (by decide) (by decide) (by decide) (by decide) (by decide)
def p1M:Pool:=⟨rowsOf [mA,mB,mC] (-1) 1025,3,[([97],[0]),([98],[1]),([99],[2])]⟩
def p2M:Pool:=⟨rowsOf [mB,mC] (-1) 1025++rowsOf [mA] 0 0++rowsOf [mT,mD] 1 0,2,[([98],[0,4]),([99],[1]),([97],[2,3])]⟩
theorem kl9:jj6 (by3 [] [mA,mB,mC])=.tuple [p1M.v,.int .i64 0]:=by kernel_rfl
theorem km1:jj6 (by3 [⟨0,[mA]⟩,⟨0,[mT,mD]⟩] [mB,mC])=.tuple [p2M.v,.int .i64 0]:=by kernel_rfl
def a1:List IV:=[.aa1,.aa4 [cA,cB,cC]]
def a2:List IV:=[.aa4 [[.int .i64 0,.aa4 [cA]],[.int .i64 0,.aa4 [cT,cD]]],.aa4 [cB,cC]]
theorem e1:PC Tryz.prog EE 25 a1 (.tuple [p1M.v,.int .i64 0]):=by
 rw[<- kl9];refine is3 (args':=[av8 [],au3 [mA,mB,mC]]) (by kernel_rfl) (cr7 [] [mA,mB,mC] (by decide) (by decide) (by decide) (fun r h=>by cases h) fun p hp=>df2 p ?_);simp only[zd,zb,or_false] at hp ⊢;rcases hp with h|h|h<;>simp[h]
theorem e2:PC Tryz.prog EE 25 a2 (.tuple [p2M.v,.int .i64 0]):=by
 rw[<- km1];refine is3 (args':=[av8 [⟨0,[mA]⟩,⟨0,[mT,mD]⟩],au3 [mB,mC]]) (by kernel_rfl) (cr7 _ _ (by decide) (by decide) (by decide) (fun r hr=>?_) fun p hp=>df2 p ?_)
 ·simp only[zd,zb,or_false] at hr;rcases hr with rfl|rfl
  ·exact ⟨by decide,fun p hp=>df2 p (by simp only[zd,zb,or_false] at hp ⊢; simp[hp])⟩
  ·exact ⟨by decide,fun p hp=>df2 p (by simp only[zd,zb,or_false] at hp ⊢; rcases hp with h|h<;>simp[h])⟩
 ·simp only[zd,zb,or_false] at hp ⊢;rcases hp with h|h<;>simp[h]
theorem fi9 {p:Pool}{l:List aa3}(h:p.rows.map (·.pkg)=l)(hl:∀ x∈l,x∈[mA,mB,mC,mT,mD]):(∀ r∈p.rows,r.pkg.Fit)/\∀ r∈p.rows,r.pkg.provides.length+r.pkg.files.length+r.pkg.aa7.length+3<=2^15:=by
 have hm:∀ r∈p.rows,r.pkg∈[mA,mB,mC,mT,mD]:=fun r hr=>hl _ (by rw[<- h]; exact List.mem_map_of_mem hr)
 refine ⟨fun r hr=>df2 _ (hm r hr),fun r hr=>?_⟩;have:=hm r hr;generalize r.pkg=x at this;simp only[zd,zb,or_false] at this;rcases this with rfl|rfl|rfl|rfl|rfl<;>decide
theorem e3:PC Tryz.prog EE 66 [p1M.v] (.tuple [(aj2 [mA,mB,mC]).v,.int .i64 0]):=by
 obtain ⟨h1,h2⟩:=fi9 (p:=p1M) (l:=[mA,mB,mC]) rfl (fun x hx=>by simp only[zd,zb,or_false] at hx ⊢; rcases hx with h|h|h<;>simp[h]);exact bo3 p1M h1 (by decide) h2
theorem e4:PC Tryz.prog EE 66 [p2M.v] (.tuple [(aj2 [mB,mC,mA,mT,mD]).v,.int .i64 0]):=by
 obtain ⟨h1,h2⟩:=fi9 (p:=p2M) (l:=[mB,mC,mA,mT,mD]) rfl (fun x hx=>by simp only[zd,zb,or_false] at hx ⊢; rcases hx with h|h|h|h|h<;>simp[h]);exact bo3 p2M h1 (by decide) h2
end Go.Id.Tryz
namespace Go.Id.Tryz
open Go Go.Id Go.Proofs Go.Id.Md
end Go.Id.Tryz
namespace Go.Id.Tryz
open Go Go.Id Go.Proofs Go.Id.Md
theorem aa9 {S:Nat->Prop}{s:Store}{a b:Bool}(h:a=b):Frz s S (.bool a) (.bool b):=h▸ab3 a
theorem bg4 {S:Nat->Prop}{s:Store}{k:IntKind}{a b:Int}(h:a=b):Frz s S (.int k a) (.int k b):=h▸.keep _ (.int _ _)
theorem cr9 (a:Int):PC Tryz.prog EE 58 [.int .u8 a] (.bool (bi9 a)):=by
 refine ad9 hE fok58 (nZ rfl) (ah9 (.int _ _)) ?_;simp only[ic58,go_sem];refine aa2 fok107 (bb9 a) ?_;unfold bi9
 cases al7 a with
 | false=>simp only[go_sem]; exact aa9 rfl
 | true=>
  by_cases h:a=1
  ·simp only[go_sem,h]; exact aa9 rfl
  ·simp only[go_sem,h]; exact aa9 (by simp[h])
theorem fj1 (a b:Int):PC Tryz.prog EE 185 [.int .u8 a,.int .u8 b] (.bool (ce5 a b)):=by
 refine ad9 hE fok185 (nZ rfl) (ag4 (.int _ _) (.int _ _)) ?_;have ha:=cr9 a;have hb:=cr9 b;simp only[ic185,go_sem];refine aa2 fok58 (ha) ?_;unfold ce5
 cases bi9 a with
 | false=>simp only[go_sem]; exact aa9 rfl
 | true=>
  simp only[go_sem];refine aa2 fok58 (hb) ?_
  cases bi9 b with
  | false=>simp only[go_sem]; exact aa9 rfl
  | true=>
   by_cases h:a=b
   ·simp only[go_sem,h]; exact aa9 (by simp)
   ·simp only[go_sem,h]; exact aa9 (by simp[h])
theorem gb5 (a b:Int):PC Tryz.prog EE 143 [.int .u8 a,.int .u8 b] (.bool (ay2 a b)):=by
 refine ad9 hE fok143 (nZ rfl) (ag4 (.int _ _) (.int _ _)) ?_;have ha:=bb9 a;have hb:=bb9 b;have hc:=fj1 a b;simp only[ic143,go_sem];refine aa2 fok107 (ha) ?_;unfold ay2
 cases al7 a with
 | false=>simp only[go_sem]; exact aa9 rfl
 | true=>
  simp only[go_sem];refine aa2 fok107 (hb) ?_
  cases al7 b with
  | false=>simp only[go_sem]; exact aa9 rfl
  | true=>
   simp only[go_sem];refine aa2 fok185 (hc) ?_;simp only[go_sem];exact aa9 (by simp)
def in3:List IV:=[.int .i64 0,.int .i64 0,.int .i64 0,.int .i64 0,.int .i64 0,.int .i64 0,.int .i64 0,.int .i64 0,.int .i64 0,.int .i64 0,.int .i64 0,.int .i64 2,.int .i64 1,.int .i64 3,.int .i64 0,.int .i64 0,.int .i64 2,.int .i64 0,.int .i64 1,.int .i64 0,.int .i64 0,.int .i64 2,.int .i64 0,.int .i64 0,.int .i64 1]
theorem gy5:PC Tryz.prog EE 268 [] (.agg in3):=by
 refine ad9 hE fok268 (nZ rfl) (fun a h=>by cases h) ?_;simp only[ic268,go_sem];exact .keep _ (az5 10 _ (by kernel_rfl))
theorem iz2 (m a:Int)(h1:al7 m=true)(h2:al7 a=true):PC Tryz.prog EE 233 [.int .u8 m,.int .u8 a] (.int .i64 (bb5 m a)):=by
 unfold al7 at h1 h2;simp only[zp,decide_eq_true_eq] at h1 h2;have hm:m=1\/m=2\/m=3\/m=4:=om
 have ha:a=1\/a=2\/a=3\/a=4:=om
 rcases hm with rfl|rfl|rfl|rfl<;>rcases ha with rfl|rfl|rfl|rfl
 all_goals
  refine ad9 hE fok233 (nZ rfl) (ag4 (.int _ _) (.int _ _)) ?_;simp only[ic233,go_sem];refine aa2 fok107 (bb9 _) ?_;simp only[go_sem,al7];refine aa2 fok107 (bb9 _) ?_;simp only[go_sem,al7];refine aa2 fok268 (gy5) ?_;simp only[go_sem,in3,List.drop_succ_cons,List.drop_zero,List.getElem?_cons_succ,List.getElem?_cons_zero];exact .keep _ (.int _ _)
theorem fj3 (m a:Int)(h:al7 m=false\/al7 a=false):bb5 m a=0:=by
 unfold al7 at h;simp only[Bool.and_eq_false_iff,decide_eq_false_iff_not] at h;unfold bb5
 repeat' split
 all_goals first|rfl|omega
theorem if5 (m a:Int):PC Tryz.prog EE 233 [.int .u8 m,.int .u8 a] (.int .i64 (bb5 m a)):=by
 have hm:=bb9 m;have ha:=bb9 a
 cases h1:al7 m with
 | false=>
  rw[fj3 m a (.inl h1)];refine ad9 hE fok233 (nZ rfl) (ag4 (.int _ _) (.int _ _)) ?_;rw[h1] at hm;simp only[ic233,go_sem];refine aa2 fok107 (hm) ?_;simp only[go_sem]
  exact bg4 rfl
 | true=>
  cases h2:al7 a with
  | false=>
   rw[fj3 m a (.inr h2)];refine ad9 hE fok233 (nZ rfl) (ag4 (.int _ _) (.int _ _)) ?_;rw[h1] at hm;rw[h2] at ha;simp only[ic233,go_sem];refine aa2 fok107 (hm) ?_;simp only[go_sem];refine aa2 fok107 (ha) ?_;simp only[go_sem]
   exact bg4 rfl
  | true=>exact iz2 m a h1 h2
theorem iz3 (m a:Int):PC Tryz.prog EE 184 [.int .u8 m,.int .u8 a] (.bool (hu7 m a)):=by
 refine ad9 hE fok184 (nZ rfl) (ag4 (.int _ _) (.int _ _)) ?_;have h:=if5 m a;simp only[ic184,go_sem];refine aa2 fok233 (h) ?_;simp only[go_sem];exact aa9 rfl
end Go.Id.Tryz
namespace Go.Id.Tryz
open Go Go.Id Go.Proofs Go.Id.Md
theorem gy6 {f:Nat}{args args':List IV}{σ:Store}{Q:IV->Store->Prop}(hl:args'.length=args.length)(ha:∀ i,i<args.length->Frz σ (fun _=>true=true) (args.getD i .undef) (args'.getD i .undef))(h:C Tryz.prog EE f args' σ Q):C Tryz.prog EE f args σ Q :=
 gm4 (S:=fun _=>true) hl ha h
theorem in4 (x:Index)(l:List Int)(hl:l.length<2^30)(k:Nat)(cap:List IV)(w:Int->Bool)(hok:okF Tryz.prog k=true)
  (hW:∀ n∈l,∃ m:Nat,n=m/\∃ h:m<x.all.length,PC Tryz.prog EE k (.agg x.all[m].cs::.int .i64 n::cap) (.bool (w n))) (σ:Store) :
  C Tryz.prog EE 135 [x.v,.aa4 (l.map Md.ae1),.func (.func k) [] cap] σ (dh3 σ (l.filter w)):=by
 have hx:x.v=.ab8 [.aa4 (x.all.map aa3.cs),.an9 (nmV x.ax9),.an9 (nmV x.names),.an9 (nmV x.over)]:=rfl;rw[hx];generalize IV.an9 (nmV x.ax9)=v1 at *;generalize IV.an9 (nmV x.names)=v2 at *;generalize IV.an9 (nmV x.over)=v3 at *;refine C_f fok135 (nZ rfl) ?_;simp only[ic135,go_sem];refine ab2 noT (fun i fr s=>∃ gv,fr=[(0,.ab8 [.aa4 (x.all.map aa3.cs),v1,v2,v3]),(2,.func (.func k) [] cap),(7,gv),(10,.aa4 (l.map Md.ae1)),(11,.int .i64 l.length),(12,.int .i64 i)]/\Kept σ s/\au7 s σ.next gv ((l.take i).filter w)) l.length ⟨.aa1,rfl,Kept.refl σ,.inl ⟨rfl,rfl⟩⟩ ?_;rintro i fr s hle ⟨gv,rfl,hk,hg⟩;by_cases hlt:i<l.length
 ·obtain ⟨n,hn,_,hdr,hget,htk⟩:=ac7 l i hlt;have c1:(i:Int)<l.length:=om
  have c2:(0:Int)<=i:=om
  have w1:=ac2 (i:=i) om;obtain ⟨m,rfl,hm,hpc⟩:=hW n hn;have c3:(m:Int)<x.all.length:=om
  have c4:(0:Int)<=m:=om
  have hgm:(x.all.map aa3.cs).getD m []=x.all[m].cs:=by simp[za,hm]
  simp only[go_sem,c1,c2,c3,c4,hget,Md.ae1,hgm,ag5,ag9,ad6,zc,zf];refine ed4 hok hpc ?_
  cases hw:w (m:Int) with
  | false=>
   simp only[go_sem,w1];have e:(l.take (i+1)).filter w=(l.take i).filter w:=by rw[htk,qt]; simp[hw]
   rw[e]
   exact ⟨hlt,gv,rfl,hk,hg⟩
  | true=>
   have hlen:((l.take i).filter w).length<=i:=by
    refine Nat.le_trans (qn _ _) ?_;rw[zi]; omega
   have hap:=gl3 (nid:=s.next) (hg.up 1) (m:Int) om;have e:(l.take (i+1)).filter w=(l.take i).filter w++[(m:Int)]:=by rw[htk,qt]; simp[hw]
   simp only[go_sem,hap,w1,e];have hz:=fc7 hk hg (m:Int) (a:=1) (nid:=s.next) (zm _) (qd _) rfl;exact ⟨hlt,_,rfl,hz.1,hz.2⟩
 ·have hi':i=l.length:=om
  subst hi';have c1:¬ (l.length:Int)<l.length:=om
  rw[qc] at hg;simp only[go_sem,c1];exact ⟨hk,hg⟩
end Go.Id.Tryz
namespace Go.Id.Tryz
open Go Go.Id Go.Proofs Go.Shelf Go.Id.Md
theorem ba3 (d:Job):d.cs.length=6:=rfl
theorem au4 (d:Job):d.cs.all IV.leaf=true:=rfl
theorem bd7 (d:Job):d.cs.take 6=d.cs:=rfl
theorem ap3 (d:bb4):d.cs.length=2:=rfl
theorem ak7 (d:bb4):d.cs.all IV.leaf=true:=rfl
theorem aq8 (d:bb4):d.cs.take 2=d.cs:=rfl
theorem gy7 (d:Job):∀ c∈d.cs,Bnd 0 c:=jx1 (.int _ _) (.str _) (.int _ _) (.int _ _) (.str _) (.str _)
theorem fj4 (d:bb4):∀ c∈d.cs,Bnd 0 c:=ag4 (.int _ _) (.int _ _)
theorem cg6 (l:List Job):Bnd 0 (az8 l):=.aa4 _ fun e he c hc=>by
 obtain ⟨d,_,rfl⟩:=zw.1 he; exact gy7 d c hc
theorem bg5 (l:List bb4):Bnd 0 (aq1 l):=.aa4 _ fun e he c hc=>by
 obtain ⟨d,_,rfl⟩:=zw.1 he; exact fj4 d c hc
theorem if6 (d:Job):Bnd 0 (.agg d.cs):=.agg _ (gy7 d)
theorem cg7 (d:bb4):Bnd 0 (.agg d.cs):=.agg _ (fj4 d)
theorem df3 (xs:List Int)(g:Nat)(first cap:List IV)(q:Int->Bool)(hn:xs.length<2^62)(hok:okF Tryz.prog g=true)
  (hq:∀ x∈xs,PC Tryz.prog EE g (first++[IV.int .i64 x]++cap) (.bool (q x))):PC Tryz.prog EE 134 [.aa4 (xs.map Md.ae1),.func (.func g) first cap] (.int .i64 (ai7 q xs 0)):=by
 refine bc1 fok134 (nZ rfl) fun σ=>?_
 simp only[ic134,go_sem];refine ab2 noT (fun i fr s=>s=σ/\fr=[(0,.aa4 (xs.map Md.ae1)),(1,.func (.func g) first cap),(7,.int .i64 xs.length),(8,.int .i64 i)]/\ai7 q xs 0=ai7 q (xs.drop i) i) xs.length ⟨rfl,rfl,rfl⟩ ?_;rintro i fr s hi ⟨rfl,rfl,hf⟩;by_cases hlt:i<xs.length
 ·obtain ⟨x,ha,_,hdr,hget,_⟩:=ac7 xs i hlt;have c1:(i:Int)<xs.length:=om
  have c2:(0:Int)<=i:=om
  have w1:=ac2 (i:=i) om;rw[hdr] at hf;simp only[go_sem,c1,c2,hget,Md.ae1];refine ao9 hok (es8 (hq x ha)) ?_;rintro v s ⟨rfl,rfl⟩;refine ⟨zm _,?_⟩
  cases hqe:q x with
  | true=>simp only[go_sem,hf,ai7,hqe,and_self]
  | false=>
   simp only[go_sem,w1];exact ⟨hlt,by rw[hf]; simp only[ai7,hqe,zt,if_false,zv,zu]⟩
 ·have hi':i=xs.length:=om
  subst hi';have c1:¬ (xs.length:Int)<xs.length:=om
  rw[zo] at hf;simp only[go_sem,c1,hf,ai7,and_self]
theorem bm2 (xs:List Int)(g:Nat)(first cap:List IV)(q:Int->Bool)(hn:xs.length<2^62)(hok:okF Tryz.prog g=true)
  (hq:∀ x∈xs,PC Tryz.prog EE g (first++[IV.int .i64 x]++cap) (.bool (q x))):PC Tryz.prog EE 84 [.aa4 (xs.map Md.ae1),.func (.func g) first cap] (.bool (xs.any q)):=by
 refine bc1 fok84 (nZ rfl) fun σ=>?_
 simp only[ic84,go_sem];refine aa2 fok134 (df3 xs g first cap q hn hok hq) ?_;simp only[go_sem,au2,and_self]
theorem gy8 (xs:List Job)(g:Nat)(first cap:List IV)(q:Job->Bool)(hn:xs.length<2^62)(hok:okF Tryz.prog g=true)
  (hq:∀ x∈xs,PC Tryz.prog EE g (first++[IV.agg (Job.cs x)]++cap) (.bool (q x))):PC Tryz.prog EE 108 [.aa4 (xs.map Job.cs),.func (.func g) first cap] (.int .i64 (ai7 q xs 0)):=by
 refine bc1 fok108 (nZ rfl) fun σ=>?_
 simp only[ic108,go_sem];refine ab2 noT (fun i fr s=>s=σ/\fr=[(0,.aa4 (xs.map Job.cs)),(1,.func (.func g) first cap),(7,.int .i64 xs.length),(8,.int .i64 i)]/\ai7 q xs 0=ai7 q (xs.drop i) i) xs.length ⟨rfl,rfl,rfl⟩ ?_;rintro i fr s hi ⟨rfl,rfl,hf⟩;by_cases hlt:i<xs.length
 ·obtain ⟨x,ha,_,hdr,hget,_⟩:=ac7 xs i hlt;have c1:(i:Int)<xs.length:=om
  have c2:(0:Int)<=i:=om
  have w1:=ac2 (i:=i) om;rw[hdr] at hf;simp only[go_sem,c1,c2,hget,ba3,bd7,au4];refine ao9 hok (es8 (hq x ha)) ?_;rintro v s ⟨rfl,rfl⟩;refine ⟨zm _,?_⟩
  cases hqe:q x with
  | true=>simp only[go_sem,hf,ai7,hqe,and_self]
  | false=>
   simp only[go_sem,w1];exact ⟨hlt,by rw[hf]; simp only[ai7,hqe,zt,if_false,zv,zu]⟩
 ·have hi':i=xs.length:=om
  subst hi';have c1:¬ (xs.length:Int)<xs.length:=om
  rw[zo] at hf;simp only[go_sem,c1,hf,ai7,and_self]
theorem gy9 (xs:List Job)(g:Nat)(first cap:List IV)(q:Job->Bool)(hn:xs.length<2^62)(hok:okF Tryz.prog g=true)
  (hq:∀ x∈xs,PC Tryz.prog EE g (first++[IV.agg (Job.cs x)]++cap) (.bool (q x))):PC Tryz.prog EE 59 [.aa4 (xs.map Job.cs),.func (.func g) first cap] (.bool (xs.any q)):=by
 refine bc1 fok59 (nZ rfl) fun σ=>?_
 simp only[ic59,go_sem];refine aa2 fok108 (gy8 xs g first cap q hn hok hq) ?_;simp only[go_sem,au2,and_self]
theorem gb6 (xs:List bb4)(g:Nat)(first cap:List IV)(q:bb4->Bool)(hn:xs.length<2^62)(hok:okF Tryz.prog g=true)
  (hq:∀ x∈xs,PC Tryz.prog EE g (first++[IV.agg (bb4.cs x)]++cap) (.bool (q x))):PC Tryz.prog EE 113 [.aa4 (xs.map bb4.cs),.func (.func g) first cap] (.int .i64 (ai7 q xs 0)):=by
 refine bc1 fok113 (nZ rfl) fun σ=>?_
 simp only[ic113,go_sem];refine ab2 noT (fun i fr s=>s=σ/\fr=[(0,.aa4 (xs.map bb4.cs)),(1,.func (.func g) first cap),(7,.int .i64 xs.length),(8,.int .i64 i)]/\ai7 q xs 0=ai7 q (xs.drop i) i) xs.length ⟨rfl,rfl,rfl⟩ ?_;rintro i fr s hi ⟨rfl,rfl,hf⟩;by_cases hlt:i<xs.length
 ·obtain ⟨x,ha,_,hdr,hget,_⟩:=ac7 xs i hlt;have c1:(i:Int)<xs.length:=om
  have c2:(0:Int)<=i:=om
  have w1:=ac2 (i:=i) om;rw[hdr] at hf;simp only[go_sem,c1,c2,hget,ap3,aq8,ak7];refine ao9 hok (es8 (hq x ha)) ?_;rintro v s ⟨rfl,rfl⟩;refine ⟨zm _,?_⟩
  cases hqe:q x with
  | true=>simp only[go_sem,hf,ai7,hqe,and_self]
  | false=>
   simp only[go_sem,w1];exact ⟨hlt,by rw[hf]; simp only[ai7,hqe,zt,if_false,zv,zu]⟩
 ·have hi':i=xs.length:=om
  subst hi';have c1:¬ (xs.length:Int)<xs.length:=om
  rw[zo] at hf;simp only[go_sem,c1,hf,ai7,and_self]
theorem gb7 (xs:List bb4)(g:Nat)(first cap:List IV)(q:bb4->Bool)(hn:xs.length<2^62)(hok:okF Tryz.prog g=true)
  (hq:∀ x∈xs,PC Tryz.prog EE g (first++[IV.agg (bb4.cs x)]++cap) (.bool (q x))):PC Tryz.prog EE 62 [.aa4 (xs.map bb4.cs),.func (.func g) first cap] (.bool (xs.any q)):=by
 refine bc1 fok62 (nZ rfl) fun σ=>?_
 simp only[ic62,go_sem];refine aa2 fok113 (gb6 xs g first cap q hn hok hq) ?_;simp only[go_sem,au2,and_self]
theorem iz4 {α:Type}[DecidableEq α](xs:List α)(n:α):xs.any (fun x=>decide (n=x))=decide (n∈xs):=by
 rw[Bool.eq_iff_iff]; simp
theorem in5 (a b:bb4):hf5 [1,1] true false (.agg a.cs) (.agg b.cs)=zg (.bool (decide (a=b))):=by
 have e:decide (a=b)=(decide (a.kind=b.kind)&&decide (a.n=b.n)):=by
  cases a; cases b; simp only[bb4.mk.injEq,Bool.decide_and]
 rw[e];unfold bb4.cs;simp only[ij2,ij4,ij3,go_sem,Option.map_some,js8,al5,Bool.xor_false,Bool.and_true]
theorem en2 (xs:List bb4)(n:bb4)(hn:xs.length<2^62):PC Tryz.prog EE 243 [aq1 xs,.agg n.cs] (.int .i64 (ai7 (fun x=>decide (n=x)) xs 0)):=by
 refine ad9 hE fok243 (nZ rfl) (ag4 (bg5 xs) (cg7 n)) ?_;simp only[ic243,go_sem,ak7];refine ab2 noT (fun i fr s=>fr=[(0,aq1 xs),(3,.ab8 n.cs),(7,.int .i64 xs.length),(8,.int .i64 i)]/\ai7 (fun x=>decide (n=x)) xs 0=ai7 (fun x=>decide (n=x)) (xs.drop i) i) xs.length ⟨rfl,rfl⟩ ?_;rintro i fr s hi ⟨rfl,hf⟩;by_cases hlt:i<xs.length
 ·obtain ⟨x,ha,_,hdr,hget,_⟩:=ac7 xs i hlt;have c1:(i:Int)<xs.length:=om
  have c2:(0:Int)<=i:=om
  have w1:=ac2 (i:=i) om;rw[hdr] at hf;by_cases e:n=x
  ·simp only[go_sem,c1,c2,hget,ap3,aq8,ak7,in5,e];subst e;exact bg4 (by rw[hf]; simp[ai7])
  ·simp only[go_sem,c1,c2,hget,ap3,aq8,ak7,in5,e,w1];exact ⟨hlt,by rw[hf]; simp only[ai7,e,decide_false,zt,if_false,zv,zu]⟩
 ·have hi':i=xs.length:=om
  subst hi';have c1:¬ (xs.length:Int)<xs.length:=om
  rw[zo] at hf;simp only[go_sem,c1];exact bg4 (by rw[hf]; rfl)
theorem gb8 (xs:List bb4)(n:bb4)(hn:xs.length<2^62):PC Tryz.prog EE 199 [aq1 xs,.agg n.cs] (.bool (decide (n∈xs))):=by
 refine ad9 hE fok199 (nZ rfl) (ag4 (bg5 xs) (cg7 n)) ?_;have h:=en2 xs n hn;have e:=au2 (fun x=>decide (n=x)) xs;rw[iz4] at e;simp only[ic199,go_sem,ap3,aq8,ak7];refine aa2 fok243 (h) ?_;simp only[go_sem,e];exact aa9 rfl
theorem ey8 (xs:List Job)(hn:xs.length<=2147483648):PC Tryz.prog EE 116 [.aa4 (xs.map Job.cs)] (.aa4 (xs.map Job.cs)):=by
 cases hx:xs with
 | nil=>
  rw[List.map_nil];refine bq5 ?_ ?_
  ·refine ad9 hE fok116 (nZ rfl) (af1 .aa1) ?_;simp only[ic116,go_sem,aj6];exact .by5
  ·refine ad9 hE fok116 (nZ rfl) (af1 .ag8) ?_;simp only[ic116,go_sem,aj6];rw[bg8 (by simp only[aa5,if_true]) rfl];simp only[go_sem]
   exact .di9 _ _ _ (by simp only[aa5,if_true]; exact fun h=>(by cases h))
 | cons a as'=>
  have hne:xs.map Job.cs≠[]:=by rw[hx]; exact fun h=>(by cases h)
  have hall:∀ e∈xs.map Job.cs,e.length=6/\e.all IV.leaf=true:=fun e he=>by
   obtain ⟨x,_,rfl⟩:=zw.1 he;exact ⟨ba3 x,au4 x⟩
  rw[<- hx];refine ad9 hE fok116 (nZ rfl) (af1 (cg6 xs)) ?_;have hnil:∀ d,by9 (.slice d) (.aa4 (xs.map Job.cs))=zg false:=fun d=>by rw[hx]; rfl
  simp only[ic116,go_sem,aj6,hnil];rw[bz8 (by simp only[aa5,if_true]) hne hall (by rw[zf]; exact hn)];simp only[go_sem];refine Grow.frz (esz:=6) (es:=xs.map Job.cs) (.inr ⟨1,by rw[zf],by simp only[aa5,if_true],qd _⟩) (fun x hx=>(hall x hx).1) (fun _ _=>qh _) (al3 (cg6 xs))
theorem en3 (xs:List bb4)(hn:xs.length<=2147483648):PC Tryz.prog EE 117 [.aa4 (xs.map bb4.cs)] (.aa4 (xs.map bb4.cs)):=by
 cases hx:xs with
 | nil=>
  rw[List.map_nil];refine bq5 ?_ ?_
  ·refine ad9 hE fok117 (nZ rfl) (af1 .aa1) ?_;simp only[ic117,go_sem,aj6];exact .by5
  ·refine ad9 hE fok117 (nZ rfl) (af1 .ag8) ?_;simp only[ic117,go_sem,aj6];rw[bg8 (by simp only[aa5,if_true]) rfl];simp only[go_sem]
   exact .di9 _ _ _ (by simp only[aa5,if_true]; exact fun h=>(by cases h))
 | cons a as'=>
  have hne:xs.map bb4.cs≠[]:=by rw[hx]; exact fun h=>(by cases h)
  have hall:∀ e∈xs.map bb4.cs,e.length=2/\e.all IV.leaf=true:=fun e he=>by
   obtain ⟨x,_,rfl⟩:=zw.1 he;exact ⟨ap3 x,ak7 x⟩
  rw[<- hx];refine ad9 hE fok117 (nZ rfl) (af1 (bg5 xs)) ?_;have hnil:∀ d,by9 (.slice d) (.aa4 (xs.map bb4.cs))=zg false:=fun d=>by rw[hx]; rfl
  simp only[ic117,go_sem,aj6,hnil];rw[bz8 (by simp only[aa5,if_true]) hne hall (by rw[zf]; exact hn)];simp only[go_sem];refine Grow.frz (esz:=2) (es:=xs.map bb4.cs) (.inr ⟨1,by rw[zf],by simp only[aa5,if_true],qd _⟩) (fun x hx=>(hall x hx).1) (fun _ _=>qh _) (al3 (bg5 xs))
end Go.Id.Tryz
namespace Go.Id.Tryz
open Go Go.Id Go.Proofs Go.Shelf Go.Id.Md
structure AOK (a:ab4):Prop where
 len:a.l.length<=256
 small:∀ p∈a.l,Pkg.small p
 fit:∀ p∈a.l,p.Fit
 tiny:∀ p∈a.l,p.Tiny
 inst:a.p.inst<=a.l.length
 ag6:a.r.ag6.length<=64
 ah6:a.r.ah6.length<=128
 im2:∀ j∈a.r.ag6,Dep.small j.dep
 jo5:∀ j∈a.r.ag6,1<=j.kind/\j.kind<=4
theorem ai6 (a:ab4):Bnd 0 a.v:=.ab8 _ fun c hc=>by
 simp only[ab4.cs,zd,zb,or_false] at hc;rcases hc with rfl|rfl|rfl|rfl|rfl|rfl|rfl|rfl
 ·exact bi1 _
 ·exact bg2 _
 ·exact .int _ _
 ·exact .bool _
 ·exact cg6 _
 ·exact bg5 _
 ·exact .int _ _
 ·exact aq4 _
theorem ac4 {d:TypeId}{c:IV}{cs:List IV}:by9 (.pointer d) (.ab8 (c::cs))=zg false:=rfl
theorem cy9 (a:ab4)(n:Int):PC Tryz.prog EE 183 [a.v,.int .i64 n] (.bool (a.is n)):=by
 refine ad9 hE fok183 (nZ rfl) (ag4 (ai6 a) (.int _ _)) ?_;unfold ab4.is ab4.v ab4.cs;have hl:(a.l.map aa3.cs).length=a.l.length:=zf ..;generalize a.l.map aa3.cs=es at *;generalize a.l.length=k at *;by_cases h1:0<=n
 ·by_cases h2:n<(k:Nat)
  ·simp only[ic183,go_sem,ac4,h1,h2,hl]; exact aa9 rfl
  ·simp only[ic183,go_sem,ac4,h1,h2,hl]; exact aa9 rfl
 ·simp only[ic183,go_sem,ac4,h1]; exact aa9 rfl
theorem df4 (a:ab4)(n:Int):PC Tryz.prog EE 147 [a.v,.int .i64 n] (.bool (a.job n)):=by
 refine ad9 hE fok147 (nZ rfl) (ag4 (ai6 a) (.int _ _)) ?_;unfold ab4.job ab4.v ab4.cs;by_cases h1:0<=n
 ·by_cases h2:n<(a.r.ag6.length:Nat)
  ·simp only[ic147,go_sem,ac4,h1,h2]; exact aa9 (by simp[h1, *])
  ·simp only[ic147,go_sem,ac4,h1,h2]; exact aa9 (by simp[h1, *])
 ·simp only[ic147,go_sem,ac4,h1]; exact aa9 rfl
theorem bm3 (a:ab4)(n:Int):PC Tryz.prog EE 138 [a.v,.int .i64 n] (.bool (a.inst n)):=by
 refine ad9 hE fok138 (nZ rfl) (ag4 (ai6 a) (.int _ _)) ?_;have h:=cy9 a n;have hp:=bc4 a.p;unfold ab4.inst;unfold ab4.v ab4.cs at *;simp only[ic138,go_sem];refine aa2 fok183 (h) ?_
 cases a.is n with
 | false=>simp only[go_sem]; exact aa9 rfl
 | true=>
  simp only[go_sem]
  first|refine aa2 fok65 (hp) ?_|refine aa8 (hp) ?_
  simp only[go_sem];exact aa9 rfl
theorem dt9 (a:ab4)(n:Int):PC Tryz.prog EE 120 [a.v,.int .i64 n] (.bool (a.fits n)):=by
 refine ad9 hE fok120 (nZ rfl) (ag4 (ai6 a) (.int _ _)) ?_;have h:=cy9 a n;have hf:=iz3 a.r.ap9 (a.pk n).ap9;unfold ab4.fits
 cases hi:a.is n with
 | false=>
  rw[hi] at h;unfold ab4.v ab4.cs at *;simp only[ic120,go_sem];refine aa2 fok183 (h) ?_
  simp only[go_sem]; exact aa9 rfl
 | true=>
  rw[hi] at h;unfold ab4.is at hi;simp only[zp,decide_eq_true_eq] at hi;have hl:(a.l.map aa3.cs).length=a.l.length:=zf ..;have c1:n.toNat<a.l.length:=om
  have hg:(a.l.map aa3.cs).getD n.toNat []=(a.pk n).cs:=by
   unfold ab4.pk;rw[getD_at _ _ c1];simp[za,c1]
  have p4:((a.pk n).cs.drop 4).head? = zg (.int .u8 (a.pk n).ap9):=rfl;unfold ab4.v ab4.cs at *;generalize a.pk n=q at *;generalize a.l.map aa3.cs=es at *;have c2:n<(es.length:Nat):=om
  simp only[ic120,go_sem];refine aa2 fok183 (h) ?_;simp only[go_sem,hi.1,c2,hg,p4,ag5];refine aa2 fok184 (hf) ?_;simp only[go_sem];exact aa9 rfl
theorem bi5 (a:ab4)(k n:Int)(hA:AOK a):PC Tryz.prog EE 139 [a.v,.int .u8 k,.int .i64 n] (.bool (a.bc7 k n)):=by
 refine ad9 hE fok139 (nZ rfl) (as5 (ai6 a) (.int _ _) (.int _ _)) ?_;have h:=gb8 a.r.ah6 ⟨k,n⟩ (by have:=hA.ah6; omega);unfold ab4.bc7;unfold ab4.v ab4.cs;unfold bb4.cs at h;simp only[ic139,go_sem];refine aa2 fok199 (h) ?_;simp only[go_sem];exact aa9 rfl
theorem cg8 (a:ab4)(n:Int)(hA:AOK a):PC Tryz.prog EE 125 [a.v,.int .i64 n] (.bool (a.dropped n)):=by
 refine ad9 hE fok125 (nZ rfl) (ag4 (ai6 a) (.int _ _)) ?_;have h:=df4 a n;have h2:=bi5 a 1 n hA;unfold ab4.dropped;simp only[ic125,go_sem];refine aa2 fok147 (h) ?_
 cases a.job n with
 | false=>simp only[go_sem]; exact aa9 rfl
 | true=>
  simp only[go_sem];refine aa2 fok139 (h2) ?_;simp only[go_sem];exact aa9 rfl
theorem if7 (a:ab4){n:Int}(h:a.is n=true):0<=n/\n<(a.l.map aa3.cs).length/\(a.l.map aa3.cs).getD n.toNat []=(a.pk n).cs/\a.pk n∈a.l:=by
 unfold ab4.is at h;simp only[zp,decide_eq_true_eq] at h;have c1:n.toNat<a.l.length:=om
 refine ⟨h.1,by rw[zf]; exact h.2,?_,?_⟩
 ·unfold ab4.pk;rw[getD_at _ _ c1];simp[za,c1]
 ·unfold ab4.pk;rw[getD_at _ _ c1];exact ze c1
theorem cz1 (p:aa3):(p.cs.drop 1).length=14:=rfl
theorem ey9 (a:ab4)(n m:Int)(hA:AOK a):PC Tryz.prog EE 122 [a.v,.int .i64 n,.int .i64 m] (.bool (a.twins n m)):=by
 refine ad9 hE fok122 (nZ rfl) (as5 (ai6 a) (.int _ _) (.int _ _)) ?_;have hn:=cy9 a n;have hm:=cy9 a m;unfold ab4.twins
 cases i1:a.is n with
 | false=>
  rw[i1] at hn;unfold ab4.v ab4.cs at *;simp only[ic122,go_sem];refine aa2 fok183 (hn) ?_
  simp only[go_sem]; exact aa9 rfl
 | true=>
 cases i2:a.is m with
 | false=>
  rw[i1] at hn;rw[i2] at hm;unfold ab4.v ab4.cs at *;simp only[ic122,go_sem];refine aa2 fok183 (hn) ?_;simp only[go_sem];refine aa2 fok183 (hm) ?_
  simp only[go_sem]; exact aa9 rfl
 | true=>
 obtain ⟨n1,n2,n3,n4⟩:=if7 a i1;obtain ⟨m1,m2,m3,m4⟩:=if7 a i2;rw[i1] at hn;rw[i2] at hm;have hap:=fj1 (a.pk n).ap9 (a.pk m).ap9;have hev:=bo4 (a.pk n).evr (a.pk m).evr (hA.small _ n4).1 (hA.small _ m4).1;unfold ab4.fe6;unfold ab4.v ab4.cs at *;generalize a.pk n=p at *;generalize a.pk m=q at *;generalize a.l.map aa3.cs=es at *;by_cases e:n=m
 ·simp only[ic122,go_sem];refine aa2 fok183 (hn) ?_;simp only[go_sem];refine aa2 fok183 (hm) ?_;simp only[go_sem,e]; exact aa9 (by simp)
 have p0:p.cs.head? = zg (.str p.name):=rfl;have q0:q.cs.head? = zg (.str q.name):=rfl;have p4:(p.cs.drop 4).head? = zg (.int .u8 p.ap9):=rfl;have q4:(q.cs.drop 4).head? = zg (.int .u8 q.ap9):=rfl;have p1:(p.cs.drop 1).take 3=p.evr.cs:=rfl;have q1:(q.cs.drop 1).take 3=q.evr.cs:=rfl;simp only[ic122,go_sem];refine aa2 fok183 (hn) ?_;simp only[go_sem];refine aa2 fok183 (hm) ?_;simp only[go_sem,e,n1,n2,n3,m1,m2,m3,ag5,ag9,ad6,p0,q0];by_cases e2:p.name=q.name
 ·simp only[go_sem,e2,p4,q4];refine aa2 fok185 (hap) ?_
  cases ce5 p.ap9 q.ap9 with
  | false=>simp only[go_sem]; exact aa9 rfl
  | true=>
   simp only[go_sem,ag5,p1,q1,cz1];refine aa2 fok142 (hev) ?_;simp only[go_sem];exact aa9 (by simp)
 ·simp only[go_sem,e2];exact aa9 (by simp)
theorem cz2 (j:Job):(j.cs.drop 1).take 5=j.dep.cs:=rfl
theorem df5 (a:ab4)(k n:Int)(hA:AOK a):PC Tryz.prog EE 140 [a.v,.int .u8 k,.int .i64 n] (.bool (a.az9 k n)):=by
 refine ad9 hE fok140 (nZ rfl) (as5 (ai6 a) (.int _ _) (.int _ _)) ?_;have hD:∀ i:Nat,i<a.r.ag6.length->PC Tryz.prog EE 125 [a.v,.int .i64 i] (.bool (a.dropped i)):=fun i _=>cg8 a i hA
 have hN:∀ (i:Nat) (h:i<a.r.ag6.length),PC Tryz.prog EE 86 [(aj2 a.l).v,.agg (a.jb i).dep.cs] (.aa4 ((am3 a.l (a.jb i).dep).map Md.ae1)):=fun i h=>
  cb1 a.l (a.jb i).dep (by have:=hA.len; omega) hA.small (hA.im2 _ (by
   have e:a.jb i=a.r.ag6[i]:=by simp[ab4.jb,za,h]
   rw[e]; exact ze h))
 have hH:∀ i:Nat,PC Tryz.prog EE 115 [.aa4 ((am3 a.l (a.jb i).dep).map Md.ae1),.int .i64 n] (.bool (decide (n∈am3 a.l (a.jb i).dep))):=fun i=>
  cg1 _ n (by have h1:=aj3 (fun p=>named p (a.jb i).dep) a.l; have:=hA.len; have:(am3 a.l (a.jb i).dep).length<=a.l.length:=h1; omega)
 have hg:∀ i:Nat,i<a.r.ag6.length->(a.r.ag6.map Job.cs).getD i []=(a.jb i).cs:=fun i h=>by simp[ab4.jb,za,h]
 have hlen:=hA.ag6;unfold ab4.az9;unfold ab4.v ab4.cs at *;simp only[ic140,go_sem];generalize a.dropped=dr at *;generalize a.jb=jb at *;generalize am3 a.l=nm at *;refine ab2 noT (fun i fr s=>fr=[(0,.ab8 [a.p.v,(aj2 a.l).v,.int .u8 a.r.ap9,.bool a.r.vendor,az8 a.r.ag6,aq1 a.r.ah6,.int .i64 a.r.budget,.aa4 (a.l.map aa3.cs)]),(1,.int .u8 k),(2,.int .i64 n),(13,.aa4 (a.r.ag6.map Job.cs)),(14,.int .i64 a.r.ag6.length),(15,.int .i64 (i:Int))]/\((qr i).any fun i=>decide ((jb i).kind=k)&&!dr i&&decide (n∈nm (jb i).dep))=false) a.r.ag6.length ⟨rfl,rfl⟩ ?_;rintro i fr t hi ⟨rfl,hf⟩;by_cases hlt:i<a.r.ag6.length
 ·have c1:(i:Int)<a.r.ag6.length:=om
  have c2:(0:Int)<=i:=om
  have w1:=ac2 (i:=i) om;have hgi:=hg i hlt;have hDi:=hD i hlt;have hNi:=hN i hlt;have hHi:=hH i
  have hex:∀ b,(decide ((jb i).kind=k)&&!dr i&&decide (n∈nm (jb i).dep))=b->(b=true->((qr a.r.ag6.length).any fun i=>decide ((jb i).kind=k)&&!dr i&&decide (n∈nm (jb i).dep))=true)/\(b=false->((qr i++[i]).any fun i=>decide ((jb i).kind=k)&&!dr i&&decide (n∈nm (jb i).dep))=false):=by
   intro b hb;refine ⟨fun h=>List.any_eq_true.2 ⟨i,List.mem_range.2 hlt,by rw[hb]; exact h⟩,fun h=>?_⟩;rw[List.any_append,hf];simp only[List.any_cons,List.any_nil,Bool.or_false,Bool.false_or,hb,h]
  clear hD hN hH hg;have j0:(jb i).cs.head? = zg (.int .u8 (jb i).kind):=rfl;have j1:=cz2 (jb i);have j2:((jb i).cs.drop 1).length=5:=rfl;generalize jb i=j at *;simp only[go_sem,c1,c2,hgi,ba3,bd7,au4,j0];by_cases e1:j.kind=k
  ·simp only[go_sem,e1]
   first|refine aa2 fok125 (hDi) ?_|refine aa8 (hDi) ?_
   cases e2:dr (i:Int) with
   | true=>
    simp only[go_sem,w1]
    exact ⟨hlt,(hex _ rfl).2 (by simp[e2])⟩
   | false=>
    simp only[go_sem,j1,j2]
    first|refine aa2 fok86 (hNi) ?_|refine aa8 (hNi) ?_
    simp only[go_sem]
    first|refine aa2 fok115 (hHi) ?_|refine aa8 (hHi) ?_
    by_cases e3:n∈nm j.dep
    ·simp only[go_sem,e3];exact aa9 ((hex _ rfl).1 (by simp[e1,e2,e3])).symm
    ·simp only[go_sem,e3,w1];exact ⟨hlt,(hex _ rfl).2 (by simp[e3])⟩
  ·simp only[go_sem,e1,w1];exact ⟨hlt,(hex _ rfl).2 (by simp[e1])⟩
 ·have hi':i=a.r.ag6.length:=om
  subst hi';have c1:¬ (a.r.ag6.length:Int)<(a.r.ag6.length:Int):=om
  simp only[go_sem,c1];exact aa9 hf.symm
theorem gb9 (a:ab4)(n:Int)(hA:AOK a):PC Tryz.prog EE 123 [a.v,.int .i64 n] (.bool (a.goes n)):=by
 refine ad9 hE fok123 (nZ rfl) (ag4 (ai6 a) (.int _ _)) ?_;have h:=bm3 a n;have h2:=df5 a 2 n hA;have h3:=bi5 a 2 n hA;unfold ab4.goes;simp only[ic123,go_sem];refine aa2 fok138 (h) ?_
 cases a.inst n with
 | false=>simp only[go_sem]; exact aa9 rfl
 | true=>
  simp only[go_sem];refine aa2 fok140 (h2) ?_
  cases a.az9 2 n with
  | true=>simp only[go_sem]; exact aa9 rfl
  | false=>
   simp only[go_sem];refine aa2 fok139 (h3) ?_;simp only[go_sem];exact aa9 rfl
end Go.Id.Tryz
namespace Go.Id.Tryz
open Go Go.Id Go.Proofs Go.Id.Md
def el1 (a b:Part):Bool:=decide (af9 a b=-1)
theorem ew2 {a b:Int}:at5 a b=-1↔a<b:=by
 unfold at5;by_cases h:a<b
 ·simp[h]
 ·rw[if_neg h]; split<;>simp[h]
theorem iw3 {a b:Str}:cp9 a b=-1↔Op.bytesLess a b=true:=by
 unfold cp9
 cases h:Op.bytesLess a b with
 | true=>simp
 | false=>
  simp only[zt,if_false];split<;>simp
theorem hz8 (a b:Part):el1 a b=if a.kind≠b.kind then decide (a.kind<b.kind) else if a.kind=5/\a.s.length≠b.s.length then decide (a.s.length<b.s.length) else Op.bytesLess a.s b.s:=by
 unfold el1;have hp:af9 a b=if at5 a.kind b.kind≠0 then at5 a.kind b.kind else if (if a.kind=5/\b.kind=5 then at5 a.s.length b.s.length else 0)≠0 then (if a.kind=5/\b.kind=5 then at5 a.s.length b.s.length else 0) else cp9 a.s b.s:=rfl
 rw[hp];have key:∀ (x:Int) (p:Prop) [Decidable p] ,(x=-1↔p)->decide (x=-1)=decide p:=fun x p _ h=>decide_eq_decide.2 h
 have hS:decide (cp9 a.s b.s=-1)=Op.bytesLess a.s b.s:=by
  rw[key _ _ iw3]; simp
 by_cases hk:a.kind=b.kind
 ·have e0:at5 a.kind b.kind=0:=bf4.2 om;have q0:¬ (a.kind≠b.kind):=fun h=>h hk
  have q1:¬ (at5 (a.kind:Int) (b.kind:Int)≠0):=fun h=>h e0
  rw[if_neg q1,if_neg q0];by_cases h5:a.kind=5
  ·have q2:a.kind=5/\b.kind=5:=⟨h5,om⟩;simp only[if_pos q2];by_cases hl:a.s.length=b.s.length
   ·have e1:at5 a.s.length b.s.length=0:=bf4.2 om;have q3:¬ (at5 (a.s.length:Int) (b.s.length:Int)≠0):=fun h=>h e1
    have q4:¬ (a.kind=5/\a.s.length≠b.s.length):=fun h=>h.2 hl
    rw[if_neg q3,if_neg q4,hS]
   ·have e1:at5 (a.s.length:Int) (b.s.length:Int)≠0:=fun h=>hl (by have:=bf4.1 h; omega)
    have q4:a.kind=5/\a.s.length≠b.s.length:=⟨h5,hl⟩;rw[if_pos e1,if_pos q4,key _ _ ew2];exact decide_eq_decide.2 om
  ·have q2:¬ (a.kind=5/\b.kind=5):=fun h=>h5 h.1
   have q3:¬ ((0:Int)≠0):=fun h=>h rfl
   have q4:¬ (a.kind=5/\a.s.length≠b.s.length):=fun h=>h5 h.1
   simp only[if_neg q2];rw[if_neg q3,if_neg q4,hS]
 ·have e0:at5 (a.kind:Int) (b.kind:Int)≠0:=fun h=>hk (by have:=bf4.1 h; omega)
  have q0:a.kind≠b.kind:=hk;rw[if_pos e0,if_pos q0,key _ _ ew2];exact decide_eq_decide.2 om
theorem hz9 (p:Part):(Part.cs p).length=2:=rfl
theorem bs3 (p:Part):(Part.cs p).all IV.leaf=true:=rfl
theorem gr6 (p:Part):(Part.cs p).take 2=Part.cs p:=rfl
theorem fg6 (p:Part):(Part.cs p).head? = zg (.int .u8 p.kind):=rfl
theorem gr7 (p:Part):((Part.cs p).drop 1).head? = zg (.str p.s):=rfl
theorem cf1 (p:Part):Bnd 0 (.agg (Part.cs p)):=.agg _ (fi2 p)
theorem el3 (a b:Part)(ha:a.s.length<2^62)(hb:b.s.length<2^62):PC Tryz.prog EE 187 [.agg (Part.cs a),.agg (Part.cs b)] (.bool (el1 a b)):=by
 refine ad9 hE fok187 (nZ rfl) (ag4 (cf1 a) (cf1 b)) ?_;rw[hz8];by_cases hk:a.kind=b.kind
 case neg=>
  have e:¬ (a.kind:Int)=b.kind:=om
  have e2:decide (a.kind<b.kind)=decide ((a.kind:Int)<b.kind):=by simp
  rw[if_pos hk,e2];simp only[ic187,go_sem,bs3,fg6,e];exact aa9 rfl
 have e:(a.kind:Int)=b.kind:=om
 rw[if_neg (by simpa using hk)];by_cases h5:a.kind=5
 ·have e5:(b.kind:Int)=5:=om
  by_cases hl:a.s.length=b.s.length
  ·rw[if_neg (fun h=>h.2 hl)];have el:(a.s.length:Int)=b.s.length:=om
   simp only[ic187,go_sem,bs3,fg6,gr7,e,e5,el];exact aa9 rfl
  ·rw[if_pos ⟨h5,hl⟩];have el:¬ (a.s.length:Int)=b.s.length:=om
   have e2:decide (a.s.length<b.s.length)=decide ((a.s.length:Int)<b.s.length):=by simp
   rw[e2];simp only[ic187,go_sem,bs3,fg6,gr7,e,e5,el];exact aa9 rfl
 ·have e5:¬ (b.kind:Int)=5:=om
  rw[if_neg (fun h=>h5 h.1)];simp only[ic187,go_sem,bs3,fg6,gr7,e,e5];exact aa9 rfl
def atP (l:List Part)(i:Nat):Part:=l.getD i dg3
theorem il7 (l:List Part)(i:Nat):PC Tryz.prog EE 188 [.aa4 (l.map Part.cs),.int .i64 i] (.agg (Part.cs (atP l i))):=by
 refine ad9 hE fok188 (nZ rfl) (ag4 (em5 l) (.int _ _)) ?_;unfold atP;by_cases h:i<l.length
 ·have c1:¬ (l.length:Int)<=i:=om
  have c2:(i:Int)<l.length:=om
  have c3:(0:Int)<=(i:Int):=om
  have g:=gw8 l i h;have e:l.getD i dg3=l[i]:=by simp[za,h]
  rw[e];simp only[ic188,go_sem,c1,c2,c3,g,hz9,bs3,gr6];exact .keep _ (cf1 _)
 ·have c1:(l.length:Int)<=i:=om
  have e:l.getD i dg3=dg3:=by simp[za,zq (qe h)]
  rw[e];simp only[ic188,go_sem,c1];exact .keep _ (cf1 dg3)
theorem jm8 (s:Str)(i:Nat)(h:i<=(ab9 s).length):(vL s)[i]? = zg (atP (ab9 s) i):=by
 unfold atP;by_cases hl:i<(ab9 s).length
 ·rw[ql hl,zk hl]; simp[za,hl]
 ·have:i=(ab9 s).length:=om
  subst this;rw[List.getElem?_append_right (zm _),Nat.sub_self];simp[za]
theorem de2 (a b:Str)(ha:a.length<2^30)(hb:b.length<2^30):PC Tryz.prog EE 127 [.str a,.str b] (.int .i64 (aq6 a b)):=by
 refine ad9 hE fok127 (nZ rfl) (ag4 (.str _) (.str _)) ?_;have la:=bm1 a;have lb:=bm1 b;have pa:=em6 a ha;have pb:=em6 b hb;have na:=br6 a;have nb:=br6 b;simp only[ic127,go_sem];refine aa2 fok186 (pa) ?_;simp only[go_sem];refine aa2 fok186 (pb) ?_;simp only[go_sem];refine ab2 noT (fun i fr s=>fr=[(5,.aa4 ((ab9 a).map Part.cs)),(6,.aa4 ((ab9 b).map Part.cs)),(7,.int .i64 (i:Int))]/\i<=(ab9 a).length/\i<=(ab9 b).length/\aq6 a b=ah2 ((vL a).drop i) ((vL b).drop i)) (2^30) ⟨rfl,qq _,qq _,rfl⟩ ?_;rintro i fr s hi ⟨rfl,ia,ib,hv⟩;have w1:=ac2 (i:=i) om;have xa:=jm8 a i ia;have xb:=jm8 b i ib;obtain ⟨hia,hxa⟩:=qk.1 xa;obtain ⟨hib,hxb⟩:=qk.1 xb;rw[cg2 hia hib,hxa,hxb] at hv;by_cases hmore:i<(ab9 a).length\/i<(ab9 b).length
 ·have ga:=il7 (ab9 a) i;have gb:=il7 (ab9 b) i;have sa:(atP (ab9 a) i).s.length<=a.length:=jr4 a _ (hxa▸ze hia);have sb:(atP (ab9 b) i).s.length<=b.length:=jr4 b _ (hxb▸ze hib);have b1:=el3 (atP (ab9 a) i) (atP (ab9 b) i) om om;have b2:=el3 (atP (ab9 b) i) (atP (ab9 a) i) om om;have h3:=em7 (atP (ab9 a) i) (atP (ab9 b) i);have hneg:=dd4 (atP (ab9 a) i) (atP (ab9 b) i)
  have hnext:af9 (atP (ab9 a) i) (atP (ab9 b) i)=0->i+1<=(ab9 a).length/\i+1<=(ab9 b).length:=fun h0=>by
   have hk:=ce7 h0;rcases hmore with h|h
   ·refine ⟨h,?_⟩;by_cases h':i<(ab9 b).length
    ·exact h'
    ·have e1:atP (ab9 b) i=dg3:=by unfold atP; simp[za,zq (qe h')]
     have e2:atP (ab9 a) i=(ab9 a)[i]:=by unfold atP; simp[za,h]
     rw[e1,e2] at hk;exact absurd hk (na _ (ze h))
   ·refine ⟨?_,h⟩;by_cases h':i<(ab9 a).length
    ·exact h'
    ·have e1:atP (ab9 a) i=dg3:=by unfold atP; simp[za,zq (qe h')]
     have e2:atP (ab9 b) i=(ab9 b)[i]:=by unfold atP; simp[za,h]
     rw[e1,e2] at hk;exact absurd hk.symm (nb _ (ze h))
  have v1:el1 (atP (ab9 a) i) (atP (ab9 b) i)=decide (af9 (atP (ab9 a) i) (atP (ab9 b) i)=-1):=rfl;have v2:el1 (atP (ab9 b) i) (atP (ab9 a) i)=decide (af9 (atP (ab9 b) i) (atP (ab9 a) i)=-1):=rfl;rw[v1] at b1;rw[v2] at b2;generalize atP (ab9 a) i=x at *;generalize atP (ab9 b) i=y at *;generalize af9 y x=c2 at *;generalize af9 x y=c at *;by_cases hA:i<(ab9 a).length
  case' pos=>
   have d1:(i:Int)<(ab9 a).length:=om
   simp only[go_sem,d1]
  case' neg=>
   have d1:¬ (i:Int)<(ab9 a).length:=om
   have d2:(i:Int)<(ab9 b).length:=om
   simp only[go_sem,d1,d2]
  all_goals
   refine aa2 fok188 (ga) ?_;simp only[go_sem];refine aa2 fok188 (gb) ?_;simp only[go_sem];refine aa2 fok187 (b1) ?_;rcases h3 with h|h|h
   ·subst h;rw[if_pos (by decide)] at hv;simp only[go_sem,decide_true];rw[hv]; exact ad5 _ _
   ·subst h;have hc2:c2=0:=om
    subst hc2;rw[if_neg (by decide)] at hv;obtain ⟨n1,n2⟩:=hnext rfl;simp only[go_sem,zx,qm,decide_false];refine aa2 fok188 (gb) ?_;simp only[go_sem];refine aa2 fok188 (ga) ?_;simp only[go_sem];refine aa2 fok187 (b2) ?_;simp only[go_sem,zx,qm,decide_false,w1];exact ⟨om,n1,n2,hv⟩
   ·subst h;subst hneg;rw[if_pos (by decide)] at hv;simp only[go_sem,zx,qm,decide_false];refine aa2 fok188 (gb) ?_;simp only[go_sem];refine aa2 fok188 (ga) ?_;simp only[go_sem];refine aa2 fok187 (b2) ?_;simp only[go_sem,decide_true];rw[hv]; exact ad5 _ _
 ·have ea:i=(ab9 a).length:=om
  have eb:i=(ab9 b).length:=om
  have d1:¬ (i:Int)<(ab9 a).length:=om
  have d2:¬ (i:Int)<(ab9 b).length:=om
  have e1:atP (ab9 a) i=dg3:=by unfold atP; simp[za,zq (show (ab9 a).length<=i by omega)]
  have e2:atP (ab9 b) i=dg3:=by unfold atP; simp[za,zq (show (ab9 b).length<=i by omega)]
  have h0:af9 dg3 dg3=0:=by decide
  have hend:ah2 ((vL a).drop (i+1)) ((vL b).drop (i+1))=0:=ct8 (.inl (by simp only[zj,zh]; omega));rw[e1,e2,h0,if_neg (by decide),hend] at hv;simp only[go_sem,d1,d2];rw[hv]; exact ad5 _ _
end Go.Id.Tryz
namespace Go.Id.Tryz
open Go Go.Id Go.Proofs Go.Id.Md
theorem ea4 (e:EVR):e.cs.all IV.leaf=true:=rfl
theorem iw4 (e:EVR):e.cs.head? = zg (.int .i64 e.ai5):=rfl
theorem jx9 (e:EVR):(e.cs.drop 1).head? = zg (.str e.ver):=rfl
theorem iw5 (e:EVR):(e.cs.drop 2).head? = zg (.str e.rel):=rfl
theorem ca6 (a b:EVR)(ha:EVR.small a)(hb:EVR.small b):PC Tryz.prog EE 78 [.agg a.cs,.agg b.cs] (.int .i64 (ar5 a b)):=by
 refine ad9 hE fok78 (nZ rfl) (ag4 (bx8 a) (bx8 b)) ?_;have h1:=de2 a.ver b.ver ha.1 hb.1;have h2:=de2 a.rel b.rel ha.2 hb.2;unfold ar5;by_cases e1:a.ai5<b.ai5
 ·have c0:at5 a.ai5 b.ai5=-1:=ew2.2 e1;rw[c0,if_pos (by decide)];simp only[ic78,go_sem,ea4,iw4,e1];exact ad5 _ _
 by_cases e2:b.ai5<a.ai5
 ·have c0:at5 a.ai5 b.ai5=1:=by
   unfold at5;rw[if_neg e1,if_neg om]
  rw[c0,if_pos (by decide)];simp only[ic78,go_sem,ea4,iw4,e1,e2];exact ad5 _ _
 have c0:at5 a.ai5 b.ai5=0:=bf4.2 om;have nn:∀ {α:Type} (x y:α),(if (0:Int)≠0 then x else y)=y:=fun _ _=>if_neg (by decide)
 rw[c0,nn];simp only[ic78,go_sem,ea4,iw4,jx9,e1,e2];refine aa2 fok127 (h1) ?_;generalize aq6 a.ver b.ver=n at *;by_cases hn:n=0
 ·subst hn;rw[nn];by_cases r1:a.rel=[]
  ·rw[if_pos (.inl r1)];simp only[go_sem,iw5,r1];exact ad5 _ _
  by_cases r2:b.rel=[]
  ·rw[if_pos (.inr r2)];simp only[go_sem,iw5,r1,r2];exact ad5 _ _
  rw[if_neg (by simp[r1,r2])];simp only[go_sem,iw5,r1,r2];refine aa2 fok127 (h2) ?_;simp only[go_sem];exact ad5 _ _
 ·have hn':n≠0:=hn;rw[if_pos hn'];simp only[go_sem,hn];exact ad5 _ _
theorem fg7 (a b:Dep)(ha:Dep.small a)(hb:Dep.small b):PC Tryz.prog EE 93 [.agg a.cs,.agg b.cs] (.bool (meet a b)):=by
 refine ad9 hE fok93 (nZ rfl) (al4 (an6 a) (an6 b)) ?_;obtain ⟨a1,a2,a3⟩:=ha;obtain ⟨b1,b2,b3⟩:=hb;have hc:=ca6 a.evr b.evr a3 b3;have h3:=fi5 a.evr b.evr;unfold meet;generalize ar5 a.evr b.evr=n at hc h3;simp only[EVR.cs] at hc;obtain ⟨x,hx⟩:∃ x:Nat,a.op=x:=⟨a.op.toNat,om⟩;obtain ⟨y,hy⟩:∃ y:Nat,b.op=y:=⟨b.op.toNat,om⟩;have hx2:x<256:=om
 have hy2:y<256:=om
 rw[hx,hy,zc,zc];have tm:∀ k:Nat,(k:Int).tmod 8=((k%8:Nat):Int):=fun k=>rfl
 have z0:∀ k:Nat,((k:Int)=0)↔k=0:=fun k=>by omega
 have bt:∀ (k i:Nat),bit (k:Int) i=k.testBit i:=fun k i=>by unfold bit; rw[zc]
 by_cases hx0:x%8=0
 ·have q:(x:Int).tmod 8=0:=by rw[tm,z0]; exact hx0
  rw[if_pos (.inl hx0)];simp only[ic93,go_sem,Dep.cs,hx,hy,q,zx,true_and,not_false_eq_true];exact ab3 _
 have q:¬ (x:Int).tmod 8=0:=by rw[tm,z0]; exact hx0
 by_cases hy0:y%8=0
 ·have q2:(y:Int).tmod 8=0:=by rw[tm,z0]; exact hy0
  rw[if_pos (.inr hy0)];simp only[ic93,go_sem,Dep.cs,hx,hy,q,q2,zx,true_and,not_false_eq_true];exact ab3 _
 have q2:¬ (y:Int).tmod 8=0:=by rw[tm,z0]; exact hy0
 rw[if_neg (fun h=>h.elim hx0 hy0)];simp only[ic93,go_sem,Dep.cs,hx,hy,q,q2,zx,true_and,not_false_eq_true];refine aa2 fok78 (hc) ?_;have exy:bp5 x y=((x &&& y:Nat):Int):=ar8 x y hx2 hy2;have hxy:x &&& y<256:=z8 qi hx2;have exy7:bp5 ((x &&& y:Nat):Int) 7=((x &&& y &&& 7:Nat):Int):=ar8 _ 7 hxy om;have x1:bp5 x 1=((x &&& 1:Nat):Int):=ar8 x 1 hx2 om;have x4:bp5 x 4=((x &&& 4:Nat):Int):=ar8 x 4 hx2 om;have y1:bp5 y 1=((y &&& 1:Nat):Int):=ar8 y 1 hy2 om;have y4:bp5 y 4=((y &&& 4:Nat):Int):=ar8 y 4 hy2 om;rcases h3 with rfl|rfl|rfl
 ·have g1:side (- -1)=2:=by decide
  have g2:side (-1)=0:=by decide
  have m0:¬ ((-1:Int)=0):=by decide
  have m1:((-1:Int)<0):=by decide
  simp only[go_sem,m0,m1,g1,g2,bt,if_false]
  cases hb:x.testBit 2 with
  | true=>
   have e:¬ bp5 x 4=0:=by rw[x4,z0,im9 x hx2,hb]; simp
   simp only[go_sem,av9,e]
   exact ab3 _
  | false=>
   have e:bp5 x 4=0:=by rw[x4,z0,im9 x hx2,hb]
   simp only[go_sem,av9,e]
   cases hc:y.testBit 0 with
   | true=>
    have e2:¬ bp5 y 1=0:=by rw[y1,z0,and1 y hy2,hc]; simp
    simp only[go_sem,av9,e2]
    exact ab3 _
   | false=>
    have e2:bp5 y 1=0:=by rw[y1,z0,and1 y hy2,hc]
    simp only[go_sem,av9,e2];exact ab3 _
 ·have m1:¬ ((0:Int)<0):=by decide
  simp only[go_sem,av9,exy,exy7,bt,m1]
  have e:(!decide (((x &&& y &&& 7:Nat):Int)=0))=(x.testBit 0&&y.testBit 0||x.testBit 1&&y.testBit 1||x.testBit 2&&y.testBit 2):=by
   by_cases hz:x &&& y &&& 7=0
   ·obtain ⟨t0,t1,t2⟩:=(ed6 _ hxy).1 hz;rw[zn] at t0 t1 t2;rw[hz,t0,t1,t2]; rfl
   ·have hz':¬ ((x &&& y &&& 7:Nat):Int)=0:=fun h=>hz om
    have ht:¬ ((x &&& y).testBit 0=false/\(x &&& y).testBit 1=false/\(x &&& y).testBit 2=false):=fun h=>hz ((ed6 _ hxy).2 h)
    rw[zn,zn,zn] at ht;rw[decide_eq_false hz']
    revert ht
    generalize (x.testBit 0&&y.testBit 0)=b0;generalize (x.testBit 1&&y.testBit 1)=b1;generalize (x.testBit 2&&y.testBit 2)=b2;cases b0<;>cases b1<;>cases b2<;>simp
  exact aa9 e
 ·have g1:side (-1)=0:=by decide
  have g2:side 1=2:=by decide
  have m0:¬ ((1:Int)=0):=by decide
  have m1:¬ ((1:Int)<0):=by decide
  have m2:(0:Int)<1:=by decide
  simp only[go_sem,m0,m1,m2,g1,g2,bt,if_false]
  cases hb:x.testBit 0 with
  | true=>
   have e:¬ bp5 x 1=0:=by rw[x1,z0,and1 x hx2,hb]; simp
   simp only[go_sem,av9,e]
   exact ab3 _
  | false=>
   have e:bp5 x 1=0:=by rw[x1,z0,and1 x hx2,hb]
   simp only[go_sem,av9,e]
   cases hc:y.testBit 2 with
   | true=>
    have e2:¬ bp5 y 4=0:=by rw[y4,z0,im9 y hy2,hc]; simp
    simp only[go_sem,av9,e2]
    exact ab3 _
   | false=>
    have e2:bp5 y 4=0:=by rw[y4,z0,im9 y hy2,hc]
    simp only[go_sem,av9,e2];exact ab3 _
end Go.Id.Tryz
