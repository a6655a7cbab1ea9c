/- Versions by the reference: kinds,parts. Conditions: sizes that fit. -/
import Derived.Test.YtcdakaadeghccaaGreatDoorTSQD
import Derived.Test.YtcdakaadeghccaaGreatDoorGSR
import Derived.Test.YtcdakaadeghccaaGreatDoorTSPE
import Derived.Test.YtcdakaadeghccaaGreatDoorMv
open List renaming getD_eq_getElem?_getD→za,not_mem_nil→zb,mem_cons→zc,getElem_mem→ze,length_map→zf,length_singleton→zh,length_take→zi,length_append→zj,getElem?_eq_getElem→zk,take_append_of_le_length→zl,drop_length→zo,getElem?_eq_none→zq,pairwise_iff_getElem→zr,mem_map→zw,mem_cons_self→zy,take_of_length_le→zz,mem_iff_getElem→z1,getElem?_drop→z7,getElem_take→qa,take_length→qc,map_append→qg,drop_drop→qj,getElem?_eq_some_iff→qk,getElem?_append_left→ql,length_filter_le→qn,pairwise_append→qo,mem_cons_of_mem→qp,range→qr,pairwise_cons→qs,filter_append→qt,take_add_one→qu
open Int renaming toNat_natCast→zd,natCast_one→zu,natCast_add→zv,reduceEq→zx,reduceNeg→qm
open Option renaming some→zg,map→z6
open Nat renaming le_refl→zm,testBit_and→zn,lt_of_le_of_lt→z8,zero_add→qb,lt_succ_self→qd,le_of_not_lt→qe,mul_one→qf,not_lt_zero→qh,and_le_left→qi,zero_le→qq
open Bool renaming and_eq_true→zp,false_eq_true→zt
set_option linter.all false
set_option maxRecDepth 100000
set_option maxHeartbeats 1000000
private theorem om{P:Prop}(h:P:=by omega):P:=h
namespace Go.Id.Tryz
open Go Go.Id Go.Proofs Go.Id.Md
theorem du8 (b:UInt8):PC Tryz.prog EE 218 [.int .u8 b.toNat] (.int .u8 (ad2 b)):=by
 rw[gm6];have hb:=b.toNat_lt;generalize b.toNat=n at *;unfold vkN;refine ae5 hE fok218 (nZ rfl) (af3 (.int _ _)) ?_;by_cases e1:n=126
 ·have e1':(n:Int)=126:=om
  rw[if_pos e1];simp only[ic218,go_sem,e1'];exact .keep _ (.int _ _)
 have e1':¬ (n:Int)=126:=om
 rw[if_neg e1];by_cases e2:n=94
 ·have e2':(n:Int)=94:=om
  have q:¬ (94:Int)=126:=by decide
  rw[if_pos e2];simp only[ic218,go_sem,e2',q];exact .keep _ (.int _ _)
 have e2':¬ (n:Int)=94:=om
 rw[if_neg e2];by_cases e3:97<=n/\n<=122
 ·have f1:(97:Int)<=n:=om
  have f2:(n:Int)<=122:=om
  rw[if_pos (.inl e3)];simp only[ic218,go_sem,e1',e2',f1,f2];exact .keep _ (.int _ _)
 by_cases e4:65<=n/\n<=90
 ·have f1:¬ (97:Int)<=n:=om
  have f3:(65:Int)<=n:=om
  have f4:(n:Int)<=90:=om
  rw[if_pos (.inr e4)];simp only[ic218,go_sem,e1',e2',f1,f3,f4];exact .keep _ (.int _ _)
 rw[if_neg (fun h=>h.elim e3 e4)];by_cases e5:48<=n/\n<=57
 ·have f1:¬ (97:Int)<=n:=om
  have f3:¬ (65:Int)<=n:=om
  have f5:(48:Int)<=n:=om
  have f6:(n:Int)<=57:=om
  rw[if_pos e5];simp only[ic218,go_sem,e1',e2',f1,f3,f5,f6];exact .keep _ (.int _ _)
 rw[if_neg e5];by_cases f1:(97:Int)<=n
 ·have f2:¬ (n:Int)<=122:=om
  have f3:(65:Int)<=n:=om
  have f4:¬ (n:Int)<=90:=om
  have f5:(48:Int)<=n:=om
  have f6:¬ (n:Int)<=57:=om
  simp only[ic218,go_sem,e1',e2',f1,f2,f3,f4,f5,f6];exact .keep _ (.int _ _)
 by_cases f3:(65:Int)<=n
 ·have f4:¬ (n:Int)<=90:=om
  have f5:(48:Int)<=n:=om
  have f6:¬ (n:Int)<=57:=om
  simp only[ic218,go_sem,e1',e2',f1,f3,f4,f5,f6];exact .keep _ (.int _ _)
 by_cases f5:(48:Int)<=n
 ·have f6:¬ (n:Int)<=57:=om
  simp only[ic218,go_sem,e1',e2',f1,f3,f5,f6];exact .keep _ (.int _ _)
 ·simp only[ic218,go_sem,e1',e2',f1,f3,f5];exact .keep _ (.int _ _)
theorem fc1 (p:Part):∀ c∈Part.cs p,Bnd 0 c:=ae9 (.int _ _) (.str _)
theorem ef8 (l:List Part):Bnd 0 (.aa4 (l.map Part.cs)):=.aa4 _ fun e he c hc=>by
 obtain ⟨d,_,rfl⟩:=zw.1 he; exact fc1 d c hc
theorem cc4 {t:Store}{gv:IV}{esz n nid:Nat}{es:List (List IV)}{e:List IV}(hg:Grow t gv esz es)(hall:∀ x∈es,x.length=esz/\x.all IV.leaf=true)(he:e.length=esz/\e.all IV.leaf=true)(hl:es.length<2147483648)(h1:t.next<=nid)(h2:nid<t.next+n) :
  ∃ v' σ',as5 ⟨t.next+n,t.obj⟩ nid esz gv (.aa4 [e])=zg (v',σ')/\σ'.next=t.next+n/\Grow σ' v' esz (es++[e]):=by
 have hg2:Grow ⟨t.next+n,t.obj⟩ gv esz es:=hg.mono (Nat.le_add_right _ _) fun _ _ _=>rfl
 have hap:=am4 (nid:=nid) (e:=e) hg2 hall he hl;have kn:(ag2 gv (⟨t.next+n,t.obj⟩:Store)).next=t.next+n:=ac9 gv;refine ⟨_,_,hap,by rw[aa7,kn],.inr ⟨nid,by rw[zj,zh],by simp only[aa5,if_true],by rw[aa7,kn]; exact h2⟩⟩
theorem ef9 (s:Str)(hs:s.length<2^30):PC Tryz.prog EE 170 [.str s] (.aa4 ((ab7 s).map Part.cs)):=by
 refine ae5 hE fok170 (nZ rfl) (ao4 (.str _)) ?_;simp only[ic170,go_sem];refine ab1 noT (fun j fr t=>∃ (a:Nat) (gv:IV) (pre:List Part),fr=[(0,.str s),(3,gv),(4,.int .i64 (a:Int))]/\j<=a/\a<=s.length/\pre.length<=a/\ab7 s=pre++ab7 (s.drop a)/\Grow t gv 2 (pre.map Part.cs)) s.length ⟨0,.aa1,[],rfl,zm _,qq _,zm _,rfl,.inl ⟨rfl,rfl⟩⟩ ?_;rintro j fr t hj ⟨a,gv,pre,rfl,hja,has,hpl,hv,hg⟩;by_cases hlt:a<s.length
 ·obtain ⟨b,hb,hget,hdr,_,htk⟩:=ad6 s a hlt;have c1:(a:Int)<s.length:=om
  have c2:(0:Int)<=a:=om
  have w1:=ac4 (i:=a) om;have hk:=du8 b;rw[hdr] at hv;simp only[go_sem,c1,ba7,c2,zd,hget,z6];refine aa3 fok218 (hk) ?_;by_cases h0:ad2 b=0
  ·have k0:((ad2 b:Nat):Int)=0:=om
   rw[ey6 h0] at hv;simp only[go_sem,k0,w1];exact ⟨om,a+1,gv,pre,rfl,om,om,om,hv,hg⟩
  have k0:¬ ((ad2 b:Nat):Int)=0:=om
  by_cases h4:ad2 b<4
  ·have k4:((ad2 b:Nat):Int)<4:=om
   rw[ey8 h0 h4] at hv;obtain ⟨v',σ',h1,h2,h3⟩:=cc4 (n:=1) (nid:=t.next) (e:=[.int .u8 (ad2 b:Nat),.str []]) hg (bd5 _) ⟨rfl,rfl⟩ (by rw[zf]; omega) (zm _) om;simp only[go_sem,k0,k4,h1,w1];refine ⟨om,a+1,v',pre++[⟨ad2 b,[]⟩],rfl,om,om,by rw[zj]; simp only[zh]; omega,by rw[hv]; simp,?_⟩;rw[qg]; exact h3
  have k4:¬ ((ad2 b:Nat):Int)<4:=om
  simp only[go_sem,k0,k4];obtain ⟨R,hR⟩:∃ R,R=fx1 b (s.drop (a+1)):=⟨_,rfl⟩;have hrl:=id8 b (s.drop (a+1));rw[<- hR,List.length_drop] at hrl
  have hrun:∀ m,m<R+1->∃ c,s[a+m]? = zg c/\ad2 c=ad2 b:=fun m hm=>by
   cases m with
   | zero=>exact ⟨b,hget,rfl⟩
   | succ m=>
    obtain ⟨c,h1,h2⟩:=id6 (b:=b) (l:=s.drop (a+1)) (m:=m) om;rw[z7] at h1;exact ⟨c,by rw[<- h1]; congr 1; omega,h2⟩
  have hend:∀ c,s[a+(R+1)]? = zg c->ad2 c≠ad2 b:=fun c h=>id7 (l:=s.drop (a+1)) (by rw[<- hR,z7,<- h]; congr 1; omega)
  refine ab1 noT (fun m fr u=>fr=[(0,.str s),(3,gv),(4,.int .i64 (a:Int)),(5,.int .u8 (ad2 b:Nat)),(6,.int .i64 ((a+m:Nat):Int))]/\u.obj=t.obj/\t.next<=u.next) (R+1) ⟨rfl,rfl,zm _⟩ ?_;rintro m fr u hmR ⟨rfl,uo,un⟩;have d2:(0:Int)<=((a+m:Nat):Int):=om
  have w2:=ac4 (i:=a+m) om;by_cases hm:m<R+1
  ·obtain ⟨c,hc1,hc2⟩:=hrun m hm;have k2:((a+m:Nat):Int)<s.length:=om
   have k3:=du8 c;rw[hc2] at k3;simp only[go_sem,k2,ba7,d2,zd,hc1,z6];refine aa3 fok218 (k3) ?_;simp only[go_sem,w2];exact ⟨hm,rfl,uo,un⟩
  have hm':m=R+1:=om
  subst hm';have hw:((b::s.drop (a+1)).take (R+1))=(s.drop a).take (R+1):=by rw[hdr]
  have hv4:=hv;rw[ey9 h4,<- hR,hw,qj] at hv4;have hdd:a+1+R=a+(R+1):=om
  rw[hdd] at hv4;obtain ⟨w,hwd⟩:∃ w,w=(s.drop a).take (R+1):=⟨_,rfl⟩;rw[<- hwd] at hv4;have hwl:w.length=R+1:=by rw[hwd,zi,List.length_drop]; omega
  have hwg:∀ z,z<R+1->w[z]? = s[a+z]?:=fun z hz=>by rw[hwd,List.getElem?_take,if_pos hz,z7]
  by_cases hen:a+(R+1)<s.length
  case' pos=>
   have k2:((a+(R+1):Nat):Int)<s.length:=om
   have hc:s[a+(R+1)]? = zg s[a+(R+1)]:=zk hen;have hne:=hend _ hc;have k7:¬ ((ad2 s[a+(R+1)]:Nat):Int)=ad2 b:=om
   have k3:=du8 s[a+(R+1)];simp only[go_sem,k2,ba7,d2,zd,hc,z6];refine aa3 fok218 (k3) ?_;simp only[go_sem,k7]
  case' neg=>
   have k2:¬ ((a+(R+1):Nat):Int)<s.length:=om
   simp only[go_sem,k2]
  all_goals
   obtain ⟨Z,hZ⟩:∃ Z,Z=if ad2 b=5 then (w.takeWhile (· == 48)).length else 0:=⟨_,rfl⟩
   have hZl:Z<=R+1:=by
    rw[hZ]; split
    ·rw[<- hwl]; exact (List.takeWhile_sublist _).length_le
    ·omega
   have hdw:(if ad2 b=5 then w.dropWhile (· == 48) else w)=w.drop Z:=by
    rw[hZ]; split
    ·exact (cu6 _ w).2
    ·rfl
   rw[hdw] at hv4;refine ab1 noT (fun z fr v=>(∃ tl:Frm,fr=(0,.str s)::(3,gv)::(4,.int .i64 ((a+z:Nat):Int))::(5,.int .u8 (ad2 b:Nat))::(6,.int .i64 ((a+(R+1):Nat):Int))::tl)/\v.obj=t.obj/\t.next<=v.next) Z ⟨⟨_,rfl⟩,uo,by first|exact un|(show t.next<=_; omega)⟩ ?_;rintro z fr v hz ⟨⟨tl,rfl⟩,vo,vn⟩;have z2:(0:Int)<=((a+z:Nat):Int):=om
   have z3:=ac4 (i:=a+z) om;by_cases hzz:z<Z
   ·have h5:ad2 b=5:=by
     by_cases h:ad2 b=5
     ·exact h
     ·rw[if_neg h] at hZ; omega
    have k5:((ad2 b:Nat):Int)=5:=om
    rw[if_pos h5] at hZ;obtain ⟨c,hc1,hc2⟩:=jd9 (p:=fun c=>c==48) w z om;have hc0:c=48:=by simpa using hc2
    rw[hwg z om,hc0] at hc1;have e1:((a+z:Nat):Int)<((a+(R+1):Nat):Int):=om
    have e2:((a+z:Nat):Int)<s.length:=om
    have e3:((48:UInt8).toNat:Int)=48:=rfl;simp only[go_sem,k5,e1,e2,ba7,z2,zd,hc1,z6,e3,z3];exact ⟨hzz,⟨_,rfl⟩,vo,vn⟩
   ·have hz':z=Z:=om
    subst hz'
    have hss:cr8 (zg (.int .i64 ((a+z:Nat):Int))) (zg (.int .i64 ((a+(R+1):Nat):Int))) (.str s)=zg (.str (w.drop z)):=by
     have e1:(0:Int)<=((a+(R+1):Nat):Int):=om
     have e2:a+z<=a+(R+1)/\a+(R+1)<=s.length:=om
     simp only[cr8,cd8,ej1,z2,e1,if_true,zd,e2,and_self];rw[hwd,List.drop_take,List.drop_take,qj];congr 3; omega
    have hvg:Grow v gv 2 (pre.map Part.cs):=hg.mono vn fun _ _ _=>by rw[vo]
    obtain ⟨v',σ',h1,h2,h3⟩:=cc4 (n:=1) (nid:=v.next) (e:=[.int .u8 (ad2 b:Nat),.str (w.drop z)]) hvg (bd5 _) ⟨rfl,rfl⟩ (by rw[zf]; omega) (zm _) om
    have fin:ab7 s=(pre++[(⟨ad2 b,w.drop z⟩:Part)])++ab7 (s.drop (a+(R+1)))/\Grow σ' v' 2 ((pre++[(⟨ad2 b,w.drop z⟩:Part)]).map Part.cs)/\(pre++[(⟨ad2 b,w.drop z⟩:Part)]).length<=a+(R+1):=by
     refine ⟨by rw[hv4]; simp,by rw[qg]; exact h3,by rw[zj,zh]; omega⟩
    by_cases h5:ad2 b=5
    ·have k5:((ad2 b:Nat):Int)=5:=om
     rw[if_pos h5] at hZ;by_cases hzR:z<R+1
     ·have e1:((a+z:Nat):Int)<((a+(R+1):Nat):Int):=om
      have e2:((a+z:Nat):Int)<s.length:=om
      have hc:s[a+z]? = zg s[a+z]:=zk om
      have hne:¬ s[a+z]=48:=by
       have:=je1 (p:=fun c=>c==48) w s[a+z] (by rw[<- hZ,hwg z hzR]; exact hc)
       simpa using this
      have hne2:¬ (s[a+z].toNat:Int)=48:=fun h=>hne (UInt8.toNat_inj.1 (by show _=48; omega))
      simp only[k5] at h1;simp only[go_sem,k5,e1,e2,ba7,z2,zd,hc,z6,hne2,hss,h1];exact ⟨om,a+(R+1),v',_,rfl,om,om,fin.2.2,fin.1,fin.2.1⟩
     ·have e1:¬ ((a+z:Nat):Int)<((a+(R+1):Nat):Int):=om
      simp only[k5] at h1;simp only[go_sem,k5,e1,hss,h1];exact ⟨om,a+(R+1),v',_,rfl,om,om,fin.2.2,fin.1,fin.2.1⟩
    ·have k5:¬ ((ad2 b:Nat):Int)=5:=om
     simp only[go_sem,k5,hss,h1];exact ⟨om,a+(R+1),v',_,rfl,om,om,fin.2.2,fin.1,fin.2.1⟩
 ·have ha:a=s.length:=om
  subst ha;have c1:¬ (s.length:Int)<s.length:=om
  rw[zo,fs5,List.append_nil] at hv;rw[hv];simp only[go_sem,c1];exact hg.frz (fun x hx=>(bd5 _ x hx).1) (fun _ _=>qh _) (ao5 (ef8 pre))
end Go.Id.Tryz
namespace Go.Id.Tryz
open Go Go.Id Go.Proofs Go.Id.Md
theorem gn3 (a b:EVR):PC Tryz.prog EE 166 [.ab5 a.cs,.ab5 b.cs] (.int .i64 (al7 a.ak4 b.ak4)):=by
 refine av9 fok166 (nZ rfl) fun σ=>?_
 simp only[ic166,go_sem,EVR.cs];refine aa3 fok67 (bb3 _ _) ?_;simp only[go_sem,and_self]
theorem gn4 (a b:EVR)(h1:a.ver.length<2^30)(h2:b.ver.length<2^30):PC Tryz.prog EE 167 [.ab5 a.cs,.ab5 b.cs] (.int .i64 (ao6 a.ver b.ver)):=by
 refine av9 fok167 (nZ rfl) fun σ=>?_
 simp only[ic167,go_sem,EVR.cs];refine aa3 fok168 (cc3 _ _ h1 h2) ?_;simp only[go_sem,and_self]
theorem gn5 (a b:EVR)(h1:a.rel.length<2^30)(h2:b.rel.length<2^30):PC Tryz.prog EE 169 [.ab5 a.cs,.ab5 b.cs] (.int .i64 (if a.rel=[]\/b.rel=[] then 0 else ao6 a.rel b.rel)):=by
 refine av9 fok169 (nZ rfl) fun σ=>?_
 by_cases e1:a.rel=[]
 ·simp only[ic169,go_sem,EVR.cs,e1,true_or,and_self]
 ·by_cases e2:b.rel=[]
  ·simp only[ic169,go_sem,EVR.cs,e1,e2,or_true,and_self]
  ·simp only[ic169,go_sem,EVR.cs,e1,e2,or_self];refine aa3 fok168 (cc3 _ _ h1 h2) ?_;simp only[go_sem,and_self]
def fnC (f:Nat×List IV):List IV:=[.func (.func f.1) [] f.2]
theorem er2 (fs:List (Nat×List IV))(vals:List Int)(hl:fs.length=vals.length)(hn:fs.length<2^40)(hb:∀ f∈fs,∀ c∈f.2,Bnd 0 c)
  (h:∀ i (h1:i<fs.length) (h2:i<vals.length),okF Tryz.prog fs[i].1=true/\PC Tryz.prog EE fs[i].1 fs[i].2 (.int .i64 vals[i])):PC Tryz.prog EE 165 [.aa4 (fs.map fnC)] (.int .i64 (orM vals)):=by
 refine ae5 hE fok165 (nZ rfl) (af3 (.aa4 _ fun e he c hc=>?_)) ?_
 ·obtain ⟨f,hf,rfl⟩:=zw.1 he
  cases hc with
  | head=>exact .func _ _ _ (fun c hc=>by cases hc) (hb f hf)
  | tail _ h=>cases h
 simp only[ic165,go_sem];refine ab1 noT (fun i fr s=>fr=[(6,.aa4 (fs.map fnC)),(7,.int .i64 fs.length),(8,.int .i64 i)]/\orM vals=orM (vals.drop i)) fs.length ⟨rfl,rfl⟩ ?_;rintro i fr s hle ⟨rfl,hI⟩;by_cases hlt:i<fs.length
 ·obtain ⟨f,hf,hget0,hdr,hget,htk⟩:=ad6 fs i hlt;have hlt2:i<vals.length:=om
  have c1:(i:Int)<fs.length:=om
  have c2:(0:Int)<=i:=om
  have w1:=ac4 (i:=i) om;obtain ⟨k1,k2⟩:=h i hlt hlt2
  have hfi:fs[i]=f:=by
   have:=zk hlt; rw[this] at hget0; exact zg.inj hget0
  rw[hfi] at k1 k2;rw[List.drop_eq_getElem_cons hlt2,orM] at hI;generalize vals[i]=x at *;simp only[go_sem,c1,c2,hget,fnC];refine am8 k1 k2 ?_;by_cases hx:x=0
  ·subst hx;simp only[go_sem,w1];exact ⟨hlt,by simpa using hI⟩
  ·rw[if_neg hx] at hI;simp only[go_sem,hx];rw[hI]; exact ad1 _ _
 ·have hi':i=fs.length:=om
  subst hi';have c1:¬ (fs.length:Int)<fs.length:=om
  rw[hl,zo,orM] at hI;simp only[go_sem,c1];rw[hI]; exact ad1 _ _
theorem fc2 (a:EVR):Bnd 0 (.ab5 a.cs):=.ab5 _ fun c hc=>by
 simp only[EVR.cs,zc,zb,or_false] at hc;rcases hc with rfl|rfl|rfl
 ·exact .int _ _
 ·exact .str _
 ·exact .str _
theorem bt5 (a:EVR):Bnd 0 (.agg a.cs):=.agg _ fun c hc=>by
 simp only[EVR.cs,zc,zb,or_false] at hc;rcases hc with rfl|rfl|rfl
 ·exact .int _ _
 ·exact .str _
 ·exact .str _
def EVR.small (e:EVR):Prop:=e.ver.length<2^30/\e.rel.length<2^30
theorem az7 (a b:EVR)(ha:EVR.small a)(hb:EVR.small b):PC Tryz.prog EE 115 [.agg a.cs,.agg b.cs] (.int .i64 (ai5 a b)):=by
 refine ae5 hE fok115 (nZ rfl) (al3 (bt5 a) (bt5 b)) ?_
 have hv:ai5 a b=orM [al7 a.ak4 b.ak4,ao6 a.ver b.ver,if a.rel=[]\/b.rel=[] then 0 else ao6 a.rel b.rel]:=by
  rw[jk4]; unfold ai5;split
  ·rfl
  ·split
   ·rfl
   ·rfl
 have hf:=er2 [(166,[.ab5 a.cs,.ab5 b.cs]),(167,[.ab5 a.cs,.ab5 b.cs]),(169,[.ab5 a.cs,.ab5 b.cs])] [al7 a.ak4 b.ak4,ao6 a.ver b.ver,if a.rel=[]\/b.rel=[] then 0 else ao6 a.rel b.rel] rfl (by simp)
  (fun f hf c hc=>by
   simp only[zc,zb,or_false] at hf;rcases hf with rfl|rfl|rfl<;>exact al3 (fc2 a) (fc2 b) c hc)
  (fun i h1 h2=>by
   match i,h1 with
   | 0,_=>exact ⟨fok166.1,gn3 a b⟩
   | 1,_=>exact ⟨fok167.1,gn4 a b ha.1 hb.1⟩
   | 2,_=>exact ⟨fok169.1,gn5 a b ha.2 hb.2⟩
   | i+3,h=>simp at h; omega)
 rw[<- hv] at hf;have ea:(IV.agg a.cs).cs.all IV.leaf=true:=rfl;have eb:(IV.agg b.cs).cs.all IV.leaf=true:=rfl;simp only[EVR.cs] at hf ⊢;simp only[ic115,go_sem];refine aa3 fok165 hf ?_;simp only[go_sem];exact ad1 _ _
end Go.Id.Tryz
namespace Go.Id.Tryz
open Go Go.Id Go.Proofs Go.Id.Md
def bl5 (a b:Int):Int:=IntKind.u8.wrap ((BitVec.ofInt 8 a &&& BitVec.ofInt 8 b).toNat:Int)
theorem as3 (a b:Int):au9 .and (.int .u8 a) (.int .u8 b)=zg (.int .u8 (bl5 a b)):=rfl
theorem jr3 {n:Nat}(h:n<256):IntKind.u8.wrap (n:Int)=n:=by
 simp[IntKind.wrap,IntKind.bits,IntKind.signed]; omega
theorem aq5 (a b:Nat)(ha:a<256)(hb:b<256):bl5 a b=((a &&& b:Nat):Int):=by
 unfold bl5;rw[BitVec.toNat_and]
 have e:∀ n:Nat,n<256->(BitVec.ofInt 8 (n:Int)).toNat=n:=fun n hn=>by
  rw[BitVec.toNat_ofInt]; omega
 rw[e a ha,e b hb];exact jr3 (z8 qi ha)
theorem and7:∀ a,a<256->((a &&& 7=0)↔a%8=0):=by decide +kernel
theorem du9:∀ x,x<256->((x &&& 7=0)↔(x.testBit 0=false/\x.testBit 1=false/\x.testBit 2=false)):=by decide +kernel
theorem and1:∀ a,a<256->((a &&& 1=0)↔a.testBit 0=false):=by decide +kernel
theorem ie7:∀ a,a<256->((a &&& 4=0)↔a.testBit 2=false):=by decide +kernel
theorem gn6 (a b:Int):al7 a b=-1\/al7 a b=0\/al7 a b=1:=by
 unfold al7; split
 ·exact .inl rfl
 ·split
  ·exact .inr (.inl rfl)
  ·exact .inr (.inr rfl)
theorem jg9 (a b:Str):cm4 a b=-1\/cm4 a b=0\/cm4 a b=1:=by
 unfold cm4; split
 ·exact .inl rfl
 ·split
  ·exact .inr (.inl rfl)
  ·exact .inr (.inr rfl)
theorem eg1 (a b:Part):ae8 a b=-1\/ae8 a b=0\/ae8 a b=1:=by
 have h:∀ k n s:Int,(k=-1\/k=0\/k=1)->(n=-1\/n=0\/n=1)->(s=-1\/s=0\/s=1)->((if k≠0 then k else if n≠0 then n else s)=-1\/(if k≠0 then k else if n≠0 then n else s)=0\/(if k≠0 then k else if n≠0 then n else s)=1):=by
  intro k n s h1 h2 h3;rcases h1 with rfl|rfl|rfl<;>rcases h2 with rfl|rfl|rfl<;>simp<;>exact h3
 refine h (al7 a.kind b.kind) (if a.kind=5/\b.kind=5 then al7 a.s.length b.s.length else 0) (cm4 a.s b.s) (gn6 _ _) ?_ (jg9 _ _);split
 ·exact gn6 _ _
 ·exact .inr (.inl rfl)
theorem ft9:∀ (l m:List Part),af9 l m=-1\/af9 l m=0\/af9 l m=1:=by
 intro l
 induction l with
 | nil=>intro m; exact .inr (.inl (by rw[af9]; intros; contradiction))
 | cons a l ih=>
  intro m
  cases m with
  | nil=>exact .inr (.inl (by rw[af9]; intros; contradiction))
  | cons b m=>
   rw[af9];split
   ·exact eg1 a b
   ·exact ih m
theorem fc3 (a b:Str):ao6 a b=-1\/ao6 a b=0\/ao6 a b=1:=ft9 _ _
theorem fc4 (a b:EVR):ai5 a b=-1\/ai5 a b=0\/ai5 a b=1:=by
 unfold ai5;split
 ·exact gn6 _ _
 ·split
  ·exact fc3 _ _
  ·split
   ·exact .inr (.inl rfl)
   ·exact fc3 _ _
def Dep.small (d:Dep):Prop:=0<=d.op/\d.op<256/\EVR.small d.evr
theorem an3 (d:Dep):Bnd 0 (.agg d.cs):=.agg _ fun c hc=>by
 simp only[Dep.cs,zc,zb,or_false] at hc;rcases hc with rfl|rfl|rfl|rfl|rfl
 ·exact .str _
 ·exact .int _ _
 ·exact .int _ _
 ·exact .str _
 ·exact .str _
theorem er3 (a b:Dep)(ha:Dep.small a)(hb:Dep.small b):PC Tryz.prog EE 151 [.agg a.cs,.agg b.cs] (.bool (meet a b)):=by
 refine ae5 hE fok151 (nZ rfl) (al3 (an3 a) (an3 b)) ?_;obtain ⟨a1,a2,a3⟩:=ha;obtain ⟨b1,b2,b3⟩:=hb;have hc:=az7 a.evr b.evr a3 b3;have h3:=fc4 a.evr b.evr;unfold meet;generalize ai5 a.evr b.evr=n at hc h3;simp only[EVR.cs] at hc;obtain ⟨x,hx⟩:∃ x:Nat,a.op=x:=⟨a.op.toNat,om⟩;obtain ⟨y,hy⟩:∃ y:Nat,b.op=y:=⟨b.op.toNat,om⟩;have hx2:x<256:=om
 have hy2:y<256:=om
 have ex7:bl5 x 7=((x &&& 7:Nat):Int):=aq5 x 7 hx2 om;have ey7:bl5 y 7=((y &&& 7:Nat):Int):=aq5 y 7 hy2 om;rw[hx,hy,zd,zd];by_cases hx0:x%8=0
 ·have q:=(and7 x hx2).2 hx0;rw[q] at ex7;have q':bl5 x 7=0:=ex7;simp only[ic151,go_sem,Dep.cs,hx,hy,as3,q',hx0,true_or];exact ab8 _
 ·have q:¬ (x &&& 7=0):=fun e=>hx0 ((and7 x hx2).1 e)
  have q':¬ bl5 x 7=0:=by rw[ex7]; omega
  by_cases hy0:y%8=0
  ·have r:=(and7 y hy2).2 hy0;rw[r] at ey7;have r':bl5 y 7=0:=ey7;simp only[ic151,go_sem,Dep.cs,hx,hy,as3,q',r',hy0,or_true];exact ab8 _
  ·have r:¬ (y &&& 7=0):=fun e=>hy0 ((and7 y hy2).1 e)
   have r':¬ bl5 y 7=0:=by rw[ey7]; omega
   simp only[ic151,go_sem,Dep.cs,hx,hy,as3,q',r',hx0,hy0,or_self];refine aa3 fok115 hc ?_;have exy:bl5 x y=((x &&& y:Nat):Int):=aq5 x y hx2 hy2;have hxy:x &&& y<256:=z8 qi hx2;have exy7:bl5 ((x &&& y:Nat):Int) 7=((x &&& y &&& 7:Nat):Int):=aq5 _ 7 hxy om;have s1:=gm5 1 (.inr (.inr rfl));have s2:=gm5 (-1) (.inl rfl);have n1:¬ ((1:Int)<0):=by decide
   have n2:¬ ((1:Int)=0):=by decide
   have n3:((-1:Int)<0):=by decide
   rw[if_neg n1,if_neg n2] at s1;rw[if_pos n3] at s2;have x1:bl5 x 1=((x &&& 1:Nat):Int):=aq5 x 1 hx2 om;have x4:bl5 x 4=((x &&& 4:Nat):Int):=aq5 x 4 hx2 om;have y1:bl5 y 1=((y &&& 1:Nat):Int):=aq5 y 1 hy2 om;have y4:bl5 y 4=((y &&& 4:Nat):Int):=aq5 y 4 hy2 om;have w1:IntKind.i64.wrap (0 - -1)=1:=by decide
   have w2:IntKind.i64.wrap (0-1)=-1:=by decide
   have bt:∀ (k i:Nat),bit (k:Int) i=k.testBit i:=fun k i=>by unfold bit; rw[zd]
   have z0:∀ k:Nat,((k:Int)=0)↔k=0:=fun k=>by omega
   rcases h3 with rfl|rfl|rfl
   ·have g1:side (- -1)=2:=by decide
    have g2:side (-1)=0:=by decide
    have m0:¬ ((-1:Int)=0):=by decide
    simp only[go_sem,m0,w1,g1,g2,bt];refine aa8 s1 ?_
    cases hb:x.testBit 2 with
    | true=>
     have e:¬ bl5 x 4=0:=by rw[x4,z0,ie7 x hx2,hb]; simp
     simp only[go_sem,as3,e]
     exact ab8 _
    | false=>
     have e:bl5 x 4=0:=by rw[x4,z0,ie7 x hx2,hb]
     simp only[go_sem,as3,e];refine aa8 s2 ?_
     cases hc:y.testBit 0 with
     | true=>
      have e2:¬ bl5 y 1=0:=by rw[y1,z0,and1 y hy2,hc]; simp
      simp only[go_sem,as3,e2]
      exact ab8 _
     | false=>
      have e2:bl5 y 1=0:=by rw[y1,z0,and1 y hy2,hc]
      simp only[go_sem,as3,e2];exact ab8 _
   ·simp only[go_sem,as3,exy,exy7,bt]
    have e:(!decide (((x &&& y &&& 7:Nat):Int)=0))=(x.testBit 0&&y.testBit 0||x.testBit 1&&y.testBit 1||x.testBit 2&&y.testBit 2):=by
     by_cases hz:x &&& y &&& 7=0
     ·obtain ⟨t0,t1,t2⟩:=(du9 _ hxy).1 hz;rw[zn] at t0 t1 t2;rw[hz,t0,t1,t2]; rfl
     ·have hz':¬ ((x &&& y &&& 7:Nat):Int)=0:=fun h=>hz om
      have ht:¬ ((x &&& y).testBit 0=false/\(x &&& y).testBit 1=false/\(x &&& y).testBit 2=false):=fun h=>hz ((du9 _ hxy).2 h)
      rw[zn,zn,zn] at ht;rw[decide_eq_false hz']
      revert ht
      generalize (x.testBit 0&&y.testBit 0)=b0;generalize (x.testBit 1&&y.testBit 1)=b1;generalize (x.testBit 2&&y.testBit 2)=b2;cases b0<;>cases b1<;>cases b2<;>simp
    rw[e];exact ab8 _
   ·have g1:side (-1)=0:=by decide
    have g2:side 1=2:=by decide
    simp only[go_sem,n2,w2,g1,g2,bt];refine aa8 s2 ?_
    cases hb:x.testBit 0 with
    | true=>
     have e:¬ bl5 x 1=0:=by rw[x1,z0,and1 x hx2,hb]; simp
     simp only[go_sem,as3,e]
     exact ab8 _
    | false=>
     have e:bl5 x 1=0:=by rw[x1,z0,and1 x hx2,hb]
     simp only[go_sem,as3,e];refine aa8 s1 ?_
     cases hc:y.testBit 2 with
     | true=>
      have e2:¬ bl5 y 4=0:=by rw[y4,z0,ie7 y hy2,hc]; simp
      simp only[go_sem,as3,e2]
      exact ab8 _
     | false=>
      have e2:bl5 y 4=0:=by rw[y4,z0,ie7 y hy2,hc]
      simp only[go_sem,as3,e2];exact ab8 _
theorem bj7 (d:Dep):Bnd 0 (.ab5 d.cs):=.ab5 _ fun c hc=>by
 simp only[Dep.cs,zc,zb,or_false] at hc;rcases hc with rfl|rfl|rfl|rfl|rfl
 ·exact .str _
 ·exact .int _ _
 ·exact .int _ _
 ·exact .str _
 ·exact .str _
theorem fc5 (a d:Dep)(ha:Dep.small a)(hd:Dep.small d):PC Tryz.prog EE 96 [.agg a.cs,.agg d.cs] (.bool (meets a d)):=by
 refine ae5 hE fok96 (nZ rfl) (al3 (an3 a) (an3 d)) ?_;have hm:=er3 a d ha hd;unfold meets;simp only[Dep.cs] at hm;by_cases h:a.name=d.name
 ·simp only[ic96,go_sem,Dep.cs,h] at hm ⊢;refine aa3 fok151 hm ?_;simp only[go_sem];exact ab8 _
 ·simp only[ic96,go_sem,Dep.cs,h];exact ab8 _
theorem gn7 (n:Str)(e:EVR):PC Tryz.prog EE 206 [.str n,.agg e.cs] (.agg (Dep.cs ⟨n,2,e⟩)):=by
 refine ae5 hE fok206 (nZ rfl) (al3 (.str _) (bt5 e)) ?_;simp only[ic206,go_sem,EVR.cs,Dep.cs]
 exact .keep _ (.agg _ fun c hc=>by
  simp only[zc,zb,or_false] at hc;rcases hc with rfl|rfl|rfl|rfl|rfl
  ·exact .str _
  ·exact .int _ _
  ·exact .int _ _
  ·exact .str _
  ·exact .str _)
theorem gn8 (p:aa2):PC Tryz.prog EE 150 [.agg p.cs] (.agg (own p).cs):=by
 refine ae5 hE fok150 (nZ rfl) (af3 (am6 p)) ?_;have ho:=gn7 p.name p.evr;simp only[EVR.cs,Dep.cs] at ho;simp only[ic150,go_sem,aa2.cs,own,Dep.cs];refine aa3 fok206 ho ?_;simp only[go_sem];exact .keep _ (an3 (own p))
def Pkg.small (p:aa2):Prop:=EVR.small p.evr/\(∀ d∈p.provides,Dep.small d)/\(∀ d∈p.ab2,Dep.small d)/\p.provides.length<2^40/\p.ab2.length<2^40/\p.files.length<2^40
theorem eg2 {p:aa2}(h:Pkg.small p):Dep.small (own p):=⟨by show (0:Int)<=2; decide,by show (2:Int)<256; decide,h.1⟩
theorem ag8 (p:aa2):p.cs.length=15:=rfl
theorem ai2 (p:aa2):p.cs.take 15=p.cs:=rfl
theorem ah4 (p:aa2):p.cs.all IV.leaf=true:=rfl
theorem dv1 (p:aa2)(d:Dep)(hp:Pkg.small p)(hd:Dep.small d):PC Tryz.prog EE 94 [.agg p.cs,.agg d.cs] (.bool (named p d)):=by
 refine ae5 hE fok94 (nZ rfl) (al3 (am6 p) (an3 d)) ?_;have ho:=gn8 p;have hm:=fc5 (own p) d (eg2 hp) hd;generalize hx:Dep.cs (own p)=x at ho hm;simp only[ic94,go_sem,ag8,ai2,ah4,aj5,ah1,ag7];refine aa8 ho ?_;simp only[go_sem,aj5,ah1,ag7];refine aa8 hm ?_;simp only[go_sem];exact ab8 _
theorem ho6 (q:aa2)(d:Dep)(hq:Pkg.small q)(hd:Dep.small d):PC Tryz.prog EE 246 ([]++[.agg d.cs]++[.ab5 q.cs]) (.bool (named q d)):=by
 refine ae5 hE fok246 (nZ rfl) (al3 (an3 d) (.ab5 _ (ah7 q))) ?_;simp only[ic246,go_sem,ag8,ai2,ah4,aj5,ah1,ag7];refine aa3 fok94 (dv1 q d hq hd) ?_;simp only[go_sem];exact ab8 _
theorem eg3 (p q:aa2)(hp:Pkg.small p)(hq:Pkg.small q):PC Tryz.prog EE 231 [.agg p.cs,.agg q.cs] (.bool (ab2 p q)):=by
 refine ae5 hE fok231 (nZ rfl) (al3 (am6 p) (am6 q)) ?_;have hc:=cc1 p.ab2 246 [] [.ab5 q.cs] (fun d=>named q d) (by have:=hp.2.2.2.2.1; omega) fok246.1 fun d hd=>ho6 q d hq (hp.2.2.1 d hd)
 have hf:(p.cs.drop 9).head? = zg (deps p.ab2):=rfl;simp only[ic231,go_sem,ah4,hf];refine aa3 fok44 hc ?_;simp only[go_sem];exact ab8 _
theorem gn9 (a d:Dep)(ha:Dep.small a)(hd:Dep.small d):PC Tryz.prog EE 95 ([]++[.agg a.cs]++[.ab5 d.cs]) (.bool (meets a d)):=by
 refine ae5 hE fok95 (nZ rfl) (al3 (an3 a) (bj7 d)) ?_;simp only[ic95,go_sem,aj5,ah1,ag7];refine aa3 fok96 (fc5 a d ha hd) ?_;simp only[go_sem];exact ab8 _
theorem er4 (l:List Str)(s:Str)(hl:l.length<2^40):PC Tryz.prog EE 152 [.aa4 (l.map bs8),.str s] (.int .i64 (aj8 (fun x=>decide (s=x)) l 0)):=by
 refine av9 fok152 (nZ rfl) fun σ=>?_
 simp only[ic152,go_sem];refine ab1 noT (fun i fr t=>t=σ/\fr=[(0,.aa4 (l.map bs8)),(1,.str s),(7,.int .i64 l.length),(8,.int .i64 i)]/\aj8 (fun x=>decide (s=x)) l 0=aj8 (fun x=>decide (s=x)) (l.drop i) i) l.length ⟨rfl,rfl,rfl⟩ ?_;rintro i fr t hi ⟨rfl,rfl,hf⟩;by_cases hlt:i<l.length
 ·obtain ⟨x,ha,_,hdr,hget,_⟩:=ad6 l i hlt;have c1:(i:Int)<l.length:=om
  have c2:(0:Int)<=i:=om
  have w1:=ac4 (i:=i) om;rw[hdr,aj8] at hf;by_cases e:s=x
  ·rw[if_pos (by simpa using e)] at hf;subst e;simp only[go_sem,c1,c2,hget,du2,bs8,hf,and_self]
  ·rw[if_neg (by simpa using e)] at hf;simp only[go_sem,c1,c2,hget,du2,bs8,e,w1];exact ⟨hlt,by rw[hf]; simp only[zv,zu]⟩
 ·have hi':i=l.length:=om
  subst hi';have c1:¬ (l.length:Int)<l.length:=om
  rw[zo] at hf;simp only[go_sem,c1,hf,aj8,and_self]
theorem go2 (l:List Str)(s:Str)(hl:l.length<2^40):PC Tryz.prog EE 97 [.aa4 (l.map bs8),.str s] (.bool (l.contains s)):=by
 refine av9 fok97 (nZ rfl) fun σ=>?_
 simp only[ic97,go_sem];refine aa3 fok152 (er4 l s hl) ?_
 have e:l.any (fun x=>decide (s=x))=l.contains s:=by
  induction l with
  | nil=>rfl
  | cons a l ih=>rw[List.any_cons,List.contains_cons,ih (by simp at hl; omega)]; congr 1; by_cases h:s=a<;>simp[h]
 simp only[go_sem,au7,e,and_self]
theorem da3 (p:aa2)(d:Dep)(hp:Pkg.small p)(hd:Dep.small d):PC Tryz.prog EE 46 [.agg p.cs,.agg d.cs] (.bool (provides p d)):=by
 refine ae5 hE fok46 (nZ rfl) (al3 (am6 p) (an3 d)) ?_;have hn:=dv1 p d hp hd;have hc:=cc1 p.provides 95 [] [.ab5 d.cs] (fun a=>meets a d) (by have:=hp.2.2.2.1; omega) fok95.1 fun a ha=>gn9 a d (hp.2.1 a ha) hd
 have hs:=go2 p.files d.name hp.2.2.2.2.2;have hf:(p.cs.drop 6).head? = zg (deps p.provides):=rfl;have hg:(p.cs.drop 14).head? = zg (strs p.files):=rfl;have d0:d.cs.head? = zg (.str d.name):=rfl;have d1:(d.cs.drop 1).head? = zg (.int .u8 d.op):=rfl;unfold provides
 cases hb:named p d with
 | true=>
  rw[hb] at hn;simp only[ic46,go_sem,ag8,ai2,ah4,aj5,ah1,ag7];refine aa3 fok94 hn ?_;simp only[go_sem]
  exact ab8 _
 | false=>
  rw[hb] at hn;simp only[ic46,go_sem,ag8,ai2,ah4,aj5,ah1,ag7];refine aa3 fok94 hn ?_;simp only[go_sem,hf];refine aa3 fok44 hc ?_
  cases ha:p.provides.any (fun a=>meets a d) with
  | true=>
   simp only[go_sem]
   exact ab8 _
  | false=>
   by_cases h0:d.op=0
   ·simp only[go_sem,d0,d1,h0,hg];refine aa3 fok97 hs ?_;simp only[go_sem];exact ab8 _
   ·simp only[go_sem,d0,d1,h0];exact ab8 _
end Go.Id.Tryz
namespace Go.Id.Tryz
open Go Go.Id Go.Proofs Go.Id.Md
theorem fu1 (p:aa2)(n:Int)(d:Dep)(hp:Pkg.small p)(hd:Dep.small d):PC Tryz.prog EE 237 [.agg p.cs,.int .i64 n,.ab5 d.cs] (.bool (provides p d)):=by
 refine ae5 hE fok237 (nZ rfl) (fun a ha=>by
  simp only[zc,zb,or_false] at ha;rcases ha with rfl|rfl|rfl
  ·exact am6 p
  ·exact .int _ _
  ·exact bj7 d) ?_
 simp only[ic237,go_sem,ag8,ai2,ah4,aj5,ah1,ag7];refine aa3 fok46 (da3 p d hp hd) ?_;simp only[go_sem];exact ab8 _
theorem er5 (p:aa2)(n:Int)(d:Dep)(hp:Pkg.small p)(hd:Dep.small d):PC Tryz.prog EE 245 [.agg p.cs,.int .i64 n,.ab5 d.cs] (.bool (named p d)):=by
 refine ae5 hE fok245 (nZ rfl) (fun a ha=>by
  simp only[zc,zb,or_false] at ha;rcases ha with rfl|rfl|rfl
  ·exact am6 p
  ·exact .int _ _
  ·exact bj7 d) ?_
 simp only[ic245,go_sem,ag8,ai2,ah4,aj5,ah1,ag7];refine aa3 fok94 (dv1 p d hp hd) ?_;simp only[go_sem];exact ab8 _
theorem go3 (nm:Nms)(σ:Store)(k:Str):∃ v,de1 σ 2 .aa1 false (.an9 (nmV nm)) (.str k)=zg v/\(v=.aa4 ((ae2 nm k).map Md.ae4)\/v=.aa1/\ae2 nm k=[]):=by
 have h:∀ nm:Nms,∃ r,az5 2 (.str k) (nmV nm)=zg r/\((∃ v,r=zg v/\v=.aa4 ((ae2 nm k).map Md.ae4))\/r=none/\ae2 nm k=[]):=by
  intro nm
  induction nm with
  | nil=>exact ⟨none,rfl,.inr ⟨rfl,rfl⟩⟩
  | cons t ts ih=>
   obtain ⟨r,h1,h2⟩:=ih;simp only[nmV,List.map_cons,az5,ev7,ae2] at h1 ⊢;by_cases e:k=t.1
   ·simp only[e,decide_true,if_true];exact ⟨_,rfl,.inl ⟨_,rfl,rfl⟩⟩
   ·simp only[e,decide_false,if_false];exact ⟨r,h1,h2⟩
 obtain ⟨r,h1,h2⟩:=h nm;rcases h2 with ⟨v,rfl,rfl⟩|⟨rfl,h3⟩
 ·refine ⟨.aa4 ((ae2 nm k).map Md.ae4),?_,.inl rfl⟩;simp only[de1,cr9,h1];rfl
 ·refine ⟨.aa1,?_,.inr ⟨rfl,h3⟩⟩;simp only[de1,cr9,h1];rfl
theorem numsOf_at {q:aa2->Bool}{l:List aa2}{n:Int}(h:n∈numsOf q l):∃ m:Nat,n=m/\m<l.length:=by
 obtain ⟨m,h1,h2,_⟩:=au6.1 h;exact ⟨m,h1,h2⟩
theorem getD_at (l:List aa2)(m:Nat)(h:m<l.length):l.getD m default=l[m]:=by simp[za,h]
theorem da4 (l:List aa2)(d:Dep)(hl:l.length<2^20)(hs:∀ p∈l,Pkg.small p)(hd:Dep.small d):PC Tryz.prog EE 209 [(ak3 l).v,.agg d.cs] (.aa4 ((ap6 l d).map Md.ae4)):=by
 have hi:=bn1 l;have hb:=bj6 (ak3 l);refine ae5 hE fok209 (nZ rfl) (al3 hb (an3 d)) ?_;have hlook:=hi.ax2 d.name
 have hsift:∀ v,(v=.aa4 ((ae2 (ak3 l).ax2 d.name).map Md.ae4)\/v=.aa1/\ae2 (ak3 l).ax2 d.name=[])->PC Tryz.prog EE 229 [(ak3 l).v,v,.func (.func 237) [] [.ab5 d.cs]] (.aa4 ((ap6 l d).map Md.ae4)):=by
  intro v hv
  have h:=gm9 (ak3 l) (ae2 (ak3 l).ax2 d.name) (by rw[hlook]; have:=ba2 (fun p=>decide (d.name∈cy6 p)) l; omega) 237 [.ab5 d.cs] (fun n=>provides (l.getD n.toNat default) d) (af3 (bj7 d)) fok237.1 (fun n hn=>by
   rw[hlook] at hn;obtain ⟨m,rfl,hm⟩:=numsOf_at hn;refine ⟨m,rfl,by rw[hi.all]; exact hm,?_⟩;have e:(ak3 l).all[m]'(by rw[hi.all]; exact hm)=l[m]:=by simp only[hi.all]
   rw[e,zd,getD_at l m hm];exact fu1 l[m] m d (hs _ (ze hm)) hd)
  rw[ed1] at h;rcases hv with rfl|⟨rfl,h0⟩
  ·exact h
  ·rw[h0] at h;have hw:∀ {v:IV} {σ:Store},Bnd 0 v->Frz σ (fun _=>true=true) v v:=fun h=>.keep _ (h.weak fun _ _=>rfl)
   refine em1 (args':=[(ak3 l).v,.aa4 [],.func (.func 237) [] [.ab5 d.cs]]) rfl (fun σ i hi=>?_) h
   match i,hi with
   | 0,_=>exact hw hb
   | 1,_=>exact .dc1
   | 2,_=>exact hw (.func _ _ _ (fun c hc=>by cases hc) (af3 (bj7 d)))
 have hx:(ak3 l).v=.ab5 [.aa4 ((ak3 l).all.map aa2.cs),.an9 (nmV (ak3 l).ax2),.an9 (nmV (ak3 l).names),.an9 (nmV (ak3 l).over)]:=rfl;have d0:d.cs.head? = zg (.str d.name):=rfl;have hres:=ai1 (ap6 l d)
 have hk0:∀ σ:Store,∃ v,de1 σ 2 .aa1 false (.an9 (nmV (ak3 l).ax2)) (.str d.name)=zg v/\PC Tryz.prog EE 229 [(ak3 l).v,v,.func (.func 237) [] [.ab5 d.cs]] (.aa4 ((ap6 l d).map Md.ae4)):=fun σ=>
  let ⟨v,h1,h2⟩:=go3 (ak3 l).ax2 σ d.name
  ⟨v,h1,hsift v h2⟩
 clear hsift hlook;rw[hx] at hk0 ⊢;generalize (ak3 l).all.map aa2.cs=a0 at *;simp only[ic209,go_sem,aj5,ah1,ag7,d0];obtain ⟨v,hk,hsv⟩:=hk0 ⟨11,emp.obj⟩;simp only[go_sem,hk];refine aa3 fok229 hsv ?_;simp only[go_sem];exact .keep _ hres
theorem er6 (l:List aa2)(d:Dep)(hl:l.length<2^20)(hs:∀ p∈l,Pkg.small p)(hd:Dep.small d):PC Tryz.prog EE 226 [(ak3 l).v,.agg d.cs] (.aa4 ((bg6 l d).map Md.ae4)):=by
 have hi:=bn1 l;have hb:=bj6 (ak3 l);refine ae5 hE fok226 (nZ rfl) (al3 hb (an3 d)) ?_;have hlook:=hi.names d.name
 have hsift:∀ v,(v=.aa4 ((ae2 (ak3 l).names d.name).map Md.ae4)\/v=.aa1/\ae2 (ak3 l).names d.name=[])->PC Tryz.prog EE 229 [(ak3 l).v,v,.func (.func 245) [] [.ab5 d.cs]] (.aa4 ((bg6 l d).map Md.ae4)):=by
  intro v hv
  have h:=gm9 (ak3 l) (ae2 (ak3 l).names d.name) (by rw[hlook]; have:=ba2 (fun p=>decide (p.name=d.name)) l; omega) 245 [.ab5 d.cs] (fun n=>named (l.getD n.toNat default) d) (af3 (bj7 d)) fok245.1 (fun n hn=>by
   rw[hlook] at hn;obtain ⟨m,rfl,hm⟩:=numsOf_at hn;refine ⟨m,rfl,by rw[hi.all]; exact hm,?_⟩;have e:(ak3 l).all[m]'(by rw[hi.all]; exact hm)=l[m]:=by simp only[hi.all]
   rw[e,zd,getD_at l m hm];exact er5 l[m] m d (hs _ (ze hm)) hd)
  rw[hc7] at h;rcases hv with rfl|⟨rfl,h0⟩
  ·exact h
  ·rw[h0] at h;have hw:∀ {v:IV} {σ:Store},Bnd 0 v->Frz σ (fun _=>true=true) v v:=fun h=>.keep _ (h.weak fun _ _=>rfl)
   refine em1 (args':=[(ak3 l).v,.aa4 [],.func (.func 245) [] [.ab5 d.cs]]) rfl (fun σ i hi=>?_) h
   match i,hi with
   | 0,_=>exact hw hb
   | 1,_=>exact .dc1
   | 2,_=>exact hw (.func _ _ _ (fun c hc=>by cases hc) (af3 (bj7 d)))
 have hx:(ak3 l).v=.ab5 [.aa4 ((ak3 l).all.map aa2.cs),.an9 (nmV (ak3 l).ax2),.an9 (nmV (ak3 l).names),.an9 (nmV (ak3 l).over)]:=rfl;have d0:d.cs.head? = zg (.str d.name):=rfl;have hres:=ai1 (bg6 l d)
 have hk0:∀ σ:Store,∃ v,de1 σ 2 .aa1 false (.an9 (nmV (ak3 l).names)) (.str d.name)=zg v/\PC Tryz.prog EE 229 [(ak3 l).v,v,.func (.func 245) [] [.ab5 d.cs]] (.aa4 ((bg6 l d).map Md.ae4)):=fun σ=>
  let ⟨v,h1,h2⟩:=go3 (ak3 l).names σ d.name
  ⟨v,h1,hsift v h2⟩
 clear hsift hlook;rw[hx] at hk0 ⊢;generalize (ak3 l).all.map aa2.cs=a0 at *;simp only[ic226,go_sem,aj5,ah1,ag7,d0];obtain ⟨v,hk,hsv⟩:=hk0 ⟨11,emp.obj⟩;simp only[go_sem,hk];refine aa3 fok229 hsv ?_;simp only[go_sem];exact .keep _ hres
end Go.Id.Tryz
namespace Go.Id.Tryz
open Go Go.Id Go.Proofs Go.Id.Md
end Go.Id.Tryz
namespace Go.Id.Tryz
open Go Go.Id Go.Proofs Go.Id.Md
end Go.Id.Tryz
namespace Go.Id.Tryz
open Go Go.Id Go.Proofs Go.Id.Md
abbrev wr (n:Int):Int:=IntKind.i64.wrap n
mutual
def ptR:aa6->Int->Int
 | .mk _ _ xs,n=>ptL xs n 0
def ptL:List aa6->Int->Int->Int
 | [],_,w=>w
 | r::rs,n,w=>if w<n then ptL rs n (wr (wr (w+1)+ptR r (wr (n-w)))) else w
end
theorem jh1 (r:aa6)(n:Int):ptR r n=ptL r.args n 0:=by cases r with|mk k d xs=>simp only[ptR,aa6.args]
theorem hp4 (r:aa6):(r.cs.drop 6).head? = zg (af1 r.args):=by rw[aa6.aq6]; rfl
def lR (l:List aa6):List IV:=[af1 l]
def iq5:List (List aa6)->Int->Int->Int
 | [],_,w=>w
 | l::ls,n,w=>iq5 ls n (wr (w+ptL l n 0))
def szP (p:aa2)(n w:Int):Int:=iq5 (bb2 p) n (wr (wr (wr (wr (w+1)+p.provides.length)+p.ab2.length)+p.files.length))
def szL:List aa2->Int->Int->Int
 | [],_,w=>w
 | p::ps,n,w=>if w<n then szL ps n (szP p n w) else w
theorem go4 {p:aa2}(h:p.Ok):∀ l∈bb2 p,l.length<2^62/\∀ r∈l,r.ok:=by
 intro l hl;simp only[bb2,zc,zb,or_false] at hl;have:=h.rich;simp only[aa2.rows,zc,zb,or_false,forall_eq_or_imp,forall_eq] at this;obtain ⟨a1,a2,a3,a4,a5,a6⟩:=this;rcases hl with rfl|rfl|rfl|rfl|rfl|rfl
 ·exact a1
 ·exact a2
 ·exact a3
 ·exact a4
 ·exact a5
 ·exact a6
structure jh2 (ab3:List am5) (inst:List aa2):Prop where
 r1:ab3.length<2^20
 i1:inst.length<2^20
 s1:af5 ab3<2^40
 rf:∀ r∈ab3,am5.Fit r
 pf:∀ p∈inst,p.Fit
 ro:∀ r∈ab3,am5.Ok r
 po:∀ p∈inst,p.Ok
theorem fu2 {p:aa2}(h:p.Tiny):Pkg.small p:=by
 have e:∀ v:EVR,v.tiny->EVR.small v:=fun v hv=>⟨by have:=hv.1; omega,by have:=hv.2; omega⟩
 refine ⟨e _ h.evr,fun d hd=>?_,fun d hd=>?_,?_,?_,?_⟩
 ·obtain ⟨a,b,c,_⟩:=h.ax2.2 d hd; exact ⟨a,b,e _ c⟩
 ·obtain ⟨a,b,c,_⟩:=h.obs.2 d hd; exact ⟨a,b,e _ c⟩
 ·have:=h.ax2.1; omega
 ·have:=h.obs.1; omega
 ·have:=h.files; omega
theorem ie8 {ab3:List am5}{inst:List aa2}{p:Pool}(hI:jh2 ab3 inst)(h:ce2 ab3 inst=.inl p):∀ x∈ad4 p,x.Fit/\Pkg.small x/\x.Tiny:=by
 intro x hx;obtain ⟨h1,h2⟩:=ex8 h x hx;refine ⟨?_,fu2 (ey2 h1),ey2 h1⟩;rcases h2 with h2|⟨r,hr,h2⟩
 ·exact hI.pf x h2
 ·exact (hI.rf r hr).2 x h2
end Go.Id.Tryz
namespace Go.Id.Tryz
open Go Go.Id Go.Proofs Go.Id.Md
theorem iq6 (x:Index)(n:Int):PC Tryz.prog EE 228 [x.v,.int .i64 n] (.bool (decide (0<=n)&&decide (n<x.all.length))):=by
 refine ae5 hE fok228 (nZ rfl) (al3 (bj6 x) (.int _ _)) ?_;have hx:x.v=.ab5 [.aa4 (x.all.map aa2.cs),.an9 (nmV x.ax2),.an9 (nmV x.names),.an9 (nmV x.over)]:=rfl;have hnil:∀ (d:TypeId) (cs:List IV) (c:IV),ct5 (.pointer d) (.ab5 (c::cs))=zg false:=fun _ _ _=>rfl
 rw[hx];have hlen:(x.all.map aa2.cs).length=x.all.length:=zf ..;generalize x.all.map aa2.cs=es at *;generalize x.all.length=k at *;by_cases h1:0<=n
 ·by_cases h2:n<(k:Nat)
  ·have h2':n<(es.length:Nat):=om
   simp only[ic228,go_sem,hnil,h1,h2,h2',hlen,Bool.and_self];exact ab8 _
  ·have h2':¬ n<(es.length:Nat):=om
   simp only[ic228,go_sem,hnil,h1,h2,h2',hlen,Bool.and_false];exact ab8 _
 ·simp only[ic228,go_sem,hnil,h1,Bool.false_and];exact ab8 _
theorem go5 (l:List aa2)(m n:Nat)(hm:m<l.length)(hn:n<l.length)(hs:∀ p∈l,Pkg.small p) :
  PC Tryz.prog EE 230 [.agg l[m].cs,.int .i64 m,.ab5 [.int .i64 n],.ab5 [(ak3 l).v]] (.bool (decide (m≠n)&&ab2 l[m] l[n])):=by
 refine ae5 hE fok230 (nZ rfl) (fun a ha=>by
  simp only[zc,zb,or_false] at ha;rcases ha with rfl|rfl|rfl|rfl
  ·exact am6 _
  ·exact .int _ _
  ·exact .ab5 _ (af3 (.int _ _))
  ·exact .ab5 _ (af3 (bj6 _))) ?_
 have hx:(ak3 l).v=.ab5 [.aa4 (l.map aa2.cs),.an9 (nmV (ak3 l).ax2),.an9 (nmV (ak3 l).names),.an9 (nmV (ak3 l).over)]:=by
  show IV.ab5 [.aa4 ((ak3 l).all.map aa2.cs),_,_,_]=_;rw[(bn1 l).all]
 have ho:=eg3 l[m] l[n] (hs _ (ze hm)) (hs _ (ze hn));have hg:(l.map aa2.cs).getD n []=l[n].cs:=by simp[za,hn]
 have hl:(l.map aa2.cs).length=l.length:=zf ..;rw[hx];generalize l.map aa2.cs=es at *;by_cases e:m=n
 ·have e':(m:Int)=n:=om
  simp only[ic230,go_sem,ag8,ai2,ah4,e',e,ne_eq,not_true_eq_false,decide_false,Bool.false_and];exact ab8 _
 ·have e':¬ (m:Int)=n:=om
  have c1:(0:Int)<=n:=om
  have c2:(n:Int)<es.length:=om
  simp only[ic230,go_sem,ag8,ai2,ah4,e',e,c1,c2,hg,ne_eq,not_false_eq_true,decide_true,Bool.true_and];refine aa3 fok231 ho ?_;simp only[go_sem];exact ab8 _
def am3 (l:List aa2)(n:Nat):List Int:=(ae2 (ak3 l).over (l.getD n default).name).filter fun k=>decide (k.toNat≠n)&&ab2 (l.getD k.toNat default) (l.getD n default)
theorem da5 {l:List aa2}{n:Nat}{k:Int}:k∈am3 l n↔∃ m:Nat,k=m/\m<l.length/\m≠n/\ab2 (l.getD m default) (l.getD n default)=true:=by
 unfold am3;rw[(bn1 l).over,List.mem_filter];constructor
 ·rintro ⟨h1,h2⟩;obtain ⟨m,rfl,h3,_⟩:=au6.1 h1;simp only[zd,zp,decide_eq_true_eq] at h2;exact ⟨m,rfl,h3,h2.1,h2.2⟩
 ·rintro ⟨m,rfl,h1,h2,h3⟩;refine ⟨au6.2 ⟨m,rfl,h1,?_⟩,?_⟩
  ·obtain ⟨d,h4,h5⟩:=List.any_eq_true.1 h3;refine decide_eq_true ⟨d,h4,?_⟩;simp only[named,meets,zp,decide_eq_true_eq] at h5;exact h5.1.symm
  ·simp only[zd,zp,decide_eq_true_eq];exact ⟨h2,h3⟩
theorem da6 (l:List aa2)(n:Nat):(am3 l n).length<=l.length:=by
 unfold am3;rw[(bn1 l).over];exact Nat.le_trans (qn _ _) (ba2 _ _)
end Go.Id.Tryz
namespace Go.Id.Tryz
open Go Go.Id Go.Proofs Go.Id.Md
abbrev iv (n:Int):IV:=.int .i64 n
theorem go6 {id n k:Nat}(h:k<=n):bv7 1 (zg (.int .i64 (k:Int))) none (.slice id 0 n 1)=zg (.slice id k (n-k) 1):=by
 have e:(0:Int)<=k:=om
 simp[bv7,cd8,ej1,e,h]
theorem ie9 {id n k:Nat}(h:k<=n):bv7 1 none (zg (.int .i64 (k:Int))) (.slice id 0 n 1)=zg (.slice id 0 k 1):=by
 have e:(0:Int)<=k:=om
 simp[bv7,cd8,ej1,e,h]
theorem cr2 {zs:List Int}{p:Nat}(h:p+1<zs.length)(x:Int):x∈zs.take (p+1+1)↔x∈zs.take (p+1)\/x=zs[p+1]:=by
 rw[qu (i:=p+1),zk h,List.mem_append];simp[Option.toList]
theorem cr3 {zs:List Int}{p:Nat}(h:p+1<zs.length)(e:zs[p+1]=zs[p])(x:Int):x∈zs.take (p+1)↔x∈zs.take (p+1+1):=by
 rw[cr2 h];refine ⟨.inl,fun q=>q.elim (fun q=>q) fun q=>?_⟩;rw[q,e];exact z1.2 ⟨p,by rw[zi]; omega,by rw[qa]⟩
theorem eg4 {cs vs:List IV}{k:Nat}(h:k<=cs.length):(av1 cs k vs).take k=cs.take k:=by
 unfold av1;rw[List.append_assoc,zl (by rw[zi]; omega),List.take_take,Nat.min_self]
theorem dn5 {cs:List IV}{v:IV}{k:Nat}(h:k<=cs.length):(av1 cs k [v]).take (k+1)=cs.take k++[v]:=by
 unfold av1;have e:(cs.take k++[v]).length=k+1:=by rw[zj,zi,zh]; omega
 rw[zl om,zz om]
theorem dn6 {cs:List IV}{v:IV}{k q:Nat}(h:k<q)(hk:k<=cs.length):(av1 cs k [v]).drop q=cs.drop q:=by
 unfold av1;have e:(cs.take k++[v]).length=k+1:=by rw[zj,zi,zh]; omega
 rw[List.drop_append,e,List.drop_of_length_le om,List.nil_append,qj,zh];congr 1; omega
theorem jh3 {pt:PT}{ct:CT}{P:Program}{E:Nat->IV}{e id:Nat}{z:List IV}{x:IX}{fr:Frm}{σ:Store}{K:IV->Store->Prop}:opT pt ct P E (.clr e z x) id fr σ K=bw6 (gb2 σ e z (x.ev E fr)) fun σ'=>σ'.next=σ.next/\K .undef σ':=rfl
theorem go7 {σ:Store}{id k n:Nat}{cs:List IV}(ho:σ.obj id=zg (.row cs))(h1:k<n)(h2:n<=cs.length):gb2 σ 1 [.int .i64 0] (.slice id k (n-k) 1)=zg (σ.put id (.row (av1 cs k (rep [.int .i64 0] (n-k))))):=by
 have e1:¬ n-k=0:=om
 have e2:k+(n-k)*1<=cs.length:=om
 unfold gb2;simp only[e1,if_false,ho,e2,true_and];rfl
structure jt9 (R:Int->Int->Prop) (σ:Store) (id:Nat) (zs:List Int) (v:IV) (s:Store):Prop where
 out:∃ (D:List Int) (cs:List IV),D.Pairwise R/\(∀ x,x∈D↔x∈zs)/\v=.slice id 0 D.length 1/\s.obj id=zg (.row cs)/\cs.take D.length=D.map iv/\D.length<=cs.length
 next:σ.next<=s.next
 other:∀ i,i≠id->s.obj i=σ.obj i
theorem dn7 {R:Int->Int->Prop}{σ:Store}{id:Nat}{zs:List Int}{tl:List IV}(hT:∀ a∈zs,∀ b∈zs,∀ c∈zs,R a b->R b c->R a c)(hz:zs.length<2^40)(ho:σ.obj id=zg (.row (zs.map iv++tl)))(hs:zs.Pairwise fun a b=>a=b\/R a b) :
  C Tryz.prog EE 63 [.slice id 0 zs.length 1] σ (jt9 R σ id zs):=by
 refine C_f fok63 (nZ rfl) ?_;by_cases h2:(zs.length:Int)<2
 ·simp only[ic63,go_sem,h2];refine ⟨⟨zs,zs.map iv++tl,?_,fun _=>Iff.rfl,rfl,ho,by rw[zl (by simp),zz (by simp)],by simp⟩,zm _,fun _ _=>rfl⟩
  match zs,h2 with
  | [],_=>exact .nil
  | [a],_=>simp
  | a::b::l,h2=>simp only[List.length_cons] at h2; omega
 simp only[ic63,go_sem,h2];refine ab1 noT (fun i fr t=>(t.obj=σ.obj/\σ.next<=t.next)/\fr=[(0,.slice id 0 zs.length 1),(3,.int .i64 ((i+1:Nat):Int))]/\i+1<=zs.length/\(zs.take (i+1)).Pairwise R) zs.length ⟨⟨rfl,zm _⟩,rfl,om,?_⟩ ?_
 ·cases zs with
  | nil=>exact .nil
  | cons a l=>simp
 rintro i fr t hi ⟨⟨hob,hnx⟩,rfl,hle,hpw⟩;have hot:t.obj id=zg (.row (zs.map iv++tl)):=by rw[hob]; exact ho
 have hh:∀ (j:Nat) (h:j<zs.length),((zs.map iv++tl).drop j).head? = zg (.int .i64 zs[j]):=fun j h=>by simp[List.head?_drop,ql,h]
 have hml:zs.length<=(zs.map iv++tl).length:=by rw[zj,zf]; omega
 by_cases hlt:i+1<zs.length
 ·have c1:((i+1:Nat):Int)<zs.length:=om
  have c2:(0:Int)<=((i+1:Nat):Int):=om
  have c3:IntKind.i64.wrap (((i+1:Nat):Int)-1)=(i:Int):=by rw[wrap64 om om]; omega
  have c4:(0:Int)<=(i:Int):=om
  have c5:(i:Int)<zs.length:=om
  have w1:=ac4 (i:=i+1) om;have g1:=hh (i+1) hlt;have g2:=hh i om;have hle2:zs[i]=zs[i+1]\/R zs[i] zs[i+1]:=zr.1 hs i (i+1) om hlt om;by_cases e:zs[i+1]=zs[i]'om
  ·simp only[go_sem,c1,c2,c3,c4,c5,hot,g1,g2,e,zd,qb,qf,w1,go6 (show i+1<=zs.length by omega)]
   refine ab1 noT (fun j fr t=>∃ (k:Nat) (cs:List IV) (D:List Int),fr=[(0,.slice id 0 zs.length 1),(3,.int .i64 (k:Int)),(4,.slice id (i+1) (zs.length-(i+1)) 1),(5,.int .i64 ((j+1:Nat):Int))] /\
    (σ.next<=t.next/\∀ q,q≠id->t.obj q=σ.obj q)/\t.obj id=zg (.row cs)/\zs.length<=cs.length/\k<=i+1+j/\i+1+j<zs.length/\D.length=k/\cs.take k=D.map iv/\D.Pairwise R/\(∀ x,x∈D↔x∈zs.take (i+1+j+1)) /\
    ∀ (q:Nat) (h:q<zs.length),k<=q->(cs.drop q).head? = zg (.int .i64 zs[q])) (zs.length-(i+1)) ?_ ?_
   ·refine ⟨i+1,zs.map iv++tl,zs.take (i+1),rfl,⟨by show σ.next<=t.next+10; omega,fun q _=>by rw[hob]⟩,hot,hml,om,om,by rw[zi]; omega,by rw[zl (by rw[zf]; omega),List.map_take],hpw,fun x=>?_,fun q h _=>hh q h⟩;exact cr3 (p:=i) hlt e x
   rintro j fr u hj ⟨k,cs,D,rfl,⟨un,uo⟩,hoc,hcl,hk1,hk2,hDl,hDt,hDp,hDm,hcs⟩;by_cases hl2:j+1<zs.length-(i+1)
   ·have d1:((j+1:Nat):Int)<(zs.length-(i+1):Nat):=om
    have d2:(0:Int)<=((j+1:Nat):Int):=om
    have d3:IntKind.i64.wrap (((j+1:Nat):Int)-1)=(j:Int):=by rw[wrap64 om om]; omega
    have d4:(0:Int)<=(j:Int):=om
    have d5:(j:Int)<(zs.length-(i+1):Nat):=om
    have d6:(0:Int)<=(k:Int):=om
    have d7:(k:Int)<zs.length:=om
    have d8:k+1<=cs.length:=om
    have w2:=ac4 (i:=j+1) om;have w3:=ac4 (i:=k) om;have f1:=hcs (i+1+(j+1)) om om;have f2:=hcs (i+1+j) om om;by_cases e2:zs[i+1+(j+1)]=zs[i+1+j]
    ·simp only[go_sem,d1,d2,d3,d4,d5,hoc,f1,f2,e2,zd,qb,qf,w2];exact ⟨om,k,cs,D,rfl,⟨om,uo⟩,rfl,hcl,om,om,hDl,hDt,hDp,fun x=>(hDm x).trans (cr3 (p:=i+1+j) om e2 x),hcs⟩
    ·simp only[go_sem,d1,d2,d3,d4,d5,d6,d7,d8,hoc,f1,f2,e2,zd,qb,qf,w2,w3];have hle3:zs[i+1+j]=zs[i+1+(j+1)]\/R zs[i+1+j] zs[i+1+(j+1)]:=zr.1 hs (i+1+j) (i+1+(j+1)) om om om;have hn:=cr2 (zs:=zs) (p:=i+1+j) om;have hR3:R zs[i+1+j] zs[i+1+(j+1)]:=hle3.elim (fun q=>absurd q.symm e2) fun q=>q
     have hlt3:∀ x∈D,R x zs[i+1+(j+1)]:=by
      intro x hx;obtain ⟨q,hq,rfl⟩:=z1.1 ((hDm x).1 hx);rw[zi] at hq;rw[qa];by_cases hqe:q=i+1+j
      ·subst hqe; exact hR3
      ·rcases zr.1 hs q (i+1+j) om om om with h|h
       ·rw[h]; exact hR3
       ·exact hT _ (ze _) _ (ze _) _ (ze _) h hR3
     have hb1:σ.next<=u.next+10:=om
     refine ⟨om,k+1,av1 cs k [.int .i64 zs[i+1+(j+1)]],D++[zs[i+1+(j+1)]],rfl,⟨hb1,fun q hq=>by rw[if_neg hq]; exact uo q hq⟩,rfl,?_,om,om,by rw[zj,hDl]; rfl,?_,?_,fun x=>?_,fun q h hq=>?_⟩
     ·rw[ag1 (by rw[zh]; omega)]; exact hcl
     ·rw[dn5 om,hDt,qg]; rfl
     ·exact qo.2 ⟨hDp,by simp,fun a ha b hb=>by
       simp only[zc,zb,or_false] at hb;subst hb; exact hlt3 a ha⟩
     ·rw[List.mem_append,hDm x];refine Iff.trans ?_ (hn x).symm;simp only[zc,zb,or_false];exact Iff.rfl
     ·rw[dn6 om om];exact hcs q h om
   ·have d1:¬ ((j+1:Nat):Int)<(zs.length-(i+1):Nat):=om
    have hkn:k<zs.length:=om
    have hj':i+1+j+1=zs.length:=om
    rw[hj',qc] at hDm;simp only[go_sem,d1,go6 (show k<=zs.length by omega),ie9 (show k<=zs.length by omega),hoc,jh3,go7 hoc hkn om];have hrl:(rep [IV.int .i64 0] (zs.length-k)).length=zs.length-k:=by rw[ar4]; simp
    refine ⟨⟨D,av1 cs k (rep [IV.int .i64 0] (zs.length-k)),hDp,hDm,by rw[hDl],by simp only[aa5,if_true],by rw[hDl,eg4 om]; exact hDt,?_⟩,un,fun q hq=>?_⟩
    ·rw[ag1 (by rw[hrl]; omega),hDl]; omega
    ·simp only[aa5,if_neg hq];exact uo q hq
  ·simp only[go_sem,c1,c2,c3,c4,c5,hot,g1,g2,e,zd,qb,qf,w1];refine ⟨om,⟨hob,by show σ.next<=_; omega⟩,om,?_⟩;rw[qu,zk hlt,qo];refine ⟨hpw,by simp,fun a ha b hb=>?_⟩;simp only[Option.toList,zc,zb,or_false] at hb;subst hb;obtain ⟨j,hj,rfl⟩:=z1.1 ha;rw[zi] at hj;rw[qa];have hR2:R zs[i] zs[i+1]:=hle2.elim (fun q=>absurd q.symm e) fun q=>q
   by_cases hji:j=i
   ·subst hji; exact hR2
   ·rcases zr.1 hs j i om om om with h|h
    ·rw[h]; exact hR2
    ·exact hT _ (ze _) _ (ze _) _ (ze _) h hR2
 ·have hi':i+1=zs.length:=om
  have c1:¬ ((i+1:Nat):Int)<zs.length:=om
  simp only[go_sem,c1];rw[hi',qc] at hpw;exact ⟨⟨zs,zs.map iv++tl,hpw,fun _=>Iff.rfl,rfl,hot,by rw[zl (by simp),zz (by simp)],by simp⟩,hnx,fun j _=>by rw[hob]⟩
abbrev Cmp:=jt9 (· < ·)
theorem go8 {σ:Store}{id:Nat}{zs:List Int}(hz:zs.length<2^40)(ho:σ.obj id=zg (.row (zs.map iv)))(hs:zs.Pairwise (·<=·)) :
  C Tryz.prog EE 63 [.slice id 0 zs.length 1] σ (Cmp σ id zs):=
 dn7 (tl:=[]) (fun _ _ _ _ _ _ h h2=>Int.lt_trans h h2) hz (by rw[List.append_nil]; exact ho) (hs.imp fun h=>om)
end Go.Id.Tryz
namespace Go.Id.Tryz
open Go Go.Id Go.Proofs Go.Shelf
def kf4:Go.Shelf.Ren where
 f:=fun n=>(List.lookup n [(0,0),(1,1),(2,2),(99,143),(107,84),(108,145),(109,152),(110,97),(119,274),(122,67),(125,121),(128,181),(129,182),(137,141),(151,271),(152,273),(161,258),(189,190),(197,270),(206,205),(215,125),(216,253),(217,204),(224,275),(225,276),(227,265),(228,269),(231,264),(233,266),(235,267),(257,232),(260,272),(266,236),(294,247),(295,248),(296,249),(297,250),(298,251),(299,252),(300,254),(301,255),(328,261),(329,220),(330,221),(331,262),(332,263),(336,260),(343,268),(347,277),(348,278),(349,279),(350,280),(351,281),(352,282),(353,283),(354,284),(355,285),(356,286),(357,287),(358,288),(359,289),(360,290),(361,291),(366,294),(367,302)]).getD 0
 t:=fun n=>(List.lookup n [(0,0),(1,1),(2,2),(3,3),(4,4),(5,5),(7,7),(8,8),(9,9),(10,10),(11,11),(12,12),(13,13),(14,14),(15,15),(16,16),(17,17),(18,18),(20,20),(21,21),(22,177),(23,263),(27,154),(28,28),(29,135),(30,179),(31,85),(32,183),(33,145),(34,46),(35,212),(40,282),(41,61),(43,111),(46,158),(47,157),(51,207),(52,206),(53,209),(54,208),(55,175),(63,276),(64,277),(80,283),(81,75),(102,170),(104,128),(105,274),(106,275),(111,47),(112,48),(114,120),(115,267),(116,268),(117,269),(118,270),(119,278),(122,266),(123,271),(124,272),(127,292),(131,204),(134,245),(137,279),(139,281),(164,298),(181,257),(182,199),(183,200),(184,258),(185,259),(186,260),(187,261),(211,118),(214,235),(218,236),(219,237),(220,238),(221,264),(222,240),(223,265),(228,253),(229,254),(230,273),(238,284),(239,285),(240,286),(241,287),(242,288),(245,291),(248,295)]).getD 0
 g:=fun n=>n
theorem jh4:Lays.n189 Tryz.prog kf4 where
 mixed:=by kernel_rfl
 f125:=Tryz.func121.trans (congrArg zg (by kernel_rfl))
 f128:=Tryz.func181.trans (congrArg zg (by kernel_rfl))
 f129:=Tryz.func182.trans (congrArg zg (by kernel_rfl))
 f189:=Tryz.func190.trans (congrArg zg (by kernel_rfl))
 f215:=Tryz.func125.trans (congrArg zg (by kernel_rfl))
 f216:=Tryz.func253.trans (congrArg zg (by kernel_rfl))
 f257:=Tryz.func232.trans (congrArg zg (by kernel_rfl))
 f294:=Tryz.func247.trans (congrArg zg (by kernel_rfl))
 f295:=Tryz.func248.trans (congrArg zg (by kernel_rfl))
 f296:=Tryz.func249.trans (congrArg zg (by kernel_rfl))
 f297:=Tryz.func250.trans (congrArg zg (by kernel_rfl))
 f298:=Tryz.func251.trans (congrArg zg (by kernel_rfl))
 f299:=Tryz.func252.trans (congrArg zg (by kernel_rfl))
 f300:=Tryz.func254.trans (congrArg zg (by kernel_rfl))
 f301:=Tryz.func255.trans (congrArg zg (by kernel_rfl))
 f328:=Tryz.func261.trans (congrArg zg (by kernel_rfl))
 f329:=Tryz.func220.trans (congrArg zg (by kernel_rfl))
 f330:=Tryz.func221.trans (congrArg zg (by kernel_rfl))
 f331:=Tryz.func262.trans (congrArg zg (by kernel_rfl))
 f332:=Tryz.func263.trans (congrArg zg (by kernel_rfl))
 f343:=Tryz.func268.trans (congrArg zg (by kernel_rfl))
 t0:=by kernel_rfl
 a0:=Tryz.isAgg0
 z0:=fun _=>by kernel_rfl
 v0:=fun _=>by kernel_rfl
 t3:=by kernel_rfl
 a3:=Tryz.isAgg3
 z3:=fun _=>by kernel_rfl
 v3:=fun _=>by kernel_rfl
 t4:=by kernel_rfl
 a4:=Tryz.isAgg4
 z4:=fun _=>by kernel_rfl
 v4:=fun _=>by kernel_rfl
 t5:=by kernel_rfl
 a5:=Tryz.isAgg5
 z5:=fun _=>by kernel_rfl
 v5:=fun _=>by kernel_rfl
 t9:=by kernel_rfl
 a9:=Tryz.isAgg9
 z9:=fun _=>by kernel_rfl
 v9:=fun _=>by kernel_rfl
 t28:=by kernel_rfl
 a28:=Tryz.isAgg28
 z28:=fun _=>by kernel_rfl
 v28:=fun _=>by kernel_rfl
 t46:=by kernel_rfl
 a46:=Tryz.isAgg158
 z46:=fun _=>by kernel_rfl
 v46:=fun _=>by kernel_rfl
 t51:=by kernel_rfl
 a51:=Tryz.isAgg207
 z51:=fun _=>by kernel_rfl
 v51:=fun _=>by kernel_rfl
 t53:=by kernel_rfl
 a53:=Tryz.isAgg209
 z53:=fun _=>by kernel_rfl
 v53:=fun _=>by kernel_rfl
 t131:=by kernel_rfl
 a131:=Tryz.isAgg204
 z131:=fun _=>by kernel_rfl
 v131:=fun _=>by kernel_rfl
 t182:=by kernel_rfl
 a182:=Tryz.isAgg199
 z182:=fun _=>by kernel_rfl
 v182:=fun _=>by kernel_rfl
 t183:=by kernel_rfl
 a183:=Tryz.isAgg200
 z183:=fun _=>by kernel_rfl
 v183:=fun _=>by kernel_rfl
 t218:=by kernel_rfl
 a218:=Tryz.isAgg236
 z218:=fun _=>by kernel_rfl
 v218:=fun _=>by kernel_rfl
 t222:=by kernel_rfl
 a222:=Tryz.isAgg240
 z222:=fun _=>by kernel_rfl
 v222:=fun _=>by kernel_rfl
 t228:=by kernel_rfl
 a228:=Tryz.isAgg253
 z228:=fun _=>by kernel_rfl
 v228:=fun _=>by kernel_rfl
 t229:=by kernel_rfl
 a229:=Tryz.isAgg254
 z229:=fun _=>by kernel_rfl
 v229:=fun _=>by kernel_rfl
def iq7 (l:List Int):List Int:=l.mergeSort fun x y=>decide (x<=y)
theorem fu3 {σ:Store}{id:Nat}{zs:List Int}(hz:zs.length<4611686018427387904)(ho:σ.obj id=zg (.row (zs.map (IV.int .i64)))) :
  C Tryz.prog EE 190 [.slice id 0 zs.length 1] σ fun v s=>v=.tuple []/\s=σ.put id (.row ((iq7 zs).map (IV.int .i64))):=
 ik7 (enc:=Value.int .i64) (en:=IV.int .i64) (srt:=iq7) (fun _ _ x=>.int _ _) (fun _ _ x r h=>by cases h; rfl) (fun l=>List.length_mergeSort l) (by unfold iq7; rw[List.mergeSort_nil])
  (fun blk off cap zs w h1 h2 h3=>Any.slices_Sort_int jh4 blk off cap zs w h1 h2 h3) (fun p cap w=>Any.slices_Sort_int_none jh4 p cap w) hz ho
end Go.Id.Tryz
namespace Go.Id.Tryz
open Go Go.Id Go.Proofs Go.Shelf Go.Id.Md
theorem go9:∀ {a b:List Int},a.Pairwise (· < ·)->b.Pairwise (· < ·)->(∀ x,x∈a↔x∈b)->a=b:=by
 intro a
 induction a with
 | nil=>
  intro b _ _ h
  cases b with
  | nil=>rfl
  | cons y b=>exact absurd ((h y).2 (zy ..)) (by simp)
 | cons x a ih=>
  intro b ha hb h
  cases b with
  | nil=>exact absurd ((h x).1 (zy ..)) (by simp)
  | cons y b=>
   obtain ⟨a1,a2⟩:=qs.1 ha;obtain ⟨b1,b2⟩:=qs.1 hb
   have e:x=y:=by
    rcases zc.1 ((h x).1 (zy ..)) with e|e
    ·exact e
    ·have l1:=b1 x e;rcases zc.1 ((h y).2 (zy ..)) with e2|e2
     ·exact e2.symm
     ·have l2:=a1 y e2; omega
   subst e;rw[ih a2 b2 fun z=>?_];constructor
   ·intro hz;have l1:=a1 z hz;rcases zc.1 ((h z).1 (qp _ hz)) with e|e
    ·omega
    ·exact e
   ·intro hz;have l1:=b1 z hz;rcases zc.1 ((h z).2 (qp _ hz)) with e|e
    ·omega
    ·exact e
end Go.Id.Tryz
namespace Go.Id
open Go Go.Id
end Go.Id
namespace Go.Id.Tryz
open Go Go.Id Go.Proofs Go.Shelf Go.Id.Md
end Go.Id.Tryz
namespace Go.Id.Tryz
open Go Go.Id Go.Proofs Go.Id.Md
def mP (name:Str)(ax2 obs:List Dep)(files:List Str):aa2:={ name:=name,evr:=⟨0,[49],[49]⟩,aj1:=1,vendor:=[],provides:=ax2,requires:=[],conflicts:=[],ab2:=obs,ac6:=[],ac2:=[],suggests:=[],ac1:=[],files:=files }
def dP (name:Str)(op:Int)(ver:Str):Dep:=⟨name,op,⟨0,ver,[]⟩⟩
def cP (name:Str)(ax2 obs files:IV):List IV:=[.str name,.int .i64 0,.str [49],.str [49],.int .u8 1,.str [],ax2,.aa1,.aa1,obs,.aa1,.aa1,.aa1,.aa1,files]
def mA:aa2:=mP [97] [] [] []
def mB:aa2:=mP [98] [dP [97] 2 [50]] [dP [97] 1 [50]] []
def mC:aa2:=mP [99] [] [] [[47,102]]
def mT:aa2:=mP [97] [dP [97] 2 [51],dP [97] 2 [52],dP [97] 0 []] [dP [97] 0 [],dP [98] 0 [],dP [98] 1 [57]] []
def mD:aa2:=mP [98] [] [] []
def cA:List IV:=cP [97] .aa1 .aa1 .aa1
def cB:List IV:=cP [98] (deps [dP [97] 2 [50]]) (deps [dP [97] 1 [50]]) .aa1
def cC:List IV:=cP [99] .aa1 .aa1 (strs [[47,102]])
def cT:List IV:=cP [97] (deps [dP [97] 2 [51],dP [97] 2 [52],dP [97] 0 []]) (deps [dP [97] 0 [],dP [98] 0 [],dP [98] 1 [57]]) .aa1
def cD:List IV:=cP [98] .aa1 .aa1 .aa1
theorem jh5 {name:Str}{ax2 obs:List Dep}{files:List Str}(h1:name.length<100)(h2:ax2.length<100)(h3:obs.length<100)(h4:files.length<100)(h5:(ax2++obs).all (fun d=>decide (d.name.length<100)&&decide (d.evr.ver.length<100)&&decide (d.evr.rel.length<100))=true)(h6:files.all (fun s=>decide (s.length<100))=true):(mP name ax2 obs files).Fit:=by
 have hd:∀ d∈ax2++obs,d.fit:=fun d hd=>by
  have:=List.all_eq_true.1 h5 d hd;simp only[zp,decide_eq_true_eq] at this;exact ⟨om,by show d.evr.ver.length<_; omega,by show d.evr.rel.length<_; omega⟩
 refine ⟨by show name.length<_; omega,⟨by show ([49]:Str).length<2^62; decide,by show ([49]:Str).length<2^62; decide⟩,⟨by show ax2.length<_; omega,fun d h=>hd d (List.mem_append_left _ h)⟩,⟨by show obs.length<_; omega,fun d h=>hd d (List.mem_append_right _ h)⟩,⟨by show files.length<_; omega,fun s h=>by have:=List.all_eq_true.1 h6 s h; simp only[decide_eq_true_eq] at this; omega⟩,fun x hx=>?_⟩;simp only[aa2.rows,mP,zc,zb,or_false] at hx;rcases hx with rfl|rfl|rfl|rfl|rfl|rfl<;>exact ⟨by decide,fun r h=>by cases h⟩
theorem da7:∀ p∈[mA,mB,mC,mT,mD],p.Fit:=by
 intro p hp;simp only[zc,zb,or_false] at hp;rcases hp with rfl|rfl|rfl|rfl|rfl<;>exact jh5 (by decide) (by decide) (by decide) (by decide) (by decide) (by decide)
def p1M:Pool:=⟨rowsOf [mA,mB,mC] (-1) 1025,3,[([97],[0]),([98],[1]),([99],[2])]⟩
def p2M:Pool:=⟨rowsOf [mB,mC] (-1) 1025++rowsOf [mA] 0 0++rowsOf [mT,mD] 1 0,2,[([98],[0,4]),([99],[1]),([97],[2,3])]⟩
theorem kf5:jd1 (ce2 [] [mA,mB,mC])=.tuple [p1M.v,.int .i64 0]:=by kernel_rfl
theorem kf6:jd1 (ce2 [⟨0,[mA]⟩,⟨0,[mT,mD]⟩] [mB,mC])=.tuple [p2M.v,.int .i64 0]:=by kernel_rfl
def a1:List IV:=[.aa1,.aa4 [cA,cB,cC]]
def a2:List IV:=[.aa4 [[.int .i64 0,.aa4 [cA]],[.int .i64 0,.aa4 [cT,cD]]],.aa4 [cB,cC]]
theorem e1:PC Tryz.prog EE 5 a1 (.tuple [p1M.v,.int .i64 0]):=by
 rw[<- kf5];refine jb5 (args':=[az4 [],au1 [mA,mB,mC]]) (by kernel_rfl) (co4 [] [mA,mB,mC] (by decide) (by decide) (by decide) (fun r h=>by cases h) fun p hp=>da7 p ?_);simp only[zc,zb,or_false] at hp ⊢;rcases hp with h|h|h<;>simp[h]
theorem e2:PC Tryz.prog EE 5 a2 (.tuple [p2M.v,.int .i64 0]):=by
 rw[<- kf6];refine jb5 (args':=[az4 [⟨0,[mA]⟩,⟨0,[mT,mD]⟩],au1 [mB,mC]]) (by kernel_rfl) (co4 _ _ (by decide) (by decide) (by decide) (fun r hr=>?_) fun p hp=>da7 p ?_)
 ·simp only[zc,zb,or_false] at hr;rcases hr with rfl|rfl
  ·exact ⟨by decide,fun p hp=>da7 p (by simp only[zc,zb,or_false] at hp ⊢; simp[hp])⟩
  ·exact ⟨by decide,fun p hp=>da7 p (by simp only[zc,zb,or_false] at hp ⊢; rcases hp with h|h<;>simp[h])⟩
 ·simp only[zc,zb,or_false] at hp ⊢;rcases hp with h|h<;>simp[h]
theorem fc6 {p:Pool}{l:List aa2}(h:p.rows.map (·.pkg)=l)(hl:∀ x∈l,x∈[mA,mB,mC,mT,mD]):(∀ r∈p.rows,r.pkg.Fit)/\∀ r∈p.rows,r.pkg.provides.length+r.pkg.files.length+r.pkg.ab2.length+3<=2^15:=by
 have hm:∀ r∈p.rows,r.pkg∈[mA,mB,mC,mT,mD]:=fun r hr=>hl _ (by rw[<- h]; exact List.mem_map_of_mem hr)
 refine ⟨fun r hr=>da7 _ (hm r hr),fun r hr=>?_⟩;have:=hm r hr;generalize r.pkg=x at this;simp only[zc,zb,or_false] at this;rcases this with rfl|rfl|rfl|rfl|rfl<;>decide
theorem e3:PC Tryz.prog EE 34 [p1M.v] (.tuple [(ak3 [mA,mB,mC]).v,.int .i64 0]):=by
 obtain ⟨h1,h2⟩:=fc6 (p:=p1M) (l:=[mA,mB,mC]) rfl (fun x hx=>by simp only[zc,zb,or_false] at hx ⊢; rcases hx with h|h|h<;>simp[h]);exact bj5 p1M h1 (by decide) h2
theorem e4:PC Tryz.prog EE 34 [p2M.v] (.tuple [(ak3 [mB,mC,mA,mT,mD]).v,.int .i64 0]):=by
 obtain ⟨h1,h2⟩:=fc6 (p:=p2M) (l:=[mB,mC,mA,mT,mD]) rfl (fun x hx=>by simp only[zc,zb,or_false] at hx ⊢; rcases hx with h|h|h|h|h<;>simp[h]);exact bj5 p2M h1 (by decide) h2
end Go.Id.Tryz
namespace Go.Id.Tryz
open Go Go.Id Go.Proofs Go.Id.Md
end Go.Id.Tryz
namespace Go.Id.Tryz
open Go Go.Id Go.Proofs Go.Id.Md
theorem ab4 {S:Nat->Prop}{s:Store}{a b:Bool}(h:a=b):Frz s S (.bool a) (.bool b):=h▸ab8 a
theorem ax5 {S:Nat->Prop}{s:Store}{k:IntKind}{a b:Int}(h:a=b):Frz s S (.int k a) (.int k b):=h▸.keep _ (.int _ _)
theorem co6 (a:Int):PC Tryz.prog EE 26 [.int .u8 a] (.bool (bg8 a)):=by
 refine ae5 hE fok26 (nZ rfl) (ao4 (.int _ _)) ?_;simp only[ic26,go_sem];refine aa3 fok76 (ay8 a) ?_;unfold bg8
 cases ak8 a with
 | false=>simp only[go_sem]; exact ab4 rfl
 | true=>
  by_cases h:a=1
  ·simp only[go_sem,h]; exact ab4 rfl
  ·simp only[go_sem,h]; exact ab4 (by simp[h])
theorem hp5 (a b:Int):PC Tryz.prog EE 227 [.int .u8 a,.int .u8 b] (.bool (ey3 a b)):=by
 refine ae5 hE fok227 (nZ rfl) (ae9 (.int _ _) (.int _ _)) ?_;have ha:=co6 a;have hb:=co6 b;simp only[ic227,go_sem];refine aa3 fok26 (ha) ?_;unfold ey3
 cases bg8 a with
 | false=>simp only[go_sem]; exact ab4 rfl
 | true=>
  simp only[go_sem];refine aa3 fok26 (hb) ?_
  cases bg8 b with
  | false=>simp only[go_sem]; exact ab4 rfl
  | true=>
   by_cases h:a=b
   ·simp only[go_sem,h]; exact ab4 (by simp)
   ·simp only[go_sem,h]; exact ab4 (by simp[h])
theorem fu4 (a b:Int):PC Tryz.prog EE 188 [.int .u8 a,.int .u8 b] (.bool (av5 a b)):=by
 refine ae5 hE fok188 (nZ rfl) (ae9 (.int _ _) (.int _ _)) ?_;have ha:=ay8 a;have hb:=ay8 b;have hc:=hp5 a b;simp only[ic188,go_sem];refine aa3 fok76 (ha) ?_;unfold av5
 cases ak8 a with
 | false=>simp only[go_sem]; exact ab4 rfl
 | true=>
  simp only[go_sem];refine aa3 fok76 (hb) ?_
  cases ak8 b with
  | false=>simp only[go_sem]; exact ab4 rfl
  | true=>
   simp only[go_sem];refine aa3 fok227 (hc) ?_;simp only[go_sem];exact ab4 (by simp)
def if1:List IV:=[.int .i64 0,.int .i64 0,.int .i64 0,.int .i64 0,.int .i64 0,.int .i64 0,.int .i64 0,.int .i64 0,.int .i64 0,.int .i64 0,.int .i64 0,.int .i64 2,.int .i64 1,.int .i64 3,.int .i64 0,.int .i64 0,.int .i64 2,.int .i64 0,.int .i64 1,.int .i64 0,.int .i64 0,.int .i64 2,.int .i64 0,.int .i64 0,.int .i64 1]
theorem gp1:PC Tryz.prog EE 164 [] (.agg if1):=by
 refine ae5 hE fok164 (nZ rfl) (fun a h=>by cases h) ?_;simp only[ic164,go_sem];exact .keep _ (ax1 10 _ (by kernel_rfl))
theorem iq8 (m a:Int)(h1:ak8 m=true)(h2:ak8 a=true):PC Tryz.prog EE 110 [.int .u8 m,.int .u8 a] (.int .i64 (al1 m a)):=by
 unfold ak8 at h1 h2;simp only[zp,decide_eq_true_eq] at h1 h2;have hm:m=1\/m=2\/m=3\/m=4:=om
 have ha:a=1\/a=2\/a=3\/a=4:=om
 rcases hm with rfl|rfl|rfl|rfl<;>rcases ha with rfl|rfl|rfl|rfl
 all_goals
  refine ae5 hE fok110 (nZ rfl) (ae9 (.int _ _) (.int _ _)) ?_;simp only[ic110,go_sem];refine aa3 fok76 (ay8 _) ?_;simp only[go_sem,ak8];refine aa3 fok76 (ay8 _) ?_;simp only[go_sem,ak8];refine aa3 fok164 (gp1) ?_;simp only[go_sem,if1,List.drop_succ_cons,List.drop_zero,List.getElem?_cons_succ,List.getElem?_cons_zero];exact .keep _ (.int _ _)
theorem fc7 (m a:Int)(h:ak8 m=false\/ak8 a=false):al1 m a=0:=by
 unfold ak8 at h;simp only[Bool.and_eq_false_iff,decide_eq_false_iff_not] at h;unfold al1
 repeat' split
 all_goals first|rfl|omega
theorem dv2 (m a:Int):PC Tryz.prog EE 110 [.int .u8 m,.int .u8 a] (.int .i64 (al1 m a)):=by
 have hm:=ay8 m;have ha:=ay8 a
 cases h1:ak8 m with
 | false=>
  rw[fc7 m a (.inl h1)];refine ae5 hE fok110 (nZ rfl) (ae9 (.int _ _) (.int _ _)) ?_;rw[h1] at hm;simp only[ic110,go_sem];refine aa3 fok76 (hm) ?_;simp only[go_sem]
  exact ax5 rfl
 | true=>
  cases h2:ak8 a with
  | false=>
   rw[fc7 m a (.inr h2)];refine ae5 hE fok110 (nZ rfl) (ae9 (.int _ _) (.int _ _)) ?_;rw[h1] at hm;rw[h2] at ha;simp only[ic110,go_sem];refine aa3 fok76 (hm) ?_;simp only[go_sem];refine aa3 fok76 (ha) ?_;simp only[go_sem]
   exact ax5 rfl
  | true=>exact iq8 m a h1 h2
theorem iq9 (m a:Int):PC Tryz.prog EE 163 [.int .u8 m,.int .u8 a] (.bool (hf4 m a)):=by
 refine ae5 hE fok163 (nZ rfl) (ae9 (.int _ _) (.int _ _)) ?_;have h:=dv2 m a;simp only[ic163,go_sem]
 first|refine aa3 fok110 (h) ?_|refine aa8 (h) ?_
 simp only[go_sem];exact ab4 rfl
end Go.Id.Tryz
namespace Go.Id.Tryz
open Go Go.Id Go.Proofs Go.Id.Md
theorem if2 {f:Nat}{args args':List IV}{σ:Store}{Q:IV->Store->Prop}(hl:args'.length=args.length)(ha:∀ i,i<args.length->Frz σ (fun _=>true=true) (args.getD i .undef) (args'.getD i .undef))(h:C Tryz.prog EE f args' σ Q):C Tryz.prog EE f args σ Q :=
 ew8 (S:=fun _=>true) hl ha h
theorem jh6 (x:Index)(l:List Int)(hl:l.length<2^30)(k:Nat)(cap:List IV)(w:Int->Bool)(hok:okF Tryz.prog k=true)
  (hW:∀ n∈l,∃ m:Nat,n=m/\∃ h:m<x.all.length,PC Tryz.prog EE k (.agg x.all[m].cs::.int .i64 n::cap) (.bool (w n))) (σ:Store) :
  C Tryz.prog EE 229 [x.v,.aa4 (l.map Md.ae4),.func (.func k) [] cap] σ (eb4 σ (l.filter w)):=by
 have hx:x.v=.ab5 [.aa4 (x.all.map aa2.cs),.an9 (nmV x.ax2),.an9 (nmV x.names),.an9 (nmV x.over)]:=rfl;rw[hx];generalize IV.an9 (nmV x.ax2)=v1 at *;generalize IV.an9 (nmV x.names)=v2 at *;generalize IV.an9 (nmV x.over)=v3 at *;refine C_f fok229 (nZ rfl) ?_;simp only[ic229,go_sem];refine ab1 noT (fun i fr s=>∃ gv,fr=[(0,.ab5 [.aa4 (x.all.map aa2.cs),v1,v2,v3]),(2,.func (.func k) [] cap),(7,gv),(10,.aa4 (l.map Md.ae4)),(11,.int .i64 l.length),(12,.int .i64 i)]/\Kept σ s/\aj3 s σ.next gv ((l.take i).filter w)) l.length ⟨.aa1,rfl,Kept.refl σ,.inl ⟨rfl,rfl⟩⟩ ?_;rintro i fr s hle ⟨gv,rfl,hk,hg⟩;by_cases hlt:i<l.length
 ·obtain ⟨n,hn,_,hdr,hget,htk⟩:=ad6 l i hlt;have c1:(i:Int)<l.length:=om
  have c2:(0:Int)<=i:=om
  have w1:=ac4 (i:=i) om;obtain ⟨m,rfl,hm,hpc⟩:=hW n hn;have c3:(m:Int)<x.all.length:=om
  have c4:(0:Int)<=m:=om
  have hgm:(x.all.map aa2.cs).getD m []=x.all[m].cs:=by simp[za,hm]
  simp only[go_sem,c1,c2,c3,c4,hget,Md.ae4,hgm,af8,ah2,af4,zd,zf];refine am8 hok hpc ?_
  cases hw:w (m:Int) with
  | false=>
   simp only[go_sem,w1];have e:(l.take (i+1)).filter w=(l.take i).filter w:=by rw[htk,qt]; simp[hw]
   rw[e]
   exact ⟨hlt,gv,rfl,hk,hg⟩
  | true=>
   have hlen:((l.take i).filter w).length<=i:=by
    refine Nat.le_trans (qn _ _) ?_;rw[zi]; omega
   have hap:=cx3 (nid:=s.next) (hg.up 1) (m:Int) om;have e:(l.take (i+1)).filter w=(l.take i).filter w++[(m:Int)]:=by rw[htk,qt]; simp[hw]
   simp only[go_sem,hap,w1,e];have hz:=ew6 hk hg (m:Int) (a:=1) (nid:=s.next) (zm _) (qd _) rfl;exact ⟨hlt,_,rfl,hz.1,hz.2⟩
 ·have hi':i=l.length:=om
  subst hi';have c1:¬ (l.length:Int)<l.length:=om
  rw[qc] at hg;simp only[go_sem,c1];exact ⟨hk,hg⟩
end Go.Id.Tryz
namespace Go.Id.Tryz
open Go Go.Id Go.Proofs Go.Shelf Go.Id.Md
theorem co7 (d:Job):d.cs.length=6:=rfl
theorem bt6 (d:Job):d.cs.all IV.leaf=true:=rfl
theorem fc8 (d:Job):d.cs.take 6=d.cs:=rfl
theorem an6 (d:az1):d.cs.length=2:=rfl
theorem aj2 (d:az1):d.cs.all IV.leaf=true:=rfl
theorem ap3 (d:az1):d.cs.take 2=d.cs:=rfl
theorem gp2 (d:Job):∀ c∈d.cs,Bnd 0 c:=jq2 (.int _ _) (.str _) (.int _ _) (.int _ _) (.str _) (.str _)
theorem fc9 (d:az1):∀ c∈d.cs,Bnd 0 c:=ae9 (.int _ _) (.int _ _)
theorem cc5 (l:List Job):Bnd 0 (bc3 l):=.aa4 _ fun e he c hc=>by
 obtain ⟨d,_,rfl⟩:=zw.1 he; exact gp2 d c hc
theorem bb5 (l:List az1):Bnd 0 (aq2 l):=.aa4 _ fun e he c hc=>by
 obtain ⟨d,_,rfl⟩:=zw.1 he; exact fc9 d c hc
theorem hp9 (d:Job):Bnd 0 (.agg d.cs):=.agg _ (gp2 d)
theorem cc6 (d:az1):Bnd 0 (.agg d.cs):=.agg _ (fc9 d)
theorem da8 (xs:List Int)(g:Nat)(first cap:List IV)(q:Int->Bool)(hn:xs.length<2^62)(hok:okF Tryz.prog g=true)
  (hq:∀ x∈xs,PC Tryz.prog EE g (first++[IV.int .i64 x]++cap) (.bool (q x))):PC Tryz.prog EE 119 [.aa4 (xs.map Md.ae4),.func (.func g) first cap] (.int .i64 (aj8 q xs 0)):=by
 refine av9 fok119 (nZ rfl) fun σ=>?_
 simp only[ic119,go_sem];refine ab1 noT (fun i fr s=>s=σ/\fr=[(0,.aa4 (xs.map Md.ae4)),(1,.func (.func g) first cap),(7,.int .i64 xs.length),(8,.int .i64 i)]/\aj8 q xs 0=aj8 q (xs.drop i) i) xs.length ⟨rfl,rfl,rfl⟩ ?_;rintro i fr s hi ⟨rfl,rfl,hf⟩;by_cases hlt:i<xs.length
 ·obtain ⟨x,ha,_,hdr,hget,_⟩:=ad6 xs i hlt;have c1:(i:Int)<xs.length:=om
  have c2:(0:Int)<=i:=om
  have w1:=ac4 (i:=i) om;rw[hdr] at hf;simp only[go_sem,c1,c2,hget,Md.ae4];refine aq1 hok (en1 (hq x ha)) ?_;rintro v s ⟨rfl,rfl⟩;refine ⟨zm _,?_⟩
  cases hqe:q x with
  | true=>simp only[go_sem,hf,aj8,hqe,and_self]
  | false=>
   simp only[go_sem,w1];exact ⟨hlt,by rw[hf]; simp only[aj8,hqe,zt,if_false,zv,zu]⟩
 ·have hi':i=xs.length:=om
  subst hi';have c1:¬ (xs.length:Int)<xs.length:=om
  rw[zo] at hf;simp only[go_sem,c1,hf,aj8,and_self]
theorem gp3 (xs:List Int)(g:Nat)(first cap:List IV)(q:Int->Bool)(hn:xs.length<2^62)(hok:okF Tryz.prog g=true)
  (hq:∀ x∈xs,PC Tryz.prog EE g (first++[IV.int .i64 x]++cap) (.bool (q x))):PC Tryz.prog EE 208 [.aa4 (xs.map Md.ae4),.func (.func g) first cap] (.bool (xs.any q)):=by
 refine av9 fok208 (nZ rfl) fun σ=>?_
 simp only[ic208,go_sem];refine aa3 fok119 (da8 xs g first cap q hn hok hq) ?_;simp only[go_sem,au7,and_self]
theorem gp4 (xs:List Job)(g:Nat)(first cap:List IV)(q:Job->Bool)(hn:xs.length<2^62)(hok:okF Tryz.prog g=true)
  (hq:∀ x∈xs,PC Tryz.prog EE g (first++[IV.agg (Job.cs x)]++cap) (.bool (q x))):PC Tryz.prog EE 77 [.aa4 (xs.map Job.cs),.func (.func g) first cap] (.int .i64 (aj8 q xs 0)):=by
 refine av9 fok77 (nZ rfl) fun σ=>?_
 simp only[ic77,go_sem];refine ab1 noT (fun i fr s=>s=σ/\fr=[(0,.aa4 (xs.map Job.cs)),(1,.func (.func g) first cap),(7,.int .i64 xs.length),(8,.int .i64 i)]/\aj8 q xs 0=aj8 q (xs.drop i) i) xs.length ⟨rfl,rfl,rfl⟩ ?_;rintro i fr s hi ⟨rfl,rfl,hf⟩;by_cases hlt:i<xs.length
 ·obtain ⟨x,ha,_,hdr,hget,_⟩:=ad6 xs i hlt;have c1:(i:Int)<xs.length:=om
  have c2:(0:Int)<=i:=om
  have w1:=ac4 (i:=i) om;rw[hdr] at hf;simp only[go_sem,c1,c2,hget,co7,fc8,bt6];refine aq1 hok (en1 (hq x ha)) ?_;rintro v s ⟨rfl,rfl⟩;refine ⟨zm _,?_⟩
  cases hqe:q x with
  | true=>simp only[go_sem,hf,aj8,hqe,and_self]
  | false=>
   simp only[go_sem,w1];exact ⟨hlt,by rw[hf]; simp only[aj8,hqe,zt,if_false,zv,zu]⟩
 ·have hi':i=xs.length:=om
  subst hi';have c1:¬ (xs.length:Int)<xs.length:=om
  rw[zo] at hf;simp only[go_sem,c1,hf,aj8,and_self]
theorem gp5 (xs:List Job)(g:Nat)(first cap:List IV)(q:Job->Bool)(hn:xs.length<2^62)(hok:okF Tryz.prog g=true)
  (hq:∀ x∈xs,PC Tryz.prog EE g (first++[IV.agg (Job.cs x)]++cap) (.bool (q x))):PC Tryz.prog EE 27 [.aa4 (xs.map Job.cs),.func (.func g) first cap] (.bool (xs.any q)):=by
 refine av9 fok27 (nZ rfl) fun σ=>?_
 simp only[ic27,go_sem];refine aa3 fok77 (gp4 xs g first cap q hn hok hq) ?_;simp only[go_sem,au7,and_self]
theorem fu5 (xs:List az1)(g:Nat)(first cap:List IV)(q:az1->Bool)(hn:xs.length<2^62)(hok:okF Tryz.prog g=true)
  (hq:∀ x∈xs,PC Tryz.prog EE g (first++[IV.agg (az1.cs x)]++cap) (.bool (q x))):PC Tryz.prog EE 82 [.aa4 (xs.map az1.cs),.func (.func g) first cap] (.int .i64 (aj8 q xs 0)):=by
 refine av9 fok82 (nZ rfl) fun σ=>?_
 simp only[ic82,go_sem];refine ab1 noT (fun i fr s=>s=σ/\fr=[(0,.aa4 (xs.map az1.cs)),(1,.func (.func g) first cap),(7,.int .i64 xs.length),(8,.int .i64 i)]/\aj8 q xs 0=aj8 q (xs.drop i) i) xs.length ⟨rfl,rfl,rfl⟩ ?_;rintro i fr s hi ⟨rfl,rfl,hf⟩;by_cases hlt:i<xs.length
 ·obtain ⟨x,ha,_,hdr,hget,_⟩:=ad6 xs i hlt;have c1:(i:Int)<xs.length:=om
  have c2:(0:Int)<=i:=om
  have w1:=ac4 (i:=i) om;rw[hdr] at hf;simp only[go_sem,c1,c2,hget,an6,ap3,aj2];refine aq1 hok (en1 (hq x ha)) ?_;rintro v s ⟨rfl,rfl⟩;refine ⟨zm _,?_⟩
  cases hqe:q x with
  | true=>simp only[go_sem,hf,aj8,hqe,and_self]
  | false=>
   simp only[go_sem,w1];exact ⟨hlt,by rw[hf]; simp only[aj8,hqe,zt,if_false,zv,zu]⟩
 ·have hi':i=xs.length:=om
  subst hi';have c1:¬ (xs.length:Int)<xs.length:=om
  rw[zo] at hf;simp only[go_sem,c1,hf,aj8,and_self]
theorem fu6 (xs:List az1)(g:Nat)(first cap:List IV)(q:az1->Bool)(hn:xs.length<2^62)(hok:okF Tryz.prog g=true)
  (hq:∀ x∈xs,PC Tryz.prog EE g (first++[IV.agg (az1.cs x)]++cap) (.bool (q x))):PC Tryz.prog EE 30 [.aa4 (xs.map az1.cs),.func (.func g) first cap] (.bool (xs.any q)):=by
 refine av9 fok30 (nZ rfl) fun σ=>?_
 simp only[ic30,go_sem];refine aa3 fok82 (fu5 xs g first cap q hn hok hq) ?_;simp only[go_sem,au7,and_self]
theorem ir1 {α:Type}[DecidableEq α](xs:List α)(n:α):xs.any (fun x=>decide (n=x))=decide (n∈xs):=by
 rw[Bool.eq_iff_iff]; simp
theorem if3 (a b:az1):gt2 [1,1] true false (.agg a.cs) (.agg b.cs)=zg (.bool (decide (a=b))):=by
 have e:decide (a=b)=(decide (a.kind=b.kind)&&decide (a.n=b.n)):=by
  cases a; cases b; simp only[az1.mk.injEq,Bool.decide_and]
 rw[e];unfold az1.cs;simp only[ia5,ia7,ia6,go_sem,Option.map_some,jl8,al4,Bool.xor_false,Bool.and_true]
theorem eg5 (xs:List az1)(n:az1)(hn:xs.length<2^62):PC Tryz.prog EE 243 [aq2 xs,.agg n.cs] (.int .i64 (aj8 (fun x=>decide (n=x)) xs 0)):=by
 refine ae5 hE fok243 (nZ rfl) (ae9 (bb5 xs) (cc6 n)) ?_;simp only[ic243,go_sem,aj2];refine ab1 noT (fun i fr s=>fr=[(0,aq2 xs),(3,.ab5 n.cs),(7,.int .i64 xs.length),(8,.int .i64 i)]/\aj8 (fun x=>decide (n=x)) xs 0=aj8 (fun x=>decide (n=x)) (xs.drop i) i) xs.length ⟨rfl,rfl⟩ ?_;rintro i fr s hi ⟨rfl,hf⟩;by_cases hlt:i<xs.length
 ·obtain ⟨x,ha,_,hdr,hget,_⟩:=ad6 xs i hlt;have c1:(i:Int)<xs.length:=om
  have c2:(0:Int)<=i:=om
  have w1:=ac4 (i:=i) om;rw[hdr] at hf;by_cases e:n=x
  ·simp only[go_sem,c1,c2,hget,an6,ap3,aj2,if3,e];subst e;exact ax5 (by rw[hf]; simp[aj8])
  ·simp only[go_sem,c1,c2,hget,an6,ap3,aj2,if3,e,w1];exact ⟨hlt,by rw[hf]; simp only[aj8,e,decide_false,zt,if_false,zv,zu]⟩
 ·have hi':i=xs.length:=om
  subst hi';have c1:¬ (xs.length:Int)<xs.length:=om
  rw[zo] at hf;simp only[go_sem,c1];exact ax5 (by rw[hf]; rfl)
theorem fu7 (xs:List az1)(n:az1)(hn:xs.length<2^62):PC Tryz.prog EE 224 [aq2 xs,.agg n.cs] (.bool (decide (n∈xs))):=by
 refine ae5 hE fok224 (nZ rfl) (ae9 (bb5 xs) (cc6 n)) ?_;have h:=eg5 xs n hn;have e:=au7 (fun x=>decide (n=x)) xs;rw[ir1] at e;simp only[ic224,go_sem,an6,ap3,aj2];refine aa3 fok243 (h) ?_;simp only[go_sem,e];exact ab4 rfl
theorem er7 (xs:List Job)(hn:xs.length<=2147483648):PC Tryz.prog EE 85 [.aa4 (xs.map Job.cs)] (.aa4 (xs.map Job.cs)):=by
 cases hx:xs with
 | nil=>
  rw[List.map_nil];refine bz3 ?_ ?_
  ·refine ae5 hE fok85 (nZ rfl) (af3 .aa1) ?_;simp only[ic85,go_sem,al2];exact .dc1
  ·refine ae5 hE fok85 (nZ rfl) (af3 .af6) ?_;simp only[ic85,go_sem,al2];rw[bp5 (by simp only[aa5,if_true]) rfl];simp only[go_sem]
   exact .dy9 _ _ _ (by simp only[aa5,if_true]; exact fun h=>(by cases h))
 | cons a as'=>
  have hne:xs.map Job.cs≠[]:=by rw[hx]; exact fun h=>(by cases h)
  have hall:∀ e∈xs.map Job.cs,e.length=6/\e.all IV.leaf=true:=fun e he=>by
   obtain ⟨x,_,rfl⟩:=zw.1 he;exact ⟨co7 x,bt6 x⟩
  rw[<- hx];refine ae5 hE fok85 (nZ rfl) (af3 (cc5 xs)) ?_;have hnil:∀ d,ct5 (.slice d) (.aa4 (xs.map Job.cs))=zg false:=fun d=>by rw[hx]; rfl
  simp only[ic85,go_sem,al2,hnil];rw[cf4 (by simp only[aa5,if_true]) hne hall (by rw[zf]; exact hn)];simp only[go_sem];refine Grow.frz (esz:=6) (es:=xs.map Job.cs) (.inr ⟨1,by rw[zf],by simp only[aa5,if_true],qd _⟩) (fun x hx=>(hall x hx).1) (fun _ _=>qh _) (ao5 (cc5 xs))
theorem eg6 (xs:List az1)(hn:xs.length<=2147483648):PC Tryz.prog EE 86 [.aa4 (xs.map az1.cs)] (.aa4 (xs.map az1.cs)):=by
 cases hx:xs with
 | nil=>
  rw[List.map_nil];refine bz3 ?_ ?_
  ·refine ae5 hE fok86 (nZ rfl) (af3 .aa1) ?_;simp only[ic86,go_sem,al2];exact .dc1
  ·refine ae5 hE fok86 (nZ rfl) (af3 .af6) ?_;simp only[ic86,go_sem,al2];rw[bp5 (by simp only[aa5,if_true]) rfl];simp only[go_sem]
   exact .dy9 _ _ _ (by simp only[aa5,if_true]; exact fun h=>(by cases h))
 | cons a as'=>
  have hne:xs.map az1.cs≠[]:=by rw[hx]; exact fun h=>(by cases h)
  have hall:∀ e∈xs.map az1.cs,e.length=2/\e.all IV.leaf=true:=fun e he=>by
   obtain ⟨x,_,rfl⟩:=zw.1 he;exact ⟨an6 x,aj2 x⟩
  rw[<- hx];refine ae5 hE fok86 (nZ rfl) (af3 (bb5 xs)) ?_;have hnil:∀ d,ct5 (.slice d) (.aa4 (xs.map az1.cs))=zg false:=fun d=>by rw[hx]; rfl
  simp only[ic86,go_sem,al2,hnil];rw[cf4 (by simp only[aa5,if_true]) hne hall (by rw[zf]; exact hn)];simp only[go_sem];refine Grow.frz (esz:=2) (es:=xs.map az1.cs) (.inr ⟨1,by rw[zf],by simp only[aa5,if_true],qd _⟩) (fun x hx=>(hall x hx).1) (fun _ _=>qh _) (ao5 (bb5 xs))
end Go.Id.Tryz
namespace Go.Id.Tryz
open Go Go.Id Go.Proofs Go.Shelf Go.Id.Md
structure AOK (a:ad9):Prop where
 len:a.l.length<=256
 small:∀ p∈a.l,Pkg.small p
 fit:∀ p∈a.l,p.Fit
 tiny:∀ p∈a.l,p.Tiny
 inst:a.p.inst<=a.l.length
 ai4:a.r.ai4.length<=64
 ag5:a.r.ag5.length<=128
 iv9:∀ j∈a.r.ai4,Dep.small j.dep
 kf7:∀ j∈a.r.ai4,1<=j.kind/\j.kind<=4
theorem au2 (a:ad9):Bnd 0 a.v:=.ab5 _ fun c hc=>by
 simp only[ad9.cs,zc,zb,or_false] at hc;rcases hc with rfl|rfl|rfl|rfl|rfl|rfl|rfl|rfl
 ·exact ay1 _
 ·exact bj6 _
 ·exact .int _ _
 ·exact .bool _
 ·exact cc5 _
 ·exact bb5 _
 ·exact .int _ _
 ·exact aq4 _
theorem ac5 {d:TypeId}{c:IV}{cs:List IV}:ct5 (.pointer d) (.ab5 (c::cs))=zg false:=rfl
theorem fd2 (a:ad9)(n:Int):PC Tryz.prog EE 162 [a.v,.int .i64 n] (.bool (a.is n)):=by
 refine ae5 hE fok162 (nZ rfl) (ae9 (au2 a) (.int _ _)) ?_;unfold ad9.is ad9.v ad9.cs;have hl:(a.l.map aa2.cs).length=a.l.length:=zf ..;generalize a.l.map aa2.cs=es at *;generalize a.l.length=k at *;by_cases h1:0<=n
 ·by_cases h2:n<(k:Nat)
  ·simp only[ic162,go_sem,ac5,h1,h2,hl]; exact ab4 rfl
  ·simp only[ic162,go_sem,ac5,h1,h2,hl]; exact ab4 rfl
 ·simp only[ic162,go_sem,ac5,h1]; exact ab4 rfl
theorem gp6 (a:ad9)(n:Int):PC Tryz.prog EE 244 [a.v,.int .i64 n] (.bool (a.job n)):=by
 refine ae5 hE fok244 (nZ rfl) (ae9 (au2 a) (.int _ _)) ?_;unfold ad9.job ad9.v ad9.cs;by_cases h1:0<=n
 ·by_cases h2:n<(a.r.ai4.length:Nat)
  ·simp only[ic244,go_sem,ac5,h1,h2]; exact ab4 (by simp[h1, *])
  ·simp only[ic244,go_sem,ac5,h1,h2]; exact ab4 (by simp[h1, *])
 ·simp only[ic244,go_sem,ac5,h1]; exact ab4 rfl
theorem fu8 (a:ad9)(n:Int):PC Tryz.prog EE 184 [a.v,.int .i64 n] (.bool (a.inst n)):=by
 refine ae5 hE fok184 (nZ rfl) (ae9 (au2 a) (.int _ _)) ?_;have h:=fd2 a n;have hp:=az2 a.p;unfold ad9.inst;unfold ad9.v ad9.cs at *;simp only[ic184,go_sem];refine aa3 fok162 (h) ?_
 cases a.is n with
 | false=>simp only[go_sem]; exact ab4 rfl
 | true=>
  simp only[go_sem]
  first|refine aa3 fok33 (hp) ?_|refine aa8 (hp) ?_
  simp only[go_sem];exact ab4 rfl
theorem dn8 (a:ad9)(n:Int):PC Tryz.prog EE 108 [a.v,.int .i64 n] (.bool (a.fits n)):=by
 refine ae5 hE fok108 (nZ rfl) (ae9 (au2 a) (.int _ _)) ?_;have h:=fd2 a n;have hf:=iq9 a.r.aj1 (a.pk n).aj1;unfold ad9.fits
 cases hi:a.is n with
 | false=>
  rw[hi] at h;unfold ad9.v ad9.cs at *;simp only[ic108,go_sem];refine aa3 fok162 (h) ?_
  simp only[go_sem]; exact ab4 rfl
 | true=>
  rw[hi] at h;unfold ad9.is at hi;simp only[zp,decide_eq_true_eq] at hi;have hl:(a.l.map aa2.cs).length=a.l.length:=zf ..;have c1:n.toNat<a.l.length:=om
  have hg:(a.l.map aa2.cs).getD n.toNat []=(a.pk n).cs:=by
   unfold ad9.pk;rw[getD_at _ _ c1];simp[za,c1]
  have p4:((a.pk n).cs.drop 4).head? = zg (.int .u8 (a.pk n).aj1):=rfl;unfold ad9.v ad9.cs at *;generalize a.pk n=q at *;generalize a.l.map aa2.cs=es at *;have c2:n<(es.length:Nat):=om
  simp only[ic108,go_sem];refine aa3 fok162 (h) ?_;simp only[go_sem,hi.1,c2,hg,p4,af8];refine aa3 fok163 (hf) ?_;simp only[go_sem];exact ab4 rfl
theorem bo4 (a:ad9)(k n:Int)(hA:AOK a):PC Tryz.prog EE 185 [a.v,.int .u8 k,.int .i64 n] (.bool (a.bd1 k n)):=by
 refine ae5 hE fok185 (nZ rfl) (at1 (au2 a) (.int _ _) (.int _ _)) ?_;have h:=fu7 a.r.ag5 ⟨k,n⟩ (by have:=hA.ag5; omega);unfold ad9.bd1;unfold ad9.v ad9.cs;unfold az1.cs at h;simp only[ic185,go_sem];refine aa3 fok224 (h) ?_;simp only[go_sem];exact ab4 rfl
theorem dv3 (a:ad9)(n:Int)(hA:AOK a):PC Tryz.prog EE 225 [a.v,.int .i64 n] (.bool (a.dropped n)):=by
 refine ae5 hE fok225 (nZ rfl) (ae9 (au2 a) (.int _ _)) ?_;have h:=gp6 a n;have h2:=bo4 a 1 n hA;unfold ad9.dropped;simp only[ic225,go_sem];refine aa3 fok244 (h) ?_
 cases a.job n with
 | false=>simp only[go_sem]; exact ab4 rfl
 | true=>
  simp only[go_sem];refine aa3 fok185 (h2) ?_;simp only[go_sem];exact ab4 rfl
theorem jh7 (a:ad9){n:Int}(h:a.is n=true):0<=n/\n<(a.l.map aa2.cs).length/\(a.l.map aa2.cs).getD n.toNat []=(a.pk n).cs/\a.pk n∈a.l:=by
 unfold ad9.is at h;simp only[zp,decide_eq_true_eq] at h;have c1:n.toNat<a.l.length:=om
 refine ⟨h.1,by rw[zf]; exact h.2,?_,?_⟩
 ·unfold ad9.pk;rw[getD_at _ _ c1];simp[za,c1]
 ·unfold ad9.pk;rw[getD_at _ _ c1];exact ze c1
theorem cc7 (p:aa2):(p.cs.drop 1).length=14:=rfl
theorem dv4 (j:Job):(j.cs.drop 1).take 5=j.dep.cs:=rfl
theorem er8 (a:ad9)(k n:Int)(hA:AOK a):PC Tryz.prog EE 186 [a.v,.int .u8 k,.int .i64 n] (.bool (a.bi9 k n)):=by
 refine ae5 hE fok186 (nZ rfl) (at1 (au2 a) (.int _ _) (.int _ _)) ?_;have hD:∀ i:Nat,i<a.r.ai4.length->PC Tryz.prog EE 225 [a.v,.int .i64 i] (.bool (a.dropped i)):=fun i _=>dv3 a i hA
 have hN:∀ (i:Nat) (h:i<a.r.ai4.length),PC Tryz.prog EE 226 [(ak3 a.l).v,.agg (a.jb i).dep.cs] (.aa4 ((bg6 a.l (a.jb i).dep).map Md.ae4)):=fun i h=>
  er6 a.l (a.jb i).dep (by have:=hA.len; omega) hA.small (hA.iv9 _ (by
   have e:a.jb i=a.r.ai4[i]:=by simp[ad9.jb,za,h]
   rw[e]; exact ze h))
 have hH:∀ i:Nat,PC Tryz.prog EE 84 [.aa4 ((bg6 a.l (a.jb i).dep).map Md.ae4),.int .i64 n] (.bool (decide (n∈bg6 a.l (a.jb i).dep))):=fun i=>
  ef4 _ n (by have h1:=ba2 (fun p=>named p (a.jb i).dep) a.l; have:=hA.len; have:(bg6 a.l (a.jb i).dep).length<=a.l.length:=h1; omega)
 have hg:∀ i:Nat,i<a.r.ai4.length->(a.r.ai4.map Job.cs).getD i []=(a.jb i).cs:=fun i h=>by simp[ad9.jb,za,h]
 have hlen:=hA.ai4;unfold ad9.bi9;unfold ad9.v ad9.cs at *;simp only[ic186,go_sem];generalize a.dropped=dr at *;generalize a.jb=jb at *;generalize bg6 a.l=nm at *;refine ab1 noT (fun i fr s=>fr=[(0,.ab5 [a.p.v,(ak3 a.l).v,.int .u8 a.r.aj1,.bool a.r.vendor,bc3 a.r.ai4,aq2 a.r.ag5,.int .i64 a.r.budget,.aa4 (a.l.map aa2.cs)]),(1,.int .u8 k),(2,.int .i64 n),(13,.aa4 (a.r.ai4.map Job.cs)),(14,.int .i64 a.r.ai4.length),(15,.int .i64 (i:Int))]/\((qr i).any fun i=>decide ((jb i).kind=k)&&!dr i&&decide (n∈nm (jb i).dep))=false) a.r.ai4.length ⟨rfl,rfl⟩ ?_;rintro i fr t hi ⟨rfl,hf⟩;by_cases hlt:i<a.r.ai4.length
 ·have c1:(i:Int)<a.r.ai4.length:=om
  have c2:(0:Int)<=i:=om
  have w1:=ac4 (i:=i) om;have hgi:=hg i hlt;have hDi:=hD i hlt;have hNi:=hN i hlt;have hHi:=hH i
  have hex:∀ b,(decide ((jb i).kind=k)&&!dr i&&decide (n∈nm (jb i).dep))=b->(b=true->((qr a.r.ai4.length).any fun i=>decide ((jb i).kind=k)&&!dr i&&decide (n∈nm (jb i).dep))=true)/\(b=false->((qr i++[i]).any fun i=>decide ((jb i).kind=k)&&!dr i&&decide (n∈nm (jb i).dep))=false):=by
   intro b hb;refine ⟨fun h=>List.any_eq_true.2 ⟨i,List.mem_range.2 hlt,by rw[hb]; exact h⟩,fun h=>?_⟩;rw[List.any_append,hf];simp only[List.any_cons,List.any_nil,Bool.or_false,Bool.false_or,hb,h]
  clear hD hN hH hg;have j0:(jb i).cs.head? = zg (.int .u8 (jb i).kind):=rfl;have j1:=dv4 (jb i);have j2:((jb i).cs.drop 1).length=5:=rfl;generalize jb i=j at *;simp only[go_sem,c1,c2,hgi,co7,fc8,bt6,j0];by_cases e1:j.kind=k
  ·simp only[go_sem,e1];refine aa8 (hDi) ?_
   cases e2:dr (i:Int) with
   | true=>
    simp only[go_sem,w1]
    exact ⟨hlt,(hex _ rfl).2 (by simp[e2])⟩
   | false=>
    simp only[go_sem,j1,j2];refine aa8 (hNi) ?_;simp only[go_sem]
    first|refine aa3 fok84 (hHi) ?_|refine aa8 (hHi) ?_
    by_cases e3:n∈nm j.dep
    ·simp only[go_sem,e3];exact ab4 ((hex _ rfl).1 (by simp[e1,e2,e3])).symm
    ·simp only[go_sem,e3,w1];exact ⟨hlt,(hex _ rfl).2 (by simp[e3])⟩
  ·simp only[go_sem,e1,w1];exact ⟨hlt,(hex _ rfl).2 (by simp[e1])⟩
 ·have hi':i=a.r.ai4.length:=om
  subst hi';have c1:¬ (a.r.ai4.length:Int)<(a.r.ai4.length:Int):=om
  simp only[go_sem,c1];exact ab4 hf.symm
end Go.Id.Tryz
namespace Go.Id.Tryz
open Go Go.Id Go.Proofs Go.Id.Md
def ee5 (a b:Part):Bool:=decide (ae8 a b=-1)
theorem ep4 {a b:Int}:al7 a b=-1↔a<b:=by
 unfold al7;by_cases h:a<b
 ·simp[h]
 ·rw[if_neg h]; split<;>simp[h]
theorem io2 {a b:Str}:cm4 a b=-1↔Op.bytesLess a b=true:=by
 unfold cm4
 cases h:Op.bytesLess a b with
 | true=>simp
 | false=>
  simp only[zt,if_false];split<;>simp
theorem hh5 (a b:Part):ee5 a b=if a.kind≠b.kind then decide (a.kind<b.kind) else if a.kind=5/\a.s.length≠b.s.length then decide (a.s.length<b.s.length) else Op.bytesLess a.s b.s:=by
 unfold ee5;have hp:ae8 a b=if al7 a.kind b.kind≠0 then al7 a.kind b.kind else if (if a.kind=5/\b.kind=5 then al7 a.s.length b.s.length else 0)≠0 then (if a.kind=5/\b.kind=5 then al7 a.s.length b.s.length else 0) else cm4 a.s b.s:=rfl
 rw[hp];have key:∀ (x:Int) (p:Prop) [Decidable p] ,(x=-1↔p)->decide (x=-1)=decide p:=fun x p _ h=>decide_eq_decide.2 h
 have hS:decide (cm4 a.s b.s=-1)=Op.bytesLess a.s b.s:=by
  rw[key _ _ io2]; simp
 by_cases hk:a.kind=b.kind
 ·have e0:al7 a.kind b.kind=0:=ao8.2 om;have q0:¬ (a.kind≠b.kind):=fun h=>h hk
  have q1:¬ (al7 (a.kind:Int) (b.kind:Int)≠0):=fun h=>h e0
  rw[if_neg q1,if_neg q0];by_cases h5:a.kind=5
  ·have q2:a.kind=5/\b.kind=5:=⟨h5,om⟩;simp only[if_pos q2];by_cases hl:a.s.length=b.s.length
   ·have e1:al7 a.s.length b.s.length=0:=ao8.2 om;have q3:¬ (al7 (a.s.length:Int) (b.s.length:Int)≠0):=fun h=>h e1
    have q4:¬ (a.kind=5/\a.s.length≠b.s.length):=fun h=>h.2 hl
    rw[if_neg q3,if_neg q4,hS]
   ·have e1:al7 (a.s.length:Int) (b.s.length:Int)≠0:=fun h=>hl (by have:=ao8.1 h; omega)
    have q4:a.kind=5/\a.s.length≠b.s.length:=⟨h5,hl⟩;rw[if_pos e1,if_pos q4,key _ _ ep4];exact decide_eq_decide.2 om
  ·have q2:¬ (a.kind=5/\b.kind=5):=fun h=>h5 h.1
   have q3:¬ ((0:Int)≠0):=fun h=>h rfl
   have q4:¬ (a.kind=5/\a.s.length≠b.s.length):=fun h=>h5 h.1
   simp only[if_neg q2];rw[if_neg q3,if_neg q4,hS]
 ·have e0:al7 (a.kind:Int) (b.kind:Int)≠0:=fun h=>hk (by have:=ao8.1 h; omega)
  have q0:a.kind≠b.kind:=hk;rw[if_pos e0,if_pos q0,key _ _ ep4];exact decide_eq_decide.2 om
theorem hh6 (p:Part):(Part.cs p).length=2:=rfl
theorem bn8 (p:Part):(Part.cs p).all IV.leaf=true:=rfl
theorem gj7 (p:Part):(Part.cs p).take 2=Part.cs p:=rfl
theorem ez4 (p:Part):(Part.cs p).head? = zg (.int .u8 p.kind):=rfl
theorem gj8 (p:Part):((Part.cs p).drop 1).head? = zg (.str p.s):=rfl
theorem cb5 (p:Part):Bnd 0 (.agg (Part.cs p)):=.agg _ (fc1 p)
theorem ee6 (a b:Part)(ha:a.s.length<2^62)(hb:b.s.length<2^62):PC Tryz.prog EE 171 [.agg (Part.cs a),.agg (Part.cs b)] (.bool (ee5 a b)):=by
 refine ae5 hE fok171 (nZ rfl) (ae9 (cb5 a) (cb5 b)) ?_;rw[hh5];by_cases hk:a.kind=b.kind
 case neg=>
  have e:¬ (a.kind:Int)=b.kind:=om
  have e2:decide (a.kind<b.kind)=decide ((a.kind:Int)<b.kind):=by simp
  rw[if_pos hk,e2];simp only[ic171,go_sem,bn8,ez4,e];exact ab4 rfl
 have e:(a.kind:Int)=b.kind:=om
 rw[if_neg (by simpa using hk)];by_cases h5:a.kind=5
 ·have e5:(b.kind:Int)=5:=om
  by_cases hl:a.s.length=b.s.length
  ·rw[if_neg (fun h=>h.2 hl)];have el:(a.s.length:Int)=b.s.length:=om
   simp only[ic171,go_sem,bn8,ez4,gj8,e,e5,el];exact ab4 rfl
  ·rw[if_pos ⟨h5,hl⟩];have el:¬ (a.s.length:Int)=b.s.length:=om
   have e2:decide (a.s.length<b.s.length)=decide ((a.s.length:Int)<b.s.length):=by simp
   rw[e2];simp only[ic171,go_sem,bn8,ez4,gj8,e,e5,el];exact ab4 rfl
 ·have e5:¬ (b.kind:Int)=5:=om
  rw[if_neg (fun h=>h5 h.1)];simp only[ic171,go_sem,bn8,ez4,gj8,e,e5];exact ab4 rfl
def atP (l:List Part)(i:Nat):Part:=l.getD i db5
theorem ie2 (l:List Part)(i:Nat):PC Tryz.prog EE 172 [.aa4 (l.map Part.cs),.int .i64 i] (.agg (Part.cs (atP l i))):=by
 refine ae5 hE fok172 (nZ rfl) (ae9 (ef8 l) (.int _ _)) ?_;unfold atP;by_cases h:i<l.length
 ·have c1:¬ (l.length:Int)<=i:=om
  have c2:(i:Int)<l.length:=om
  have c3:(0:Int)<=(i:Int):=om
  have g:=gn1 l i h;have e:l.getD i db5=l[i]:=by simp[za,h]
  rw[e];simp only[ic172,go_sem,c1,c2,c3,g,hh6,bn8,gj7];exact .keep _ (cb5 _)
 ·have c1:(l.length:Int)<=i:=om
  have e:l.getD i db5=db5:=by simp[za,zq (qe h)]
  rw[e];simp only[ic172,go_sem,c1];exact .keep _ (cb5 db5)
theorem jf7 (s:Str)(i:Nat)(h:i<=(ab7 s).length):(vL s)[i]? = zg (atP (ab7 s) i):=by
 unfold atP;by_cases hl:i<(ab7 s).length
 ·rw[ql hl,zk hl]; simp[za,hl]
 ·have:i=(ab7 s).length:=om
  subst this;rw[List.getElem?_append_right (zm _),Nat.sub_self];simp[za]
theorem cz5 (a b:Str)(ha:a.length<2^30)(hb:b.length<2^30):PC Tryz.prog EE 118 [.str a,.str b] (.int .i64 (ao6 a b)):=by
 refine ae5 hE fok118 (nZ rfl) (ae9 (.str _) (.str _)) ?_;have la:=bh7 a;have lb:=bh7 b;have pa:=ef9 a ha;have pb:=ef9 b hb;have na:=bn6 a;have nb:=bn6 b;simp only[ic118,go_sem];refine aa3 fok170 (pa) ?_;simp only[go_sem];refine aa3 fok170 (pb) ?_;simp only[go_sem];refine ab1 noT (fun i fr s=>fr=[(5,.aa4 ((ab7 a).map Part.cs)),(6,.aa4 ((ab7 b).map Part.cs)),(7,.int .i64 (i:Int))]/\i<=(ab7 a).length/\i<=(ab7 b).length/\ao6 a b=af9 ((vL a).drop i) ((vL b).drop i)) (2^30) ⟨rfl,qq _,qq _,rfl⟩ ?_;rintro i fr s hi ⟨rfl,ia,ib,hv⟩;have w1:=ac4 (i:=i) om;have xa:=jf7 a i ia;have xb:=jf7 b i ib;obtain ⟨hia,hxa⟩:=qk.1 xa;obtain ⟨hib,hxb⟩:=qk.1 xb;rw[cc2 hia hib,hxa,hxb] at hv;by_cases hmore:i<(ab7 a).length\/i<(ab7 b).length
 ·have ga:=ie2 (ab7 a) i;have gb:=ie2 (ab7 b) i;have sa:(atP (ab7 a) i).s.length<=a.length:=jk5 a _ (hxa▸ze hia);have sb:(atP (ab7 b) i).s.length<=b.length:=jk5 b _ (hxb▸ze hib);have b1:=ee6 (atP (ab7 a) i) (atP (ab7 b) i) om om;have b2:=ee6 (atP (ab7 b) i) (atP (ab7 a) i) om om;have h3:=eg1 (atP (ab7 a) i) (atP (ab7 b) i);have hneg:=cz3 (atP (ab7 a) i) (atP (ab7 b) i)
  have hnext:ae8 (atP (ab7 a) i) (atP (ab7 b) i)=0->i+1<=(ab7 a).length/\i+1<=(ab7 b).length:=fun h0=>by
   have hk:=ca9 h0;rcases hmore with h|h
   ·refine ⟨h,?_⟩;by_cases h':i<(ab7 b).length
    ·exact h'
    ·have e1:atP (ab7 b) i=db5:=by unfold atP; simp[za,zq (qe h')]
     have e2:atP (ab7 a) i=(ab7 a)[i]:=by unfold atP; simp[za,h]
     rw[e1,e2] at hk;exact absurd hk (na _ (ze h))
   ·refine ⟨?_,h⟩;by_cases h':i<(ab7 a).length
    ·exact h'
    ·have e1:atP (ab7 a) i=db5:=by unfold atP; simp[za,zq (qe h')]
     have e2:atP (ab7 b) i=(ab7 b)[i]:=by unfold atP; simp[za,h]
     rw[e1,e2] at hk;exact absurd hk.symm (nb _ (ze h))
  have v1:ee5 (atP (ab7 a) i) (atP (ab7 b) i)=decide (ae8 (atP (ab7 a) i) (atP (ab7 b) i)=-1):=rfl;have v2:ee5 (atP (ab7 b) i) (atP (ab7 a) i)=decide (ae8 (atP (ab7 b) i) (atP (ab7 a) i)=-1):=rfl;rw[v1] at b1;rw[v2] at b2;generalize atP (ab7 a) i=x at *;generalize atP (ab7 b) i=y at *;generalize ae8 y x=c2 at *;generalize ae8 x y=c at *;by_cases hA:i<(ab7 a).length
  case' pos=>
   have d1:(i:Int)<(ab7 a).length:=om
   simp only[go_sem,d1]
  case' neg=>
   have d1:¬ (i:Int)<(ab7 a).length:=om
   have d2:(i:Int)<(ab7 b).length:=om
   simp only[go_sem,d1,d2]
  all_goals
   refine aa3 fok172 (ga) ?_;simp only[go_sem];refine aa3 fok172 (gb) ?_;simp only[go_sem];refine aa3 fok171 (b1) ?_;rcases h3 with h|h|h
   ·subst h;rw[if_pos (by decide)] at hv;simp only[go_sem,decide_true];rw[hv]; exact ad1 _ _
   ·subst h;have hc2:c2=0:=om
    subst hc2;rw[if_neg (by decide)] at hv;obtain ⟨n1,n2⟩:=hnext rfl;simp only[go_sem,zx,qm,decide_false];refine aa3 fok172 (gb) ?_;simp only[go_sem];refine aa3 fok172 (ga) ?_;simp only[go_sem];refine aa3 fok171 (b2) ?_;simp only[go_sem,zx,qm,decide_false,w1];exact ⟨om,n1,n2,hv⟩
   ·subst h;subst hneg;rw[if_pos (by decide)] at hv;simp only[go_sem,zx,qm,decide_false];refine aa3 fok172 (gb) ?_;simp only[go_sem];refine aa3 fok172 (ga) ?_;simp only[go_sem];refine aa3 fok171 (b2) ?_;simp only[go_sem,decide_true];rw[hv]; exact ad1 _ _
 ·have ea:i=(ab7 a).length:=om
  have eb:i=(ab7 b).length:=om
  have d1:¬ (i:Int)<(ab7 a).length:=om
  have d2:¬ (i:Int)<(ab7 b).length:=om
  have e1:atP (ab7 a) i=db5:=by unfold atP; simp[za,zq (show (ab7 a).length<=i by omega)]
  have e2:atP (ab7 b) i=db5:=by unfold atP; simp[za,zq (show (ab7 b).length<=i by omega)]
  have h0:ae8 db5 db5=0:=by decide
  have hend:af9 ((vL a).drop (i+1)) ((vL b).drop (i+1))=0:=cq9 (.inl (by simp only[zj,zh]; omega));rw[e1,e2,h0,if_neg (by decide),hend] at hv;simp only[go_sem,d1,d2];rw[hv]; exact ad1 _ _
end Go.Id.Tryz
namespace Go.Id.Tryz
open Go Go.Id Go.Proofs Go.Id.Md
theorem dt4 (e:EVR):e.cs.all IV.leaf=true:=rfl
theorem io3 (e:EVR):e.cs.head? = zg (.int .i64 e.ak4):=rfl
theorem jq8 (e:EVR):(e.cs.drop 1).head? = zg (.str e.ver):=rfl
theorem io4 (e:EVR):(e.cs.drop 2).head? = zg (.str e.rel):=rfl
theorem bj3 (a b:EVR)(ha:EVR.small a)(hb:EVR.small b):PC Tryz.prog EE 58 [.agg a.cs,.agg b.cs] (.int .i64 (ai5 a b)):=by
 refine ae5 hE fok58 (nZ rfl) (ae9 (bt5 a) (bt5 b)) ?_;have h1:=cz5 a.ver b.ver ha.1 hb.1;have h2:=cz5 a.rel b.rel ha.2 hb.2;unfold ai5;by_cases e1:a.ak4<b.ak4
 ·have c0:al7 a.ak4 b.ak4=-1:=ep4.2 e1;rw[c0,if_pos (by decide)];simp only[ic58,go_sem,dt4,io3,e1];exact ad1 _ _
 by_cases e2:b.ak4<a.ak4
 ·have c0:al7 a.ak4 b.ak4=1:=by
   unfold al7;rw[if_neg e1,if_neg om]
  rw[c0,if_pos (by decide)];simp only[ic58,go_sem,dt4,io3,e1,e2];exact ad1 _ _
 have c0:al7 a.ak4 b.ak4=0:=ao8.2 om;have nn:∀ {α:Type} (x y:α),(if (0:Int)≠0 then x else y)=y:=fun _ _=>if_neg (by decide)
 rw[c0,nn];simp only[ic58,go_sem,dt4,io3,jq8,e1,e2];refine aa3 fok118 (h1) ?_;generalize ao6 a.ver b.ver=n at *;by_cases hn:n=0
 ·subst hn;rw[nn];by_cases r1:a.rel=[]
  ·rw[if_pos (.inl r1)];simp only[go_sem,io4,r1];exact ad1 _ _
  by_cases r2:b.rel=[]
  ·rw[if_pos (.inr r2)];simp only[go_sem,io4,r1,r2];exact ad1 _ _
  rw[if_neg (by simp[r1,r2])];simp only[go_sem,io4,r1,r2];refine aa3 fok118 (h2) ?_;simp only[go_sem];exact ad1 _ _
 ·have hn':n≠0:=hn;rw[if_pos hn'];simp only[go_sem,hn];exact ad1 _ _
theorem ez5 (a b:Dep)(ha:Dep.small a)(hb:Dep.small b):PC Tryz.prog EE 103 [.agg a.cs,.agg b.cs] (.bool (meet a b)):=by
 refine ae5 hE fok103 (nZ rfl) (al3 (an3 a) (an3 b)) ?_;obtain ⟨a1,a2,a3⟩:=ha;obtain ⟨b1,b2,b3⟩:=hb;have hc:=bj3 a.evr b.evr a3 b3;have h3:=fc4 a.evr b.evr;unfold meet;generalize ai5 a.evr b.evr=n at hc h3;simp only[EVR.cs] at hc;obtain ⟨x,hx⟩:∃ x:Nat,a.op=x:=⟨a.op.toNat,om⟩;obtain ⟨y,hy⟩:∃ y:Nat,b.op=y:=⟨b.op.toNat,om⟩;have hx2:x<256:=om
 have hy2:y<256:=om
 rw[hx,hy,zd,zd];have tm:∀ k:Nat,(k:Int).tmod 8=((k%8:Nat):Int):=fun k=>rfl
 have z0:∀ k:Nat,((k:Int)=0)↔k=0:=fun k=>by omega
 have bt:∀ (k i:Nat),bit (k:Int) i=k.testBit i:=fun k i=>by unfold bit; rw[zd]
 by_cases hx0:x%8=0
 ·have q:(x:Int).tmod 8=0:=by rw[tm,z0]; exact hx0
  rw[if_pos (.inl hx0)];simp only[ic103,go_sem,Dep.cs,hx,hy,q,zx,true_and,not_false_eq_true];exact ab8 _
 have q:¬ (x:Int).tmod 8=0:=by rw[tm,z0]; exact hx0
 by_cases hy0:y%8=0
 ·have q2:(y:Int).tmod 8=0:=by rw[tm,z0]; exact hy0
  rw[if_pos (.inr hy0)];simp only[ic103,go_sem,Dep.cs,hx,hy,q,q2,zx,true_and,not_false_eq_true];exact ab8 _
 have q2:¬ (y:Int).tmod 8=0:=by rw[tm,z0]; exact hy0
 rw[if_neg (fun h=>h.elim hx0 hy0)];simp only[ic103,go_sem,Dep.cs,hx,hy,q,q2,zx,true_and,not_false_eq_true];refine aa3 fok58 (hc) ?_;have exy:bl5 x y=((x &&& y:Nat):Int):=aq5 x y hx2 hy2;have hxy:x &&& y<256:=z8 qi hx2;have exy7:bl5 ((x &&& y:Nat):Int) 7=((x &&& y &&& 7:Nat):Int):=aq5 _ 7 hxy om;have x1:bl5 x 1=((x &&& 1:Nat):Int):=aq5 x 1 hx2 om;have x4:bl5 x 4=((x &&& 4:Nat):Int):=aq5 x 4 hx2 om;have y1:bl5 y 1=((y &&& 1:Nat):Int):=aq5 y 1 hy2 om;have y4:bl5 y 4=((y &&& 4:Nat):Int):=aq5 y 4 hy2 om;rcases h3 with rfl|rfl|rfl
 ·have g1:side (- -1)=2:=by decide
  have g2:side (-1)=0:=by decide
  have m0:¬ ((-1:Int)=0):=by decide
  have m1:((-1:Int)<0):=by decide
  simp only[go_sem,m0,m1,g1,g2,bt,if_false]
  cases hb:x.testBit 2 with
  | true=>
   have e:¬ bl5 x 4=0:=by rw[x4,z0,ie7 x hx2,hb]; simp
   simp only[go_sem,as3,e]
   exact ab8 _
  | false=>
   have e:bl5 x 4=0:=by rw[x4,z0,ie7 x hx2,hb]
   simp only[go_sem,as3,e]
   cases hc:y.testBit 0 with
   | true=>
    have e2:¬ bl5 y 1=0:=by rw[y1,z0,and1 y hy2,hc]; simp
    simp only[go_sem,as3,e2]
    exact ab8 _
   | false=>
    have e2:bl5 y 1=0:=by rw[y1,z0,and1 y hy2,hc]
    simp only[go_sem,as3,e2];exact ab8 _
 ·have m1:¬ ((0:Int)<0):=by decide
  simp only[go_sem,as3,exy,exy7,bt,m1]
  have e:(!decide (((x &&& y &&& 7:Nat):Int)=0))=(x.testBit 0&&y.testBit 0||x.testBit 1&&y.testBit 1||x.testBit 2&&y.testBit 2):=by
   by_cases hz:x &&& y &&& 7=0
   ·obtain ⟨t0,t1,t2⟩:=(du9 _ hxy).1 hz;rw[zn] at t0 t1 t2;rw[hz,t0,t1,t2]; rfl
   ·have hz':¬ ((x &&& y &&& 7:Nat):Int)=0:=fun h=>hz om
    have ht:¬ ((x &&& y).testBit 0=false/\(x &&& y).testBit 1=false/\(x &&& y).testBit 2=false):=fun h=>hz ((du9 _ hxy).2 h)
    rw[zn,zn,zn] at ht;rw[decide_eq_false hz']
    revert ht
    generalize (x.testBit 0&&y.testBit 0)=b0;generalize (x.testBit 1&&y.testBit 1)=b1;generalize (x.testBit 2&&y.testBit 2)=b2;cases b0<;>cases b1<;>cases b2<;>simp
  exact ab4 e
 ·have g1:side (-1)=0:=by decide
  have g2:side 1=2:=by decide
  have m0:¬ ((1:Int)=0):=by decide
  have m1:¬ ((1:Int)<0):=by decide
  have m2:(0:Int)<1:=by decide
  simp only[go_sem,m0,m1,m2,g1,g2,bt,if_false]
  cases hb:x.testBit 0 with
  | true=>
   have e:¬ bl5 x 1=0:=by rw[x1,z0,and1 x hx2,hb]; simp
   simp only[go_sem,as3,e]
   exact ab8 _
  | false=>
   have e:bl5 x 1=0:=by rw[x1,z0,and1 x hx2,hb]
   simp only[go_sem,as3,e]
   cases hc:y.testBit 2 with
   | true=>
    have e2:¬ bl5 y 4=0:=by rw[y4,z0,ie7 y hy2,hc]; simp
    simp only[go_sem,as3,e2]
    exact ab8 _
   | false=>
    have e2:bl5 y 4=0:=by rw[y4,z0,ie7 y hy2,hc]
    simp only[go_sem,as3,e2];exact ab8 _
end Go.Id.Tryz
