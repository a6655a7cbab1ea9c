/- Versions by the reference: kinds,parts. Conditions: sizes that fit. -/
import Derived.Test.YtphnnoolpagclaaGreatDoorTQQD
import Derived.Test.YtphnnoolpagclaaGreatDoorFwZb
import Derived.Test.YtphnnoolpagclaaGreatDoorTQPB
import Derived.Test.YtphnnoolpagclaaGreatDoorMv
set_option linter.all false
namespace Go.Id.Tryz
open Go Go.Id Go.Proofs Go.Id.Md
set_option maxRecDepth 100000
set_option maxHeartbeats 1000000
theorem dh7 (b:UInt8):PC Tryz.prog EE 194 [.int .u8 b.toNat] (.int .u8 (ac4 b)):=by
 rw[fo9];have hb:=b.toNat_lt;generalize b.toNat=n at *;unfold vkN;refine af5 hE fok194 (nZ rfl) (ae6 (.int _ _)) ?_;by_cases e1:n=126
 ·have e1':(n:Int)=126:=by omega
  rw[if_pos e1];simp only[ic194,go_sem,e1'];exact .keep _ (.int _ _)
 have e1':¬ (n:Int)=126:=by omega
 rw[if_neg e1];by_cases e2:n=94
 ·have e2':(n:Int)=94:=by omega
  have q:¬ (94:Int)=126:=by decide
  rw[if_pos e2];simp only[ic194,go_sem,e2',q];exact .keep _ (.int _ _)
 have e2':¬ (n:Int)=94:=by omega
 rw[if_neg e2];by_cases e3:97<=n/\n<=122
 ·have f1:(97:Int)<=n:=by omega
  have f2:(n:Int)<=122:=by omega
  rw[if_pos (.inl e3)];simp only[ic194,go_sem,e1',e2',f1,f2];exact .keep _ (.int _ _)
 by_cases e4:65<=n/\n<=90
 ·have f1:¬ (97:Int)<=n:=by omega
  have f3:(65:Int)<=n:=by omega
  have f4:(n:Int)<=90:=by omega
  rw[if_pos (.inr e4)];simp only[ic194,go_sem,e1',e2',f1,f3,f4];exact .keep _ (.int _ _)
 rw[if_neg (fun h=>h.elim e3 e4)];by_cases e5:48<=n/\n<=57
 ·have f1:¬ (97:Int)<=n:=by omega
  have f3:¬ (65:Int)<=n:=by omega
  have f5:(48:Int)<=n:=by omega
  have f6:(n:Int)<=57:=by omega
  rw[if_pos e5];simp only[ic194,go_sem,e1',e2',f1,f3,f5,f6];exact .keep _ (.int _ _)
 rw[if_neg e5];by_cases f1:(97:Int)<=n
 ·have f2:¬ (n:Int)<=122:=by omega
  have f3:(65:Int)<=n:=by omega
  have f4:¬ (n:Int)<=90:=by omega
  have f5:(48:Int)<=n:=by omega
  have f6:¬ (n:Int)<=57:=by omega
  simp only[ic194,go_sem,e1',e2',f1,f2,f3,f4,f5,f6];exact .keep _ (.int _ _)
 by_cases f3:(65:Int)<=n
 ·have f4:¬ (n:Int)<=90:=by omega
  have f5:(48:Int)<=n:=by omega
  have f6:¬ (n:Int)<=57:=by omega
  simp only[ic194,go_sem,e1',e2',f1,f3,f4,f5,f6];exact .keep _ (.int _ _)
 by_cases f5:(48:Int)<=n
 ·have f6:¬ (n:Int)<=57:=by omega
  simp only[ic194,go_sem,e1',e2',f1,f3,f5,f6];exact .keep _ (.int _ _)
 ·simp only[ic194,go_sem,e1',e2',f1,f3,f5];exact .keep _ (.int _ _)
theorem ei4 (p:Part):∀ c∈Part.cs p,Bnd 0 c:=aj2 (.int _ _) (.str _)
theorem dq7 (l:List Part):Bnd 0 (.aa5 (l.map Part.cs)):=.aa5 _ fun e he c hc=>by
 obtain ⟨d,_,rfl⟩:=List.mem_map.1 he; exact ei4 d c hc
theorem ay7 {t:Store}{gv:IV}{esz n nid:Nat}{es:List (List IV)}{e:List IV}(hg:Grow t gv esz es)(hall:∀ x∈es,x.length=esz/\x.all IV.leaf=true)(he:e.length=esz/\e.all IV.leaf=true)(hl:es.length<2147483648)(h1:t.next<=nid)(h2:nid<t.next+n) :
  ∃ v' σ',ba7 ⟨t.next+n,t.obj⟩ nid esz gv (.aa5 [e])=some (v',σ')/\σ'.next=t.next+n/\Grow σ' v' esz (es++[e]):=by
 have hg2:Grow ⟨t.next+n,t.obj⟩ gv esz es:=hg.mono (Nat.le_add_right _ _) fun _ _ _=>rfl
 have hap:=am2 (nid:=nid) (e:=e) hg2 hall he hl;have kn:(ai4 gv (⟨t.next+n,t.obj⟩:Store)).next=t.next+n:=ad8 gv;refine ⟨_,_,hap,by rw[ab4,kn],.inr ⟨nid,by rw[List.length_append,List.length_singleton],by simp only[aa7,if_true],by rw[ab4,kn]; exact h2⟩⟩
theorem dq8 (s:Str)(hs:s.length<2^30):PC Tryz.prog EE 155 [.str s] (.aa5 ((ab3 s).map Part.cs)):=by
 refine af5 hE fok155 (nZ rfl) (am3 (.str _)) ?_;simp only[ic155,go_sem];refine ab5 noT (fun j fr t=>∃ (a:Nat) (gv:IV) (pre:List Part),fr=[(0,.str s),(3,gv),(4,.int .i64 (a:Int))]/\j<=a/\a<=s.length/\pre.length<=a/\ab3 s=pre++ab3 (s.drop a)/\Grow t gv 2 (pre.map Part.cs)) s.length ⟨0,.aa1,[],rfl,Nat.le_refl _,Nat.zero_le _,Nat.le_refl _,rfl,.inl ⟨rfl,rfl⟩⟩ ?_;rintro j fr t hj ⟨a,gv,pre,rfl,hja,has,hpl,hv,hg⟩;by_cases hlt:a<s.length
 ·obtain ⟨b,hb,hget,hdr,_,htk⟩:=ad5 s a hlt;have c1:(a:Int)<s.length:=by omega
  have c2:(0:Int)<=a:=by omega
  have w1:=ad9 (i:=a) (by omega);have hk:=dh7 b;rw[hdr] at hv;simp only[go_sem,c1,ax2,c2,Int.toNat_natCast,hget,Option.map]
  first|refine aa4 fok194 (hk) ?_|refine aa2 (hk) ?_
  by_cases h0:ac4 b=0
  ·have k0:((ac4 b:Nat):Int)=0:=by omega
   rw[eg6 h0] at hv;simp only[go_sem,k0,w1];exact ⟨by omega,a+1,gv,pre,rfl,by omega,by omega,by omega,hv,hg⟩
  have k0:¬ ((ac4 b:Nat):Int)=0:=by omega
  by_cases h4:ac4 b<4
  ·have k4:((ac4 b:Nat):Int)<4:=by omega
   rw[eg7 h0 h4] at hv;obtain ⟨v',σ',h1,h2,h3⟩:=ay7 (n:=1) (nid:=t.next) (e:=[.int .u8 (ac4 b:Nat),.str []]) hg (ba2 _) ⟨rfl,rfl⟩ (by rw[List.length_map]; omega) (Nat.le_refl _) (by omega);simp only[go_sem,k0,k4,h1,w1];refine ⟨by omega,a+1,v',pre++[⟨ac4 b,[]⟩],rfl,by omega,by omega,by rw[List.length_append]; simp only[List.length_singleton]; omega,by rw[hv]; simp,?_⟩;rw[List.map_append]; exact h3
  have k4:¬ ((ac4 b:Nat):Int)<4:=by omega
  simp only[go_sem,k0,k4];obtain ⟨R,hR⟩:∃ R,R=fc3 b (s.drop (a+1)):=⟨_,rfl⟩;have hrl:=gl2 b (s.drop (a+1));rw[<- hR,List.length_drop] at hrl
  have hrun:∀ m,m<R+1->∃ c,s[a+m]? = some c/\ac4 c=ac4 b:=fun m hm=>by
   cases m with
   | zero=>exact ⟨b,hget,rfl⟩
   | succ m=>
    obtain ⟨c,h1,h2⟩:=gk9 (b:=b) (l:=s.drop (a+1)) (m:=m) (by omega);rw[List.getElem?_drop] at h1;exact ⟨c,by rw[<- h1]; congr 1; omega,h2⟩
  have hend:∀ c,s[a+(R+1)]? = some c->ac4 c≠ac4 b:=fun c h=>gl1 (l:=s.drop (a+1)) (by rw[<- hR,List.getElem?_drop,<- h]; congr 1; omega)
  refine ab5 noT (fun m fr u=>fr=[(0,.str s),(3,gv),(4,.int .i64 (a:Int)),(5,.int .u8 (ac4 b:Nat)),(6,.int .i64 ((a+m:Nat):Int))]/\u.obj=t.obj/\t.next<=u.next) (R+1) ⟨rfl,rfl,Nat.le_refl _⟩ ?_;rintro m fr u hmR ⟨rfl,uo,un⟩;have d2:(0:Int)<=((a+m:Nat):Int):=by omega
  have w2:=ad9 (i:=a+m) (by omega);by_cases hm:m<R+1
  ·obtain ⟨c,hc1,hc2⟩:=hrun m hm;have k2:((a+m:Nat):Int)<s.length:=by omega
   have k3:=dh7 c;rw[hc2] at k3;simp only[go_sem,k2,ax2,d2,Int.toNat_natCast,hc1,Option.map]
   first|refine aa4 fok194 (k3) ?_|refine aa2 (k3) ?_
   simp only[go_sem,w2];exact ⟨hm,rfl,uo,un⟩
  have hm':m=R+1:=by omega
  subst hm';have hw:((b::s.drop (a+1)).take (R+1))=(s.drop a).take (R+1):=by rw[hdr]
  have hv4:=hv;rw[eg8 h4,<- hR,hw,List.drop_drop] at hv4;have hdd:a+1+R=a+(R+1):=by omega
  rw[hdd] at hv4;obtain ⟨w,hwd⟩:∃ w,w=(s.drop a).take (R+1):=⟨_,rfl⟩;rw[<- hwd] at hv4;have hwl:w.length=R+1:=by rw[hwd,List.length_take,List.length_drop]; omega
  have hwg:∀ z,z<R+1->w[z]? = s[a+z]?:=fun z hz=>by rw[hwd,List.getElem?_take,if_pos hz,List.getElem?_drop]
  by_cases hen:a+(R+1)<s.length
  case' pos=>
   have k2:((a+(R+1):Nat):Int)<s.length:=by omega
   have hc:s[a+(R+1)]? = some s[a+(R+1)]:=List.getElem?_eq_getElem hen;have hne:=hend _ hc;have k7:¬ ((ac4 s[a+(R+1)]:Nat):Int)=ac4 b:=by omega
   have k3:=dh7 s[a+(R+1)];simp only[go_sem,k2,ax2,d2,Int.toNat_natCast,hc,Option.map]
   first|refine aa4 fok194 (k3) ?_|refine aa2 (k3) ?_
   simp only[go_sem,k7]
  case' neg=>
   have k2:¬ ((a+(R+1):Nat):Int)<s.length:=by omega
   simp only[go_sem,k2]
  all_goals
   obtain ⟨Z,hZ⟩:∃ Z,Z=if ac4 b=5 then (w.takeWhile (· == 48)).length else 0:=⟨_,rfl⟩
   have hZl:Z<=R+1:=by
    rw[hZ]; split
    ·rw[<- hwl]; exact (List.takeWhile_sublist _).length_le
    ·omega
   have hdw:(if ac4 b=5 then w.dropWhile (· == 48) else w)=w.drop Z:=by
    rw[hZ]; split
    ·exact (ch8 _ w).2
    ·rfl
   rw[hdw] at hv4;refine ab5 noT (fun z fr v=>(∃ tl:Frm,fr=(0,.str s)::(3,gv)::(4,.int .i64 ((a+z:Nat):Int))::(5,.int .u8 (ac4 b:Nat))::(6,.int .i64 ((a+(R+1):Nat):Int))::tl)/\v.obj=t.obj/\t.next<=v.next) Z ⟨⟨_,rfl⟩,uo,by first|exact un|(show t.next<=_; omega)⟩ ?_;rintro z fr v hz ⟨⟨tl,rfl⟩,vo,vn⟩;have z2:(0:Int)<=((a+z:Nat):Int):=by omega
   have z3:=ad9 (i:=a+z) (by omega);by_cases hzz:z<Z
   ·have h5:ac4 b=5:=by
     by_cases h:ac4 b=5
     ·exact h
     ·rw[if_neg h] at hZ; omega
    have k5:((ac4 b:Nat):Int)=5:=by omega
    rw[if_pos h5] at hZ;obtain ⟨c,hc1,hc2⟩:=hn7 (p:=fun c=>c==48) w z (by omega);have hc0:c=48:=by simpa using hc2
    rw[hwg z (by omega),hc0] at hc1;have e1:((a+z:Nat):Int)<((a+(R+1):Nat):Int):=by omega
    have e2:((a+z:Nat):Int)<s.length:=by omega
    have e3:((48:UInt8).toNat:Int)=48:=rfl;simp only[go_sem,k5,e1,e2,ax2,z2,Int.toNat_natCast,hc1,Option.map,e3,z3];exact ⟨hzz,⟨_,rfl⟩,vo,vn⟩
   ·have hz':z=Z:=by omega
    subst hz'
    have hss:cf7 (some (.int .i64 ((a+z:Nat):Int))) (some (.int .i64 ((a+(R+1):Nat):Int))) (.str s)=some (.str (w.drop z)):=by
     have e1:(0:Int)<=((a+(R+1):Nat):Int):=by omega
     have e2:a+z<=a+(R+1)/\a+(R+1)<=s.length:=by omega
     simp only[cf7,ch1,ec5,z2,e1,if_true,Int.toNat_natCast,e2,and_self];rw[hwd,List.drop_take,List.drop_take,List.drop_drop];congr 3; omega
    have hvg:Grow v gv 2 (pre.map Part.cs):=hg.mono vn fun _ _ _=>by rw[vo]
    obtain ⟨v',σ',h1,h2,h3⟩:=ay7 (n:=1) (nid:=v.next) (e:=[.int .u8 (ac4 b:Nat),.str (w.drop z)]) hvg (ba2 _) ⟨rfl,rfl⟩ (by rw[List.length_map]; omega) (Nat.le_refl _) (by omega)
    have fin:ab3 s=(pre++[(⟨ac4 b,w.drop z⟩:Part)])++ab3 (s.drop (a+(R+1)))/\Grow σ' v' 2 ((pre++[(⟨ac4 b,w.drop z⟩:Part)]).map Part.cs)/\(pre++[(⟨ac4 b,w.drop z⟩:Part)]).length<=a+(R+1):=by
     refine ⟨by rw[hv4]; simp,by rw[List.map_append]; exact h3,by rw[List.length_append,List.length_singleton]; omega⟩
    by_cases h5:ac4 b=5
    ·have k5:((ac4 b:Nat):Int)=5:=by omega
     rw[if_pos h5] at hZ;by_cases hzR:z<R+1
     ·have e1:((a+z:Nat):Int)<((a+(R+1):Nat):Int):=by omega
      have e2:((a+z:Nat):Int)<s.length:=by omega
      have hc:s[a+z]? = some s[a+z]:=List.getElem?_eq_getElem (by omega)
      have hne:¬ s[a+z]=48:=by
       have:=hn8 (p:=fun c=>c==48) w s[a+z] (by rw[<- hZ,hwg z hzR]; exact hc)
       simpa using this
      have hne2:¬ (s[a+z].toNat:Int)=48:=fun h=>hne (UInt8.toNat_inj.1 (by show _=48; omega))
      simp only[k5] at h1;simp only[go_sem,k5,e1,e2,ax2,z2,Int.toNat_natCast,hc,Option.map,hne2,hss,h1];exact ⟨by omega,a+(R+1),v',_,rfl,by omega,by omega,fin.2.2,fin.1,fin.2.1⟩
     ·have e1:¬ ((a+z:Nat):Int)<((a+(R+1):Nat):Int):=by omega
      simp only[k5] at h1;simp only[go_sem,k5,e1,hss,h1];exact ⟨by omega,a+(R+1),v',_,rfl,by omega,by omega,fin.2.2,fin.1,fin.2.1⟩
    ·have k5:¬ ((ac4 b:Nat):Int)=5:=by omega
     simp only[go_sem,k5,hss,h1];exact ⟨by omega,a+(R+1),v',_,rfl,by omega,by omega,fin.2.2,fin.1,fin.2.1⟩
 ·have ha:a=s.length:=by omega
  subst ha;have c1:¬ (s.length:Int)<s.length:=by omega
  rw[List.drop_length,ex8,List.append_nil] at hv;rw[hv];simp only[go_sem,c1];exact hg.frz (fun x hx=>(ba2 _ x hx).1) (fun _ _=>Nat.not_lt_zero _) (am4 (dq7 pre))
theorem fp7 (a b:EVR):PC Tryz.prog EE 109 [.ab7 a.cs,.ab7 b.cs] (.int .i64 (ar9 a.ao4 b.ao4)):=by
 refine av4 fok109 (nZ rfl) fun σ=>?_
 simp only[ic109,go_sem,EVR.cs];refine aa4 fok110 (dz5 _ _) ?_;simp only[go_sem,and_self]
theorem fp8 (a b:EVR)(h1:a.ver.length<2^30)(h2:b.ver.length<2^30):PC Tryz.prog EE 111 [.ab7 a.cs,.ab7 b.cs] (.int .i64 (au8 a.ver b.ver)):=by
 refine av4 fok111 (nZ rfl) fun σ=>?_
 simp only[ic111,go_sem,EVR.cs];refine aa4 fok112 (bu5 _ _ h1 h2) ?_;simp only[go_sem,and_self]
theorem fp9 (a b:EVR)(h1:a.rel.length<2^30)(h2:b.rel.length<2^30):PC Tryz.prog EE 113 [.ab7 a.cs,.ab7 b.cs] (.int .i64 (if a.rel=[]\/b.rel=[] then 0 else au8 a.rel b.rel)):=by
 refine av4 fok113 (nZ rfl) fun σ=>?_
 by_cases e1:a.rel=[]
 ·simp only[ic113,go_sem,EVR.cs,e1,true_or,and_self]
 ·by_cases e2:b.rel=[]
  ·simp only[ic113,go_sem,EVR.cs,e1,e2,or_true,and_self]
  ·simp only[ic113,go_sem,EVR.cs,e1,e2,or_self];refine aa4 fok112 (bu5 _ _ h1 h2) ?_;simp only[go_sem,and_self]
def fnC (f:Nat×List IV):List IV:=[.func (.func f.1) [] f.2]
theorem ea4 (fs:List (Nat×List IV))(vals:List Int)(hl:fs.length=vals.length)(hn:fs.length<2^40)(hb:∀ f∈fs,∀ c∈f.2,Bnd 0 c)
  (h:∀ i (h1:i<fs.length) (h2:i<vals.length),okF Tryz.prog fs[i].1=true/\PC Tryz.prog EE fs[i].1 fs[i].2 (.int .i64 vals[i])):PC Tryz.prog EE 108 [.aa5 (fs.map fnC)] (.int .i64 (orM vals)):=by
 refine af5 hE fok108 (nZ rfl) (ae6 (.aa5 _ fun e he c hc=>?_)) ?_
 ·obtain ⟨f,hf,rfl⟩:=List.mem_map.1 he
  cases hc with
  | head=>exact .func _ _ _ (fun c hc=>by cases hc) (hb f hf)
  | tail _ h=>cases h
 simp only[ic108,go_sem];refine ab5 noT (fun i fr s=>fr=[(6,.aa5 (fs.map fnC)),(7,.int .i64 fs.length),(8,.int .i64 i)]/\orM vals=orM (vals.drop i)) fs.length ⟨rfl,rfl⟩ ?_;rintro i fr s hle ⟨rfl,hI⟩;by_cases hlt:i<fs.length
 ·obtain ⟨f,hf,hget0,hdr,hget,htk⟩:=ad5 fs i hlt;have hlt2:i<vals.length:=by omega
  have c1:(i:Int)<fs.length:=by omega
  have c2:(0:Int)<=i:=by omega
  have w1:=ad9 (i:=i) (by omega);obtain ⟨k1,k2⟩:=h i hlt hlt2
  have hfi:fs[i]=f:=by
   have:=List.getElem?_eq_getElem hlt; rw[this] at hget0; exact Option.some.inj hget0
  rw[hfi] at k1 k2;rw[List.drop_eq_getElem_cons hlt2,orM] at hI;generalize vals[i]=x at *;simp only[go_sem,c1,c2,hget,fnC];refine ea2 k1 k2 ?_;by_cases hx:x=0
  ·subst hx;simp only[go_sem,w1];exact ⟨hlt,by simpa using hI⟩
  ·rw[if_neg hx] at hI;simp only[go_sem,hx];rw[hI]; exact ac7 _ _
 ·have hi':i=fs.length:=by omega
  subst hi';have c1:¬ (fs.length:Int)<fs.length:=by omega
  rw[hl,List.drop_length,orM] at hI;simp only[go_sem,c1];rw[hI]; exact ac7 _ _
theorem ei5 (a:EVR):Bnd 0 (.ab7 a.cs):=.ab7 _ fun c hc=>by
 simp only[EVR.cs,List.mem_cons,List.not_mem_nil,or_false] at hc;rcases hc with rfl|rfl|rfl
 ·exact .int _ _
 ·exact .str _
 ·exact .str _
theorem bm9 (a:EVR):Bnd 0 (.agg a.cs):=.agg _ fun c hc=>by
 simp only[EVR.cs,List.mem_cons,List.not_mem_nil,or_false] at hc;rcases hc with rfl|rfl|rfl
 ·exact .int _ _
 ·exact .str _
 ·exact .str _
def EVR.small (e:EVR):Prop:=e.ver.length<2^30/\e.rel.length<2^30
theorem be9 (a b:EVR)(ha:EVR.small a)(hb:EVR.small b):PC Tryz.prog EE 57 [.agg a.cs,.agg b.cs] (.int .i64 (au9 a b)):=by
 refine af5 hE fok57 (nZ rfl) (ag9 (bm9 a) (bm9 b)) ?_
 have hv:au9 a b=orM [ar9 a.ao4 b.ao4,au8 a.ver b.ver,if a.rel=[]\/b.rel=[] then 0 else au8 a.rel b.rel]:=by
  rw[hz4]; unfold au9;split
  ·rfl
  ·split
   ·rfl
   ·rfl
 have hf:=ea4 [(109,[.ab7 a.cs,.ab7 b.cs]),(111,[.ab7 a.cs,.ab7 b.cs]),(113,[.ab7 a.cs,.ab7 b.cs])] [ar9 a.ao4 b.ao4,au8 a.ver b.ver,if a.rel=[]\/b.rel=[] then 0 else au8 a.rel b.rel] rfl (by simp)
  (fun f hf c hc=>by
   simp only[List.mem_cons,List.not_mem_nil,or_false] at hf;rcases hf with rfl|rfl|rfl<;>exact ag9 (ei5 a) (ei5 b) c hc)
  (fun i h1 h2=>by
   match i,h1 with
   | 0,_=>exact ⟨fok109.1,fp7 a b⟩
   | 1,_=>exact ⟨fok111.1,fp8 a b ha.1 hb.1⟩
   | 2,_=>exact ⟨fok113.1,fp9 a b ha.2 hb.2⟩
   | i+3,h=>simp at h; omega)
 rw[<- hv] at hf;have ea:(IV.agg a.cs).cs.all IV.leaf=true:=rfl;have eb:(IV.agg b.cs).cs.all IV.leaf=true:=rfl;simp only[EVR.cs] at hf ⊢;simp only[ic57,go_sem];refine aa4 fok108 hf ?_;simp only[go_sem];exact ac7 _ _
def bf6 (a b:Int):Int:=IntKind.u8.wrap ((BitVec.ofInt 8 a &&& BitVec.ofInt 8 b).toNat:Int)
theorem ap8 (a b:Int):av9 .and (.int .u8 a) (.int .u8 b)=some (.int .u8 (bf6 a b)):=rfl
theorem ii1 {n:Nat}(h:n<256):IntKind.u8.wrap (n:Int)=n:=by
 simp[IntKind.wrap,IntKind.bits,IntKind.signed]; omega
theorem an4 (a b:Nat)(ha:a<256)(hb:b<256):bf6 a b=((a &&& b:Nat):Int):=by
 unfold bf6;rw[BitVec.toNat_and]
 have e:∀ n:Nat,n<256->(BitVec.ofInt 8 (n:Int)).toNat=n:=fun n hn=>by
  rw[BitVec.toNat_ofInt]; omega
 rw[e a ha,e b hb];exact ii1 (Nat.lt_of_le_of_lt Nat.and_le_left ha)
theorem and7:∀ a,a<256->((a &&& 7=0)↔a%8=0):=by decide +kernel
theorem dh8:∀ x,x<256->((x &&& 7=0)↔(x.testBit 0=false/\x.testBit 1=false/\x.testBit 2=false)):=by decide +kernel
theorem and1:∀ a,a<256->((a &&& 1=0)↔a.testBit 0=false):=by decide +kernel
theorem gm3:∀ a,a<256->((a &&& 4=0)↔a.testBit 2=false):=by decide +kernel
theorem fq1 (a b:Int):ar9 a b=-1\/ar9 a b=0\/ar9 a b=1:=by
 unfold ar9; split
 ·exact .inl rfl
 ·split
  ·exact .inr (.inl rfl)
  ·exact .inr (.inr rfl)
theorem hr6 (a b:Str):ch5 a b=-1\/ch5 a b=0\/ch5 a b=1:=by
 unfold ch5; split
 ·exact .inl rfl
 ·split
  ·exact .inr (.inl rfl)
  ·exact .inr (.inr rfl)
theorem dq9 (a b:Part):ag4 a b=-1\/ag4 a b=0\/ag4 a b=1:=by
 have h:∀ k n s:Int,(k=-1\/k=0\/k=1)->(n=-1\/n=0\/n=1)->(s=-1\/s=0\/s=1)->((if k≠0 then k else if n≠0 then n else s)=-1\/(if k≠0 then k else if n≠0 then n else s)=0\/(if k≠0 then k else if n≠0 then n else s)=1):=by
  intro k n s h1 h2 h3;rcases h1 with rfl|rfl|rfl<;>rcases h2 with rfl|rfl|rfl<;>simp<;>exact h3
 refine h (ar9 a.kind b.kind) (if a.kind=5/\b.kind=5 then ar9 a.s.length b.s.length else 0) (ch5 a.s b.s) (fq1 _ _) ?_ (hr6 _ _);split
 ·exact fq1 _ _
 ·exact .inr (.inl rfl)
theorem ez3:∀ (l m:List Part),ak6 l m=-1\/ak6 l m=0\/ak6 l m=1:=by
 intro l
 induction l with
 | nil=>intro m; exact .inr (.inl (by rw[ak6]; intros; contradiction))
 | cons a l ih=>
  intro m
  cases m with
  | nil=>exact .inr (.inl (by rw[ak6]; intros; contradiction))
  | cons b m=>
   rw[ak6];split
   ·exact dq9 a b
   ·exact ih m
theorem ei6 (a b:Str):au8 a b=-1\/au8 a b=0\/au8 a b=1:=ez3 _ _
theorem ei7 (a b:EVR):au9 a b=-1\/au9 a b=0\/au9 a b=1:=by
 unfold au9;split
 ·exact fq1 _ _
 ·split
  ·exact ei6 _ _
  ·split
   ·exact .inr (.inl rfl)
   ·exact ei6 _ _
def Dep.small (d:Dep):Prop:=0<=d.op/\d.op<256/\EVR.small d.evr
theorem aj8 (d:Dep):Bnd 0 (.agg d.cs):=.agg _ fun c hc=>by
 simp only[Dep.cs,List.mem_cons,List.not_mem_nil,or_false] at hc;rcases hc with rfl|rfl|rfl|rfl|rfl
 ·exact .str _
 ·exact .int _ _
 ·exact .int _ _
 ·exact .str _
 ·exact .str _
theorem ea5 (a b:Dep)(ha:Dep.small a)(hb:Dep.small b):PC Tryz.prog EE 187 [.agg a.cs,.agg b.cs] (.bool (meet a b)):=by
 refine af5 hE fok187 (nZ rfl) (ag9 (aj8 a) (aj8 b)) ?_;obtain ⟨a1,a2,a3⟩:=ha;obtain ⟨b1,b2,b3⟩:=hb;have hc:=be9 a.evr b.evr a3 b3;have h3:=ei7 a.evr b.evr;unfold meet;generalize au9 a.evr b.evr=n at hc h3;simp only[EVR.cs] at hc;obtain ⟨x,hx⟩:∃ x:Nat,a.op=x:=⟨a.op.toNat,by omega⟩;obtain ⟨y,hy⟩:∃ y:Nat,b.op=y:=⟨b.op.toNat,by omega⟩;have hx2:x<256:=by omega
 have hy2:y<256:=by omega
 have ex7:bf6 x 7=((x &&& 7:Nat):Int):=an4 x 7 hx2 (by omega);have ey7:bf6 y 7=((y &&& 7:Nat):Int):=an4 y 7 hy2 (by omega);rw[hx,hy,Int.toNat_natCast,Int.toNat_natCast];by_cases hx0:x%8=0
 ·have q:=(and7 x hx2).2 hx0;rw[q] at ex7;have q':bf6 x 7=0:=ex7;simp only[ic187,go_sem,Dep.cs,hx,hy,ap8,q',hx0,true_or];exact ab6 _
 ·have q:¬ (x &&& 7=0):=fun e=>hx0 ((and7 x hx2).1 e)
  have q':¬ bf6 x 7=0:=by rw[ex7]; omega
  by_cases hy0:y%8=0
  ·have r:=(and7 y hy2).2 hy0;rw[r] at ey7;have r':bf6 y 7=0:=ey7;simp only[ic187,go_sem,Dep.cs,hx,hy,ap8,q',r',hy0,or_true];exact ab6 _
  ·have r:¬ (y &&& 7=0):=fun e=>hy0 ((and7 y hy2).1 e)
   have r':¬ bf6 y 7=0:=by rw[ey7]; omega
   simp only[ic187,go_sem,Dep.cs,hx,hy,ap8,q',r',hx0,hy0,or_self];refine aa4 fok57 hc ?_;have exy:bf6 x y=((x &&& y:Nat):Int):=an4 x y hx2 hy2;have hxy:x &&& y<256:=Nat.lt_of_le_of_lt Nat.and_le_left hx2;have exy7:bf6 ((x &&& y:Nat):Int) 7=((x &&& y &&& 7:Nat):Int):=an4 _ 7 hxy (by omega);have s1:=fo8 1 (.inr (.inr rfl));have s2:=fo8 (-1) (.inl rfl);have n1:¬ ((1:Int)<0):=by decide
   have n2:¬ ((1:Int)=0):=by decide
   have n3:((-1:Int)<0):=by decide
   rw[if_neg n1,if_neg n2] at s1;rw[if_pos n3] at s2;have x1:bf6 x 1=((x &&& 1:Nat):Int):=an4 x 1 hx2 (by omega);have x4:bf6 x 4=((x &&& 4:Nat):Int):=an4 x 4 hx2 (by omega);have y1:bf6 y 1=((y &&& 1:Nat):Int):=an4 y 1 hy2 (by omega);have y4:bf6 y 4=((y &&& 4:Nat):Int):=an4 y 4 hy2 (by omega);have w1:IntKind.i64.wrap (0 - -1)=1:=by decide
   have w2:IntKind.i64.wrap (0-1)=-1:=by decide
   have bt:∀ (k i:Nat),bit (k:Int) i=k.testBit i:=fun k i=>by unfold bit; rw[Int.toNat_natCast]
   have z0:∀ k:Nat,((k:Int)=0)↔k=0:=fun k=>by omega
   rcases h3 with rfl|rfl|rfl
   ·have g1:side (- -1)=2:=by decide
    have g2:side (-1)=0:=by decide
    have m0:¬ ((-1:Int)=0):=by decide
    simp only[go_sem,m0,w1,g1,g2,bt];refine aa2 s1 ?_
    cases hb:x.testBit 2 with
    | true=>
     have e:¬ bf6 x 4=0:=by rw[x4,z0,gm3 x hx2,hb]; simp
     simp only[go_sem,ap8,e]
     exact ab6 _
    | false=>
     have e:bf6 x 4=0:=by rw[x4,z0,gm3 x hx2,hb]
     simp only[go_sem,ap8,e];refine aa2 s2 ?_
     cases hc:y.testBit 0 with
     | true=>
      have e2:¬ bf6 y 1=0:=by rw[y1,z0,and1 y hy2,hc]; simp
      simp only[go_sem,ap8,e2]
      exact ab6 _
     | false=>
      have e2:bf6 y 1=0:=by rw[y1,z0,and1 y hy2,hc]
      simp only[go_sem,ap8,e2];exact ab6 _
   ·simp only[go_sem,ap8,exy,exy7,bt]
    have e:(!decide (((x &&& y &&& 7:Nat):Int)=0))=(x.testBit 0&&y.testBit 0||x.testBit 1&&y.testBit 1||x.testBit 2&&y.testBit 2):=by
     by_cases hz:x &&& y &&& 7=0
     ·obtain ⟨t0,t1,t2⟩:=(dh8 _ hxy).1 hz;rw[Nat.testBit_and] at t0 t1 t2;rw[hz,t0,t1,t2]; rfl
     ·have hz':¬ ((x &&& y &&& 7:Nat):Int)=0:=fun h=>hz (by omega)
      have ht:¬ ((x &&& y).testBit 0=false/\(x &&& y).testBit 1=false/\(x &&& y).testBit 2=false):=fun h=>hz ((dh8 _ hxy).2 h)
      rw[Nat.testBit_and,Nat.testBit_and,Nat.testBit_and] at ht;rw[decide_eq_false hz']
      revert ht
      generalize (x.testBit 0&&y.testBit 0)=b0;generalize (x.testBit 1&&y.testBit 1)=b1;generalize (x.testBit 2&&y.testBit 2)=b2;cases b0<;>cases b1<;>cases b2<;>simp
    rw[e];exact ab6 _
   ·have g1:side (-1)=0:=by decide
    have g2:side 1=2:=by decide
    simp only[go_sem,n2,w2,g1,g2,bt];refine aa2 s2 ?_
    cases hb:x.testBit 0 with
    | true=>
     have e:¬ bf6 x 1=0:=by rw[x1,z0,and1 x hx2,hb]; simp
     simp only[go_sem,ap8,e]
     exact ab6 _
    | false=>
     have e:bf6 x 1=0:=by rw[x1,z0,and1 x hx2,hb]
     simp only[go_sem,ap8,e];refine aa2 s1 ?_
     cases hc:y.testBit 2 with
     | true=>
      have e2:¬ bf6 y 4=0:=by rw[y4,z0,gm3 y hy2,hc]; simp
      simp only[go_sem,ap8,e2]
      exact ab6 _
     | false=>
      have e2:bf6 y 4=0:=by rw[y4,z0,gm3 y hy2,hc]
      simp only[go_sem,ap8,e2];exact ab6 _
theorem ba3 (d:Dep):Bnd 0 (.ab7 d.cs):=.ab7 _ fun c hc=>by
 simp only[Dep.cs,List.mem_cons,List.not_mem_nil,or_false] at hc;rcases hc with rfl|rfl|rfl|rfl|rfl
 ·exact .str _
 ·exact .int _ _
 ·exact .int _ _
 ·exact .str _
 ·exact .str _
theorem ei8 (a d:Dep)(ha:Dep.small a)(hd:Dep.small d):PC Tryz.prog EE 147 [.agg a.cs,.agg d.cs] (.bool (meets a d)):=by
 refine af5 hE fok147 (nZ rfl) (ag9 (aj8 a) (aj8 d)) ?_;have hm:=ea5 a d ha hd;unfold meets;simp only[Dep.cs] at hm;by_cases h:a.name=d.name
 ·simp only[ic147,go_sem,Dep.cs,h] at hm ⊢;refine aa4 fok187 hm ?_;simp only[go_sem];exact ab6 _
 ·simp only[ic147,go_sem,Dep.cs,h];exact ab6 _
theorem fq2 (n:Str)(e:EVR):PC Tryz.prog EE 188 [.str n,.agg e.cs] (.agg (Dep.cs ⟨n,2,e⟩)):=by
 refine af5 hE fok188 (nZ rfl) (ag9 (.str _) (bm9 e)) ?_;simp only[ic188,go_sem,EVR.cs,Dep.cs]
 exact .keep _ (.agg _ fun c hc=>by
  simp only[List.mem_cons,List.not_mem_nil,or_false] at hc;rcases hc with rfl|rfl|rfl|rfl|rfl
  ·exact .str _
  ·exact .int _ _
  ·exact .int _ _
  ·exact .str _
  ·exact .str _)
theorem fq3 (p:aa3):PC Tryz.prog EE 148 [.agg p.cs] (.agg (own p).cs):=by
 refine af5 hE fok148 (nZ rfl) (ae6 (aj7 p)) ?_;have ho:=fq2 p.name p.evr;simp only[EVR.cs,Dep.cs] at ho;simp only[ic148,go_sem,aa3.cs,own,Dep.cs];refine aa4 fok188 ho ?_;simp only[go_sem];exact .keep _ (aj8 (own p))
def Pkg.small (p:aa3):Prop:=EVR.small p.evr/\(∀ d∈p.provides,Dep.small d)/\(∀ d∈p.aa8,Dep.small d)/\p.provides.length<2^40/\p.aa8.length<2^40/\p.files.length<2^40
theorem dr1 {p:aa3}(h:Pkg.small p):Dep.small (own p):=⟨by show (0:Int)<=2; decide,by show (2:Int)<256; decide,h.1⟩
theorem ag3 (p:aa3):p.cs.length=15:=rfl
theorem ae8 (p:aa3):p.cs.take 15=p.cs:=rfl
theorem ae4 (p:aa3):p.cs.all IV.leaf=true:=rfl
theorem dh9 (p:aa3)(d:Dep)(hp:Pkg.small p)(hd:Dep.small d):PC Tryz.prog EE 104 [.agg p.cs,.agg d.cs] (.bool (named p d)):=by
 refine af5 hE fok104 (nZ rfl) (ag9 (aj7 p) (aj8 d)) ?_;have ho:=fq3 p;have hm:=ei8 (own p) d (dr1 hp) hd;generalize hx:Dep.cs (own p)=x at ho hm;simp only[ic104,go_sem,ag3,ae8,ae4,ai9,ag5,af9];refine aa2 ho ?_;simp only[go_sem,ai9,ag5,af9];refine aa2 hm ?_;simp only[go_sem];exact ab6 _
theorem gf2 (q:aa3)(d:Dep)(hq:Pkg.small q)(hd:Dep.small d):PC Tryz.prog EE 103 ([]++[.agg d.cs]++[.ab7 q.cs]) (.bool (named q d)):=by
 refine af5 hE fok103 (nZ rfl) (ag9 (aj8 d) (.ab7 _ (ay6 q))) ?_;simp only[ic103,go_sem,ag3,ae8,ae4,ai9,ag5,af9];refine aa4 fok104 (dh9 q d hq hd) ?_;simp only[go_sem];exact ab6 _
theorem dr2 (p q:aa3)(hp:Pkg.small p)(hq:Pkg.small q):PC Tryz.prog EE 51 [.agg p.cs,.agg q.cs] (.bool (aa8 p q)):=by
 refine af5 hE fok51 (nZ rfl) (ag9 (aj7 p) (aj7 q)) ?_;have hc:=cm8 p.aa8 103 [] [.ab7 q.cs] (fun d=>named q d) (by have:=hp.2.2.2.2.1; omega) fok103.1 fun d hd=>gf2 q d hq (hp.2.2.1 d hd)
 have hf:(p.cs.drop 9).head? = some (deps p.aa8):=rfl;simp only[ic51,go_sem,ae4,hf];refine aa4 fok102 hc ?_;simp only[go_sem];exact ab6 _
theorem fq4 (a d:Dep)(ha:Dep.small a)(hd:Dep.small d):PC Tryz.prog EE 171 ([]++[.agg a.cs]++[.ab7 d.cs]) (.bool (meets a d)):=by
 refine af5 hE fok171 (nZ rfl) (ag9 (aj8 a) (ba3 d)) ?_;simp only[ic171,go_sem,ai9,ag5,af9];refine aa4 fok147 (ei8 a d ha hd) ?_;simp only[go_sem];exact ab6 _
theorem ea6 (l:List Str)(s:Str)(hl:l.length<2^40):PC Tryz.prog EE 200 [.aa5 (l.map bm3),.str s] (.int .i64 (ah8 (fun x=>decide (s=x)) l 0)):=by
 refine av4 fok200 (nZ rfl) fun σ=>?_
 simp only[ic200,go_sem];refine ab5 noT (fun i fr t=>t=σ/\fr=[(0,.aa5 (l.map bm3)),(1,.str s),(7,.int .i64 l.length),(8,.int .i64 i)]/\ah8 (fun x=>decide (s=x)) l 0=ah8 (fun x=>decide (s=x)) (l.drop i) i) l.length ⟨rfl,rfl,rfl⟩ ?_;rintro i fr t hi ⟨rfl,rfl,hf⟩;by_cases hlt:i<l.length
 ·obtain ⟨x,ha,_,hdr,hget,_⟩:=ad5 l i hlt;have c1:(i:Int)<l.length:=by omega
  have c2:(0:Int)<=i:=by omega
  have w1:=ad9 (i:=i) (by omega);rw[hdr,ah8] at hf;by_cases e:s=x
  ·rw[if_pos (by simpa using e)] at hf;subst e;simp only[go_sem,c1,c2,hget,dg9,bm3,hf,and_self]
  ·rw[if_neg (by simpa using e)] at hf;simp only[go_sem,c1,c2,hget,dg9,bm3,e,w1];exact ⟨hlt,by rw[hf]; simp only[Int.natCast_add,Int.natCast_one]⟩
 ·have hi':i=l.length:=by omega
  subst hi';have c1:¬ (l.length:Int)<l.length:=by omega
  rw[List.drop_length] at hf;simp only[go_sem,c1,hf,ah8,and_self]
theorem fq5 (l:List Str)(s:Str)(hl:l.length<2^40):PC Tryz.prog EE 172 [.aa5 (l.map bm3),.str s] (.bool (l.contains s)):=by
 refine av4 fok172 (nZ rfl) fun σ=>?_
 simp only[ic172,go_sem];refine aa4 fok200 (ea6 l s hl) ?_
 have e:l.any (fun x=>decide (s=x))=l.contains s:=by
  induction l with
  | nil=>rfl
  | cons a l ih=>rw[List.any_cons,List.contains_cons,ih (by simp at hl; omega)]; congr 1; by_cases h:s=a<;>simp[h]
 simp only[go_sem,ar2,e,and_self]
theorem ea7 (p:aa3)(d:Dep)(hp:Pkg.small p)(hd:Dep.small d):PC Tryz.prog EE 121 [.agg p.cs,.agg d.cs] (.bool (provides p d)):=by
 refine af5 hE fok121 (nZ rfl) (ag9 (aj7 p) (aj8 d)) ?_;have hn:=dh9 p d hp hd;have hc:=cm8 p.provides 171 [] [.ab7 d.cs] (fun a=>meets a d) (by have:=hp.2.2.2.1; omega) fok171.1 fun a ha=>fq4 a d (hp.2.1 a ha) hd
 have hs:=fq5 p.files d.name hp.2.2.2.2.2;have hf:(p.cs.drop 6).head? = some (deps p.provides):=rfl;have hg:(p.cs.drop 14).head? = some (strs p.files):=rfl;have d0:d.cs.head? = some (.str d.name):=rfl;have d1:(d.cs.drop 1).head? = some (.int .u8 d.op):=rfl;unfold provides
 cases hb:named p d with
 | true=>
  rw[hb] at hn;simp only[ic121,go_sem,ag3,ae8,ae4,ai9,ag5,af9];refine aa4 fok104 hn ?_;simp only[go_sem]
  exact ab6 _
 | false=>
  rw[hb] at hn;simp only[ic121,go_sem,ag3,ae8,ae4,ai9,ag5,af9];refine aa4 fok104 hn ?_;simp only[go_sem,hf];refine aa4 fok102 hc ?_
  cases ha:p.provides.any (fun a=>meets a d) with
  | true=>
   simp only[go_sem]
   exact ab6 _
  | false=>
   by_cases h0:d.op=0
   ·simp only[go_sem,d0,d1,h0,hg];refine aa4 fok172 hs ?_;simp only[go_sem];exact ab6 _
   ·simp only[go_sem,d0,d1,h0];exact ab6 _
end Go.Id.Tryz
set_option linter.all false
namespace Go.Id.Tryz
open Go Go.Id Go.Proofs Go.Id.Md
set_option maxRecDepth 100000
theorem ez7 (p:aa3)(n:Int)(d:Dep)(hp:Pkg.small p)(hd:Dep.small d):PC Tryz.prog EE 120 [.agg p.cs,.int .i64 n,.ab7 d.cs] (.bool (provides p d)):=by
 refine af5 hE fok120 (nZ rfl) (fun a ha=>by
  simp only[List.mem_cons,List.not_mem_nil,or_false] at ha;rcases ha with rfl|rfl|rfl
  ·exact aj7 p
  ·exact .int _ _
  ·exact ba3 d) ?_
 simp only[ic120,go_sem,ag3,ae8,ae4,ai9,ag5,af9];refine aa4 fok121 (ea7 p d hp hd) ?_;simp only[go_sem];exact ab6 _
theorem cn5 (p:aa3)(n:Int)(d:Dep)(hp:Pkg.small p)(hd:Dep.small d):PC Tryz.prog EE 122 [.agg p.cs,.int .i64 n,.ab7 d.cs] (.bool (named p d)):=by
 refine af5 hE fok122 (nZ rfl) (fun a ha=>by
  simp only[List.mem_cons,List.not_mem_nil,or_false] at ha;rcases ha with rfl|rfl|rfl
  ·exact aj7 p
  ·exact .int _ _
  ·exact ba3 d) ?_
 simp only[ic122,go_sem,ag3,ae8,ae4,ai9,ag5,af9];refine aa4 fok104 (dh9 p d hp hd) ?_;simp only[go_sem];exact ab6 _
theorem dr5 (nm:Nms)(σ:Store)(k:Str):∃ v,co8 σ 2 .aa1 false (.ak1 (nmV nm)) (.str k)=some v/\(v=.aa5 ((ac6 nm k).map Md.af2)\/v=.aa1/\ac6 nm k=[]):=by
 have h:∀ nm:Nms,∃ r,aw2 2 (.str k) (nmV nm)=some r/\((∃ v,r=some v/\v=.aa5 ((ac6 nm k).map Md.af2))\/r=none/\ac6 nm k=[]):=by
  intro nm
  induction nm with
  | nil=>exact ⟨none,rfl,.inr ⟨rfl,rfl⟩⟩
  | cons t ts ih=>
   obtain ⟨r,h1,h2⟩:=ih;simp only[nmV,List.map_cons,aw2,ee1,ac6] at h1 ⊢;by_cases e:k=t.1
   ·simp only[e,decide_true,if_true];exact ⟨_,rfl,.inl ⟨_,rfl,rfl⟩⟩
   ·simp only[e,decide_false,if_false];exact ⟨r,h1,h2⟩
 obtain ⟨r,h1,h2⟩:=h nm;rcases h2 with ⟨v,rfl,rfl⟩|⟨rfl,h3⟩
 ·refine ⟨.aa5 ((ac6 nm k).map Md.af2),?_,.inl rfl⟩;simp only[co8,cf8,h1];rfl
 ·refine ⟨.aa1,?_,.inr ⟨rfl,h3⟩⟩;simp only[co8,cf8,h1];rfl
theorem numsOf_at {q:aa3->Bool}{l:List aa3}{n:Int}(h:n∈numsOf q l):∃ m:Nat,n=m/\m<l.length:=by
 obtain ⟨m,h1,h2,_⟩:=ar1.1 h;exact ⟨m,h1,h2⟩
theorem getD_at (l:List aa3)(m:Nat)(h:m<l.length):l.getD m default=l[m]:=by simp[List.getD_eq_getElem?_getD,h]
theorem cn6 (l:List aa3)(d:Dep)(hl:l.length<2^20)(hs:∀ p∈l,Pkg.small p)(hd:Dep.small d):PC Tryz.prog EE 73 [(ae2 l).v,.agg d.cs] (.aa5 ((al7 l d).map Md.af2)):=by
 have hi:=av5 l;have hb:=av7 (ae2 l);refine af5 hE fok73 (nZ rfl) (ag9 hb (aj8 d)) ?_;have hlook:=hi.as2 d.name
 have hsift:∀ v,(v=.aa5 ((ac6 (ae2 l).as2 d.name).map Md.af2)\/v=.aa1/\ac6 (ae2 l).as2 d.name=[])->PC Tryz.prog EE 49 [(ae2 l).v,v,.func (.func 120) [] [.ab7 d.cs]] (.aa5 ((al7 l d).map Md.af2)):=by
  intro v hv
  have h:=ea3 (ae2 l) (ac6 (ae2 l).as2 d.name) (by rw[hlook]; have:=ag7 (fun p=>decide (d.name∈cl8 p)) l; omega) 120 [.ab7 d.cs] (fun n=>provides (l.getD n.toNat default) d) (ae6 (ba3 d)) fok120.1 (fun n hn=>by
   rw[hlook] at hn;obtain ⟨m,rfl,hm⟩:=numsOf_at hn;refine ⟨m,rfl,by rw[hi.all]; exact hm,?_⟩;have e:(ae2 l).all[m]'(by rw[hi.all]; exact hm)=l[m]:=by simp only[hi.all]
   rw[e,Int.toNat_natCast,getD_at l m hm];exact ez7 l[m] m d (hs _ (List.getElem_mem hm)) hd)
  rw[do9] at h;rcases hv with rfl|⟨rfl,h0⟩
  ·exact h
  ·rw[h0] at h;have hw:∀ {v:IV} {σ:Store},Bnd 0 v->Frz σ (fun _=>true=true) v v:=fun h=>.keep _ (h.weak fun _ _=>rfl)
   refine de7 (args':=[(ae2 l).v,.aa5 [],.func (.func 120) [] [.ab7 d.cs]]) rfl (fun σ i hi=>?_) h
   match i,hi with
   | 0,_=>exact hw hb
   | 1,_=>exact .dd3
   | 2,_=>exact hw (.func _ _ _ (fun c hc=>by cases hc) (ae6 (ba3 d)))
 have hx:(ae2 l).v=.ab7 [.aa5 ((ae2 l).all.map aa3.cs),.ak1 (nmV (ae2 l).as2),.ak1 (nmV (ae2 l).names),.ak1 (nmV (ae2 l).over)]:=rfl;have d0:d.cs.head? = some (.str d.name):=rfl;have hres:=ag1 (al7 l d)
 have hk0:∀ σ:Store,∃ v,co8 σ 2 .aa1 false (.ak1 (nmV (ae2 l).as2)) (.str d.name)=some v/\PC Tryz.prog EE 49 [(ae2 l).v,v,.func (.func 120) [] [.ab7 d.cs]] (.aa5 ((al7 l d).map Md.af2)):=fun σ=>
  let ⟨v,h1,h2⟩:=dr5 (ae2 l).as2 σ d.name
  ⟨v,h1,hsift v h2⟩
 clear hsift hlook;rw[hx] at hk0 ⊢;generalize (ae2 l).all.map aa3.cs=a0 at *;simp only[ic73,go_sem,ai9,ag5,af9,d0];obtain ⟨v,hk,hsv⟩:=hk0 ⟨11,emp.obj⟩;simp only[go_sem,hk];refine aa4 fok49 hsv ?_;simp only[go_sem];exact .keep _ hres
theorem cn7 (l:List aa3)(d:Dep)(hl:l.length<2^20)(hs:∀ p∈l,Pkg.small p)(hd:Dep.small d):PC Tryz.prog EE 74 [(ae2 l).v,.agg d.cs] (.aa5 ((al8 l d).map Md.af2)):=by
 have hi:=av5 l;have hb:=av7 (ae2 l);refine af5 hE fok74 (nZ rfl) (ag9 hb (aj8 d)) ?_;have hlook:=hi.names d.name
 have hsift:∀ v,(v=.aa5 ((ac6 (ae2 l).names d.name).map Md.af2)\/v=.aa1/\ac6 (ae2 l).names d.name=[])->PC Tryz.prog EE 49 [(ae2 l).v,v,.func (.func 122) [] [.ab7 d.cs]] (.aa5 ((al8 l d).map Md.af2)):=by
  intro v hv
  have h:=ea3 (ae2 l) (ac6 (ae2 l).names d.name) (by rw[hlook]; have:=ag7 (fun p=>decide (p.name=d.name)) l; omega) 122 [.ab7 d.cs] (fun n=>named (l.getD n.toNat default) d) (ae6 (ba3 d)) fok122.1 (fun n hn=>by
   rw[hlook] at hn;obtain ⟨m,rfl,hm⟩:=numsOf_at hn;refine ⟨m,rfl,by rw[hi.all]; exact hm,?_⟩;have e:(ae2 l).all[m]'(by rw[hi.all]; exact hm)=l[m]:=by simp only[hi.all]
   rw[e,Int.toNat_natCast,getD_at l m hm];exact cn5 l[m] m d (hs _ (List.getElem_mem hm)) hd)
  rw[ef2] at h;rcases hv with rfl|⟨rfl,h0⟩
  ·exact h
  ·rw[h0] at h;have hw:∀ {v:IV} {σ:Store},Bnd 0 v->Frz σ (fun _=>true=true) v v:=fun h=>.keep _ (h.weak fun _ _=>rfl)
   refine de7 (args':=[(ae2 l).v,.aa5 [],.func (.func 122) [] [.ab7 d.cs]]) rfl (fun σ i hi=>?_) h
   match i,hi with
   | 0,_=>exact hw hb
   | 1,_=>exact .dd3
   | 2,_=>exact hw (.func _ _ _ (fun c hc=>by cases hc) (ae6 (ba3 d)))
 have hx:(ae2 l).v=.ab7 [.aa5 ((ae2 l).all.map aa3.cs),.ak1 (nmV (ae2 l).as2),.ak1 (nmV (ae2 l).names),.ak1 (nmV (ae2 l).over)]:=rfl;have d0:d.cs.head? = some (.str d.name):=rfl;have hres:=ag1 (al8 l d)
 have hk0:∀ σ:Store,∃ v,co8 σ 2 .aa1 false (.ak1 (nmV (ae2 l).names)) (.str d.name)=some v/\PC Tryz.prog EE 49 [(ae2 l).v,v,.func (.func 122) [] [.ab7 d.cs]] (.aa5 ((al8 l d).map Md.af2)):=fun σ=>
  let ⟨v,h1,h2⟩:=dr5 (ae2 l).names σ d.name
  ⟨v,h1,hsift v h2⟩
 clear hsift hlook;rw[hx] at hk0 ⊢;generalize (ae2 l).all.map aa3.cs=a0 at *;simp only[ic74,go_sem,ai9,ag5,af9,d0];obtain ⟨v,hk,hsv⟩:=hk0 ⟨11,emp.obj⟩;simp only[go_sem,hk];refine aa4 fok49 hsv ?_;simp only[go_sem];exact .keep _ hres
abbrev wr (n:Int):Int:=IntKind.i64.wrap n
mutual
def ptR:ab1->Int->Int
 | .mk _ _ xs,n=>ptL xs n 0
def ptL:List ab1->Int->Int->Int
 | [],_,w=>w
 | r::rs,n,w=>if w<n then ptL rs n (wr (wr (w+1)+ptR r (wr (n-w)))) else w
end
theorem hr9 (r:ab1)(n:Int):ptR r n=ptL r.args n 0:=by cases r with|mk k d xs=>simp only[ptR,ab1.args]
theorem gf8 (r:ab1):(r.cs.drop 6).head? = some (af8 r.args):=by rw[ab1.bb1]; rfl
def lR (l:List ab1):List IV:=[af8 l]
def gw1:List (List ab1)->Int->Int->Int
 | [],_,w=>w
 | l::ls,n,w=>gw1 ls n (wr (w+ptL l n 0))
def szP (p:aa3)(n w:Int):Int:=gw1 (ax7 p) n (wr (wr (wr (wr (w+1)+p.provides.length)+p.aa8.length)+p.files.length))
def szL:List aa3->Int->Int->Int
 | [],_,w=>w
 | p::ps,n,w=>if w<n then szL ps n (szP p n w) else w
theorem fr3 {p:aa3}(h:p.Ok):∀ l∈ax7 p,l.length<2^62/\∀ r∈l,r.ok:=by
 intro l hl;simp only[ax7,List.mem_cons,List.not_mem_nil,or_false] at hl;have:=h.dx5;simp only[aa3.rows,List.mem_cons,List.not_mem_nil,or_false,forall_eq_or_imp,forall_eq] at this;obtain ⟨a1,a2,a3,a4,a5,a6⟩:=this;rcases hl with rfl|rfl|rfl|rfl|rfl|rfl
 ·exact a1
 ·exact a2
 ·exact a3
 ·exact a4
 ·exact a5
 ·exact a6
structure hz6 (repos:List ao8) (inst:List aa3):Prop where
 r1:repos.length<2^20
 i1:inst.length<2^20
 s1:ao1 repos<2^40
 rf:∀ r∈repos,ao8.Fit r
 pf:∀ p∈inst,p.Fit
 ro:∀ r∈repos,ao8.Ok r
 po:∀ p∈inst,p.Ok
theorem ez8 {p:aa3}(h:p.Tiny):Pkg.small p:=by
 have e:∀ v:EVR,v.tiny->EVR.small v:=fun v hv=>⟨by have:=hv.1; omega,by have:=hv.2; omega⟩
 refine ⟨e _ h.evr,fun d hd=>?_,fun d hd=>?_,?_,?_,?_⟩
 ·obtain ⟨a,b,c,_⟩:=h.as2.2 d hd; exact ⟨a,b,e _ c⟩
 ·obtain ⟨a,b,c,_⟩:=h.obs.2 d hd; exact ⟨a,b,e _ c⟩
 ·have:=h.as2.1; omega
 ·have:=h.obs.1; omega
 ·have:=h.files; omega
theorem gm4 {repos:List ao8}{inst:List aa3}{p:Pool}(hI:hz6 repos inst)(h:cq1 repos inst=.inl p):∀ x∈ae5 p,x.Fit/\Pkg.small x/\x.Tiny:=by
 intro x hx;obtain ⟨h1,h2⟩:=gb3 h x hx;refine ⟨?_,ez8 (ef8 h1),ef8 h1⟩;rcases h2 with h2|⟨r,hr,h2⟩
 ·exact hI.pf x h2
 ·exact (hI.rf r hr).2 x h2
theorem eb2 (x:Index)(n:Int):PC Tryz.prog EE 48 [x.v,.int .i64 n] (.bool (decide (0<=n)&&decide (n<x.all.length))):=by
 refine af5 hE fok48 (nZ rfl) (ag9 (av7 x) (.int _ _)) ?_;have hx:x.v=.ab7 [.aa5 (x.all.map aa3.cs),.ak1 (nmV x.as2),.ak1 (nmV x.names),.ak1 (nmV x.over)]:=rfl;have hnil:∀ (d:TypeId) (cs:List IV) (c:IV),co9 (.pointer d) (.ab7 (c::cs))=some false:=fun _ _ _=>rfl
 rw[hx];have hlen:(x.all.map aa3.cs).length=x.all.length:=List.length_map ..;generalize x.all.map aa3.cs=es at *;generalize x.all.length=k at *;by_cases h1:0<=n
 ·by_cases h2:n<(k:Nat)
  ·have h2':n<(es.length:Nat):=by omega
   simp only[ic48,go_sem,hnil,h1,h2,h2',hlen,Bool.and_self];exact ab6 _
  ·have h2':¬ n<(es.length:Nat):=by omega
   simp only[ic48,go_sem,hnil,h1,h2,h2',hlen,Bool.and_false];exact ab6 _
 ·simp only[ic48,go_sem,hnil,h1,Bool.false_and];exact ab6 _
theorem dr6 (l:List aa3)(m n:Nat)(hm:m<l.length)(hn:n<l.length)(hs:∀ p∈l,Pkg.small p) :
  PC Tryz.prog EE 50 [.agg l[m].cs,.int .i64 m,.ab7 [.int .i64 n],.ab7 [(ae2 l).v]] (.bool (decide (m≠n)&&aa8 l[m] l[n])):=by
 refine af5 hE fok50 (nZ rfl) (fun a ha=>by
  simp only[List.mem_cons,List.not_mem_nil,or_false] at ha;rcases ha with rfl|rfl|rfl|rfl
  ·exact aj7 _
  ·exact .int _ _
  ·exact .ab7 _ (ae6 (.int _ _))
  ·exact .ab7 _ (ae6 (av7 _))) ?_
 have hx:(ae2 l).v=.ab7 [.aa5 (l.map aa3.cs),.ak1 (nmV (ae2 l).as2),.ak1 (nmV (ae2 l).names),.ak1 (nmV (ae2 l).over)]:=by
  show IV.ab7 [.aa5 ((ae2 l).all.map aa3.cs),_,_,_]=_;rw[(av5 l).all]
 have ho:=dr2 l[m] l[n] (hs _ (List.getElem_mem hm)) (hs _ (List.getElem_mem hn));have hg:(l.map aa3.cs).getD n []=l[n].cs:=by simp[List.getD_eq_getElem?_getD,hn]
 have hl:(l.map aa3.cs).length=l.length:=List.length_map ..;rw[hx];generalize l.map aa3.cs=es at *;by_cases e:m=n
 ·have e':(m:Int)=n:=by omega
  simp only[ic50,go_sem,ag3,ae8,ae4,e',e,ne_eq,not_true_eq_false,decide_false,Bool.false_and];exact ab6 _
 ·have e':¬ (m:Int)=n:=by omega
  have c1:(0:Int)<=n:=by omega
  have c2:(n:Int)<es.length:=by omega
  simp only[ic50,go_sem,ag3,ae8,ae4,e',e,c1,c2,hg,ne_eq,not_false_eq_true,decide_true,Bool.true_and];refine aa4 fok51 ho ?_;simp only[go_sem];exact ab6 _
def ad2 (l:List aa3)(n:Nat):List Int:=(ac6 (ae2 l).over (l.getD n default).name).filter fun k=>decide (k.toNat≠n)&&aa8 (l.getD k.toNat default) (l.getD n default)
theorem bh9 {l:List aa3}{n:Nat}{k:Int}:k∈ad2 l n↔∃ m:Nat,k=m/\m<l.length/\m≠n/\aa8 (l.getD m default) (l.getD n default)=true:=by
 unfold ad2;rw[(av5 l).over,List.mem_filter];constructor
 ·rintro ⟨h1,h2⟩;obtain ⟨m,rfl,h3,_⟩:=ar1.1 h1;simp only[Int.toNat_natCast,Bool.and_eq_true,decide_eq_true_eq] at h2;exact ⟨m,rfl,h3,h2.1,h2.2⟩
 ·rintro ⟨m,rfl,h1,h2,h3⟩;refine ⟨ar1.2 ⟨m,rfl,h1,?_⟩,?_⟩
  ·obtain ⟨d,h4,h5⟩:=List.any_eq_true.1 h3;refine decide_eq_true ⟨d,h4,?_⟩;simp only[named,meets,Bool.and_eq_true,decide_eq_true_eq] at h5;exact h5.1.symm
  ·simp only[Int.toNat_natCast,Bool.and_eq_true,decide_eq_true_eq];exact ⟨h2,h3⟩
theorem cr1 (l:List aa3)(n:Nat):(ad2 l n).Pairwise (· < ·):=by
 unfold ad2;rw[(av5 l).over];exact List.Pairwise.filter _ (fk8 _ _)
theorem cn8 (l:List aa3)(n:Nat):(ad2 l n).length<=l.length:=by
 unfold ad2;rw[(av5 l).over];exact Nat.le_trans (List.length_filter_le _ _) (ag7 _ _)
theorem cg9 (l:List aa3)(n:Nat)(hl:l.length<2^20)(hn:n<l.length)(hs:∀ p∈l,Pkg.small p):PC Tryz.prog EE 15 [(ae2 l).v,.int .i64 n] (.aa5 ((ad2 l n).map Md.af2)):=by
 have hi:=av5 l;have hb:=av7 (ae2 l);refine af5 hE fok15 (nZ rfl) (ag9 hb (.int _ _)) ?_;have hbc:∀ c∈[IV.ab7 [.int .i64 n],.ab7 [(ae2 l).v]],Bnd 0 c:=ag9 (.ab7 _ (ae6 (.int _ _))) (.ab7 _ (ae6 hb));have hlook:=hi.over (l.getD n default).name
 have hsift:∀ v,(v=.aa5 ((ac6 (ae2 l).over (l.getD n default).name).map Md.af2)\/v=.aa1/\ac6 (ae2 l).over (l.getD n default).name=[])->PC Tryz.prog EE 49 [(ae2 l).v,v,.func (.func 50) [] [.ab7 [.int .i64 n],.ab7 [(ae2 l).v]]] (.aa5 ((ad2 l n).map Md.af2)):=by
  intro v hv
  have h:=ea3 (ae2 l) (ac6 (ae2 l).over (l.getD n default).name) (by rw[hlook]; have:=ag7 (fun p=>decide (∃ d∈p.aa8,d.name=(l.getD n default).name)) l; omega) 50 [.ab7 [.int .i64 n],.ab7 [(ae2 l).v]] (fun k=>decide (k.toNat≠n)&&aa8 (l.getD k.toNat default) (l.getD n default)) hbc fok50.1 (fun k hk=>by
   rw[hlook] at hk;obtain ⟨m,rfl,hm⟩:=numsOf_at hk;refine ⟨m,rfl,by rw[hi.all]; exact hm,?_⟩;have e:(ae2 l).all[m]'(by rw[hi.all]; exact hm)=l[m]:=by simp only[hi.all]
   rw[e,Int.toNat_natCast,getD_at l m hm,getD_at l n hn];exact dr6 l m n hm hn hs)
  rcases hv with rfl|⟨rfl,h0⟩
  ·exact h
  ·rw[h0] at h;have hw:∀ {v:IV} {σ:Store},Bnd 0 v->Frz σ (fun _=>true=true) v v:=fun h=>.keep _ (h.weak fun _ _=>rfl)
   have h2:PC Tryz.prog EE 49 [(ae2 l).v,.aa1,.func (.func 50) [] [.ab7 [.int .i64 n],.ab7 [(ae2 l).v]]] (.aa5 ((([]:List Int).filter fun k=>decide (k.toNat≠n)&&aa8 (l.getD k.toNat default) (l.getD n default)).map Md.af2)):=by
    refine de7 (args':=[(ae2 l).v,.aa5 [],.func (.func 50) [] [.ab7 [.int .i64 n],.ab7 [(ae2 l).v]]]) rfl (fun σ i hi=>?_) h
    match i,hi with
    | 0,_=>exact hw hb
    | 1,_=>exact .dd3
    | 2,_=>exact hw (.func _ _ _ (fun c hc=>by cases hc) hbc)
   have e:ad2 l n=([]:List Int).filter fun k=>decide (k.toNat≠n)&&aa8 (l.getD k.toNat default) (l.getD n default):=by
    unfold ad2; rw[h0]
   rw[e]; exact h2
 have hx:(ae2 l).v=.ab7 [.aa5 (l.map aa3.cs),.ak1 (nmV (ae2 l).as2),.ak1 (nmV (ae2 l).names),.ak1 (nmV (ae2 l).over)]:=by
  show IV.ab7 [.aa5 ((ae2 l).all.map aa3.cs),_,_,_]=_;rw[hi.all]
 have his:=eb2 (ae2 l) n
 have i1:(decide ((0:Int)<=(n:Int))&&decide ((n:Int)<(ae2 l).all.length))=true:=by
  rw[hi.all]; simp only[Bool.and_eq_true,decide_eq_true_eq]; omega
 rw[i1] at his;have hres:=ag1 (ad2 l n)
 have hk0:∀ σ:Store,∃ v,co8 σ 2 .aa1 false (.ak1 (nmV (ae2 l).over)) (.str (l.getD n default).name)=some v/\PC Tryz.prog EE 49 [(ae2 l).v,v,.func (.func 50) [] [.ab7 [.int .i64 n],.ab7 [(ae2 l).v]]] (.aa5 ((ad2 l n).map Md.af2)):=fun σ=>
  let ⟨v,h1,h2⟩:=dr5 (ae2 l).over σ (l.getD n default).name
  ⟨v,h1,hsift v h2⟩
 have hg:(l.map aa3.cs).getD n []=l[n].cs:=by simp[List.getD_eq_getElem?_getD,hn]
 have hle:(l.map aa3.cs).length=l.length:=List.length_map ..;have hnm:(l.getD n default).name=l[n].name:=by rw[getD_at l n hn]
 have p0:l[n].cs.head? = some (.str l[n].name):=rfl;clear hsift hlook i1;rw[hnm] at hk0;rw[hx] at hk0 his ⊢;generalize ad2 l n=res at *;generalize l.map aa3.cs=a0 at *;generalize l[n]=q at *;have c1:(0:Int)<=n:=by omega
 have c2:(n:Int)<a0.length:=by omega
 simp only[ic15,go_sem];refine aa4 fok48 his ?_;obtain ⟨v,hk,hsv⟩:=hk0 ⟨17,emp.obj⟩;simp only[go_sem,c1,c2,hg,p0,ag3,ae8,ae4,hk];refine aa4 fok49 hsv ?_;simp only[go_sem];exact .keep _ hres
abbrev iv (n:Int):IV:=.int .i64 n
theorem fr4 {id n k:Nat}(h:k<=n):cr5 1 (some (.int .i64 (k:Int))) none (.slice id 0 n 1)=some (.slice id k (n-k) 1):=by
 have e:(0:Int)<=k:=by omega
 simp[cr5,ch1,ec5,e,h]
theorem gm5 {id n k:Nat}(h:k<=n):cr5 1 none (some (.int .i64 (k:Int))) (.slice id 0 n 1)=some (.slice id 0 k 1):=by
 have e:(0:Int)<=k:=by omega
 simp[cr5,ch1,ec5,e,h]
theorem cf3 {zs:List Int}{p:Nat}(h:p+1<zs.length)(x:Int):x∈zs.take (p+1+1)↔x∈zs.take (p+1)\/x=zs[p+1]:=by
 rw[List.take_add_one (i:=p+1),List.getElem?_eq_getElem h,List.mem_append];simp[Option.toList]
theorem cf4 {zs:List Int}{p:Nat}(h:p+1<zs.length)(e:zs[p+1]=zs[p])(x:Int):x∈zs.take (p+1)↔x∈zs.take (p+1+1):=by
 rw[cf3 h];refine ⟨.inl,fun q=>q.elim (fun q=>q) fun q=>?_⟩;rw[q,e];exact List.mem_iff_getElem.2 ⟨p,by rw[List.length_take]; omega,by rw[List.getElem_take]⟩
theorem dr7 {cs vs:List IV}{k:Nat}(h:k<=cs.length):(az3 cs k vs).take k=cs.take k:=by
 unfold az3;rw[List.append_assoc,List.take_append_of_le_length (by rw[List.length_take]; omega),List.take_take,Nat.min_self]
theorem db2 {cs:List IV}{v:IV}{k:Nat}(h:k<=cs.length):(az3 cs k [v]).take (k+1)=cs.take k++[v]:=by
 unfold az3;have e:(cs.take k++[v]).length=k+1:=by rw[List.length_append,List.length_take,List.length_singleton]; omega
 rw[List.take_append_of_le_length (by omega),List.take_of_length_le (by omega)]
theorem db3 {cs:List IV}{v:IV}{k q:Nat}(h:k<q)(hk:k<=cs.length):(az3 cs k [v]).drop q=cs.drop q:=by
 unfold az3;have e:(cs.take k++[v]).length=k+1:=by rw[List.length_append,List.length_take,List.length_singleton]; omega
 rw[List.drop_append,e,List.drop_of_length_le (by omega),List.nil_append,List.drop_drop,List.length_singleton];congr 1; omega
theorem hs8 {pt:PT}{ct:CT}{P:Program}{E:Nat->IV}{e id:Nat}{z:List IV}{x:IX}{fr:Frm}{σ:Store}{K:IV->Store->Prop}:opT pt ct P E (.clr e z x) id fr σ K=bv5 (fg3 σ e z (x.ev E fr)) fun σ'=>σ'.next=σ.next/\K .undef σ':=rfl
theorem fr5 {σ:Store}{id k n:Nat}{cs:List IV}(ho:σ.obj id=some (.row cs))(h1:k<n)(h2:n<=cs.length):fg3 σ 1 [.int .i64 0] (.slice id k (n-k) 1)=some (σ.put id (.row (az3 cs k (rep [.int .i64 0] (n-k))))):=by
 have e1:¬ n-k=0:=by omega
 have e2:k+(n-k)*1<=cs.length:=by omega
 unfold fg3;simp only[e1,if_false,ho,e2,true_and];rfl
structure ik1 (R:Int->Int->Prop) (σ:Store) (id:Nat) (zs:List Int) (v:IV) (s:Store):Prop where
 out:∃ (D:List Int) (cs:List IV),D.Pairwise R/\(∀ x,x∈D↔x∈zs)/\v=.slice id 0 D.length 1/\s.obj id=some (.row cs)/\cs.take D.length=D.map iv/\D.length<=cs.length
 next:σ.next<=s.next
 other:∀ i,i≠id->s.obj i=σ.obj i
theorem ez9 {R:Int->Int->Prop}{σ:Store}{id:Nat}{zs:List Int}{tl:List IV}(hT:∀ a∈zs,∀ b∈zs,∀ c∈zs,R a b->R b c->R a c)(hz:zs.length<2^40)(ho:σ.obj id=some (.row (zs.map iv++tl)))(hs:zs.Pairwise fun a b=>a=b\/R a b) :
  C Tryz.prog EE 69 [.slice id 0 zs.length 1] σ (ik1 R σ id zs):=by
 refine C_f fok69 (nZ rfl) ?_;by_cases h2:(zs.length:Int)<2
 ·simp only[ic69,go_sem,h2];refine ⟨⟨zs,zs.map iv++tl,?_,fun _=>Iff.rfl,rfl,ho,by rw[List.take_append_of_le_length (by simp),List.take_of_length_le (by simp)],by simp⟩,Nat.le_refl _,fun _ _=>rfl⟩
  match zs,h2 with
  | [],_=>exact .nil
  | [a],_=>simp
  | a::b::l,h2=>simp only[List.length_cons] at h2; omega
 simp only[ic69,go_sem,h2];refine ab5 noT (fun i fr t=>(t.obj=σ.obj/\σ.next<=t.next)/\fr=[(0,.slice id 0 zs.length 1),(3,.int .i64 ((i+1:Nat):Int))]/\i+1<=zs.length/\(zs.take (i+1)).Pairwise R) zs.length ⟨⟨rfl,Nat.le_refl _⟩,rfl,by omega,?_⟩ ?_
 ·cases zs with
  | nil=>exact .nil
  | cons a l=>simp
 rintro i fr t hi ⟨⟨hob,hnx⟩,rfl,hle,hpw⟩;have hot:t.obj id=some (.row (zs.map iv++tl)):=by rw[hob]; exact ho
 have hh:∀ (j:Nat) (h:j<zs.length),((zs.map iv++tl).drop j).head? = some (.int .i64 zs[j]):=fun j h=>by simp[List.head?_drop,List.getElem?_append_left,h]
 have hml:zs.length<=(zs.map iv++tl).length:=by rw[List.length_append,List.length_map]; omega
 by_cases hlt:i+1<zs.length
 ·have c1:((i+1:Nat):Int)<zs.length:=by omega
  have c2:(0:Int)<=((i+1:Nat):Int):=by omega
  have c3:IntKind.i64.wrap (((i+1:Nat):Int)-1)=(i:Int):=by rw[wrap64 (by omega) (by omega)]; omega
  have c4:(0:Int)<=(i:Int):=by omega
  have c5:(i:Int)<zs.length:=by omega
  have w1:=ad9 (i:=i+1) (by omega);have g1:=hh (i+1) hlt;have g2:=hh i (by omega);have hle2:zs[i]=zs[i+1]\/R zs[i] zs[i+1]:=List.pairwise_iff_getElem.1 hs i (i+1) (by omega) hlt (by omega);by_cases e:zs[i+1]=zs[i]'(by omega)
  ·simp only[go_sem,c1,c2,c3,c4,c5,hot,g1,g2,e,Int.toNat_natCast,Nat.zero_add,Nat.mul_one,w1,fr4 (show i+1<=zs.length by omega)]
   refine ab5 noT (fun j fr t=>∃ (k:Nat) (cs:List IV) (D:List Int),fr=[(0,.slice id 0 zs.length 1),(3,.int .i64 (k:Int)),(4,.slice id (i+1) (zs.length-(i+1)) 1),(5,.int .i64 ((j+1:Nat):Int))] /\
    (σ.next<=t.next/\∀ q,q≠id->t.obj q=σ.obj q)/\t.obj id=some (.row cs)/\zs.length<=cs.length/\k<=i+1+j/\i+1+j<zs.length/\D.length=k/\cs.take k=D.map iv/\D.Pairwise R/\(∀ x,x∈D↔x∈zs.take (i+1+j+1)) /\
    ∀ (q:Nat) (h:q<zs.length),k<=q->(cs.drop q).head? = some (.int .i64 zs[q])) (zs.length-(i+1)) ?_ ?_
   ·refine ⟨i+1,zs.map iv++tl,zs.take (i+1),rfl,⟨by show σ.next<=t.next+10; omega,fun q _=>by rw[hob]⟩,hot,hml,by omega,by omega,by rw[List.length_take]; omega,by rw[List.take_append_of_le_length (by rw[List.length_map]; omega),List.map_take],hpw,fun x=>?_,fun q h _=>hh q h⟩;exact cf4 (p:=i) hlt e x
   rintro j fr u hj ⟨k,cs,D,rfl,⟨un,uo⟩,hoc,hcl,hk1,hk2,hDl,hDt,hDp,hDm,hcs⟩;by_cases hl2:j+1<zs.length-(i+1)
   ·have d1:((j+1:Nat):Int)<(zs.length-(i+1):Nat):=by omega
    have d2:(0:Int)<=((j+1:Nat):Int):=by omega
    have d3:IntKind.i64.wrap (((j+1:Nat):Int)-1)=(j:Int):=by rw[wrap64 (by omega) (by omega)]; omega
    have d4:(0:Int)<=(j:Int):=by omega
    have d5:(j:Int)<(zs.length-(i+1):Nat):=by omega
    have d6:(0:Int)<=(k:Int):=by omega
    have d7:(k:Int)<zs.length:=by omega
    have d8:k+1<=cs.length:=by omega
    have w2:=ad9 (i:=j+1) (by omega);have w3:=ad9 (i:=k) (by omega);have f1:=hcs (i+1+(j+1)) (by omega) (by omega);have f2:=hcs (i+1+j) (by omega) (by omega);by_cases e2:zs[i+1+(j+1)]=zs[i+1+j]
    ·simp only[go_sem,d1,d2,d3,d4,d5,hoc,f1,f2,e2,Int.toNat_natCast,Nat.zero_add,Nat.mul_one,w2];exact ⟨by omega,k,cs,D,rfl,⟨by omega,uo⟩,rfl,hcl,by omega,by omega,hDl,hDt,hDp,fun x=>(hDm x).trans (cf4 (p:=i+1+j) (by omega) e2 x),hcs⟩
    ·simp only[go_sem,d1,d2,d3,d4,d5,d6,d7,d8,hoc,f1,f2,e2,Int.toNat_natCast,Nat.zero_add,Nat.mul_one,w2,w3];have hle3:zs[i+1+j]=zs[i+1+(j+1)]\/R zs[i+1+j] zs[i+1+(j+1)]:=List.pairwise_iff_getElem.1 hs (i+1+j) (i+1+(j+1)) (by omega) (by omega) (by omega);have hn:=cf3 (zs:=zs) (p:=i+1+j) (by omega);have hR3:R zs[i+1+j] zs[i+1+(j+1)]:=hle3.elim (fun q=>absurd q.symm e2) fun q=>q
     have hlt3:∀ x∈D,R x zs[i+1+(j+1)]:=by
      intro x hx;obtain ⟨q,hq,rfl⟩:=List.mem_iff_getElem.1 ((hDm x).1 hx);rw[List.length_take] at hq;rw[List.getElem_take];by_cases hqe:q=i+1+j
      ·subst hqe; exact hR3
      ·rcases List.pairwise_iff_getElem.1 hs q (i+1+j) (by omega) (by omega) (by omega) with h|h
       ·rw[h]; exact hR3
       ·exact hT _ (List.getElem_mem _) _ (List.getElem_mem _) _ (List.getElem_mem _) h hR3
     have hb1:σ.next<=u.next+10:=by omega
     refine ⟨by omega,k+1,az3 cs k [.int .i64 zs[i+1+(j+1)]],D++[zs[i+1+(j+1)]],rfl,⟨hb1,fun q hq=>by rw[if_neg hq]; exact uo q hq⟩,rfl,?_,by omega,by omega,by rw[List.length_append,hDl]; rfl,?_,?_,fun x=>?_,fun q h hq=>?_⟩
     ·rw[ai3 (by rw[List.length_singleton]; omega)]; exact hcl
     ·rw[db2 (by omega),hDt,List.map_append]; rfl
     ·exact List.pairwise_append.2 ⟨hDp,by simp,fun a ha b hb=>by
       simp only[List.mem_cons,List.not_mem_nil,or_false] at hb;subst hb; exact hlt3 a ha⟩
     ·rw[List.mem_append,hDm x];refine Iff.trans ?_ (hn x).symm;simp only[List.mem_cons,List.not_mem_nil,or_false];exact Iff.rfl
     ·rw[db3 (by omega) (by omega)];exact hcs q h (by omega)
   ·have d1:¬ ((j+1:Nat):Int)<(zs.length-(i+1):Nat):=by omega
    have hkn:k<zs.length:=by omega
    have hj':i+1+j+1=zs.length:=by omega
    rw[hj',List.take_length] at hDm;simp only[go_sem,d1,fr4 (show k<=zs.length by omega),gm5 (show k<=zs.length by omega),hoc,hs8,fr5 hoc hkn (by omega)];have hrl:(rep [IV.int .i64 0] (zs.length-k)).length=zs.length-k:=by rw[aq7]; simp
    refine ⟨⟨D,az3 cs k (rep [IV.int .i64 0] (zs.length-k)),hDp,hDm,by rw[hDl],by simp only[aa7,if_true],by rw[hDl,dr7 (by omega)]; exact hDt,?_⟩,un,fun q hq=>?_⟩
    ·rw[ai3 (by rw[hrl]; omega),hDl]; omega
    ·simp only[aa7,if_neg hq];exact uo q hq
  ·simp only[go_sem,c1,c2,c3,c4,c5,hot,g1,g2,e,Int.toNat_natCast,Nat.zero_add,Nat.mul_one,w1];refine ⟨by omega,⟨hob,by show σ.next<=_; omega⟩,by omega,?_⟩;rw[List.take_add_one,List.getElem?_eq_getElem hlt,List.pairwise_append];refine ⟨hpw,by simp,fun a ha b hb=>?_⟩;simp only[Option.toList,List.mem_cons,List.not_mem_nil,or_false] at hb;subst hb;obtain ⟨j,hj,rfl⟩:=List.mem_iff_getElem.1 ha;rw[List.length_take] at hj;rw[List.getElem_take];have hR2:R zs[i] zs[i+1]:=hle2.elim (fun q=>absurd q.symm e) fun q=>q
   by_cases hji:j=i
   ·subst hji; exact hR2
   ·rcases List.pairwise_iff_getElem.1 hs j i (by omega) (by omega) (by omega) with h|h
    ·rw[h]; exact hR2
    ·exact hT _ (List.getElem_mem _) _ (List.getElem_mem _) _ (List.getElem_mem _) h hR2
 ·have hi':i+1=zs.length:=by omega
  have c1:¬ ((i+1:Nat):Int)<zs.length:=by omega
  simp only[go_sem,c1];rw[hi',List.take_length] at hpw;exact ⟨⟨zs,zs.map iv++tl,hpw,fun _=>Iff.rfl,rfl,hot,by rw[List.take_append_of_le_length (by simp),List.take_of_length_le (by simp)],by simp⟩,hnx,fun j _=>by rw[hob]⟩
abbrev Cmp:=ik1 (· < ·)
theorem fr6 {σ:Store}{id:Nat}{zs:List Int}(hz:zs.length<2^40)(ho:σ.obj id=some (.row (zs.map iv)))(hs:zs.Pairwise (·<=·)) :
  C Tryz.prog EE 69 [.slice id 0 zs.length 1] σ (Cmp σ id zs):=
 ez9 (tl:=[]) (fun _ _ _ _ _ _ h h2=>Int.lt_trans h h2) hz (by rw[List.append_nil]; exact ho) (hs.imp fun h=>by omega)
end Go.Id.Tryz
set_option linter.all false
namespace Go.Id.Tryz
open Go Go.Id Go.Proofs Go.Shelf
set_option maxRecDepth 100000
def ip4:Go.Shelf.Ren where
 f:=fun n=>(List.lookup n [(0,0),(1,1),(2,2),(99,141),(107,94),(108,143),(109,200),(110,172),(119,222),(122,110),(125,117),(128,168),(129,169),(137,139),(151,219),(152,221),(161,209),(189,68),(197,218),(206,186),(215,152),(216,165),(217,185),(224,223),(225,224),(227,214),(228,217),(231,213),(233,215),(235,216),(257,116),(260,220),(266,205),(294,159),(295,160),(296,161),(297,162),(298,163),(299,164),(300,166),(301,167),(328,195),(329,196),(330,197),(331,198),(332,199),(336,211),(343,212),(347,225),(348,226),(349,227),(350,228),(351,229),(352,230),(353,231),(354,232),(355,233),(356,234),(357,235),(358,236),(359,237),(360,238),(361,239),(366,241),(367,248)]).getD 0
 t:=fun n=>(List.lookup n [(0,0),(1,1),(2,2),(3,3),(4,4),(5,5),(7,7),(8,8),(9,9),(10,10),(11,11),(12,12),(13,13),(14,14),(15,15),(16,16),(17,17),(18,18),(20,20),(21,21),(22,153),(23,220),(27,127),(28,28),(29,119),(30,155),(31,87),(32,212),(33,186),(34,41),(35,101),(40,240),(41,65),(43,126),(46,131),(47,130),(51,183),(52,182),(53,185),(54,184),(55,151),(63,234),(64,235),(80,242),(81,45),(102,146),(104,114),(105,232),(106,233),(111,52),(112,53),(114,241),(115,226),(116,227),(117,228),(118,229),(119,236),(122,225),(123,230),(124,231),(127,251),(131,180),(134,129),(137,237),(139,239),(164,256),(181,174),(182,175),(183,176),(184,177),(185,178),(186,179),(187,181),(214,205),(218,206),(219,207),(220,208),(221,209),(222,210),(223,211),(228,221),(229,222),(230,223),(238,243),(239,244),(240,245),(241,246),(242,247),(245,250),(248,254)]).getD 0
 g:=fun n=>n
theorem hs9:Lays.n189 Tryz.prog ip4 where
 mixed:=by kernel_rfl
 f125:=Tryz.func117.trans (congrArg some (by kernel_rfl))
 f128:=Tryz.func168.trans (congrArg some (by kernel_rfl))
 f129:=Tryz.func169.trans (congrArg some (by kernel_rfl))
 f189:=Tryz.func68.trans (congrArg some (by kernel_rfl))
 f215:=Tryz.func152.trans (congrArg some (by kernel_rfl))
 f216:=Tryz.func165.trans (congrArg some (by kernel_rfl))
 f257:=Tryz.func116.trans (congrArg some (by kernel_rfl))
 f294:=Tryz.func159.trans (congrArg some (by kernel_rfl))
 f295:=Tryz.func160.trans (congrArg some (by kernel_rfl))
 f296:=Tryz.func161.trans (congrArg some (by kernel_rfl))
 f297:=Tryz.func162.trans (congrArg some (by kernel_rfl))
 f298:=Tryz.func163.trans (congrArg some (by kernel_rfl))
 f299:=Tryz.func164.trans (congrArg some (by kernel_rfl))
 f300:=Tryz.func166.trans (congrArg some (by kernel_rfl))
 f301:=Tryz.func167.trans (congrArg some (by kernel_rfl))
 f328:=Tryz.func195.trans (congrArg some (by kernel_rfl))
 f329:=Tryz.func196.trans (congrArg some (by kernel_rfl))
 f330:=Tryz.func197.trans (congrArg some (by kernel_rfl))
 f331:=Tryz.func198.trans (congrArg some (by kernel_rfl))
 f332:=Tryz.func199.trans (congrArg some (by kernel_rfl))
 f343:=Tryz.func212.trans (congrArg some (by kernel_rfl))
 t0:=by kernel_rfl
 a0:=Tryz.isAgg0
 z0:=fun _=>by kernel_rfl
 v0:=fun _=>by kernel_rfl
 t3:=by kernel_rfl
 a3:=Tryz.isAgg3
 z3:=fun _=>by kernel_rfl
 v3:=fun _=>by kernel_rfl
 t4:=by kernel_rfl
 a4:=Tryz.isAgg4
 z4:=fun _=>by kernel_rfl
 v4:=fun _=>by kernel_rfl
 t5:=by kernel_rfl
 a5:=Tryz.isAgg5
 z5:=fun _=>by kernel_rfl
 v5:=fun _=>by kernel_rfl
 t9:=by kernel_rfl
 a9:=Tryz.isAgg9
 z9:=fun _=>by kernel_rfl
 v9:=fun _=>by kernel_rfl
 t28:=by kernel_rfl
 a28:=Tryz.isAgg28
 z28:=fun _=>by kernel_rfl
 v28:=fun _=>by kernel_rfl
 t46:=by kernel_rfl
 a46:=Tryz.isAgg131
 z46:=fun _=>by kernel_rfl
 v46:=fun _=>by kernel_rfl
 t51:=by kernel_rfl
 a51:=Tryz.isAgg183
 z51:=fun _=>by kernel_rfl
 v51:=fun _=>by kernel_rfl
 t53:=by kernel_rfl
 a53:=Tryz.isAgg185
 z53:=fun _=>by kernel_rfl
 v53:=fun _=>by kernel_rfl
 t131:=by kernel_rfl
 a131:=Tryz.isAgg180
 z131:=fun _=>by kernel_rfl
 v131:=fun _=>by kernel_rfl
 t182:=by kernel_rfl
 a182:=Tryz.isAgg175
 z182:=fun _=>by kernel_rfl
 v182:=fun _=>by kernel_rfl
 t183:=by kernel_rfl
 a183:=Tryz.isAgg176
 z183:=fun _=>by kernel_rfl
 v183:=fun _=>by kernel_rfl
 t218:=by kernel_rfl
 a218:=Tryz.isAgg206
 z218:=fun _=>by kernel_rfl
 v218:=fun _=>by kernel_rfl
 t222:=by kernel_rfl
 a222:=Tryz.isAgg210
 z222:=fun _=>by kernel_rfl
 v222:=fun _=>by kernel_rfl
 t228:=by kernel_rfl
 a228:=Tryz.isAgg221
 z228:=fun _=>by kernel_rfl
 v228:=fun _=>by kernel_rfl
 t229:=by kernel_rfl
 a229:=Tryz.isAgg222
 z229:=fun _=>by kernel_rfl
 v229:=fun _=>by kernel_rfl
def gw2 (l:List Int):List Int:=l.mergeSort fun x y=>decide (x<=y)
theorem fa8 {σ:Store}{id:Nat}{zs:List Int}(hz:zs.length<4611686018427387904)(ho:σ.obj id=some (.row (zs.map (IV.int .i64)))) :
  C Tryz.prog EE 68 [.slice id 0 zs.length 1] σ fun v s=>v=.tuple []/\s=σ.put id (.row ((gw2 zs).map (IV.int .i64))):=
 gr7 (enc:=Value.int .i64) (en:=IV.int .i64) (srt:=gw2) (fun _ _ x=>.int _ _) (fun _ _ x r h=>by cases h; rfl) (fun l=>List.length_mergeSort l) (by unfold gw2; rw[List.mergeSort_nil])
  (fun blk off cap zs w h1 h2 h3=>Any.slices_Sort_int hs9 blk off cap zs w h1 h2 h3) (fun p cap w=>Any.slices_Sort_int_none hs9 p cap w) hz ho
open Go Go.Id Go.Proofs Go.Shelf Go.Id.Md
theorem dr8:∀ {a b:List Int},a.Pairwise (· < ·)->b.Pairwise (· < ·)->(∀ x,x∈a↔x∈b)->a=b:=by
 intro a
 induction a with
 | nil=>
  intro b _ _ h
  cases b with
  | nil=>rfl
  | cons y b=>exact absurd ((h y).2 (List.mem_cons_self ..)) (by simp)
 | cons x a ih=>
  intro b ha hb h
  cases b with
  | nil=>exact absurd ((h x).1 (List.mem_cons_self ..)) (by simp)
  | cons y b=>
   obtain ⟨a1,a2⟩:=List.pairwise_cons.1 ha;obtain ⟨b1,b2⟩:=List.pairwise_cons.1 hb
   have e:x=y:=by
    rcases List.mem_cons.1 ((h x).1 (List.mem_cons_self ..)) with e|e
    ·exact e
    ·have l1:=b1 x e;rcases List.mem_cons.1 ((h y).2 (List.mem_cons_self ..)) with e2|e2
     ·exact e2.symm
     ·have l2:=a1 y e2; omega
   subst e;rw[ih a2 b2 fun z=>?_];constructor
   ·intro hz;have l1:=a1 z hz;rcases List.mem_cons.1 ((h z).1 (List.mem_cons_of_mem _ hz)) with e|e
    ·omega
    ·exact e
   ·intro hz;have l1:=b1 z hz;rcases List.mem_cons.1 ((h z).2 (List.mem_cons_of_mem _ hz)) with e|e
    ·omega
    ·exact e
end Go.Id.Tryz
/- Whom a package aa8: the function walked. Conditions: sizes that fit. -/
namespace Go.Id
open Go Go.Id
end Go.Id
namespace Go.Id.Tryz
open Go Go.Id Go.Proofs Go.Shelf Go.Id.Md
end Go.Id.Tryz
