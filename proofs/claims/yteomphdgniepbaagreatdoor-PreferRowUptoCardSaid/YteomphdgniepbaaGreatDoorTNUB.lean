/- The law's own: an order over a pool; what is too large; the examples. Conditions: sizes that fit. -/
import Derived.Test.YteomphdgniepbaaGreatDoorTNSL
import Derived.Sort.LotB
import Derived.Sort.LotD1
set_option linter.all false
namespace Go.Id.Tryz
open Go Go.Id Go.Proofs Go.Shelf Go.Id.Md
set_option maxRecDepth 100000
def lgP (m:Int):List ak8→Int→Int→Int×Int
 | [],w,n=>(w,n)
 | r::rs,w,n=>if w<m then lgP m rs (wr (wr (w+1)+szL r.packages m 0)) (wr (n+r.packages.length)) else (w,n)
def dl7 (ab5:List ak8)(inst:List aa2)(r:Req):Bool:=decide (800≤(lgP 800 ab5 (szL inst 800 0) inst.length).1)||decide (40<(lgP 800 ab5 (szL inst 800 0) inst.length).2)||decide (20<r.au3.length)||decide (20<r.am2.length)
theorem ff3 (ab5:List ak8)(inst:List aa2)(r:Req)(h1:ab5.length<2^62)(h2:inst.length<2^62)(hr:∀ r∈ab5,ak8.Ok r)(hi:∀ p∈inst,p.Ok) :
  PC Tryz.prog EE 12 [ay9 ab5,bg2 inst,.agg r.cs] (.bool (dl7 ab5 inst r)):=by
 refine ai1 hE fok12 (nZ rfl) (bc6 (bi8 ab5) (ax2 inst) (.agg _ (bj6 r))) ?_;have k2:(r.cs.drop 2).head? = some (cj5 r.au3):=rfl;have k3:(r.cs.drop 3).head? = some (bi5 r.am2):=rfl;unfold dl7;simp only[ic12,go_sem,ap4]
 first|refine aa5 fok53 (bo8 inst 800 h2 hi) ?_|refine aa6 (bo8 inst 800 h2 hi) ?_
 simp only[go_sem];refine ab3 noT (fun i fr t=>∃ w n:Int,fr=[(0,ay9 ab5),(5,.ac2 r.cs),(7,.int .i64 w),(8,.int .i64 n),(9,.int .i64 i)]∧lgP 800 ab5 (szL inst 800 0) inst.length=lgP 800 (ab5.drop i) w n) ab5.length ⟨_,_,rfl,rfl⟩ ?_;rintro i fr t hle ⟨w,n,rfl,hf⟩;by_cases hlt:i<ab5.length∧w<800
 ·obtain ⟨hlt,hw⟩:=hlt;obtain ⟨x,ha,_,hdr,hget,_⟩:=af8 ab5 i hlt;have c1:(i:Int)<ab5.length:=by omega
  have c2:(0:Int)≤i:=by omega
  have w1:=ad6 (i:=i) (by omega);rw[hdr,lgP,if_pos hw] at hf;have f1:(x.cs.drop 1).head? = some (bg2 x.packages):=rfl;simp only[go_sem,c1,c2,hw,hget,cl8,f1]
  first|refine aa5 fok53 (bo8 x.packages 800 (hr x ha).1 (hr x ha).2) ?_|refine aa6 (bo8 x.packages 800 (hr x ha).1 (hr x ha).2) ?_
  simp only[go_sem,c1,c2,hget,cl8,f1,w1];exact ⟨hlt,_,_,rfl,hf⟩
 have hw2:lgP 800 (ab5.drop i) w n=(w,n):=by
  by_cases hl2:i<ab5.length
  ·obtain ⟨x,ha,_,hdr,hget,_⟩:=af8 ab5 i hl2;rw[hdr,lgP,if_neg (fun h=>hlt ⟨hl2,h⟩)]
  ·rw[List.drop_of_length_le (by omega)]; rfl
 rw[hw2] at hf;rw[hf];simp only;by_cases hl2:i<ab5.length
 case' pos=>
  have c1:(i:Int)<ab5.length:=by omega
  have hw:¬ w<800:=fun h=>hlt ⟨hl2,h⟩
  have hw':800≤w:=by omega
  simp only[go_sem,c1,hw,hw'];exact af7 (by simp)
 have c1:¬ (i:Int)<ab5.length:=by omega
 by_cases hw:800≤w
 ·simp only[go_sem,c1,hw];exact af7 (by simp)
 by_cases hn:40<n
 ·simp only[go_sem,c1,hw,hn];exact af7 (by simp)
 by_cases hj:20<r.au3.length
 ·have hj':(20:Int)<r.au3.length:=by omega
  simp only[go_sem,c1,hw,hn,k2,hj'];exact af7 (by simp[hj])
 have hj':¬ (20:Int)<r.au3.length:=by omega
 by_cases he:20<r.am2.length
 ·have he':(20:Int)<r.am2.length:=by omega
  simp only[go_sem,c1,hw,hn,k2,k3,hj',he'];exact af7 (by simp[he])
 ·have he':¬ (20:Int)<r.am2.length:=by omega
  simp only[go_sem,c1,hw,hn,k2,k3,hj',he'];exact af7 (by simp[he,hj])
def cu4 (p:Pool)(r:Req)(n:Nat):an5:=⟨⟨p,r⟩,az2 (ad1 p) n⟩
def go9 (ab5:List ak8)(inst:List aa2)(r:Req):IV:=match bu9 ab5 inst with
 | .inl p=>if as4 r p.inst=0 then .tuple [(cu4 p r inst.length).v,(av6.mk p r).v,p.v,.bool true] else .tuple [.ab6,.ab6,.ab6,.bool false]
 | .inr _=>.tuple [.ab6,.ab6,.ab6,.bool false]
theorem ef8 {ab5:List ak8}{inst:List aa2}{p:Pool}(hn:bu9 ab5 inst=.inl p):∀ q∈ad1 p,ag7 q=true:=fun q hq=>(ej5 hn q hq).1
theorem fy5 (ab5:List ak8)(inst:List aa2)(r:Req)(hI:gt6 ab5 inst)(hR:ef3 r):PC Tryz.prog EE 13 [ay9 ab5,bg2 inst,.agg r.cs] (go9 ab5 inst r):=by
 refine ai1 hE fok13 (nZ rfl) (bc6 (bi8 ab5) (ax2 inst) (.agg _ (bj6 r))) ?_;have hp:=cg5 ab5 inst hI.r1 hI.i1 hI.s1 hI.rf hI.pf;unfold go9
 cases hn:bu9 ab5 inst with
 | inr e=>
  rw[hn] at hp;have he:¬ e=0:=by rcases gi1 hn with rfl|rfl<;>decide
  simp only[ie8] at hp;simp only[ic13,go_sem,ap4]
  first|refine aa5 fok21 (hp) ?_|refine aa6 (hp) ?_
  simp only[go_sem,he]
  exact .keep _ (.tuple _ (ha5 .ab6 .ab6 .ab6 (.bool _)))
 | inl p=>
  rw[hn] at hp;have hf:=gt7 hI hn;have hlen:(ad1 p).length≤256:=by simp only[ad1,List.length_map]; exact di6 hn
  have ha:=fy2 p r hR hlen fun x hx=>⟨(hf x hx).1,(hf x hx).2.2⟩
  have hb:=be7 ⟨p,r⟩;simp only[ie8] at hp;unfold if2 at ha;simp only[ic13,go_sem,ap4]
  first|refine aa5 fok21 (hp) ?_|refine aa6 (hp) ?_
  by_cases he:as4 r p.inst=0
  ·rw[if_pos he] at ha;have hA:=aok hI hn hR he;have hP:=ff2 ⟨p,r⟩ inst.length hA (ef8 hn) (fw5 hn);have hbo:=ao1 (cu4 p r inst.length);have hnl:∀ d:TypeId,ck5 (.pointer d) (cu4 p r inst.length).v=some false:=fun _=>rfl
   have hP:PC Tryz.prog EE 55 [(av6.mk p r).v] (.tuple [(cu4 p r inst.length).v,.int .i64 0]):=hP;simp only[go_sem,he,bs2,bo9]
   first|refine aa5 fok54 (ha) ?_|refine aa6 (ha) ?_
   simp only[go_sem]
   first|refine aa5 fok55 (hP) ?_|refine aa6 (hP) ?_
   simp only[go_sem,hnl];exact .keep _ (.tuple _ (ha5 hbo hb (ar9 p) (.bool _)))
  ·rw[if_neg he] at ha;simp only[go_sem,bs2,bo9]
   first|refine aa5 fok54 (ha) ?_|refine aa6 (ha) ?_
   simp only[go_sem,he];exact .keep _ (.tuple _ (ha5 .ab6 .ab6 .ab6 (.bool _)))
theorem ook {ab5:List ak8}{inst:List aa2}{p:Pool}{r:Req}(hI:gt6 ab5 inst)(hn:bu9 ab5 inst=.inl p)(hR:ef3 r)(he:as4 r p.inst=0)(n:Nat):OOK (cu4 p r n):=⟨aok hI hn hR he,List.length_map ..⟩
theorem ik2 {q:aa2}(h:ag7 q=true):q.evr.rel≠[]:=by
 unfold ag7 bf4 bf3 at h;simp only[Bool.and_eq_true,Bool.or_eq_true,decide_eq_true_eq] at h;intro e;rw[e] at h;simp at h
theorem fy6 {p:Pool}{r:Req}{n:Nat}(h:∀ q∈ad1 p,ag7 q=true):∀ k,(cu4 p r n).a.is k=true→((cu4 p r n).a.pk k).evr.rel≠[]:=fun k hk=>by
 obtain ⟨m,rfl,hm⟩:=gm7 hk;rw[hi6 _ hm];exact ik2 (h _ (List.getElem_mem hm))
theorem cs8 (name ver:Str):PC Tryz.prog EE 51 [.str name,.str ver] (.agg (ck3 name ver).cs):=by
 refine ai1 hE fok51 (nZ rfl) (al2 (.str _) (.str _)) ?_;simp only[ic51,go_sem];exact .il5 (.cons (gn3 _) (.cons (ii7 _ _) (.cons (gn3 _) (.cons (gn3 _) (.cons (ii7 _ _) (.cons (gn3 _) (.cons .ch1 (.cons .ch1 (.cons .ch1 (.cons .ch1 (.cons .ch1 (.cons .ch1 (.cons .ch1 (.cons .ch1 (.cons .ch1 .nil)))))))))))))))
theorem gp1 (a b:List Int)(h1:a.length<2^62)(h2:b.length<2^62):PC Tryz.prog EE 52 [.aa3 (a.map Md.ag3),.aa3 (b.map Md.ag3)] (.bool (decide (a=b))):=by
 refine ai1 hE fok52 (nZ rfl) (al2 (ap3 _) (ap3 _)) ?_;have h:=ci1 a b h1 h2;simp only[ic52,go_sem]
 first|refine aa5 fok18 (h) ?_|refine aa6 (h) ?_
 simp only[go_sem];exact af7 rfl
def bp7:List ak8:=[⟨1,[ck3 [97] [49],ck3 [97] [50]]⟩,⟨9,[ck3 [97] [49]]⟩]
def dw9:List aa2:=[ck3 [122] [48]]
def ax4:an5:=cu4 (bw6 bp7 dw9) r15 1
theorem ho9:bu9 bp7 dw9=.inl (bw6 bp7 dw9):=by kernel_rfl
theorem ik3:as4 r15 (bw6 bp7 dw9).inst=0:=by kernel_rfl
theorem gu4:gt6 bp7 dw9:=gn4 (by kernel_rfl)
theorem it9:ax4.a.l.length=4:=by kernel_rfl
theorem b21:ax4.better 2 1=true:=by kernel_rfl
theorem b12:ax4.better 1 2=false:=by kernel_rfl
theorem b32:ax4.better 3 2=true:=by kernel_rfl
theorem b03:ax4.better 0 3=true:=by kernel_rfl
theorem c03:decide (ax4.cmp 0 3<0)=true:=by kernel_rfl
theorem c02:decide (ax4.cmp 0 2<0)=true:=by kernel_rfl
theorem c01:decide (ax4.cmp 0 1<0)=true:=by kernel_rfl
theorem c32:decide (ax4.cmp 3 2<0)=true:=by kernel_rfl
theorem c31:decide (ax4.cmp 3 1<0)=true:=by kernel_rfl
theorem c21:decide (ax4.cmp 2 1<0)=true:=by kernel_rfl
theorem fy7:OOK ax4:=ook gu4 ho9 ii8 ik3 1
theorem ik4:∀ k,ax4.a.is k=true→(ax4.a.pk k).evr.rel≠[]:=fy6 (ef8 ho9)
theorem ik5:ax4.ak9 [1,2,3,0,1]=[0,3,2,1]:=by
 refine (ax4.ds4 ik4 ?_ fun x=>?_).symm
 ·have h1:=of_decide_eq_true c03;have h2:=of_decide_eq_true c02;have h3:=of_decide_eq_true c01;have h4:=of_decide_eq_true c32;have h5:=of_decide_eq_true c31;have h6:=of_decide_eq_true c21;simp[h1,h2,h3,h4,h5,h6]
 ·unfold av6.is;rw[it9];simp only[List.mem_cons,List.not_mem_nil,or_false,Bool.and_eq_true,decide_eq_true_eq];omega
theorem iu1:PC Tryz.prog EE 13 [ay9 bp7,bg2 dw9,.agg r15.cs] (.tuple [ax4.v,(av6.mk (bw6 bp7 dw9) r15).v,(bw6 bp7 dw9).v,.bool true]):=by
 have h:=fy5 bp7 dw9 r15 gu4 ii8;unfold go9 at h;rw[ho9] at h;simp only[ik3,if_true] at h;exact h
theorem ax8:PC Tryz.prog EE 11 [] (.bool true):=by
 refine ai1 hE fok11 (nZ rfl) (fun a h=>by cases h) ?_;have b1:=cs8 [97] [49];have b2:=cs8 [97] [50];have b3:=cs8 [122] [48];have ho:=iu1;have m21:=bj4 ax4 fy7 2 1;have m12:=bj4 ax4 fy7 1 2;have m32:=bj4 ax4 fy7 3 2;have m03:=bj4 ax4 fy7 0 3;rw[b21] at m21;rw[b12] at m12;rw[b32] at m32;rw[b03] at m03;have hs:=fw4 ax4 fy7 ik4 [1,2,3,0,1] rfl hl9;rw[ik5] at hs;have ha:=gp1 [0,3,2,1] [0,3,2,1] (by decide) (by decide);rw[decide_eq_true rfl] at ha;have hi:bg2 dw9=.aa3 [(ck3 [122] [48]).cs]:=rfl;have hrep:ay9 bp7=.aa3 [[.int .i64 1,.aa3 [(ck3 [97] [49]).cs,(ck3 [97] [50]).cs]],[.int .i64 9,.aa3 [(ck3 [97] [49]).cs]]]:=rfl;have hr5:r15.cs=[.int .u8 2,.bool false,cj5 [],bi5 [],.int .i64 0]:=rfl;have hw:∀ {v:IV} {σ:Store},Bnd 0 v→Frz σ (fun _=>true=true) v v:=fun h=>.keep _ (h.weak fun _ _=>rfl)
 have ho2:PC Tryz.prog EE 13 [ay9 bp7,bg2 dw9,.agg [.int .u8 2,.bool false,.aa1,.aa1,.int .i64 0]] (.tuple [ax4.v,(av6.mk (bw6 bp7 dw9) r15).v,(bw6 bp7 dw9).v,.bool true]):=ea1 (args':=[ay9 bp7,bg2 dw9,.agg r15.cs]) rfl (fun σ i hi=>by
  match i,hi with
  | 0,_=>exact hw (bi8 _)
  | 1,_=>exact hw (ax2 _)
  | 2,_=>
   rw[hr5];exact .il5 (.cons (hw (.int _ _)) (.cons (hw (.bool _)) (.cons .ch1 (.cons .ch1 (.cons (hw (.int _ _)) .nil)))))) ho
 have hcs1:(ck3 [97] [49]).cs=[.str [97],.int .i64 0,.str [49],.str [49],.int .u8 2,.str [],.aa3 [],.aa3 [],.aa3 [],.aa3 [],.aa3 [],.aa3 [],.aa3 [],.aa3 [],.aa3 []]:=rfl;have hcs2:(ck3 [97] [50]).cs=[.str [97],.int .i64 0,.str [50],.str [49],.int .u8 2,.str [],.aa3 [],.aa3 [],.aa3 [],.aa3 [],.aa3 [],.aa3 [],.aa3 [],.aa3 [],.aa3 []]:=rfl;have hcs3:(ck3 [122] [48]).cs=[.str [122],.int .i64 0,.str [48],.str [49],.int .u8 2,.str [],.aa3 [],.aa3 [],.aa3 [],.aa3 [],.aa3 [],.aa3 [],.aa3 [],.aa3 [],.aa3 []]:=rfl;rw[hi,hrep,hcs1,hcs2,hcs3] at ho2;rw[hcs1] at b1;rw[hcs2] at b2;rw[hcs3] at b3;generalize ax4.v=O at *;generalize (av6.mk (bw6 bp7 dw9) r15).v=A1 at *;generalize (bw6 bp7 dw9).v=P1 at *;simp only[List.map_cons,List.map_nil,Md.ag3] at hs ha;simp only[ic11,go_sem]
 first|refine aa5 fok51 (b1) ?_|refine aa6 (b1) ?_
 simp only[go_sem]
 first|refine aa5 fok51 (b2) ?_|refine aa6 (b2) ?_
 simp only[go_sem]
 first|refine aa5 fok51 (b1) ?_|refine aa6 (b1) ?_
 simp only[go_sem]
 first|refine aa5 fok51 (b3) ?_|refine aa6 (b3) ?_
 simp only[go_sem]
 first|refine aa5 fok13 (ho2) ?_|refine aa6 (ho2) ?_
 simp only[go_sem]
 first|refine aa5 fok16 (m21) ?_|refine aa6 (m21) ?_
 simp only[go_sem]
 first|refine aa5 fok16 (m12) ?_|refine aa6 (m12) ?_
 simp only[go_sem]
 first|refine aa5 fok16 (m32) ?_|refine aa6 (m32) ?_
 simp only[go_sem]
 first|refine aa5 fok16 (m03) ?_|refine aa6 (m03) ?_
 simp only[go_sem]
 first|refine aa5 fok17 (hs) ?_|refine aa6 (hs) ?_
 simp only[go_sem]
 first|refine aa5 fok52 (ha) ?_|refine aa6 (ha) ?_
 simp only[go_sem];exact af7 rfl
open Go Go.Id Go.Proofs
theorem fz9 {a b:Nat}(h:a+b<2^62):IntKind.i64.wrap ((a:Int)+(b:Int))=((a+b:Nat):Int):=by rw[wrap64 (by omega) (by omega)]; omega
theorem fg2 {a b:Nat}(h:b≤a)(h2:a<2^62):IntKind.i64.wrap ((a:Int)-(b:Int))=((a-b:Nat):Int):=by rw[wrap64 (by omega) (by omega)]; omega
theorem bg3 {a:Nat}(h:1≤a)(h2:a<2^62):IntKind.i64.wrap ((a:Int)-1)=((a-1:Nat):Int):=by rw[wrap64 (by omega) (by omega)]; omega
theorem jc1 {a:Nat}(h:a<2^60):IntKind.i64.wrap (2*(a:Int))=((2*a:Nat):Int):=by rw[wrap64 (by omega) (by omega)]; omega
section
variable {α:Type} [Inhabited α] (emb:α→Int) (tl:List IV) {cf:α→α→Int} {g:Nat} {first cap:List IV} {id:Nat}
theorem ah5 {d:Array α}{i j:Nat}(hi:i<d.size)(hj:j<d.size) :
  ((az5 emb tl d).drop i).head? = some (.int .i64 (emb d[i]!))∧((az5 emb tl d).drop j).head? = some (.int .i64 (emb d[j]!))∧i+1≤(az5 emb tl d).length∧j+1≤(ao8 (az5 emb tl d) i [.int .i64 (emb d[j]!)]).length ∧
  ao8 (ao8 (az5 emb tl d) i [.int .i64 (emb d[j]!)]) j [.int .i64 (emb d[i]!)]=az5 emb tl (Go.Sort.swp d i j):=
 ⟨ah4 emb tl hi,ah4 emb tl hj,by rw[bo7]; omega,by rw[ae1 (by rw[bo7]; simp only[List.length_singleton]; omega),bo7]; omega,en3 emb tl hi hj⟩
theorem SO.put {d d':Array α}{σ u:Store}{n:Nat}(h:SO emb tl id d σ u)(hn:σ.next≤n){a:List IV}:SO emb tl id d' σ ⟨n,(((⟨n,u.obj⟩:Store).put id (.row a)).put id (.row (az5 emb tl d'))).obj⟩:=
 ⟨hn,fun i hi=>by simp only[aa4,hi,if_false]; exact h.other i hi,by simp only[aa4,if_true]⟩
theorem fy8 {f:List IV}{σ:Store}(d:Array α)(a b:Nat)(fv:IV)(hab:a<b)(hb:b≤d.size)(hz:d.size<2^40)(ho:σ.obj id=some (.row (az5 emb tl d))) :
  C Tryz.prog EE 227 [.slice id 0 d.size 1,.int .i64 a,.int .i64 b,fv] σ fun v s=>v=.tuple []∧SO emb tl id (Go.Sort.reverseRange d a b) σ s:=by
 refine C_f fok227 (nZ rfl) ?_;have w0:=bg3 (a:=b) (by omega) (by omega);simp only[ic227,go_sem,w0];refine ab3 noT (fun k fr t=>∃ (i j:Nat) (dk:Array α),fr=[(0,.slice id 0 d.size 1),(8,.int .i64 (i:Int)),(9,.int .i64 (j:Int))]∧SO emb tl id dk σ t∧dk.size=d.size∧k≤i∧j<d.size∧Go.Sort.reverseLoop i j dk=Go.Sort.reverseRange d a b) d.size ⟨a,b-1,d,rfl,⟨Nat.le_refl _,fun _ _=>rfl,ho⟩,rfl,Nat.zero_le _,by omega,rfl⟩ ?_;rintro k fr t hk ⟨i,j,dk,rfl,hS,hsz,hki,hjd,hI⟩;by_cases hlt:i<j
 ·have c1:(i:Int)<(j:Int):=by omega
  have c2:(0:Int)≤i:=by omega
  have c3:(i:Int)<d.size:=by omega
  have c4:(0:Int)≤j:=by omega
  have c5:(j:Int)<d.size:=by omega
  have w1:=ad6 (i:=i) (by omega);have w2:=bg3 (a:=j) (by omega) (by omega);obtain ⟨r1,r2,r3,r4,r5⟩:=ah5 emb tl (d:=dk) (i:=i) (j:=j) (by omega) (by omega);rw[Go.Sort.reverseLoop,if_pos hlt] at hI;simp only[go_sem,c1,c2,c3,c4,c5,hS.row,r1,r2,r3,r4,r5,w1,w2,Nat.mul_one];refine ⟨by omega,i+1,j-1,Go.Sort.swp dk i j,rfl,⟨?_,fun m hm=>?_,?_⟩,by rw[swp_size]; exact hsz,by omega,by omega,hI⟩
  ·have:=hS.next; simp only[ab1]; omega
  ·simp only[aa4,hm,if_false]; exact hS.other m hm
  ·simp only[aa4,if_true]
 ·have c1:¬ (i:Int)<(j:Int):=by omega
  rw[Go.Sort.reverseLoop,if_neg hlt] at hI;simp only[go_sem,c1];rw[← hI];exact ⟨hS.next,hS.other,hS.row⟩
theorem bx6 (lt:α→α→Bool)(hi fst:Nat):∀ (n root:Nat) (d:Array α),hi-root≤n→(Go.Sort.siftDown lt hi fst root d).size=d.size:=by
 intro n
 induction n with
 | zero=>
  intro root d h
  rw[Go.Sort.siftDown,dif_pos (by omega)]
 | succ n ih=>
  intro root d h;rw[Go.Sort.siftDown]
  repeat' split
  all_goals first|rfl|(rw[ih _ _ (by omega),swp_size])
theorem df2 (hC:br9 emb cf g first cap){σ:Store}(d:Array α)(lo hi fst:Nat)(hb:fst+hi≤d.size)(hz:d.size<2^40)(hlo:lo<2^40)(ho:σ.obj id=some (.row (az5 emb tl d))) :
  C Tryz.prog EE 290 [.slice id 0 d.size 1,.int .i64 lo,.int .i64 hi,.int .i64 fst,.func (.func g) first cap] σ fun v s=>v=.tuple []∧SO emb tl id (Go.Sort.siftDown (ltOf cf) hi fst lo d) σ s:=by
 refine C_f fok290 (nZ rfl) ?_;simp only[ic290,go_sem];refine ab3 noT (fun k fr t=>∃ (root:Nat) (dk:Array α),fr=[(0,.slice id 0 d.size 1),(2,.int .i64 hi),(3,.int .i64 fst),(4,.func (.func g) first cap),(10,.int .i64 (root:Int))]∧SO emb tl id dk σ t∧dk.size=d.size∧k≤root∧root<2^40∧Go.Sort.siftDown (ltOf cf) hi fst root dk=Go.Sort.siftDown (ltOf cf) hi fst lo d) hi ⟨lo,d,rfl,⟨Nat.le_refl _,fun _ _=>rfl,ho⟩,rfl,Nat.zero_le _,hlo,rfl⟩ ?_;rintro k fr t hk ⟨root,dk,rfl,hS,hsz,hkr,hrt,hI⟩;have w1:=jc1 (a:=root) (by omega);have w2:=ad6 (i:=2*root) (by omega);have w3:=ad6 (i:=2*root+1) (by omega);rw[Go.Sort.siftDown] at hI;by_cases hge:2*root+1≥hi
 ·have c1:((hi:Nat):Int)≤((2*root+1:Nat):Int):=by omega
  rw[dif_pos hge] at hI;simp only[go_sem,w1,w2,c1];rw[← hI];exact ⟨hS.next,hS.other,hS.row⟩
 have c1:¬ ((hi:Nat):Int)≤((2*root+1:Nat):Int):=by omega
 have v1:=fz9 (a:=fst) (b:=root) (by omega);have v2:=fz9 (a:=fst) (b:=2*root+1) (by omega);have v3:=ad6 (i:=fst+(2*root+1)) (by omega);have p1:(0:Int)≤((fst+(2*root+1):Nat):Int):=by omega
 have p2:((fst+(2*root+1):Nat):Int)<d.size:=by omega
 have p3:(0:Int)≤((fst+root:Nat):Int):=by omega
 have p4:((fst+root:Nat):Int)<d.size:=by omega
 rw[dif_neg hge] at hI;have x1:=ah4 emb tl (d:=dk) (k:=fst+(2*root+1)) (by omega);have x0:=ah4 emb tl (d:=dk) (k:=fst+root) (by omega);by_cases h2:2*root+2<hi
 ·have c2:((2*root+1+1:Nat):Int)<hi:=by omega
  have p5:(0:Int)≤((fst+(2*root+1)+1:Nat):Int):=by omega
  have p6:((fst+(2*root+1)+1:Nat):Int)<d.size:=by omega
  have x2:=ah4 emb tl (d:=dk) (k:=fst+(2*root+1)+1) (by omega);have e2:(2*root+1+1<hi)=True:=eq_true (by omega);have hc1:=hC.pc dk[fst+(2*root+1)]! dk[fst+(2*root+1)+1]!;simp only[go_sem,w1,w2,w3,c1,c2,p1,p2,p5,p6,v2,v3,x1,x2,hS.row,Nat.mul_one];refine ak6 hC.ok hc1 ?_;by_cases hcf:cf dk[fst+(2*root+1)]! dk[fst+(2*root+1)+1]! < 0
  ·have hl2:ltOf cf dk[fst+(2*root+1)]! dk[fst+(2*root+1)+1]! = true:=decide_eq_true hcf;have hh:decide (2*root+1+1<hi)=true:=decide_eq_true (by omega);rw[hl2,hh,Bool.and_self,if_pos rfl] at hI;simp only[h2,dite_true] at hI;have e3:2*root+1+1=2*root+2:=by omega
   have v4:=fz9 (a:=fst) (b:=2*root+2) (by omega);have q1:(0:Int)≤((fst+(2*root+2):Nat):Int):=by omega
   have q2:((fst+(2*root+2):Nat):Int)<d.size:=by omega
   have x4:=ah4 emb tl (d:=dk) (k:=fst+(2*root+2)) (by omega);have hc2:=hC.pc dk[fst+root]! dk[fst+(2*root+2)]!;simp only[go_sem,hcf,w3,e3,v1,v4,p3,p4,q1,q2,x0,x4,hS.row,Nat.mul_one];refine ak6 hC.ok hc2 ?_;by_cases hcg:cf dk[fst+root]! dk[fst+(2*root+2)]! < 0
   ·have hl3:ltOf cf dk[fst+root]! dk[fst+(2*root+2)]! = true:=decide_eq_true hcg;rw[hl3] at hI;simp only[Bool.not_true,Bool.false_eq_true,if_false] at hI;obtain ⟨r1,r2,r3,r4,r5⟩:=ah5 emb tl (d:=dk) (i:=fst+root) (j:=fst+(2*root+2)) (by omega) (by omega);simp only[go_sem,hcg,v1,v4,p3,p4,q1,q2,r1,r2,r3,r4,r5,hS.row,Nat.mul_one];refine ⟨by omega,2*root+2,Go.Sort.swp dk (fst+root) (fst+(2*root+2)),rfl,⟨?_,fun m hm=>?_,?_⟩,by rw[swp_size]; exact hsz,by omega,by omega,hI⟩
    ·have:=hS.next; simp only[ab1]; omega
    ·simp only[aa4,hm,if_false]; exact hS.other m hm
    ·simp only[aa4,if_true]
   ·have hl3:ltOf cf dk[fst+root]! dk[fst+(2*root+2)]! = false:=decide_eq_false hcg;rw[hl3] at hI;simp only[Bool.not_false,if_true] at hI;simp only[go_sem,hcg];rw[← hI];exact ⟨by have:=hS.next; show σ.next≤t.next+_+_; omega,hS.other,hS.row⟩
  ·have hl2:ltOf cf dk[fst+(2*root+1)]! dk[fst+(2*root+1)+1]! = false:=decide_eq_false hcf;rw[hl2,Bool.and_false,if_neg (by decide)] at hI;have hc2:=hC.pc dk[fst+root]! dk[fst+(2*root+1)]!;simp only[go_sem,hcf,v1,v2,p3,p4,p1,p2,x0,x1,hS.row,Nat.mul_one];refine ak6 hC.ok hc2 ?_;by_cases hcg:cf dk[fst+root]! dk[fst+(2*root+1)]! < 0
   ·have hl3:ltOf cf dk[fst+root]! dk[fst+(2*root+1)]! = true:=decide_eq_true hcg;rw[hl3] at hI;simp only[Bool.not_true,Bool.false_eq_true,if_false] at hI;obtain ⟨r1,r2,r3,r4,r5⟩:=ah5 emb tl (d:=dk) (i:=fst+root) (j:=fst+(2*root+1)) (by omega) (by omega);simp only[go_sem,hcg,v1,v2,p3,p4,p1,p2,r1,r2,r3,r4,r5,hS.row,Nat.mul_one];refine ⟨by omega,2*root+1,Go.Sort.swp dk (fst+root) (fst+(2*root+1)),rfl,⟨?_,fun m hm=>?_,?_⟩,by rw[swp_size]; exact hsz,by omega,by omega,hI⟩
    ·have:=hS.next; simp only[ab1]; omega
    ·simp only[aa4,hm,if_false]; exact hS.other m hm
    ·simp only[aa4,if_true]
   ·have hl3:ltOf cf dk[fst+root]! dk[fst+(2*root+1)]! = false:=decide_eq_false hcg;rw[hl3] at hI;simp only[Bool.not_false,if_true] at hI;simp only[go_sem,hcg];rw[← hI];exact ⟨by have:=hS.next; show σ.next≤t.next+_+_; omega,hS.other,hS.row⟩
 ·have c2:¬ ((2*root+1+1:Nat):Int)<hi:=by omega
  have hh:decide (2*root+1+1<hi)=false:=decide_eq_false (by omega);rw[hh,Bool.false_and,if_neg (by decide)] at hI;have hc2:=hC.pc dk[fst+root]! dk[fst+(2*root+1)]!;simp only[go_sem,w1,w2,w3,c1,c2,v1,v2,p3,p4,p1,p2,x0,x1,hS.row,Nat.mul_one];refine ak6 hC.ok hc2 ?_;by_cases hcg:cf dk[fst+root]! dk[fst+(2*root+1)]! < 0
  ·have hl3:ltOf cf dk[fst+root]! dk[fst+(2*root+1)]! = true:=decide_eq_true hcg;rw[hl3] at hI;simp only[Bool.not_true,Bool.false_eq_true,if_false] at hI;obtain ⟨r1,r2,r3,r4,r5⟩:=ah5 emb tl (d:=dk) (i:=fst+root) (j:=fst+(2*root+1)) (by omega) (by omega);simp only[go_sem,hcg,v1,v2,p3,p4,p1,p2,r1,r2,r3,r4,r5,hS.row,Nat.mul_one];refine ⟨by omega,2*root+1,Go.Sort.swp dk (fst+root) (fst+(2*root+1)),rfl,⟨?_,fun m hm=>?_,?_⟩,by rw[swp_size]; exact hsz,by omega,by omega,hI⟩
   ·have:=hS.next; simp only[ab1]; omega
   ·simp only[aa4,hm,if_false]; exact hS.other m hm
   ·simp only[aa4,if_true]
  ·have hl3:ltOf cf dk[fst+root]! dk[fst+(2*root+1)]! = false:=decide_eq_false hcg;rw[hl3] at hI;simp only[Bool.not_false,if_true] at hI;simp only[go_sem,hcg];rw[← hI];exact ⟨by have:=hS.next; show σ.next≤t.next+_+_; omega,hS.other,hS.row⟩
theorem ff4 (hC:br9 emb cf g first cap){σ:Store}(d:Array α)(a b:Nat)(hab:a<b)(hb:b≤d.size)(hz:d.size<2^40)(ho:σ.obj id=some (.row (az5 emb tl d))) :
  C Tryz.prog EE 224 [.slice id 0 d.size 1,.int .i64 a,.int .i64 b,.func (.func g) first cap] σ fun v s=>v=.tuple []∧SO emb tl id (Go.Sort.heapSort (ltOf cf) d a b) σ s:=by
 refine C_f fok224 (nZ rfl) ?_;have w0:=fg2 (a:=b) (b:=a) (by omega) (by omega);obtain ⟨hi,hhi⟩:∃ hi,hi=b-a:=⟨_,rfl⟩;rw[← hhi] at w0;have w1:=bg3 (a:=hi) (by omega) (by omega)
 have w2:IntKind.i64.wrap (((hi-1:Nat):Int).tdiv 2)=(((hi-1)/2+1:Nat):Int)-1:=by
  have:((hi-1:Nat):Int).tdiv 2=(((hi-1)/2:Nat):Int):=by
   rw[Int.tdiv_eq_ediv_of_nonneg (by omega)]; omega
  rw[this,wrap64 (by omega) (by omega)]; omega
 unfold Go.Sort.heapSort;rw[← hhi];have n2:¬ ((2:Int)=0):=by decide
 simp only[ic224,go_sem,w0,w1,w2,n2];refine ab3 noT (fun k fr t=>∃ (r:Nat) (dk:Array α),fr=[(0,.slice id 0 d.size 1),(3,.func (.func g) first cap),(8,.int .i64 a),(9,.int .i64 0),(10,.int .i64 hi),(11,.int .i64 ((r:Int)-1))]∧r+k=(hi-1)/2+1∧SO emb tl id dk σ t∧dk.size=d.size∧Go.Sort.heapBuild (ltOf cf) hi a r dk=Go.Sort.heapBuild (ltOf cf) hi a ((hi-1)/2+1) d) ((hi-1)/2+1) ⟨_,d,rfl,rfl,⟨Nat.le_refl _,fun _ _=>rfl,ho⟩,rfl,rfl⟩ ?_;rintro k fr t hk ⟨r,dk,rfl,hrk,hS,hsz,hI⟩
 cases r with
 | succ r=>
  have e1:(((r+1:Nat):Int)-1)=(r:Int):=by omega
  have c1:(0:Int)≤(r:Int):=by omega
  have w3:IntKind.i64.wrap ((r:Int)-1)=(r:Int)-1:=wrap64 (by omega) (by omega);have hs1:=df2 emb tl hC (id:=id) (σ:=t) dk r hi a (by omega) (by omega) (by omega) hS.row;rw[hsz] at hs1;simp only[go_sem,e1,c1];refine ad3 fok290 hs1 ?_;rintro v s ⟨rfl,h1⟩;refine ⟨h1.next,?_⟩;simp only[go_sem,w3]
  refine ⟨by omega,r,_,rfl,by omega,hS.trans emb tl h1,by rw[bx6 _ _ _ _ _ _ (Nat.le_refl _)]; exact hsz,hI⟩
 | zero=>
  have e1:¬ (0:Int)≤0-1:=by decide
  have e0:(((0:Nat):Int))=0:=rfl;have e2:Go.Sort.heapBuild (ltOf cf) hi a 0 dk=dk:=rfl;rw[e2] at hI;have w4:(((hi-1:Nat):Int))=((hi:Nat):Int)-1:=by omega
  simp only[go_sem,e0,e1,w1,w4];rw[← hI];refine ab3 noT (fun k fr t=>∃ (r:Nat) (dj:Array α),fr=[(0,.slice id 0 d.size 1),(3,.func (.func g) first cap),(8,.int .i64 a),(9,.int .i64 0),(12,.int .i64 ((r:Int)-1))]∧r+k=hi∧SO emb tl id dj σ t∧dj.size=d.size∧Go.Sort.heapPop (ltOf cf) a r dj=Go.Sort.heapPop (ltOf cf) a hi dk) hi ⟨_,dk,rfl,rfl,⟨by have:=hS.next; show σ.next≤t.next; omega,hS.other,hS.row⟩,hsz,rfl⟩ ?_;rintro k fr t hk ⟨r,dj,rfl,hrk,hS,hsz,hI⟩
  cases r with
  | succ r=>
   have e1:(((r+1:Nat):Int)-1)=(r:Int):=by omega
   have c1:(0:Int)≤(r:Int):=by omega
   have c2:(0:Int)≤(a:Int):=by omega
   have c3:(a:Int)<d.size:=by omega
   have c4:(0:Int)≤((a+r:Nat):Int):=by omega
   have c5:((a+r:Nat):Int)<d.size:=by omega
   have v1:=fz9 (a:=a) (b:=r) (by omega);have w3:IntKind.i64.wrap ((r:Int)-1)=(r:Int)-1:=wrap64 (by omega) (by omega);obtain ⟨r1,r2,r3,r4,r5⟩:=ah5 emb tl (d:=dj) (i:=a) (j:=a+r) (by omega) (by omega);simp only[go_sem,e1,c1,c2,c3,c4,c5,v1,r1,r2,r3,r4,r5,hS.row,Nat.mul_one]
   have hs1:∀ U:Store,SO emb tl id (Go.Sort.swp dj a (a+r)) σ U→C Tryz.prog EE 290 [.slice id 0 d.size 1,.int .i64 0,.int .i64 r,.int .i64 a,.func (.func g) first cap] U fun v s=>v=.tuple []∧σ.next≤U.next∧SO emb tl id (Go.Sort.swp dj a (a+r)) σ U∧SO emb tl id (Go.Sort.siftDown (ltOf cf) r a 0 (Go.Sort.swp dj a (a+r))) U s:=fun U hU=>by
    have h:=df2 emb tl hC (id:=id) (σ:=U) (Go.Sort.swp dj a (a+r)) 0 r a (by rw[swp_size]; omega) (by rw[swp_size]; omega) (by omega) hU.row;rw[swp_size,hsz] at h;exact h.mono fun v s ⟨e,h⟩=>⟨e,hU.next,hU,h⟩
   refine ad3 fok290 (hs1 _ ⟨?_,fun m hm=>?_,?_⟩) ?_
   ·have:=hS.next; simp only[ab1]; omega
   ·simp only[aa4,hm,if_false]; exact hS.other m hm
   ·simp only[aa4,if_true]
   rintro v s ⟨rfl,_,hUs,h1⟩;refine ⟨h1.next,?_⟩;simp only[go_sem,w3]
   refine ⟨by omega,r,_,rfl,by omega,hUs.trans emb tl h1,by rw[bx6 _ _ _ _ _ _ (Nat.le_refl _),swp_size]; exact hsz,hI⟩
  | zero=>
   have e1:¬ (0:Int)≤0-1:=by decide
   have e0:(((0:Nat):Int))=0:=rfl;have e2:Go.Sort.heapPop (ltOf cf) a 0 dj=dj:=rfl;rw[e2] at hI;simp only[go_sem,e0,e1];rw[← hI];exact ⟨hS.next,hS.other,hS.row⟩
end
section
variable {α:Type} [Inhabited α] (emb:α→Int) (tl:List IV) {cf:α→α→Int} {g:Nat} {first cap:List IV} {id:Nat}
structure SKp (id:Nat) (d':Array α) (σ s:Store):Prop where
 next:σ.next≤s.next
 other:∀ i,i<σ.next→i≠id→s.obj i=σ.obj i
 row:s.obj id=some (.row (az5 emb tl d'))
theorem SO.kp {d:Array α}{σ s:Store}(h:SO emb tl id d σ s):SKp emb tl id d σ s:=⟨h.next,fun i _ hi=>h.other i hi,h.row⟩
theorem SKp.trans {d d':Array α}{σ s t:Store}(h:SKp emb tl id d σ s)(h2:SKp emb tl id d' s t):SKp emb tl id d' σ t :=
 ⟨Nat.le_trans h.next h2.next,fun i hi hn=>by rw[h2.other i (Nat.lt_of_lt_of_le hi h.next) hn,h.other i hi hn],h2.row⟩
structure Bx (c:Nat) (σ s:Store):Prop where
 next:σ.next≤s.next
 other:∀ i,i≠c→s.obj i=σ.obj i
 box:∃ z:Int,s.obj c=some (.cells [.int .i64 z])
theorem Bx.trans {c:Nat}{σ s t:Store}(h:Bx c σ s)(h2:Bx c s t):Bx c σ t:=⟨Nat.le_trans h.next h2.next,fun i hi=>by rw[h2.other i hi,h.other i hi],h2.box⟩
theorem dl8 (hC:br9 emb cf g first cap){σ:Store}(d:Array α)(a b c:Nat)(z:Int)(ha:a<d.size)(hb:b<d.size)(hc:c≠id)(ho:σ.obj id=some (.row (az5 emb tl d)))(hbx:σ.obj c=some (.cells [.int .i64 z])) :
  C Tryz.prog EE 327 [.slice id 0 d.size 1,.int .i64 a,.int .i64 b,.ptr c 0,.func (.func g) first cap] σ fun v s=>(v=.tuple [.int .i64 a,.int .i64 b]∨v=.tuple [.int .i64 b,.int .i64 a])∧Bx c σ s:=by
 refine C_f fok327 (nZ rfl) ?_;have c1:(0:Int)≤(a:Int):=by omega
 have c2:(a:Int)<d.size:=by omega
 have c3:(0:Int)≤(b:Int):=by omega
 have c4:(b:Int)<d.size:=by omega
 have x1:=ah4 emb tl ha;have x2:=ah4 emb tl hb;have hcm:=hC.pc d[b]! d[a]!;simp only[ic327,go_sem,c1,c2,c3,c4,x1,x2,ho,Nat.mul_one];refine ak6 hC.ok hcm ?_;by_cases hcf:cf d[b]! d[a]! < 0
 ·simp only[go_sem,hcf,hbx];exact ⟨.inr (by first|rfl|trivial),by simp only[ab1]; omega,fun i hi=>by simp only[aa4,hi,if_false],_,by simp only[aa4,if_true]; rfl⟩
 ·simp only[go_sem,hcf];exact ⟨.inl (by first|rfl|trivial),Nat.le_add_right _ _,fun _ _=>rfl,z,hbx⟩
theorem eo5 (hC:br9 emb cf g first cap){σ:Store}(d:Array α)(a b e c:Nat)(z:Int)(ha:a<d.size)(hb:b<d.size)(he:e<d.size)(hc:c≠id)(ho:σ.obj id=some (.row (az5 emb tl d)))(hbx:σ.obj c=some (.cells [.int .i64 z])) :
  C Tryz.prog EE 294 [.slice id 0 d.size 1,.int .i64 a,.int .i64 b,.int .i64 e,.ptr c 0,.func (.func g) first cap] σ fun v s=>(∃ m:Nat,v=.int .i64 m∧(m=a∨m=b∨m=e))∧Bx c σ s:=by
 refine C_f fok294 (nZ rfl) ?_;simp only[ic294,go_sem];refine ad3 fok327 (dl8 emb tl hC d a b c z ha hb hc ho hbx) ?_;rintro v s ⟨hv,h1⟩;obtain ⟨z1,hz1⟩:=h1.box;refine ⟨h1.next,?_⟩;have key:∀ x y:Nat,((x=a∧y=b)∨(x=b∧y=a))→v=.tuple [.int .i64 x,.int .i64 y]→x<d.size∧y<d.size:=fun x y h _=>by omega
 obtain ⟨x,y,hxy,rfl⟩:∃ x y:Nat,((x=a∧y=b)∨(x=b∧y=a))∧v=.tuple [.int .i64 x,.int .i64 y]:=by
  rcases hv with rfl|rfl
  ·exact ⟨a,b,.inl ⟨rfl,rfl⟩,rfl⟩
  ·exact ⟨b,a,.inr ⟨rfl,rfl⟩,rfl⟩
 have hx:x<d.size:=by omega
 have hy:y<d.size:=by omega
 have ho1:s.obj id=some (.row (az5 emb tl d)):=by rw[h1.other id (Ne.symm hc)]; exact ho
 simp only[go_sem];refine ad3 fok327 (dl8 emb tl hC d y e c z1 hy he hc ho1 hz1) ?_;rintro v s2 ⟨hv,h2⟩;obtain ⟨z2,hz2⟩:=h2.box;refine ⟨h2.next,?_⟩
 obtain ⟨p,q,hpq,rfl⟩:∃ p q:Nat,((p=y∧q=e)∨(p=e∧q=y))∧v=.tuple [.int .i64 p,.int .i64 q]:=by
  rcases hv with rfl|rfl
  ·exact ⟨y,e,.inl ⟨rfl,rfl⟩,rfl⟩
  ·exact ⟨e,y,.inr ⟨rfl,rfl⟩,rfl⟩
 have hp:p<d.size:=by omega
 have ho2:s2.obj id=some (.row (az5 emb tl d)):=by rw[h2.other id (Ne.symm hc)]; exact ho1
 simp only[go_sem];refine ad3 fok327 (dl8 emb tl hC d x p c z2 hx hp hc ho2 hz2) ?_;rintro v s3 ⟨hv,h3⟩;refine ⟨h3.next,?_⟩
 obtain ⟨m,n,hmn,rfl⟩:∃ m n:Nat,((m=x∧n=p)∨(m=p∧n=x))∧v=.tuple [.int .i64 m,.int .i64 n]:=by
  rcases hv with rfl|rfl
  ·exact ⟨x,p,.inl ⟨rfl,rfl⟩,rfl⟩
  ·exact ⟨p,x,.inr ⟨rfl,rfl⟩,rfl⟩
 simp only[go_sem];exact ⟨⟨n,rfl,by omega⟩,(h1.trans h2).trans h3⟩
theorem ef9 (hC:br9 emb cf g first cap){σ:Store}(d:Array α)(a c:Nat)(z:Int)(ha:1≤a)(hb:a+1<d.size)(hz:d.size<2^40)(hc:c≠id)(ho:σ.obj id=some (.row (az5 emb tl d)))(hbx:σ.obj c=some (.cells [.int .i64 z])) :
  C Tryz.prog EE 293 [.slice id 0 d.size 1,.int .i64 a,.ptr c 0,.func (.func g) first cap] σ fun v s=>(∃ m:Nat,v=.int .i64 m∧a-1≤m∧m≤a+1)∧Bx c σ s:=by
 refine C_f fok293 (nZ rfl) ?_;have w1:=bg3 (a:=a) ha (by omega);have w2:=ad6 (i:=a) (by omega);simp only[ic293,go_sem,w1,w2];refine ad3 fok294 (eo5 emb tl hC d (a-1) a (a+1) c z (by omega) (by omega) hb hc ho hbx) ?_;rintro v s ⟨⟨m,rfl,hm⟩,h⟩;refine ⟨h.next,?_⟩;simp only[go_sem];exact ⟨⟨m,rfl,by omega,by omega⟩,h⟩
theorem gp2 (hC:br9 emb cf g first cap){σ:Store}(d:Array α)(a b:Nat)(hab:a+12<b)(hb:b≤d.size)(hz:d.size<2^40)(hid:id<σ.next)(ho:σ.obj id=some (.row (az5 emb tl d))) :
  C Tryz.prog EE 226 [.slice id 0 d.size 1,.int .i64 a,.int .i64 b,.func (.func g) first cap] σ fun v s=>(∃ (m:Nat) (h:Int),v=.tuple [.int .i64 m,.int .i64 h]∧a≤m∧m<b)∧SKp emb tl id d σ s:=by
 refine C_f fok226 (nZ rfl) ?_;obtain ⟨l,hl⟩:∃ l,l=b-a:=⟨_,rfl⟩;have w0:=fg2 (a:=b) (b:=a) (by omega) (by omega);rw[← hl] at w0;have n4:¬ ((4:Int)=0):=by decide
 have q4:IntKind.i64.wrap ((l:Int).tdiv 4)=((l/4:Nat):Int):=by
  have:(l:Int).tdiv 4=((l/4:Nat):Int):=by rw[Int.tdiv_eq_ediv_of_nonneg (by omega)]; omega
  rw[this,wrap64 (by omega) (by omega)]
 have m1:IntKind.i64.wrap (((l/4:Nat):Int)*1)=((l/4:Nat):Int):=by rw[wrap64 (by omega) (by omega)]; omega
 have m2:IntKind.i64.wrap (((l/4:Nat):Int)*2)=((l/4*2:Nat):Int):=by rw[wrap64 (by omega) (by omega)]; omega
 have m3:IntKind.i64.wrap (((l/4:Nat):Int)*3)=((l/4*3:Nat):Int):=by rw[wrap64 (by omega) (by omega)]; omega
 have a1:=fz9 (a:=a) (b:=l/4) (by omega);have a2:=fz9 (a:=a) (b:=l/4*2) (by omega);have a3:=fz9 (a:=a) (b:=l/4*3) (by omega);have c8:(8:Int)≤(l:Int):=by omega
 have hne:σ.next≠id:=by omega
 simp only[ic226,go_sem,w0,n4,q4,m1,m2,m3,a1,a2,a3,c8]
 -- the last median,and what is told of it
 have fin:∀ (u:Store) (i j k:Nat) (z:Int),a≤i→i<b→a≤j→j<b→a≤k→k<b→σ.next<u.next→(∀ x,x<σ.next→u.obj x=σ.obj x)→u.obj σ.next=some (.cells [.int .i64 z])→C Tryz.prog EE 294 [.slice id 0 d.size 1,.int .i64 i,.int .i64 j,.int .i64 k,.ptr σ.next 0,.func (.func g) first cap] u fun v s=>∃ m:Nat,v=.int .i64 m∧a≤m∧m<b∧u.next≤s.next∧(∀ x,x<σ.next→s.obj x=σ.obj x)∧∃ z:Int,s.obj σ.next=some (.cells [.int .i64 z]):=fun u i j k z h1 h2 h3 h4 h5 h6 h7 h8 h9=>
  (eo5 emb tl hC d i j k σ.next z (by omega) (by omega) (by omega) hne (by rw[h8 id hid]; exact ho) h9).mono fun v s ⟨⟨m,e,hm⟩,h⟩=>⟨m,e,by omega,by omega,h.next,fun x hx=>by rw[h.other x (by omega)]; exact h8 x hx,h.box⟩
 have sw:∀ (s:Store) (m:Nat),a≤m→m<b→σ.next≤s.next→(∀ x,x<σ.next→s.obj x=σ.obj x)→∀ h:Int,(∃ (m':Nat) (h':Int),IV.tuple [.int .i64 m,.int .i64 h]=.tuple [.int .i64 m',.int .i64 h']∧a≤m'∧m'<b)∧SKp emb tl id d σ s:=fun s m h1 h2 h3 h4 h=>⟨⟨m,h,rfl,h1,h2⟩,h3,fun x hx _=>h4 x hx,by rw[h4 id hid]; exact ho⟩
 have adj:∀ (u:Store) (i:Nat) (z:Int),a+1≤i→i+1<b→σ.next<u.next→(∀ x,x<σ.next→u.obj x=σ.obj x)→u.obj σ.next=some (.cells [.int .i64 z])→C Tryz.prog EE 293 [.slice id 0 d.size 1,.int .i64 i,.ptr σ.next 0,.func (.func g) first cap] u fun v s=>∃ m:Nat,v=.int .i64 m∧a≤m∧m<b∧u.next≤s.next∧(∀ x,x<σ.next→s.obj x=σ.obj x)∧∃ z:Int,s.obj σ.next=some (.cells [.int .i64 z]):=fun u i z h1 h2 h7 h8 h9=>
  (ef9 emb tl hC d i σ.next z (by omega) (by omega) hz hne (by rw[h8 id hid]; exact ho) h9).mono fun v s ⟨⟨m,e,hm,hm2⟩,h⟩=>⟨m,e,by omega,by omega,h.next,fun x hx=>by rw[h.other x (by omega)]; exact h8 x hx,h.box⟩
 have start:∀ x,x<σ.next→(Store.put ⟨σ.next+1,σ.obj⟩ σ.next (.cells [.int .i64 0])).obj x=σ.obj x:=fun x hx=>by
  have:¬ x=σ.next:=by omega
  simp only[aa4,this,if_false]
 have zero:(Store.put ⟨σ.next+1,σ.obj⟩ σ.next (.cells [.int .i64 0])).obj σ.next=some (.cells [.int .i64 0]):=by simp only[aa4,if_true]
 by_cases h50:50≤l
 ·have c50:(50:Int)≤(l:Int):=by omega
  simp only[go_sem,c50];refine ad3 fok293 (adj _ (a+l/4) 0 (by omega) (by omega) (by first|exact Nat.lt_succ_self _|(simp only[ab1]; omega)) start zero) ?_;rintro v s1 ⟨i,rfl,i1,i2,n1,o1,z1,b1⟩;refine ⟨n1,?_⟩;have n1':σ.next<s1.next:=Nat.lt_of_lt_of_le (by first|exact Nat.lt_succ_self _|(simp only[ab1]; omega)) n1;simp only[go_sem];refine ad3 fok293 (adj s1 (a+l/4*2) z1 (by omega) (by omega) n1' o1 b1) ?_;rintro v s2 ⟨j,rfl,j1,j2,n2,o2,z2,b2⟩;refine ⟨n2,?_⟩;simp only[go_sem];refine ad3 fok293 (adj s2 (a+l/4*3) z2 (by omega) (by omega) (by omega) o2 b2) ?_;rintro v s3 ⟨k,rfl,k1,k2,n3,o3,z3,b3⟩;refine ⟨n3,?_⟩;simp only[go_sem];refine ad3 fok294 (fin s3 i j k z3 i1 i2 j1 j2 k1 k2 (by omega) o3 b3) ?_;rintro v s4 ⟨m,rfl,m1,m2,n4,o4,z4,b4⟩;refine ⟨n4,?_⟩;have hs:=sw s4 m m1 m2 (by omega) o4;by_cases e0:z4=0
  ·simp only[go_sem,b4,e0]; exact hs _
  by_cases e1:z4=12
  ·simp only[go_sem,b4,e0,e1]; exact hs _
  simp only[go_sem,b4,e0,e1]; exact hs _
 ·have c50:¬ (50:Int)≤(l:Int):=by omega
  simp only[go_sem,c50];refine ad3 fok294 (fin _ (a+l/4) (a+l/4*2) (a+l/4*3) 0 (by omega) (by omega) (by omega) (by omega) (by omega) (by omega) (by first|exact Nat.lt_succ_self _|(simp only[ab1]; omega)) start zero) ?_;rintro v s4 ⟨m,rfl,m1,m2,n4,o4,z4,b4⟩;refine ⟨n4,?_⟩;have n4':σ.next≤s4.next:=Nat.le_trans (by first|exact Nat.le_succ _|(simp only[ab1]; omega)) n4;have hs:=sw s4 m m1 m2 n4' o4;by_cases e0:z4=0
  ·simp only[go_sem,b4,e0]; exact hs _
  by_cases e1:z4=12
  ·simp only[go_sem,b4,e0,e1]; exact hs _
  simp only[go_sem,b4,e0,e1]; exact hs _
end
/-! ### Lengths in bits; patterns broken -/
def fy9:List UInt8:=[0,1,2,2,3,3,3,3,4,4,4,4,4,4,4,4,5,5,5,5,5,5,5,5,5,5,5,5,5,5,5,5,6,6,6,6,6,6,6,6,6,6,6,6,6,6,6,6,6,6,6,6,6,6,6,6,6,6,6,6,6,6,6,6,7,7,7,7,7,7,7,7,7,7,7,7,7,7,7,7,7,7,7,7,7,7,7,7,7,7,7,7,7,7,7,7,7,7,7,7,7,7,7,7,7,7,7,7,7,7,7,7,7,7,7,7,7,7,7,7,7,7,7,7,7,7,7,7,8,8,8,8,8,8,8,8,8,8,8,8,8,8,8,8,8,8,8,8,8,8,8,8,8,8,8,8,8,8,8,8,8,8,8,8,8,8,8,8,8,8,8,8,8,8,8,8,8,8,8,8,8,8,8,8,8,8,8,8,8,8,8,8,8,8,8,8,8,8,8,8,8,8,8,8,8,8,8,8,8,8,8,8,8,8,8,8,8,8,8,8,8,8,8,8,8,8,8,8,8,8,8,8,8,8,8,8,8,8,8,8,8,8,8,8,8,8,8,8,8,8,8,8,8,8,8,8]
theorem fz1:∀ n:Nat,n<256→fy9[n]? = some (UInt8.ofNat (Go.Sort.bitsLen n)):=by
 have h:∀ n:Fin 256,fy9[n.1]? = some (UInt8.ofNat (Go.Sort.bitsLen n.1)):=by decide +kernel
 exact fun n hn=>h ⟨n,hn⟩
theorem bx7:∀ n:Nat,n<256→Go.Sort.bitsLen n≤8∧2^Go.Sort.bitsLen n≤2*n+1∧(UInt8.ofNat (Go.Sort.bitsLen n)).toNat=Go.Sort.bitsLen n:=by
 have h:∀ n:Fin 256,Go.Sort.bitsLen n.1≤8∧2^Go.Sort.bitsLen n.1≤2*n.1+1∧(UInt8.ofNat (Go.Sort.bitsLen n.1)).toNat=Go.Sort.bitsLen n.1:=by decide +kernel
 exact fun n hn=>h ⟨n,hn⟩
theorem gp3 {n:Nat}(hn:n<256):df4 (.str [0,1,2,2,3,3,3,3,4,4,4,4,4,4,4,4,5,5,5,5,5,5,5,5,5,5,5,5,5,5,5,5,6,6,6,6,6,6,6,6,6,6,6,6,6,6,6,6,6,6,6,6,6,6,6,6,6,6,6,6,6,6,6,6,7,7,7,7,7,7,7,7,7,7,7,7,7,7,7,7,7,7,7,7,7,7,7,7,7,7,7,7,7,7,7,7,7,7,7,7,7,7,7,7,7,7,7,7,7,7,7,7,7,7,7,7,7,7,7,7,7,7,7,7,7,7,7,7,8,8,8,8,8,8,8,8,8,8,8,8,8,8,8,8,8,8,8,8,8,8,8,8,8,8,8,8,8,8,8,8,8,8,8,8,8,8,8,8,8,8,8,8,8,8,8,8,8,8,8,8,8,8,8,8,8,8,8,8,8,8,8,8,8,8,8,8,8,8,8,8,8,8,8,8,8,8,8,8,8,8,8,8,8,8,8,8,8,8,8,8,8,8,8,8,8,8,8,8,8,8,8,8,8,8,8,8,8,8,8,8,8,8,8,8,8,8,8,8,8,8,8,8,8,8,8,8]) (.int .u8 n)=some (.int .u8 (Go.Sort.bitsLen n:Nat)):=by
 have h1:=fz1 n hn;have h0:(0:Int)≤(n:Int):=by omega
 show (if 0≤(n:Int) then (fy9[((n:Int)).toNat]?).map fun b=>IV.int .u8 b.toNat else none)=_;rw[if_pos h0,Int.toNat_natCast,h1];show some (IV.int .u8 ((UInt8.ofNat (Go.Sort.bitsLen n)).toNat:Nat))=_;rw[(bx7 n hn).2.2]
theorem gp4 (n:Nat)(hn:n<256):PC Tryz.prog EE 232 [.int .u64 n] (.int .i64 (Go.Sort.bitsLen n:Nat)):=by
 refine an7 fok232 (nZ rfl) fun σ=>?_
 have c1:¬ (4294967296:Int)≤n:=by omega
 have c2:¬ (65536:Int)≤n:=by omega
 have c3:¬ (256:Int)≤n:=by omega
 have w1:IntKind.u8.wrap (n:Int)=n:=by
  show (n:Int)%256=n;omega
 have h8:=(bx7 n hn).1;have w2:IntKind.i64.wrap ((Go.Sort.bitsLen n:Nat):Int)=(Go.Sort.bitsLen n:Nat):=wrap64 (by omega) (by omega);have w3:IntKind.i64.wrap (0+((Go.Sort.bitsLen n:Nat):Int))=(Go.Sort.bitsLen n:Nat):=by rw[Int.zero_add]; exact w2
 simp only[ic232,go_sem,c1,c2,c3,w1,gp3 hn,w2,w3,and_self]
theorem gu5 (n:Nat)(hn:n<256):PC Tryz.prog EE 154 [.int .u64 n] (.int .i64 (Go.Sort.bitsLen n:Nat)):=by
 refine an7 fok154 (nZ rfl) fun σ=>?_
 simp only[ic154,go_sem];refine aa5 fok232 (gp4 n hn) ?_;simp only[go_sem,and_self]
theorem hp4 (n:Nat)(hn:n<256):PC Tryz.prog EE 291 [.int .i64 n] (.int .u64 (2^Go.Sort.bitsLen n:Nat)):=by
 refine an7 fok291 (nZ rfl) fun σ=>?_
 have w0:IntKind.u64.wrap (n:Int)=n:=by
  show (n:Int)%18446744073709551616=n;omega
 obtain ⟨h8,hp,_⟩:=bx7 n hn;have h0:(0:Int)≤((Go.Sort.bitsLen n:Nat):Int):=by omega
 have w1:IntKind.u64.wrap (1*2^min (Go.Sort.bitsLen n) 64)=(2^Go.Sort.bitsLen n:Nat):=by
  have e:min (Go.Sort.bitsLen n) 64=Go.Sort.bitsLen n:=Nat.min_eq_left (by omega);rw[e,Int.one_mul];have e2:((2:Int)^Go.Sort.bitsLen n)=((2^Go.Sort.bitsLen n:Nat):Int):=by norm_cast
  rw[e2];have:2^Go.Sort.bitsLen n≤511:=Nat.le_trans hp (by omega);generalize 2^Go.Sort.bitsLen n=q at *;show (q:Int)%18446744073709551616=_;omega
 have b64:IntKind.u64.bits=64:=rfl;simp only[ic291,go_sem,w0];refine aa5 fok154 (gu5 n hn) ?_;simp only[go_sem,h0,b64,w1,and_self]
theorem ff5:∀ n:Nat,1≤n→n<256→2^Go.Sort.bitsLen n≤2*n:=by
 have h:∀ n:Fin 256,1≤n.1→2^Go.Sort.bitsLen n.1≤2*n.1:=by decide +kernel
 exact fun n h1 hn=>h ⟨n,hn⟩ h1
theorem hp5 (a b:Int):∃ c:Nat,c<2^64∧au7 .xor (.int .u64 a) (.int .u64 b)=some (.int .u64 c):=by
 have h:au7 .xor (.int .u64 a) (.int .u64 b)=some (.int .u64 (IntKind.u64.wrap ((BitVec.ofInt 64 a ^^^ BitVec.ofInt 64 b).toNat:Int))):=by simp[au7,dw5]; rfl
 have hl:(BitVec.ofInt 64 a ^^^ BitVec.ofInt 64 b).toNat<2^64:=BitVec.isLt _;refine ⟨_,hl,?_⟩;rw[h];congr 2;show (((BitVec.ofInt 64 a ^^^ BitVec.ofInt 64 b).toNat:Nat):Int)%18446744073709551616=_;omega
theorem iu2 (a b:Nat)(hb:b<2^64):∃ c:Nat,c≤b∧au7 .and (.int .u64 a) (.int .u64 b)=some (.int .u64 c):=by
 have h:au7 .and (.int .u64 a) (.int .u64 b)=some (.int .u64 (IntKind.u64.wrap ((BitVec.ofInt 64 a &&& BitVec.ofInt 64 b).toNat:Int))):=by simp[au7,dw5]; rfl
 have hl:(BitVec.ofInt 64 a &&& BitVec.ofInt 64 b).toNat≤b:=by
  rw[BitVec.toNat_and];refine Nat.le_trans Nat.and_le_right ?_;simp[BitVec.toNat_ofInt];omega
 refine ⟨_,hl,?_⟩;rw[h];congr 2;show (((BitVec.ofInt 64 a &&& BitVec.ofInt 64 b).toNat:Nat):Int)%18446744073709551616=_;omega
theorem hp9 {σ:Store}{r:Nat}{x:Int}(ho:σ.obj r=some (.cells [.int .u64 x])) :
  C Tryz.prog EE 292 [.ptr r 0] σ fun v s=>∃ y:Nat,y<2^64∧v=.int .u64 y∧σ.next≤s.next∧(∀ i,i≠r→s.obj i=σ.obj i)∧s.obj r=some (.cells [.int .u64 y]):=by
 refine C_f fok292 (nZ rfl) ?_;obtain ⟨y1,h1,k1⟩:=hp5 x (IntKind.u64.wrap (x*2^min (13:Int).toNat IntKind.u64.bits));obtain ⟨y2,h2,k2⟩:=hp5 (y1:Int) ((y1:Int).fdiv (2^min (7:Int).toNat IntKind.u64.bits));obtain ⟨y3,h3,k3⟩:=hp5 (y2:Int) (IntKind.u64.wrap ((y2:Int)*2^min (17:Int).toNat IntKind.u64.bits));generalize hA:IntKind.u64.wrap (x*2^min (13:Int).toNat IntKind.u64.bits)=A at *;generalize hB:(y1:Int).fdiv (2^min (7:Int).toNat IntKind.u64.bits)=B at *;generalize hD:IntKind.u64.wrap ((y2:Int)*2^min (17:Int).toNat IntKind.u64.bits)=D at *;have s1:au7 .shl (.int .u64 x) (.int .u64 13)=some (.int .u64 A):=by rw[dq6,if_pos (by decide),hA]
 have s2:au7 .shr (.int .u64 y1) (.int .u64 7)=some (.int .u64 B):=by rw[ea9,if_pos (by decide),hB]
 have s3:au7 .shl (.int .u64 y2) (.int .u64 17)=some (.int .u64 D):=by rw[dq6,if_pos (by decide),hD]
 simp only[ic292,go_sem,ho,s1,s2,s3,k1,k2,k3];exact ⟨y3,h3,by first|rfl|trivial,by first|omega|(simp only[ab1]; omega),fun i hi=>by simp only[hi,if_false],by first|rfl|trivial⟩
section
variable {α:Type} [Inhabited α] (emb:α→Int) (tl:List IV) {cf:α→α→Int} {g:Nat} {first cap:List IV} {id:Nat}
theorem hq5 {σ:Store}(d:Array α)(a b:Nat)(fv:IV)(hab:a+12<b)(hb:b≤d.size)(hz:d.size<256)(hid:id<σ.next)(ho:σ.obj id=some (.row (az5 emb tl d))) :
  C Tryz.prog EE 225 [.slice id 0 d.size 1,.int .i64 a,.int .i64 b,fv] σ fun v s=>v=.tuple []∧∃ d',Go.Sort.PermIn a b d d'∧SKp emb tl id d' σ s:=by
 refine C_f fok225 (nZ rfl) ?_;obtain ⟨l,hl⟩:∃ l,l=b-a:=⟨_,rfl⟩;have w0:=fg2 (a:=b) (b:=a) (by omega) (by omega);rw[← hl] at w0;have n4:¬ ((4:Int)=0):=by decide
 have q4:IntKind.i64.wrap ((l:Int).tdiv 4)=((l/4:Nat):Int):=by
  have:(l:Int).tdiv 4=((l/4:Nat):Int):=by rw[Int.tdiv_eq_ediv_of_nonneg (by omega)]; omega
  rw[this,wrap64 (by omega) (by omega)]
 have m2:IntKind.i64.wrap (((l/4:Nat):Int)*2)=((l/4*2:Nat):Int):=by rw[wrap64 (by omega) (by omega)]; omega
 have a2:=fz9 (a:=a) (b:=l/4*2) (by omega);obtain ⟨base,hbase⟩:∃ base,base+1=a+l/4*2:=⟨a+l/4*2-1,by omega⟩;rw[← hbase] at a2;have a3:IntKind.i64.wrap (((base+1:Nat):Int)-1)=((base+0:Nat):Int):=by rw[wrap64 (by omega) (by omega)]; omega
 have a4:=ad6 (i:=base+1) (by omega);have c8:(8:Int)≤(l:Int):=by omega
 have u0:IntKind.u64.wrap (l:Int)=l:=by
  show (l:Int)%18446744073709551616=l;omega
 have hne:σ.next≠id:=by omega
 have hnp:=hp4 l (by omega);have h2:=ff5 l (by omega) (by omega);obtain ⟨Q,hQ⟩:∃ Q,Q=2^Go.Sort.bitsLen l:=⟨_,rfl⟩;have hQ0:0<Q:=by rw[hQ]; exact Nat.pow_pos (by decide)
 rw[← hQ] at hnp h2;simp only[ic225,go_sem,w0,c8,u0];refine aa5 fok291 hnp ?_;simp only[go_sem,n4,q4,m2,a2,a3];refine ab3 noT (fun k fr t=>∃ (dk:Array α) (y:Int),fr=[(0,.slice id 0 d.size 1),(1,.int .i64 a),(8,.int .i64 l),(9,.ptr σ.next 0),(10,.int .u64 Q),(11,.int .i64 ((base+k:Nat):Int))]∧σ.next<t.next∧(∀ x,x<σ.next→x≠id→t.obj x=σ.obj x)∧t.obj id=some (.row (az5 emb tl dk))∧t.obj σ.next=some (.cells [.int .u64 y])∧dk.size=d.size∧Go.Sort.PermIn a b d dk) 3 ⟨d,l,rfl,by show σ.next<σ.next+1; omega,fun x hx _=>?_,?_,?_,rfl,Go.Sort.permIn_refl d a b⟩ ?_
 ·have:¬ x=σ.next:=by omega
  simp only[aa4,this,if_false]
 ·have:¬ id=σ.next:=by omega
  simp only[aa4,this,if_false]; exact ho
 ·simp only[aa4,if_true]
 rintro k fr t hk ⟨dk,y,rfl,hn,hoth,hrow,hbox,hsz,hP⟩;by_cases h3:k<3
 ·have c1:((base+k:Nat):Int)≤((base+1+1:Nat):Int):=by omega
  have w1:=ad6 (i:=base+k) (by omega);simp only[go_sem,n4,q4,m2,a2,a4,c1];refine ad3 fok292 (hp9 hbox) ?_;rintro v s ⟨y',hy',rfl,hn1,ho1,hb1⟩;refine ⟨hn1,?_⟩
  have u1:IntKind.u64.wrap ((Q:Int)-1)=((Q-1:Nat):Int):=by
   show ((Q:Int)-1)%18446744073709551616=_;omega
  obtain ⟨c,hc1,hc2⟩:=iu2 y' (Q-1) (by omega);have u2:IntKind.i64.wrap (c:Int)=c:=wrap64 (by omega) (by omega);have hrow1:s.obj id=some (.row (az5 emb tl dk)):=by rw[ho1 id (by omega)]; exact hrow
  have goon:∀ (o:Nat),o<l→∀ (U:Store),U.obj=s.obj→s.next≤U.next→True:=fun _ _ _ _ _=>trivial
  by_cases hge:l≤c
  ·have d1:(l:Int)≤c:=by omega
   have u3:=fg2 (a:=c) (b:=l) hge (by omega);obtain ⟨o,hoo⟩:∃ o,o=c-l:=⟨_,rfl⟩;rw[← hoo] at u3;have v1:=fz9 (a:=a) (b:=o) (by omega);have p1:(0:Int)≤((base+k:Nat):Int):=by omega
   have p2:((base+k:Nat):Int)<d.size:=by omega
   have p3:(0:Int)≤((a+o:Nat):Int):=by omega
   have p4:((a+o:Nat):Int)<d.size:=by omega
   obtain ⟨r1,r2,r3,r4,r5⟩:=ah5 emb tl (d:=dk) (i:=base+k) (j:=a+o) (by omega) (by omega);simp only[go_sem,u1,hc2,u2,d1,u3,v1,p1,p2,p3,p4,r1,r2,r3,r4,r5,hrow1,w1,Nat.mul_one];refine ⟨h3,Go.Sort.swp dk (base+k) (a+o),y',rfl,?_,fun x hx hxi=>?_,?_,?_,by rw[swp_size]; exact hsz,Go.Sort.permIn_trans _ _ _ a b hP (Go.Sort.swp_permIn dk a b _ _ (by omega) (by omega) (by omega) (by omega) (by omega))⟩
   ·first|omega|(simp only[ab1]; omega)
   ·simp only[aa4,hxi,if_false]; rw[ho1 x (by omega)]; exact hoth x hx hxi
   ·simp only[aa4,if_true]
   ·simp only[aa4,hne,if_false]; exact hb1
  ·have d1:¬ (l:Int)≤c:=by omega
   have v1:=fz9 (a:=a) (b:=c) (by omega);have p1:(0:Int)≤((base+k:Nat):Int):=by omega
   have p2:((base+k:Nat):Int)<d.size:=by omega
   have p3:(0:Int)≤((a+c:Nat):Int):=by omega
   have p4:((a+c:Nat):Int)<d.size:=by omega
   obtain ⟨r1,r2,r3,r4,r5⟩:=ah5 emb tl (d:=dk) (i:=base+k) (j:=a+c) (by omega) (by omega);simp only[go_sem,u1,hc2,u2,d1,v1,p1,p2,p3,p4,r1,r2,r3,r4,r5,hrow1,w1,Nat.mul_one];refine ⟨h3,Go.Sort.swp dk (base+k) (a+c),y',rfl,?_,fun x hx hxi=>?_,?_,?_,by rw[swp_size]; exact hsz,Go.Sort.permIn_trans _ _ _ a b hP (Go.Sort.swp_permIn dk a b _ _ (by omega) (by omega) (by omega) (by omega) (by omega))⟩
   ·first|omega|(simp only[ab1]; omega)
   ·simp only[aa4,hxi,if_false]; rw[ho1 x (by omega)]; exact hoth x hx hxi
   ·simp only[aa4,if_true]
   ·simp only[aa4,hne,if_false]; exact hb1
 ·have e3:k=3:=by omega
  subst e3;have c1:¬ ((base+3:Nat):Int)≤((base+1+1:Nat):Int):=by omega
  simp only[go_sem,n4,q4,m2,a2,a4,c1];exact ⟨dk,hP,by omega,hoth,hrow⟩
end
end Go.Id.Tryz
