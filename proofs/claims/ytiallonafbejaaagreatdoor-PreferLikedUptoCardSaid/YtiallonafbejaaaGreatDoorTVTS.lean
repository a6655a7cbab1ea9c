/- The law's own: an order over a pool; what is too large; the examples. Conditions: sizes that fit. -/
import Derived.Test.YtiallonafbejaaaGreatDoorTVSL
import Derived.Test.YtiallonafbejaaaGreatDoorTVTB
import Derived.Test.YtiallonafbejaaaGreatDoorFwTe
set_option linter.all false
namespace Go.Id.Tryz
open Go Go.Id Go.Proofs Go.Shelf Go.Id.Md
set_option maxRecDepth 100000
def lgP (m:Int):List Repo→Int→Int→Int×Int
 | [],w,n=>(w,n)
 | r::rs,w,n=>if w<m then lgP m rs (wr (wr (w+1)+szL r.packages m 0)) (wr (n+r.packages.length)) else (w,n)
def dc7 (repos:List Repo)(inst:List Package)(r:Req):Bool:=decide (800≤(lgP 800 repos (szL inst 800 0) inst.length).1)||decide (40<(lgP 800 repos (szL inst 800 0) inst.length).2)||decide (20<r.jobs.length)||decide (20<r.edits.length)
theorem ev5 (repos:List Repo)(inst:List Package)(r:Req)(h1:repos.length<2^62)(h2:inst.length<2^62)(hr:∀ r∈repos,Repo.Ok r)(hi:∀ p∈inst,p.Ok) :
  PC Tryz.prog EE 48 [am5 repos,ak6 inst,.agg r.cs] (.bool (dc7 repos inst r)):=by
 refine ae9 hE fok48 (Nat.le_of_ble_eq_true rfl) (ax2 (bc3 repos) (ap3 inst) (.agg _ (bc9 r))) ?_
 have k2:(r.cs.drop 2).head? = some (cc3 r.jobs):=rfl
 have k3:(r.cs.drop 3).head? = some (bc5 r.edits):=rfl
 unfold dc7
 simp only[ic48,go_sem,al1]
 first|refine aa1 fok118 (bh7 inst 800 h2 hi) ?_|refine aa3 (bh7 inst 800 h2 hi) ?_
 simp only[go_sem]
 refine aa9 noT (fun i fr t=>∃ w n:Int,fr=[(0,am5 repos),(5,.tptr r.cs),(7,.int .i64 w),(8,.int .i64 n),(9,.int .i64 i)]∧lgP 800 repos (szL inst 800 0) inst.length=lgP 800 (repos.drop i) w n) repos.length ⟨_,_,rfl,rfl⟩ ?_
 rintro i fr t hle ⟨w,n,rfl,hf⟩
 by_cases hlt:i<repos.length∧w<800
 ·obtain ⟨hlt,hw⟩:=hlt
  obtain ⟨x,ha,_,hdr,hget,_⟩:=ad1 repos i hlt
  have c1:(i:Int)<repos.length:=by omega
  have c2:(0:Int)≤i:=by omega
  have w1:=ad5 (i:=i) (by omega)
  rw[hdr,lgP,if_pos hw] at hf
  have f1:(x.cs.drop 1).head? = some (ak6 x.packages):=rfl
  simp only[go_sem,c1,c2,hw,hget,ay4,f1]
  first|refine aa1 fok118 (bh7 x.packages 800 (hr x ha).1 (hr x ha).2) ?_|refine aa3 (bh7 x.packages 800 (hr x ha).1 (hr x ha).2) ?_
  simp only[go_sem,c1,c2,hget,ay4,f1,w1]
  exact ⟨hlt,_,_,rfl,hf⟩
 have hw2:lgP 800 (repos.drop i) w n=(w,n):=by
  by_cases hl2:i<repos.length
  ·obtain ⟨x,ha,_,hdr,hget,_⟩:=ad1 repos i hl2
   rw[hdr,lgP,if_neg (fun h=>hlt ⟨hl2,h⟩)]
  ·rw[List.drop_of_length_le (by omega)]; rfl
 rw[hw2] at hf
 rw[hf]
 simp only
 by_cases hl2:i<repos.length
 case' pos=>
  have c1:(i:Int)<repos.length:=by omega
  have hw:¬ w<800:=fun h=>hlt ⟨hl2,h⟩
  have hw':800≤w:=by omega
  simp only[go_sem,c1,hw,hw']
  exact ac8 (by simp)
 have c1:¬ (i:Int)<repos.length:=by omega
 by_cases hw:800≤w
 ·simp only[go_sem,c1,hw]
  exact ac8 (by simp)
 by_cases hn:40<n
 ·simp only[go_sem,c1,hw,hn]
  exact ac8 (by simp)
 by_cases hj:20<r.jobs.length
 ·have hj':(20:Int)<r.jobs.length:=by omega
  simp only[go_sem,c1,hw,hn,k2,hj']
  exact ac8 (by simp[hj])
 have hj':¬ (20:Int)<r.jobs.length:=by omega
 by_cases he:20<r.edits.length
 ·have he':(20:Int)<r.edits.length:=by omega
  simp only[go_sem,c1,hw,hn,k2,k3,hj',he']
  exact ac8 (by simp[he])
 ·have he':¬ (20:Int)<r.edits.length:=by omega
  simp only[go_sem,c1,hw,hn,k2,k3,hj',he']
  exact ac8 (by simp[he,hj])
def ak1 (p:Pool)(r:Req)(n:Nat):OrdM:=⟨⟨p,r⟩,as7 (ab2 p) n⟩
def fo7 (repos:List Repo)(inst:List Package)(r:Req):IV:=match az9 repos inst with
 | .inl p=>if aj6 r p.inst=0 then .tuple [(ak1 p r inst.length).v,(AskM.mk p r).v,p.v,.bool true] else .tuple [.nilptr,.nilptr,.nilptr,.bool false]
 | .inr _=>.tuple [.nilptr,.nilptr,.nilptr,.bool false]
theorem fo8 {repos:List Repo}{inst:List Package}{p:Pool}(hn:az9 repos inst=.inl p):∀ q∈ab2 p,ac3 q=true:=fun q hq=>(ec7 hn q hq).1
theorem dc8 (repos:List Repo)(inst:List Package)(r:Req)(hI:InOK repos inst)(hR:ReqOK r):PC Tryz.prog EE 49 [am5 repos,ak6 inst,.agg r.cs] (fo7 repos inst r):=by
 refine ae9 hE fok49 (Nat.le_of_ble_eq_true rfl) (ax2 (bc3 repos) (ap3 inst) (.agg _ (bc9 r))) ?_
 have hp:=bz5 repos inst hI.r1 hI.i1 hI.s1 hI.rf hI.pf
 unfold fo7
 cases hn:az9 repos inst with
 | inr e=>
  rw[hn] at hp
  have he:¬ e=0:=by rcases fx6 hn with rfl|rfl<;>decide
  simp only[hh7] at hp
  simp only[ic49,go_sem,al1]
  first|refine aa1 fok15 (hp) ?_|refine aa3 (hp) ?_
  simp only[go_sem,he]
  exact .keep _ (.tuple _ (gt7 .nilptr .nilptr .nilptr (.bool _)))
 | inl p=>
  rw[hn] at hp
  have hf:=gi9 hI hn
  have hlen:(ab2 p).length≤256:=by simp only[ab2,List.length_map]; exact ec6 hn
  have ha:=fn8 p r hR hlen fun x hx=>⟨(hf x hx).1,(hf x hx).2.2⟩
  have hb:=ay6 ⟨p,r⟩
  simp only[hh7] at hp
  unfold ho5 at ha
  simp only[ic49,go_sem,al1]
  first|refine aa1 fok15 (hp) ?_|refine aa3 (hp) ?_
  by_cases he:aj6 r p.inst=0
  ·rw[if_pos he] at ha
   have hA:=aok hI hn hR he
   have hP:=ev3 ⟨p,r⟩ inst.length hA (fo8 hn) (fl7 hn)
   have hbo:=an5 (ak1 p r inst.length)
   have hnl:∀ d:TypeId,cc5 (.pointer d) (ak1 p r inst.length).v=some false:=fun _=>rfl
   have hP:PC Tryz.prog EE 119 [(AskM.mk p r).v] (.tuple [(ak1 p r inst.length).v,.int .i64 0]):=hP
   simp only[go_sem,he,as6,ar3]
   first|refine aa1 fok98 (ha) ?_|refine aa3 (ha) ?_
   simp only[go_sem]
   first|refine aa1 fok119 (hP) ?_|refine aa3 (hP) ?_
   simp only[go_sem,hnl]
   exact .keep _ (.tuple _ (gt7 hbo hb (ak9 p) (.bool _)))
  ·rw[if_neg he] at ha
   simp only[go_sem,as6,ar3]
   first|refine aa1 fok98 (ha) ?_|refine aa3 (ha) ?_
   simp only[go_sem,he]
   exact .keep _ (.tuple _ (gt7 .nilptr .nilptr .nilptr (.bool _)))
theorem ook {repos:List Repo}{inst:List Package}{p:Pool}{r:Req}(hI:InOK repos inst)(hn:az9 repos inst=.inl p)(hR:ReqOK r)(he:aj6 r p.inst=0)(n:Nat):OOK (ak1 p r n):=⟨aok hI hn hR he,List.length_map ..⟩
theorem hq9 {q:Package}(h:ac3 q=true):q.evr.rel≠[]:=by
 unfold ac3 az2 az1 at h
 simp only[Bool.and_eq_true,Bool.or_eq_true,decide_eq_true_eq] at h
 intro e
 rw[e] at h
 simp at h
theorem gv5 {p:Pool}{r:Req}{n:Nat}(h:∀ q∈ab2 p,ac3 q=true):∀ k,(ak1 p r n).a.is k=true→((ak1 p r n).a.pk k).evr.rel≠[]:=fun k hk=>by
 obtain ⟨m,rfl,hm⟩:=fo2 hk
 rw[gu6 _ hm]
 exact hq9 (h _ (List.getElem_mem hm))
theorem ck5 (name ver:Str):PC Tryz.prog EE 116 [.str name,.str ver] (.agg (cc2 name ver).cs):=by
 refine ae9 hE fok116 (Nat.le_of_ble_eq_true rfl) (ai3 (.str _) (.str _)) ?_
 simp only[ic116,go_sem]
 exact .agg2 (.cons (dk7 _) (.cons (fl8 _ _) (.cons (dk7 _) (.cons (dk7 _) (.cons (fl8 _ _) (.cons (dk7 _) (.cons .nils (.cons .nils (.cons .nils (.cons .nils (.cons .nils (.cons .nils (.cons .nils (.cons .nils (.cons .nils .nil)))))))))))))))
theorem ge2 (a b:List Int)(h1:a.length<2^62)(h2:b.length<2^62):PC Tryz.prog EE 117 [.tslice (a.map Md.intC),.tslice (b.map Md.intC)] (.bool (decide (a=b))):=by
 refine ae9 hE fok117 (Nat.le_of_ble_eq_true rfl) (ai3 (ao8 _) (ao8 _)) ?_
 have h:=dk6 a b h1 h2
 simp only[ic117,go_sem]
 first|refine aa1 fok37 (h) ?_|refine aa3 (h) ?_
 simp only[go_sem]
 exact ac8 rfl
end Go.Id.Tryz
/- The examples of who is better,walked. Conditions: none. -/
namespace Go.Id.Tryz
open Go Go.Id Go.Proofs Go.Shelf Go.Id.Md
set_option maxRecDepth 100000
def bi5:List Repo:=[⟨1,[cc2 [97] [49],cc2 [97] [50]]⟩,⟨9,[cc2 [97] [49]]⟩]
def dn8:List Package:=[cc2 [122] [48]]
def ar5:OrdM:=ak1 (bp9 bi5 dn8) r15 1
theorem gv6:az9 bi5 dn8=.inl (bp9 bi5 dn8):=by kernel_rfl
theorem hr6:aj6 r15 (bp9 bi5 dn8).inst=0:=by kernel_rfl
theorem gj7:InOK bi5 dn8:=gb9 (by kernel_rfl)
theorem if4:ar5.a.l.length=4:=by kernel_rfl
theorem b21:ar5.better 2 1=true:=by kernel_rfl
theorem b12:ar5.better 1 2=false:=by kernel_rfl
theorem b32:ar5.better 3 2=true:=by kernel_rfl
theorem b03:ar5.better 0 3=true:=by kernel_rfl
theorem c03:decide (ar5.cmp 0 3<0)=true:=by kernel_rfl
theorem c02:decide (ar5.cmp 0 2<0)=true:=by kernel_rfl
theorem c01:decide (ar5.cmp 0 1<0)=true:=by kernel_rfl
theorem c32:decide (ar5.cmp 3 2<0)=true:=by kernel_rfl
theorem c31:decide (ar5.cmp 3 1<0)=true:=by kernel_rfl
theorem c21:decide (ar5.cmp 2 1<0)=true:=by kernel_rfl
theorem fo9:OOK ar5:=ook gj7 gv6 hm8 hr6 1
theorem hr7:∀ k,ar5.a.is k=true→(ar5.a.pk k).evr.rel≠[]:=gv5 (fo8 gv6)
theorem hr8:ar5.sortM [1,2,3,0,1]=[0,3,2,1]:=by
 refine (ar5.sortM_one hr7 ?_ fun x=>?_).symm
 ·have h1:=of_decide_eq_true c03
  have h2:=of_decide_eq_true c02
  have h3:=of_decide_eq_true c01
  have h4:=of_decide_eq_true c32
  have h5:=of_decide_eq_true c31
  have h6:=of_decide_eq_true c21
  simp[h1,h2,h3,h4,h5,h6]
 ·unfold AskM.is
  rw[if4]
  simp only[List.mem_cons,List.not_mem_nil,or_false,Bool.and_eq_true,decide_eq_true_eq]
  omega
theorem if5:PC Tryz.prog EE 49 [am5 bi5,ak6 dn8,.agg r15.cs] (.tuple [ar5.v,(AskM.mk (bp9 bi5 dn8) r15).v,(bp9 bi5 dn8).v,.bool true]):=by
 have h:=dc8 bi5 dn8 r15 gj7 hm8
 unfold fo7 at h
 rw[gv6] at h
 simp only[hr6,if_true] at h
 exact h
theorem bi1:PC Tryz.prog EE 47 [] (.bool true):=by
 refine ae9 hE fok47 (Nat.le_of_ble_eq_true rfl) (fun a h=>by cases h) ?_
 have b1:=ck5 [97] [49]
 have b2:=ck5 [97] [50]
 have b3:=ck5 [122] [48]
 have ho:=if5
 have m21:=ax3 ar5 fo9 2 1
 have m12:=ax3 ar5 fo9 1 2
 have m32:=ax3 ar5 fo9 3 2
 have m03:=ax3 ar5 fo9 0 3
 rw[b21] at m21
 rw[b12] at m12
 rw[b32] at m32
 rw[b03] at m03
 have hs:=fl6 ar5 fo9 hr7 [1,2,3,0,1] rfl gs8
 rw[hr8] at hs
 have ha:=ge2 [0,3,2,1] [0,3,2,1] (by decide) (by decide)
 rw[decide_eq_true rfl] at ha
 have hi:ak6 dn8=.tslice [(cc2 [122] [48]).cs]:=rfl
 have hrep:am5 bi5=.tslice [[.int .i64 1,.tslice [(cc2 [97] [49]).cs,(cc2 [97] [50]).cs]],[.int .i64 9,.tslice [(cc2 [97] [49]).cs]]]:=rfl
 have hr5:r15.cs=[.int .u8 2,.bool false,cc3 [],bc5 [],.int .i64 0]:=rfl
 have hw:∀ {v:IV} {σ:Store},Bnd 0 v→Frz σ (fun _=>true=true) v v:=fun h=>.keep _ (h.weak fun _ _=>rfl)
 have ho2:PC Tryz.prog EE 49 [am5 bi5,ak6 dn8,.agg [.int .u8 2,.bool false,.nilslice,.nilslice,.int .i64 0]] (.tuple [ar5.v,(AskM.mk (bp9 bi5 dn8) r15).v,(bp9 bi5 dn8).v,.bool true]):=dr4 (args':=[am5 bi5,ak6 dn8,.agg r15.cs]) rfl (fun σ i hi=>by
  match i,hi with
  | 0,_=>exact hw (bc3 _)
  | 1,_=>exact hw (ap3 _)
  | 2,_=>
   rw[hr5]
   exact .agg2 (.cons (hw (.int _ _)) (.cons (hw (.bool _)) (.cons .nils (.cons .nils (.cons (hw (.int _ _)) .nil)))))) ho
 have hcs1:(cc2 [97] [49]).cs=[.str [97],.int .i64 0,.str [49],.str [49],.int .u8 2,.str [],.tslice [],.tslice [],.tslice [],.tslice [],.tslice [],.tslice [],.tslice [],.tslice [],.tslice []]:=rfl
 have hcs2:(cc2 [97] [50]).cs=[.str [97],.int .i64 0,.str [50],.str [49],.int .u8 2,.str [],.tslice [],.tslice [],.tslice [],.tslice [],.tslice [],.tslice [],.tslice [],.tslice [],.tslice []]:=rfl
 have hcs3:(cc2 [122] [48]).cs=[.str [122],.int .i64 0,.str [48],.str [49],.int .u8 2,.str [],.tslice [],.tslice [],.tslice [],.tslice [],.tslice [],.tslice [],.tslice [],.tslice [],.tslice []]:=rfl
 rw[hi,hrep,hcs1,hcs2,hcs3] at ho2
 rw[hcs1] at b1
 rw[hcs2] at b2
 rw[hcs3] at b3
 generalize ar5.v=O at *
 generalize (AskM.mk (bp9 bi5 dn8) r15).v=A1 at *
 generalize (bp9 bi5 dn8).v=P1 at *
 simp only[List.map_cons,List.map_nil,Md.intC] at hs ha
 simp only[ic47,go_sem]
 first|refine aa1 fok116 (b1) ?_|refine aa3 (b1) ?_
 simp only[go_sem]
 first|refine aa1 fok116 (b2) ?_|refine aa3 (b2) ?_
 simp only[go_sem]
 first|refine aa1 fok116 (b1) ?_|refine aa3 (b1) ?_
 simp only[go_sem]
 first|refine aa1 fok116 (b3) ?_|refine aa3 (b3) ?_
 simp only[go_sem]
 first|refine aa1 fok49 (ho2) ?_|refine aa3 (ho2) ?_
 simp only[go_sem]
 first|refine aa1 fok51 (m21) ?_|refine aa3 (m21) ?_
 simp only[go_sem]
 first|refine aa1 fok51 (m12) ?_|refine aa3 (m12) ?_
 simp only[go_sem]
 first|refine aa1 fok51 (m32) ?_|refine aa3 (m32) ?_
 simp only[go_sem]
 first|refine aa1 fok51 (m03) ?_|refine aa3 (m03) ?_
 simp only[go_sem]
 first|refine aa1 fok52 (hs) ?_|refine aa3 (hs) ?_
 simp only[go_sem]
 first|refine aa1 fok117 (ha) ?_|refine aa3 (ha) ?_
 simp only[go_sem]
 exact ac8 rfl
end Go.Id.Tryz
/- Pools without their last package,or repository: in plain words. Conditions: none; no program in sight. -/
namespace Go.Id.Md
open Go Go.Id
structure OkM (repos:List Repo) (inst:List Package):Prop where
 n:repos.length≤16
 all:inst.length+af1 repos≤256
 inst:inst.all ac3=true
 repos:∀ r∈repos,0≤r.priority∧r.priority≤1024∧r.packages.all ac3=true
theorem dm9:∀ (rs:List Repo) (i:Nat) (st:List PRow×Nms),(∀ r∈rs,0≤r.priority∧r.priority≤1024∧r.packages.all ac3=true)→∃ out,ad9 i rs st=some out:=by
 intro rs
 induction rs with
 | nil=>intro i st _; exact ⟨st,rfl⟩
 | cons r rs ih=>
  intro i st h
  obtain ⟨h1,h2,h3⟩:=h r List.mem_cons_self
  simp only[ad9]
  rw[if_neg (by rw[h3]; simp; omega)]
  exact ih _ _ fun x hx=>h x (List.mem_cons_of_mem _ hx)
theorem cl9:∀ (rs:List Repo) (i:Nat) (st out:List PRow×Nms),ad9 i rs st=some out→∀ r∈rs,0≤r.priority∧r.priority≤1024∧r.packages.all ac3=true:=by
 intro rs
 induction rs with
 | nil=>intro i st out _ r hr; cases hr
 | cons x xs ih=>
  intro i st out h r hr
  simp only[ad9] at h
  split at h
  ·cases h
  ·rename_i hc
   rcases List.mem_cons.1 hr with rfl|hr
   ·refine ⟨by omega,by omega,?_⟩
    cases hb:r.packages.all ac3 with
    | true=>rfl
    | false=>exact absurd (.inr (.inr hb)) hc
   ·exact ih _ _ _ h r hr
theorem OkM.new {repos:List Repo}{inst:List Package}(h:OkM repos inst):∃ p,az9 repos inst=.inl p:=by
 obtain ⟨⟨rows,nm⟩,ho⟩:=dm9 repos 0 (rowsOf inst (-1) 1025,cl6 [] 0 inst) h.repos
 unfold az9
 have:=h.n
 have:=h.all
 rw[if_neg (by omega),if_neg (by rw[h.inst]; simp),ho]
 exact ⟨_,rfl⟩
theorem ee6 {repos:List Repo}{inst:List Package}{p:Pool}(h:az9 repos inst=.inl p):OkM repos inst:=by
 obtain ⟨h1,h2,h3,_⟩:=bh8 h
 refine ⟨h1,h2,h3,?_⟩
 unfold az9 at h
 split at h
 ·cases h
 split at h
 ·cases h
 split at h
 ·rename_i rows nm hr
  exact cl9 _ _ _ _ hr
 ·cases h
theorem ev6 (a b:List Repo):af1 (a++b)=af1 a+af1 b:=by simp[af1]
theorem OkM.last {a:List Repo}{l:Repo}{inst:List Package}{ps:List Package}(h:OkM (a++[l]) inst)(hp:∀ p∈ps,p∈l.packages)(hl:ps.length≤l.packages.length):OkM (a++[⟨l.priority,ps⟩]) inst where
 n:=by have:=h.n; rw[List.length_append] at this ⊢; exact this
 all:=by
  have:=h.all
  rw[ev6] at this ⊢
  have e:af1 [l]=l.packages.length:=by simp[af1]
  have e2:af1 [⟨l.priority,ps⟩]=ps.length:=by simp[af1]
  omega
 inst:=h.inst
 repos:=fun r hr=>by
  rcases List.mem_append.1 hr with hr|hr
  ·exact h.repos r (List.mem_append_left _ hr)
  ·rw[List.mem_singleton] at hr
   subst hr
   obtain ⟨h1,h2,h3⟩:=h.repos l (by simp)
   exact ⟨h1,h2,List.all_eq_true.2 fun p hp'=>List.all_eq_true.1 h3 p (hp p hp')⟩
end Go.Id.Md
/- Pools whose packages were altered: in plain words. Conditions: none; no program in sight. -/
namespace Go.Id.Md
open Go Go.Id
def fp1:Str:=[111,116,104,101,114]
def af6 (q:Package):Package:={ q with vendor:=[],suggests:=[],enhances:=[] }
def ak2 (q:Package):Package:={ q with vendor:=fp1 }
def noV (q:Package):Package:={ q with vendor:=[] }
def ba1 (f:Package→Package)(l:List Repo):List Repo:=l.map fun r=>⟨r.priority,r.packages.map f⟩
theorem ee7 {q:Package}(h:ac3 q=true):ac3 (af6 q)=true:=by
 unfold ac3 at h ⊢
 simp only[Bool.and_eq_true,decide_eq_true_eq] at h ⊢
 obtain ⟨⟨⟨⟨⟨⟨⟨⟨⟨⟨⟨⟨⟨⟨h1,h2⟩,h3⟩,h4⟩,h5⟩,h6⟩,h7⟩,h8⟩,h9⟩,h10⟩,h11⟩,h12⟩,h13⟩,h14⟩,h15⟩:=h
 exact ⟨⟨⟨⟨⟨⟨⟨⟨⟨⟨⟨⟨⟨⟨h1,h2⟩,h3⟩,h4⟩,Nat.zero_le _⟩,h6⟩,h7⟩,h8⟩,h9⟩,h10⟩,h11⟩,h12⟩,h13⟩,rfl⟩,rfl⟩
theorem ge3 {q:Package}(h:ac3 q=true):ac3 (ak2 q)=true:=by
 unfold ac3 at h ⊢
 simp only[Bool.and_eq_true,decide_eq_true_eq] at h ⊢
 obtain ⟨⟨⟨⟨⟨⟨⟨⟨⟨⟨⟨⟨⟨⟨h1,h2⟩,h3⟩,h4⟩,h5⟩,h6⟩,h7⟩,h8⟩,h9⟩,h10⟩,h11⟩,h12⟩,h13⟩,h14⟩,h15⟩:=h
 exact ⟨⟨⟨⟨⟨⟨⟨⟨⟨⟨⟨⟨⟨⟨h1,h2⟩,h3⟩,h4⟩,(by decide:fp1.length≤64)⟩,h6⟩,h7⟩,h8⟩,h9⟩,h10⟩,h11⟩,h12⟩,h13⟩,h14⟩,h15⟩
theorem bi2 (f:Package→Package)(l:List Repo):(ba1 f l).length=l.length:=by simp[ba1]
theorem ee8 (f:Package→Package)(l:List Repo):af1 (ba1 f l)=af1 l:=by
 unfold af1 ba1
 rw[List.map_map]
 congr 1
 exact List.map_congr_left fun r _=>List.length_map ..
theorem OkM.map {repos:List Repo}{inst:List Package}{f g:Package→Package}(h:OkM repos inst)(hf:∀ q,ac3 q=true→ac3 (f q)=true)(hg:∀ q,ac3 q=true→ac3 (g q)=true):OkM (ba1 f repos) (inst.map g) where
 n:=by rw[bi2]; exact h.n
 all:=by rw[ee8,List.length_map]; exact h.all
 inst:=List.all_eq_true.2 fun x hx=>by
  obtain ⟨y,hy,rfl⟩:=List.mem_map.1 hx
  exact hg y (List.all_eq_true.1 h.inst y hy)
 repos:=fun r hr=>by
  obtain ⟨y,hy,rfl⟩:=List.mem_map.1 hr
  obtain ⟨h1,h2,h3⟩:=h.repos y hy
  refine ⟨h1,h2,List.all_eq_true.2 fun x hx=>?_⟩
  obtain ⟨z,hz,rfl⟩:=List.mem_map.1 hx
  exact hf z (List.all_eq_true.1 h3 z hz)
def onP (f:Package→Package)(r:PRow):PRow:=⟨f r.pkg,r.repo,r.prio⟩
theorem cx1 (f:Package→Package)(l:List Package)(a b:Int):rowsOf (l.map f) a b=(rowsOf l a b).map (onP f):=by simp[rowsOf,onP]
theorem dc9 (f:Package→Package):∀ (l:List Repo) (i:Nat),ae1 i (ba1 f l)=(ae1 i l).map (onP f):=by
 intro l
 induction l with
 | nil=>intro i; rfl
 | cons r rs ih=>
  intro i
  have h:ba1 f (r::rs)=⟨r.priority,r.packages.map f⟩::ba1 f rs:=rfl
  rw[h,ae1,ae1,ih,List.map_append,cx1]
theorem fp3 {repos:List Repo}{inst:List Package}{p:Pool}{f g:Package→Package}(h:az9 repos inst=.inl p)(hf:∀ q,ac3 q=true→ac3 (f q)=true)(hg:∀ q,ac3 q=true→ac3 (g q)=true) :
  ∃ p',az9 (ba1 f repos) (inst.map g)=.inl p'∧p'.inst=p.inst∧p.inst=inst.length∧p.rows=rowsOf inst (-1) 1025++ae1 0 repos∧p'.rows=(rowsOf inst (-1) 1025).map (onP g)++(ae1 0 repos).map (onP f):=by
 obtain ⟨p',hp⟩:=((ee6 h).map hf hg).new
 obtain ⟨h1,h2⟩:=cd4 h
 obtain ⟨h3,h4⟩:=cd4 hp
 refine ⟨p',hp,by rw[h4,h2,List.length_map],h2,h1,?_⟩
 rw[h3,cx1,dc9]
theorem fp4 {repos:List Repo}{inst:List Package}{p p':Pool}(h1:p.rows=rowsOf inst (-1) 1025++ae1 0 repos)(h2:p'.rows=(rowsOf inst (-1) 1025).map (onP af6)++(ae1 0 repos).map (onP af6)):ab2 p'=(ab2 p).map af6:=by
 unfold ab2
 rw[h1,h2,← List.map_append,List.map_map,List.map_map]
 rfl
theorem ge4 {repos:List Repo}{inst:List Package}{p p':Pool}(h1:p.rows=rowsOf inst (-1) 1025++ae1 0 repos)(h2:p'.rows=(rowsOf inst (-1) 1025).map (onP id)++(ae1 0 repos).map (onP ak2)):(ab2 p').map noV=(ab2 p).map noV∧p'.rows.map (·.prio)=p.rows.map (·.prio):=by
 unfold ab2
 rw[h1,h2]
 simp only[List.map_append,List.map_map]
 exact ⟨rfl,rfl⟩
/-! ### Vendors count for nothing -/
theorem ge5 (l:List Package)(d:Dep):ag4 (l.map noV) d=ag4 l d:=by
 unfold ag4 numsOf
 simp only[List.length_map]
 congr 1
 refine List.filter_congr fun n hn=>?_
 have hn:=List.mem_range.1 hn
 simp[List.getD_eq_getElem?_getD,hn]
 try rfl
theorem gv7 (l:List Package)(k:Int)(d:Dep)(fs:List (List Bool→Bool))(st:List Bool):trK (l.map noV) k d fs st=trK l k d fs st:=by
 unfold trK
 rw[ge5]
mutual
theorem gj8 (l:List Package):∀ (r:Rich) (st:List Bool),r.tr (l.map noV) st=r.tr l st
 | .mk k d xs,st=>by
  simp only[Rich.tr]
  rw[fp5 l xs,gv7]
theorem fp5 (l:List Package):∀ (rs:List Rich),Rich.trs (l.map noV) rs=Rich.trs l rs
 | []=>rfl
 | r::rs=>by
  simp only[Rich.trs]
  rw[fp5 l rs]
  congr 1
  funext st
  exact gj8 l r st
end
theorem gv8 (l:List Package)(zs:List Int)(r:Rich):ew2 (l.map noV) zs r=ew2 l zs r:=by
 unfold ew2
 rw[gj8,List.length_map]
def cx2 (L:List Package):List Dep:=L.flatMap fun q=>q.suggests.flatMap Rich.atoms
def bi9 (l:List Package)(n:Nat)(q:Package):Bool:=((cx2 (l.take n)).any fun d=>provides q d)||q.enhances.any fun r=>ew2 l (al6 (fun _=>true) n) r
theorem fp6 (l:List Package):cx2 (l.map noV)=cx2 l:=by
 unfold cx2
 rw[List.flatMap_map]; rfl
theorem dn1 (l:List Package)(n:Nat):(l.map noV).map (bi9 (l.map noV) n)=l.map (bi9 l n):=by
 rw[List.map_map]
 refine List.map_congr_left fun q _=>?_
 show bi9 (l.map noV) n (noV q)=bi9 l n q
 unfold bi9
 rw[← List.map_take,fp6]
 congr 1
 show (q.enhances.any fun r=>ew2 (l.map noV) (al6 (fun _=>true) n) r)=_
 congr 1
 funext r
 exact gv8 l _ r
theorem ev7 {l l':List Package}(h:l'.map noV=l.map noV)(n:Nat):l'.map (bi9 l' n)=l.map (bi9 l n):=by
 rw[← dn1 l',← dn1 l,h]
theorem ev8 (l:List Package)(n:Nat):∀ b∈(l.map af6).map (bi9 (l.map af6) n),b=false:=by
 intro b hb
 obtain ⟨q,hq,rfl⟩:=List.mem_map.1 hb
 obtain ⟨q0,_,rfl⟩:=List.mem_map.1 hq
 have h1:cx2 ((l.map af6).take n)=[]:=by
  unfold cx2
  rw[← List.map_take,List.flatMap_map]
  exact List.flatMap_eq_nil_iff.2 fun x _=>rfl
 unfold bi9
 rw[h1]; rfl
theorem hr9 {l l':List Package}(h:l'.map noV=l.map noV)(n:Nat):noV (l'.getD n default)=noV (l.getD n default):=by
 have hl:l'.length=l.length:=by have:=congrArg List.length h; simpa using this
 by_cases hn:n<l.length
 ·have h1:(l'.map noV).getD n default=(l.map noV).getD n default:=by rw[h]
  simpa [List.getD_eq_getElem?_getD,hn,hl] using h1
 ·simp[List.getD_eq_getElem?_getD,hn,hl]
theorem dw6 {o o':OrdM}(h1:o'.a.l.map noV=o.a.l.map noV)(h2:o'.a.p.rows.map (·.prio)=o.a.p.rows.map (·.prio))(h3:o'.a.r.arch=o.a.r.arch)(h4:o'.liked=o.liked)(n m:Int):o'.better n m=o.better n m:=by
 have hl:o'.a.l.length=o.a.l.length:=by have:=congrArg List.length h1; simpa using this
 have hi:∀ n,o'.a.is n=o.a.is n:=fun n=>by unfold AskM.is; rw[hl]
 have hpk:∀ n,noV (o'.a.pk n)=noV (o.a.pk n):=fun n=>hr9 h1 n.toNat
 have ha:∀ n,(o'.a.pk n).arch=(o.a.pk n).arch:=fun n=>(Package.mk.inj (hpk n)).2.2.1
 have he:∀ n,(o'.a.pk n).evr=(o.a.pk n).evr:=fun n=>(Package.mk.inj (hpk n)).2.1
 have hf:∀ n,o'.a.fits n=o.a.fits n:=fun n=>by unfold AskM.fits; rw[hi,h3,ha]
 have hk:∀ n,o'.lk n=o.lk n:=fun n=>by unfold OrdM.lk; rw[h4]
 have hp:∀ n,o'.prio n=o.prio n:=fun n=>by
  have hlr:o'.a.p.rows.length=o.a.p.rows.length:=by have:=congrArg List.length h2; simpa using this
  unfold OrdM.prio
  by_cases hn:n.toNat<o.a.p.rows.length
  ·have h5:(o'.a.p.rows.map (·.prio)).getD n.toNat 0=(o.a.p.rows.map (·.prio)).getD n.toNat 0:=by rw[h2]
   simpa [List.getD_eq_getElem?_getD,hn,hlr] using h5
  ·simp[List.getD_eq_getElem?_getD,hn,hlr]
 unfold OrdM.better OrdM.cmp
 simp only[hi,hf,h3,ha,he,hk,hp]
theorem fp7 {o o':OrdM}(hl:o'.a.l.length=o.a.l.length)(h4:o'.liked=o.liked)(n:Int):o'.likes n=o.likes n:=by
 unfold OrdM.likes OrdM.lk AskM.is
 rw[h4,hl]
/-! ### Who is installed is better -/
def Pool.repoOf (p:Pool)(n:Int):Int:=if 0≤n∧n<p.rows.length then (p.rows.getD n.toNat ⟨default,0,0⟩).repo else -1
theorem bq7 {r:PRow}:∀ (l:List Repo) (i:Nat),r∈ae1 i l→0≤r.repo∧∃ x∈l,r.prio=x.priority:=by
 intro l
 induction l with
 | nil=>intro i h; cases h
 | cons x xs ih=>
  intro i h
  rw[ae1] at h
  rcases List.mem_append.1 h with h|h
  ·obtain ⟨q,_,rfl⟩:=List.mem_map.1 h
   exact ⟨Int.natCast_nonneg _,x,List.mem_cons_self,rfl⟩
  ·obtain ⟨h1,y,hy,h2⟩:=ih _ h
   exact ⟨h1,y,List.mem_cons_of_mem _ hy,h2⟩
theorem dw7 {repos:List Repo}{inst:List Package}{o:OrdM}(h:az9 repos inst=.inl o.a.p){n m:Int}(hn:o.a.is n=true)(hm:o.a.is m=true)(h1:o.a.p.repoOf n<0)(h2:0≤o.a.p.repoOf m)(h3:(o.a.pk n).arch=(o.a.pk m).arch):o.better n m=true:=by
 have hr:=(cd4 h).1
 have hok:=ee6 h
 have hlen:o.a.l.length=o.a.p.rows.length:=by simp[AskM.l,ab2]
 have hat:∀ k:Int,o.a.is k=true→∃ x∈o.a.p.rows,o.a.p.repoOf k=x.repo∧o.prio k=x.prio:=fun k hk=>by
  unfold AskM.is at hk
  simp only[Bool.and_eq_true,decide_eq_true_eq] at hk
  have hk2:k.toNat<o.a.p.rows.length:=by omega
  refine ⟨o.a.p.rows[k.toNat],List.getElem_mem hk2,?_,?_⟩
  ·unfold Pool.repoOf
   rw[if_pos (by omega)]
   simp[List.getD_eq_getElem?_getD,hk2]
  ·unfold OrdM.prio
   simp[List.getD_eq_getElem?_getD,hk2]
 obtain ⟨x,hx,x1,x2⟩:=hat n hn
 obtain ⟨y,hy,y1,y2⟩:=hat m hm
 rw[hr] at hx hy
 have px:x.prio=1025:=by
  rcases List.mem_append.1 hx with hx|hx
  ·obtain ⟨q,_,rfl⟩:=List.mem_map.1 hx; rfl
  ·have:=(bq7 _ _ hx).1; omega
 have py:y.prio≤1024:=by
  rcases List.mem_append.1 hy with hy|hy
  ·obtain ⟨q,_,rfl⟩:=List.mem_map.1 hy
   rw[y1] at h2
   exact absurd h2 (by show ¬ (0:Int)≤-1; decide)
  ·obtain ⟨_,r,hr,e⟩:=bq7 _ _ hy
   rw[e]; exact (hok.repos r hr).2.1
 have hf:o.a.fits n=o.a.fits m:=by unfold AskM.fits; rw[hn,hm,h3]
 have hlt:ai7 y.prio x.prio=-1:=by
  unfold ai7
  rw[if_pos (by omega)]
 have hz:∀ a:Int,ai7 a a=0:=fun a=>bq1.2 rfl
 unfold OrdM.better OrdM.cmp Md.lex
 rw[hn,hm,hf,h3,x2,y2,hlt,hz,hz]
 rfl
end Go.Id.Md
/- Regions taken in whatever order,walked: no operation reads what another one writes. Conditions: none; over any program. -/
namespace Go.Id
open Go
variable {P:Program} {E:Nat→IV} {σ σ':Store} {N n0:Nat} {fr:Frm}
def dd2 (P:Program)(E:Nat→IV)(base:Nat):List YO→Frm→Store→(Frm→Store→Prop)→Prop
 | [],fr,σ,K=>K fr σ
 | (i,o,m)::rest,fr,σ,K=>(m=0∧o.guard=none)∧opT noP noC P E o.op (base+i) fr σ fun v σ'=>dd2 P E base rest (fr.setd o.dst v) σ' K
def gv9 (P:Program)(E:Nat→IV)(base:Nat)(rest:List YO)(d:Option Nat)(fr:Frm)(K:Frm→Store→Prop):IV→Store→Prop:=fun v σ'=>dd2 P E base rest (fr.setd d v) σ' K
theorem dw8 {base:Nat}{K:Frm→Store→Prop}:∀ (ops:List YO) (L:List LE) (fr:Frm) (σ:Store),dd2 P E base ops fr σ K→ao2 P E (gg5 base ops) L fr σ K:=by
 intro ops
 induction ops with
 | nil=>intro L fr σ h; exact h
 | cons o os ih=>
  obtain ⟨i,⟨d,g,op⟩,m⟩:=o
  rintro L fr σ ⟨⟨hm,hg⟩,h⟩
  simp only at hm hg h
  subst hm
  subst hg
  refine .inl ⟨rfl,ag6 (fun v s k=>⟨bb2,ih _ _ _ k⟩) (bb5 noT h)⟩
theorem ee9 {id:Nat}{ops:List YO}{keep:List Nat}{Q:Exit→Frm→Store→Prop}(h:dd2 P E σ.next ops fr ⟨σ.next+ops.length,σ.obj⟩ (fv8 keep Q)):RI P E N n0 (.oreg id ops keep) fr σ Q :=
 af3 (show wpT noP noC P E N n0 (.oreg id ops keep) fr σ Q from dw8 ops [] fr _ h)
variable {base i:Nat} {Kf:Frm→Store→Prop} {d:Option Nat} {rest:List YO}
theorem im8:dd2 P E base [] fr σ Kf=Kf fr σ:=nr rfl
theorem im9 {op:IK}:dd2 P E base ((i,⟨d,none,op⟩,0)::rest) fr σ Kf=opT noP noC P E op (base+i) fr σ (gv9 P E base rest d fr Kf):=by
 simp[dd2]; rfl
theorem in1 {d:Nat}(v:IV):gv9 P E base rest (some d) fr Kf v σ=dd2 P E base rest ((d,v)::fr) σ Kf:=nr rfl
theorem if6 (v:IV):gv9 P E base rest none fr Kf v σ=dd2 P E base rest fr σ Kf:=nr rfl
theorem if7:List.length ([]:List YO)=0:=nr rfl
theorem if8 {y:YO}:List.length (y::rest)=rest.length+1:=nr rfl
attribute [go_sem] im8 im9 in1 if6 if7 if8
/-! ### Rows of rows,one cell written -/
theorem fp8 {a t vs:List IV}{k:Nat}(h:k+vs.length≤a.length):ag9 (a++t) k vs=ag9 a k vs++t:=by
 unfold ag9
 rw[List.take_append_of_le_length (by omega),List.drop_append_of_le_length h]
 simp
theorem ev9 {a t vs:List IV}{k:Nat}:ag9 (a++t) (a.length+k) vs=a++ag9 t k vs:=by
 unfold ag9
 rw[List.take_append,List.take_of_length_le (by omega),List.drop_append,List.drop_of_length_le (by omega)]
 have e1:a.length+k-a.length=k:=by omega
 have e2:a.length+k+vs.length-a.length=k+vs.length:=by omega
 rw[e1,e2]; simp
theorem bq8 {n k:Nat}{v:IV}:∀ {L:List (List IV)} {i:Nat},(∀ e∈L,e.length=n)→i<L.length→k<n→ag9 L.flatten (i*n+k) [v]=(L.set i (ag9 (L.getD i []) k [v])).flatten:=by
 intro L
 induction L with
 | nil=>intro i _ hi; exact absurd hi (Nat.not_lt_zero _)
 | cons e es ih=>
  intro i hl hi hk
  have he:=hl e List.mem_cons_self
  cases i with
  | zero=>
   rw[List.flatten_cons,Nat.zero_mul,Nat.zero_add,fp8 (by simp; omega)]
   rfl
  | succ i=>
   have e1:(i+1)*n+k=e.length+(i*n+k):=by rw[he,Nat.add_mul]; omega
   rw[List.flatten_cons,e1,ev9,ih (fun x hx=>hl x (List.mem_cons_of_mem _ hx)) (by simpa using hi) hk]
   rfl
end Go.Id
/- Rows of one's own whose packages are altered: walked. Conditions: sizes that fit. -/
namespace Go.Id.Tryz
open Go Go.Id Go.Proofs Go.Shelf Go.Id.Md
set_option maxRecDepth 100000
theorem bb9 {σ:Store}{id nid:Nat}(l:List Package)(ho:σ.obj id=some (.row []))(hl:l.length<2^31) :
  ∃ w σ',ax4 σ nid 15 (.slice id 0 0 15) (ak6 l)=some (.slice w 0 l.length 15,σ')∧σ'.next=σ.next∧σ'.obj w=some (.row (l.map Package.cs).flatten)∧(w=id∨w=nid)∧∀ j,j≠id→j≠nid→σ'.obj j=σ.obj j:=by
 have ha:∀ x∈l.map Package.cs,x.length=15∧x.all IV.leaf=true:=by
  intro x hx
  obtain ⟨y,_,rfl⟩:=List.mem_map.1 hx
  exact ⟨rfl,rfl⟩
 have hsrc:ba4 σ 15 (.tslice (l.map Package.cs))=some (l.length,(l.map Package.cs).flatten):=by
  have h1:(l.map Package.cs).all (fun e=>e.length==15)=true:=List.all_eq_true.2 fun x hx=>by rw[(ha x hx).1]; rfl
  simp only[ba4,h1,if_true,List.length_map]
 have hx1:(l.map Package.cs).flatten.all IV.leaf=true:=bb8 fun x hx=>(ha x hx).2
 have hx0:¬ ((l.map Package.cs).flatten.all IV.leaf=false):=by rw[hx1]; decide
 unfold ax4
 rw[hsrc]
 simp only[hx0,if_false,ho]
 by_cases h0:l.length=0
 ·have hxs:l=[]:=List.length_eq_zero_iff.1 h0
  subst hxs
  exact ⟨id,σ,rfl,rfl,ho,.inl rfl,fun _ _ _=>rfl⟩
 ·have h2:0+l.length≤2147483648:=by omega
  have h3:l.length≤2147483648:=by omega
  simp only[h0,and_false,if_false,List.length_nil,Nat.zero_mul,Nat.zero_add,List.drop_nil,List.all_nil,and_self,true_and,List.nil_append,h3,if_true]
  refine ⟨nid,_,rfl,rfl,?_,.inr rfl,fun j h3 h4=>?_⟩
  ·rw[aa2,if_pos rfl]
  ·rw[aa2,if_neg h4]
   show (if j=id then none else σ.obj j)=_
   rw[if_neg h3]
theorem dn2 {α:Type}(f g:α→List IV)(l:List α)(i:Nat)(hi:i<l.length)(x:α)(hx:l.drop i=x::l.drop (i+1)):((l.take i).map g++(l.drop i).map f).set i (g x)=(l.take (i+1)).map g++(l.drop (i+1)).map f:=by
 have h1:((l.take i).map g).length=i:=by rw[List.length_map,List.length_take]; omega
 have h2:l[i]=x:=by
  have:=List.drop_eq_getElem_cons hi
  rw[this] at hx; exact (List.cons.inj hx).1
 rw[hx,List.map_cons,List.set_append_right _ _ (by omega),h1,Nat.sub_self,List.set_cons_zero]
 rw[List.take_succ_eq_append_getElem hi,h2,List.map_append]
 simp
theorem dn3 {α:Type}(f g:α→List IV)(l:List α)(i:Nat)(hi:i<l.length)(x:α)(hx:l.drop i=x::l.drop (i+1)):((l.take i).map g++(l.drop i).map f).getD i []=f x:=by
 have h1:((l.take i).map g).length=i:=by rw[List.length_map,List.length_take]; omega
 rw[hx,List.map_cons,List.getD_eq_getElem?_getD,List.getElem?_append_right (by omega),h1,Nat.sub_self]
 rfl
theorem cx3 {f g:Package→List IV}(hf:∀ q,(f q).length=15)(hg:∀ q,(g q).length=15)(l:List Package)(i:Nat):(∀ e∈(l.take i).map g++(l.drop i).map f,e.length=15)∧((l.take i).map g++(l.drop i).map f).length=l.length:=by
 refine ⟨fun e he=>?_,?_⟩
 ·rcases List.mem_append.1 he with he|he<;>obtain ⟨q,_,rfl⟩:=List.mem_map.1 he
  ·exact hg q
  ·exact hf q
 ·rw[List.length_append,List.length_map,List.length_map,List.length_take,List.length_drop]; omega
theorem ef1 {S:Nat→Prop}{σ:Store}{w:Nat}{es0 es:List (List IV)}(ho:σ.obj w=some (.row es0.flatten))(hw:¬ S w)(h0:∀ e∈es0,e.length=15)(h1:∀ e∈es,e.length=15)(hl:es.length=es0.length)
  (h:∀ i,i<es0.length→∀ j,j<15→Frz σ S ((es0.getD i []).getD j .undef) ((es.getD i []).getD j .undef)):Frz σ S (.slice w 0 es0.length 15) (.tslice es):=by
 refine .slice w 0 es0.length 15 es0.flatten es hw (.inr ho) hl (by rw[ah5 h0]; omega) (fun i hi=>h1 _ (aa7 _ (by omega))) (fun i hi j hj=>?_)
 rw[Nat.zero_add,dh6 h0 i j hi hj]
 exact h i hi j hj
def cm1 (q:Package):List IV:=ag9 (ag9 (ag9 q.cs 12 [.nilslice]) 13 [.nilslice]) 5 [.str []]
theorem ag8 (q:Package):q.cs.length=15:=rfl
theorem fp9 {S:Nat→Prop}{σ:Store}(q:Package)(j:Nat)(hj:j<15):Frz σ S ((cm1 q).getD j .undef) ((af6 q).cs.getD j .undef):=by
 have hb:∀ c∈(af6 q).cs,Frz σ S c c:=fun c hc=>.keep _ ((ah9 (af6 q) c hc).weak fun i h=>absurd h (Nat.not_lt_zero _))
 match j,hj with
 | 12,_=>exact .nils
 | 13,_=>exact .nils
 | 0,_=>exact hb _ (aa7 (l:=(af6 q).cs) .undef (i:=0) (by rw[ag8]; decide))
 | 1,_=>exact hb _ (aa7 (l:=(af6 q).cs) .undef (i:=1) (by rw[ag8]; decide))
 | 2,_=>exact hb _ (aa7 (l:=(af6 q).cs) .undef (i:=2) (by rw[ag8]; decide))
 | 3,_=>exact hb _ (aa7 (l:=(af6 q).cs) .undef (i:=3) (by rw[ag8]; decide))
 | 4,_=>exact hb _ (aa7 (l:=(af6 q).cs) .undef (i:=4) (by rw[ag8]; decide))
 | 5,_=>exact hb _ (aa7 (l:=(af6 q).cs) .undef (i:=5) (by rw[ag8]; decide))
 | 6,_=>exact hb _ (aa7 (l:=(af6 q).cs) .undef (i:=6) (by rw[ag8]; decide))
 | 7,_=>exact hb _ (aa7 (l:=(af6 q).cs) .undef (i:=7) (by rw[ag8]; decide))
 | 8,_=>exact hb _ (aa7 (l:=(af6 q).cs) .undef (i:=8) (by rw[ag8]; decide))
 | 9,_=>exact hb _ (aa7 (l:=(af6 q).cs) .undef (i:=9) (by rw[ag8]; decide))
 | 10,_=>exact hb _ (aa7 (l:=(af6 q).cs) .undef (i:=10) (by rw[ag8]; decide))
 | 11,_=>exact hb _ (aa7 (l:=(af6 q).cs) .undef (i:=11) (by rw[ag8]; decide))
 | 14,_=>exact hb _ (aa7 (l:=(af6 q).cs) .undef (i:=14) (by rw[ag8]; decide))
theorem dd3 {α:Type}(f:α→List IV)(l:List α)(i:Nat)(hi:i<l.length):(l.map f).getD i []=f l[i]:=by simp[List.getD_eq_getElem?_getD,hi]
theorem ge6 {S:Nat→Prop}{σ:Store}{w:Nat}(l:List Package)(ho:σ.obj w=some (.row (l.map cm1).flatten))(hw:¬ S w):Frz σ S (.slice w 0 l.length 15) (ak6 (l.map af6)):=by
 have hl:(l.map cm1).length=l.length:=List.length_map ..
 have h:=ef1 (S:=S) (es:=(l.map af6).map Package.cs) ho hw (fun e he=>by obtain ⟨q,_,rfl⟩:=List.mem_map.1 he; rfl) (fun e he=>by obtain ⟨q,_,rfl⟩:=List.mem_map.1 he; rfl) (by simp) (fun i hi j hj=>by
  rw[hl] at hi
  rw[dd3 cm1 l i hi,List.map_map,dd3 _ l i hi]
  exact fp9 l[i] j hj)
 rw[hl] at h
 exact h
theorem dn4 (l:List Package)(hl:l.length<2^20):PC Tryz.prog EE 53 [ak6 l] (ak6 (l.map af6)):=by
 refine ae9 hE fok53 (Nat.le_of_ble_eq_true rfl) (bc6 (ap3 l)) ?_
 obtain ⟨w,σ',ha,hn,ho,_⟩:=bb9 (σ:=(Store.mk 2 emp.obj).put 0 (.row [])) (id:=0) (nid:=1) l (by simp only[aa2,if_true]) (by omega)
 simp only[ic53,go_sem]
 rw[ha]
 simp only[go_sem]
 refine aa9 noT (fun i fr t=>fr=[(3,.slice w 0 l.length 15),(4,.int .i64 i)]∧t.obj w=some (.row ((l.take i).map cm1++(l.drop i).map Package.cs).flatten)) l.length ⟨rfl,by simpa using ho⟩ ?_
 rintro i fr t hle ⟨rfl,hot⟩
 by_cases hlt:i<l.length
 ·obtain ⟨x,hx,_,hdr,hget,htk⟩:=ad1 l i hlt
  have c1:(i:Int)<l.length:=by omega
  have c2:(0:Int)≤i:=by omega
  have w1:=ad5 (i:=i) (by omega)
  obtain ⟨p1,p2⟩:=cx3 (f:=Package.cs) (g:=cm1) (fun q=>rfl) (fun q=>rfl) l i
  have p3:=dn3 Package.cs cm1 l i hlt x hdr
  have p4:=dn2 Package.cs cm1 l i hlt x hdr
  generalize (l.take i).map cm1++(l.drop i).map Package.cs=L at *
  have hiL:i<L.length:=by omega
  have q1:=bq8 (v:=.nilslice) (k:=12) p1 hiL (by decide)
  rw[p3] at q1
  have l1:∀ v:List IV,v.length=15→(∀ e∈L.set i v,e.length=15)∧i<(L.set i v).length∧(L.set i v).getD i []=v:=fun v hv=>⟨fun e he=>by
   rcases List.mem_or_eq_of_mem_set he with h|h
   ·exact p1 e h
   ·rw[h]; exact hv,by rw[List.length_set]; exact hiL,by simp[List.getD_eq_getElem?_getD,hiL]⟩
  have m1:=l1 (ag9 x.cs 12 [.nilslice]) rfl
  have q2:=bq8 (v:=.nilslice) (k:=13) m1.1 m1.2.1 (by decide)
  rw[m1.2.2,List.set_set] at q2
  have m2:=l1 (ag9 (ag9 x.cs 12 [.nilslice]) 13 [.nilslice]) rfl
  have q3:=bq8 (v:=.str []) (k:=5) m2.1 m2.2.1 (by decide)
  rw[m2.2.2,List.set_set] at q3
  have f0:L.flatten.length=l.length*15:=by rw[ah5 p1,p2]
  have f1:(L.set i (ag9 x.cs 12 [.nilslice])).flatten.length=l.length*15:=by rw[ah5 m1.1,List.length_set,p2]
  have f2:(L.set i (ag9 (ag9 x.cs 12 [.nilslice]) 13 [.nilslice])).flatten.length=l.length*15:=by rw[ah5 m2.1,List.length_set,p2]
  have g0:i*15+12+1≤L.flatten.length:=by omega
  have g1:i*15+13+1≤(L.set i (ag9 x.cs 12 [.nilslice])).flatten.length:=by omega
  have g2:i*15+5+1≤(L.set i (ag9 (ag9 x.cs 12 [.nilslice]) 13 [.nilslice])).flatten.length:=by omega
  have p4:(L.set i (ag9 (ag9 (ag9 x.cs 12 [.nilslice]) 13 [.nilslice]) 5 [.str []])).flatten=((l.take (i+1)).map cm1++(l.drop (i+1)).map Package.cs).flatten:=congrArg List.flatten p4
  rw[p4] at q3
  clear p4
  generalize (L.set i (ag9 x.cs 12 [.nilslice])).flatten=L1 at *
  generalize (L.set i (ag9 (ag9 x.cs 12 [.nilslice]) 13 [.nilslice])).flatten=L2 at *
  generalize L.flatten=L0 at *
  simp only[go_sem,c1,c2,hot,Int.toNat_natCast,Nat.zero_add,w1,q1,q2,q3,g0,g1,g2,List.length_cons,List.length_nil,List.all_cons,List.all_nil]
  exact hlt
 ·have hi':i=l.length:=by omega
  subst hi'
  have c1:¬ (l.length:Int)<l.length:=by omega
  rw[List.take_length,List.drop_length,List.map_nil,List.append_nil] at hot
  simp only[go_sem,c1]
  exact ge6 l hot (Nat.not_lt_zero _)
end Go.Id.Tryz
/- Whom an altered pool likes: the law walked. Conditions: sizes that fit. -/
namespace Go.Id.Tryz
open Go Go.Id Go.Proofs Go.Shelf Go.Id.Md
set_option maxRecDepth 100000
def if9:Package:=⟨[],⟨0,[],[]⟩,0,[],[],[],[],[],[],[],[],[],[]⟩
def ce4 (p:Pool)(n:Int):IV:=if 0≤n∧n<p.rows.length then .tuple [.agg (p.rows.getD n.toNat ⟨default,0,0⟩).pkg.cs,.int .i64 0] else .tuple [.agg if9.cs,.int .i64 5]
theorem cx4 (p:Pool)(n:Int)(hf:∀ q∈ab2 p,q.Fit):PC Tryz.prog EE 19 [p.v,.int .i64 n] (ce4 p n):=by
 unfold ce4
 by_cases h:0≤n∧n<p.rows.length
 ·rw[if_pos h]
  obtain ⟨k,rfl⟩:=Int.eq_ofNat_of_zero_le h.1
  have hk:k<p.rows.length:=by omega
  have:=ap4 p k hk (hf _ (List.mem_map.2 ⟨_,List.getElem_mem hk,rfl⟩))
  have e:p.rows.getD (k:Int).toNat ⟨default,0,0⟩=p.rows[k]:=by simp[List.getD_eq_getElem?_getD,hk]
  rw[e]; exact this
 ·rw[if_neg h]
  refine ae9 hE fok19 (Nat.le_of_ble_eq_true rfl) (ai3 (ak9 p) (.int _ _)) ?_
  have hr:=bp5 p.rows n
  have hb:(decide (0≤n)&&decide (n<p.rows.length))=false:=by simpa using h
  rw[hb] at hr
  simp only[ic19,go_sem,Pool.v]
  first|refine aa1 fok73 (hr) ?_|refine aa3 (hr) ?_
  simp only[go_sem]
  exact .tuple2 (.cons (.agg2 (.cons (dk7 _) (.cons (fl8 _ _) (.cons (dk7 _) (.cons (dk7 _) (.cons (fl8 _ _) (.cons (dk7 _) (.cons .nils (.cons .nils (.cons .nils (.cons .nils (.cons .nils (.cons .nils (.cons .nils (.cons .nils (.cons .nils .nil)))))))))))))))) (.cons (fl8 _ _) .nil))
theorem fq1 (r:PRow):(r.cs.drop 15).head? = some (.int .i64 r.repo):=rfl
theorem cb2 (p:Pool)(n:Int):PC Tryz.prog EE 55 [p.v,.int .i64 n] (.int .i64 (p.repoOf n)):=by
 unfold Pool.repoOf
 have hr:=bp5 p.rows n
 refine ak4 fok55 (Nat.le_of_ble_eq_true rfl) fun σ=>?_
 by_cases h:0≤n∧n<p.rows.length
 ·rw[if_pos h]
  obtain ⟨k,rfl⟩:=Int.eq_ofNat_of_zero_le h.1
  have hk:k<p.rows.length:=by omega
  have hb:(decide (0≤(k:Int))&&decide ((k:Int)<p.rows.length))=true:=by simp; omega
  rw[hb] at hr
  have c1:(k:Int)<p.rows.length:=by omega
  have c2:(0:Int)≤k:=by omega
  have hg:(p.rows.map PRow.cs).getD k []=p.rows[k].cs:=by simp[List.getD_eq_getElem?_getD,hk]
  have e:p.rows.getD (k:Int).toNat ⟨default,0,0⟩=p.rows[k]:=by simp[List.getD_eq_getElem?_getD,hk]
  rw[e]
  simp only[ic55,go_sem,Pool.v]
  refine aa1 fok73 hr ?_
  simp only[go_sem,c1,c2,hg,au2,fq1,and_self]
 ·rw[if_neg h]
  have hb:(decide (0≤n)&&decide (n<p.rows.length))=false:=by simpa using h
  rw[hb] at hr
  simp only[ic55,go_sem,Pool.v]
  refine aa1 fok73 hr ?_
  simp only[go_sem,and_self]
/-! ### What is altered fits -/
theorem ef2 {q:Package}(h:q.Fit):(af6 q).Fit where
 name:=h.name
 evr:=h.evr
 prov:=h.prov
 obs:=h.obs
 files:=h.files
 rich:=fun x hx=>by
  simp only[Package.rows,List.mem_cons,List.not_mem_nil,or_false] at hx
  rcases hx with rfl|rfl|rfl|rfl|rfl|rfl
  ·exact h.rich (1,q.requires) (by simp[Package.rows])
  ·exact h.rich (2,q.conflicts) (by simp[Package.rows])
  ·exact h.rich (1,q.recommends) (by simp[Package.rows])
  ·exact h.rich (3,q.supplements) (by simp[Package.rows])
  ·exact ⟨by show (0:Nat)<_; decide,fun r hr=>by cases hr⟩
  ·exact ⟨by show (0:Nat)<_; decide,fun r hr=>by cases hr⟩
theorem fq2 {q:Package}(h:q.Ok):(af6 q).Ok where
 name:=h.name
 vendor:=by show (0:Nat)<_; decide
 evr:=h.evr
 prov:=h.prov
 obs:=h.obs
 files:=h.files
 rich:=fun x hx=>by
  simp only[Package.rows,List.mem_cons,List.not_mem_nil,or_false] at hx
  rcases hx with rfl|rfl|rfl|rfl|rfl|rfl
  ·exact h.rich (1,q.requires) (by simp[Package.rows])
  ·exact h.rich (2,q.conflicts) (by simp[Package.rows])
  ·exact h.rich (1,q.recommends) (by simp[Package.rows])
  ·exact h.rich (3,q.supplements) (by simp[Package.rows])
  ·exact ⟨by show (0:Nat)<_; decide,fun r hr=>by cases hr⟩
  ·exact ⟨by show (0:Nat)<_; decide,fun r hr=>by cases hr⟩
theorem ge7 {q:Package}(h:q.Fit):(ak2 q).Fit:=⟨h.name,h.evr,h.prov,h.obs,h.files,h.rich⟩
theorem gw1 {q:Package}(h:q.Ok):(ak2 q).Ok:=⟨h.name,(by show fp1.length<_; decide),h.evr,h.prov,h.obs,h.files,h.rich⟩
theorem gj9 {repos:List Repo}{inst:List Package}{f g:Package→Package}(h:InOK repos inst)(f1:∀ q:Package,q.Fit→(f q).Fit)(f2:∀ q:Package,q.Ok→(f q).Ok)(g1:∀ q:Package,q.Fit→(g q).Fit)(g2:∀ q:Package,q.Ok→(g q).Ok):InOK (ba1 f repos) (inst.map g) where
 r1:=by rw[bi2]; exact h.r1
 i1:=by rw[List.length_map]; exact h.i1
 s1:=by rw[ee8]; exact h.s1
 rf:=fun r hr=>by
  obtain ⟨y,hy,rfl⟩:=List.mem_map.1 hr
  obtain ⟨h1,h2⟩:=h.rf y hy
  refine ⟨by show (y.packages.map f).length<_; rw[List.length_map]; exact h1,fun p hp=>?_⟩
  obtain ⟨z,hz,rfl⟩:=List.mem_map.1 hp
  exact f1 z (h2 z hz)
 pf:=fun p hp=>by
  obtain ⟨z,hz,rfl⟩:=List.mem_map.1 hp
  exact g1 z (h.pf z hz)
 ro:=fun r hr=>by
  obtain ⟨y,hy,rfl⟩:=List.mem_map.1 hr
  obtain ⟨h1,h2⟩:=h.ro y hy
  refine ⟨by show (y.packages.map f).length<_; rw[List.length_map]; exact h1,fun p hp=>?_⟩
  obtain ⟨z,hz,rfl⟩:=List.mem_map.1 hp
  exact f2 z (h2 z hz)
 po:=fun p hp=>by
  obtain ⟨z,hz,rfl⟩:=List.mem_map.1 hp
  exact g2 z (h.po z hz)
def aq7 (r:Req):Req:=⟨r.arch,false,[],[],0⟩
theorem bq9 (r:Req):ReqOK (aq7 r):=⟨by show (0:Nat)<_; decide,by show (0:Nat)<_; decide,fun j hj=>by cases hj⟩
theorem ca1 {r:Req}{n k:Int}(h:aj6 r n=0):aj6 (aq7 r) k=0:=by
 unfold aj6 at h
 have hm:¬ dv5 r.arch=false:=by
  intro e
  rw[if_pos (.inl e)] at h
  cases h
 unfold aj6 aq7
 simp only[List.length_nil,List.all_nil]
 rw[if_neg (by simp[hm]),if_neg (by omega)]
 rfl
theorem ge8 (q:Package):ag9 q.cs 5 [.str [111,116,104,101,114]]=(ak2 q).cs:=rfl
theorem ge9 {S:Nat→Prop}{σ:Store}{w:Nat}(l:List Package)(ho:σ.obj w=some (.row (l.map fun q=>(ak2 q).cs).flatten))(hw:¬ S w):Frz σ S (.slice w 0 l.length 15) (ak6 (l.map ak2)):=by
 have hl:(l.map fun q=>(ak2 q).cs).length=l.length:=List.length_map ..
 have h:=ef1 (S:=S) (es:=(l.map ak2).map Package.cs) ho hw (fun e he=>by obtain ⟨q,_,rfl⟩:=List.mem_map.1 he; rfl) (fun e he=>by obtain ⟨q,_,rfl⟩:=List.mem_map.1 he; rfl) (by simp) (fun i hi j hj=>by
  rw[hl] at hi
  rw[dd3 _ l i hi,List.map_map,dd3 _ l i hi]
  exact .keep _ ((ah9 (ak2 l[i]) _ (aa7 _ (by rw[ag8]; exact hj))).weak fun i h=>absurd h (Nat.not_lt_zero _)))
 rw[hl] at h
 exact h
end Go.Id.Tryz
