/- Names,versions,architectures,operators: what the program tells of them. Conditions: none. -/
import Derived.Test.YthjhfdodeghbpaaGreatDoorGET
import Derived.Test.YthjhfdodeghbpaaGreatDoorT6
import Derived.Test.YthjhfdodeghbpaaGreatDoorFwQ
import Derived.Test.YthjhfdodeghbpaaGreatDoorMg
import Derived.Test.YthjhfdodeghbpaaGreatDoorFwRo
open Nat renaming le_refl→za,not_lt_zero→zf,reduceLeDiff→zs,reduceEqDiff→zt,add_assoc→zu,le_succ→zy,reduceMul→z1,reduceAdd→z2,lt_succ_self→z6,reduceLT→z7,zero_le→qp,lt_of_lt_of_le→qs
open List renaming length_map→zb,take_of_length_le→zc,mem_map→zd,drop_length→ze,length_append→zg,mem_cons_of_mem→zk,mem_cons_self→zl,map_nil→zm,not_mem_nil→zn,length_cons→zo,mem_cons→zp,append_assoc→zq,length_drop→zr,map_append→zv,getD_eq_getElem?_getD→zx,map_cons→zz,getElem?_eq_getElem→z0,take_length→z4,not_any_eq_all_not→z5,nil_append→z8,length_nil→z9,all_cons→qf,all_nil→qh,length_take→qi,mem_append→qk,all_append→ql,drop_zero→qn,dropWhile_cons→qq,dropWhile_nil→qr,all_eq_false→qt
open Option renaming some→zh,map→qj
open Bool renaming true_and→zi,false_eq_true→zj,false_and→qe,not_true→qg,decide_and→qm,false_or→qo
open Int renaming reduceToNat→zw,reduceAdd→z3,reduceLT→qa,reduceLE→qb,natCast_one→qc,natCast_add→qd
set_option linter.all false
set_option maxRecDepth 100000
set_option maxHeartbeats 1000000
private theorem om{P:Prop}(h:P:=by omega):P:=h
private theorem sm{P:Prop}(h:P:=by simp):P:=h
namespace Go.Id.Tryz
open Go Go.Id Go.Proofs Go.Id.Md
def km1:List (Nat×List IV):=[(0,words.map .str),(1,[.am2 opsL]),(2,[.str [],.int .i64 0,.str [],.int .i64 0,.str [97,110,100],.int .i64 24,.str [111,114],.int .i64 24,.str [105,102],.int .i64 3,.str [117,110,108,101,115,115],.int .i64 3,.str [119,105,116,104],.int .i64 24,.str [119,105,116,104,111,117,116],.int .i64 2])]
abbrev EE:Nat->IV:=gf1 km1
abbrev Pq:=PC Tryz.prog EE
abbrev Cq:=C Tryz.prog EE
def hE:∀g,Bnd 0 (EE g):=ji2 (by kernel_rfl)
def E0:EE 0=.ab5 [.str [97,110,100],.str [111,114],.str [105,102],.str [101,108,115,101],.str [117,110,108,101,115,115],.str [119,105,116,104],.str [119,105,116,104,111,117,116]]:=rfl
def E1:EE 1=.ab5 [.am2 opsL]:=rfl
def ee3 (s:Str)(b:UInt8):Pq 168 [.str s,.int .u8 b.toNat] (.int .i64 (et9 b.toNat s 0)):=by
 refine aw8 fok168 (nZ rfl) λσ=>?_
 have c:(0:Int)<=b.toNat:=om;have a:(b.toNat:Int)<256:=by have:=b.toNat_lt;omega
 simp only[ic168,go_sem,c,a,Int.toNat_natCast,and_self]
def ba9 (s:Str)(b:UInt8):Pq 106 [.str s,.int .u8 b.toNat] (.int .i64 (et9 b.toNat s 0)):=by
 refine aw8 fok106 (nZ rfl) λσ=>?_
 simp only[ic106,go_sem];refine aa4 fok168 (ee3 s b) ?_;simp only[go_sem,and_self]
def ee4 (s t:Str):Pq 169 [.str s,.str t] (.bool (decide (t.length<=s.length)&&decide (s.take t.length=t))):=by
 refine aw8 fok169 (nZ rfl) λσ=>?_
 by_cases h:t.length<=s.length
 .have a:(t.length:Int)<=s.length:=om;have b:(0:Int)<=t.length:=om;simp only[ic169,go_sem,h,a,cw2,cx3,fg8,b,Int.toNat_natCast,qp,and_self,qn,zi,ey2,ey3,qj]
 .have a:¬(t.length:Int)<=s.length:=om;simp only[ic169,go_sem,h,a,qe,and_self]
def ep5 (s t:Str):Pq 108 [.str s,.str t] (.bool (decide (t.length<=s.length)&&decide (s.take t.length=t))):=by
 refine aw8 fok108 (nZ rfl) λσ=>?_
 simp only[ic108,go_sem];refine aa4 fok169 (ee4 s t) ?_;simp only[go_sem,and_self]
def bb1 (a:Int):Pq 51 [.int .u8 a] (.bool (ao7 a)):=by
 refine aw8 fok51 (nZ rfl) λσ=>?_
 by_cases h:1<=a
 .simp only[ic51,go_sem,ao7,h,zi,and_self]
 .simp only[ic51,go_sem,ao7,h,qe,and_self]
def dw3:List IV:=[.str [],.str [110,111,97,114,99,104],.str [120,56,54,95,54,52],.str [105,54,56,54],.str [97,97,114,99,104,54,52]]
def ep6:Pq 160 [] (.agg dw3):=by
 refine af5 hE fok160 (nZ rfl) (λa h=>by cases h) ?_;simp only[ic160,go_sem];exact .keep _ (az5 10 _ (by kernel_rfl))
def cg1 (a:Int):Str:=if a=1 then [110,111,97,114,99,104] else if a=2 then [120,56,54,95,54,52] else if a=3 then [105,54,56,54] else if a=4 then [97,97,114,99,104,54,52] else []
def cg2 (a:Int):decide (cg1 a=[])=!ao7 a:=by
 unfold cg1 ao7
 repeat' split
 all_goals first|(subst_vars;rfl)|skip
 have:¬(1<=a/\a<=4):=om;have h:(decide (1<=a)&&decide (a<=4))=false:=by simpa using this
 rw[h];rfl
def fc7 (a:Int):Pq 95 [.int .u8 a] (.str (cg1 a)):=by
 refine aw8 fok95 (nZ rfl) λσ=>?_
 simp only[ic95,go_sem];refine aa4 fok51 (bb1 a) ?_;simp only[go_sem]
 cases h:ao7 a with
 | false=>
  have c:=cg2 a;rw[h] at c;have b:cg1 a=[]:=by simpa using c
  simp only[go_sem,b,and_self]
 | true=>
  have c:1<=a/\a<=4:=by simpa [ao7] using h
  simp only[go_sem];refine aa4 fok160 ep6 ?_;have b:a=1\/a=2\/a=3\/a=4:=om;rcases b with rfl|rfl|rfl|rfl<;>(simp only[go_sem,dw3];first|rfl|exact ⟨rfl,rfl⟩)
def fn3 (c:UInt8):∀(l:Str) (i:Nat),decide (0<=et9 c.toNat l i)=l.contains c:=by
 intro l
 induction l with
 | nil=>intro i;rfl
 | cons b l ih=>
  intro i;simp only[et9,List.contains_cons];split
  .rename_i h;have:c=b:=(UInt8.toNat_inj.1 h).symm;subst this;simp
  .rename_i h;have:(c==b)=false:=by simp only[beq_eq_false_iff_ne,ne_eq];intro e;subst e;exact h rfl
   rw[this,qo];exact ih (i+1)
def cz5 {p:UInt8->Bool}{s:Str}{i:Nat}(h:i<s.length):(s.take (i+1)).all p=((s.take i).all p&&p s[i]):=by
 rw[List.take_add_one,z0 h];simp only[Option.toList,ql,qf,qh,Bool.and_true]
def bl5 {p:UInt8->Bool}{s:Str}{i:Nat}(h:i<s.length)(hp:p s[i]=false):s.all p=false:=by
 rw[qt];exact ⟨s[i],List.getElem_mem h,by simp[hp]⟩
def dw4 (s:Str)(hs:s.length<2^62):Pq 109 [.str s] (.bool (ay7 s)):=by
 refine aw8 fok109 (nZ rfl) λσ=>?_
 by_cases h0:s=[]
 .subst h0;simp only[ic109,go_sem];rfl
 have hl:1<=s.length:=by cases s with|nil=>exact absurd rfl h0|cons _ _=>simp
 by_cases h1:s.length<=64
 .have h1':¬(64:Int)<s.length:=om;simp only[ic109,go_sem,h0,h1'];refine aa9 noT (λi fr s'=>s'=σ/\fr=[(0,.str s),(13,.int .i64 s.length),(14,.int .i64 i)]/\(s.take i).all bp1=true) s.length ⟨rfl,rfl,rfl⟩ ?_;rintro i fr s' hi ⟨rfl,rfl,ha⟩;by_cases hlt:i<s.length
  .have c1:(i:Int)<s.length:=om;have c2:(0:Int)<=i:=om;simp only[go_sem,c1,c2,z0 hlt];have fin:bp1 s[i]=false->ay7 s=false:=λh=>by simp only[ay7,bl5 hlt h,Bool.and_false]
   have step:bp1 s[i]=true->(s.take (i+1)).all bp1=true:=λh=>by rw[cz5 hlt,ha,h];rfl
   have w1:=ac6 (i:=i) om
   have hv:bp1 s[i]=(decide ((97:Int)<=s[i].toNat)&&decide ((s[i].toNat:Int)<=122)||decide ((65:Int)<=s[i].toNat)&&decide ((s[i].toNat:Int)<=90)||decide ((48:Int)<=s[i].toNat)&&decide ((s[i].toNat:Int)<=57) || [46,95,43,126,94].contains s[i]):=by
    simp only[bp1,gw2];congr 1;congr 1
    .congr 1<;>congr 1<;>(apply decide_eq_decide.2;omega)
    .congr 1<;>(apply decide_eq_decide.2;omega)
   generalize s[i]=b at *
   have last:∀(k1:¬((97:Int)<=b.toNat/\(b.toNat:Int)<=122)) (k2:¬((65:Int)<=b.toNat/\(b.toNat:Int)<=90)) (k3:¬((48:Int)<=b.toNat/\(b.toNat:Int)<=57)),bp1 b=decide (0<=et9 b.toNat [46,95,43,126,94] 0):=λk1 k2 k3=>by
    rw[fn3,hv];simp only[<- qm,decide_eq_false k1,decide_eq_false k2,decide_eq_false k3,qo]
   by_cases k1:(97:Int)<=b.toNat
   .by_cases k2:(b.toNat:Int)<=122
    .simp only[go_sem,k1,k2,w1];exact ⟨hlt,step (by rw[hv];simp only[k1,k2,go_sem])⟩
    .have k3:(65:Int)<=b.toNat:=om;have k4:¬(b.toNat:Int)<=90:=om;have k5:(48:Int)<=b.toNat:=om;have k6:¬(b.toNat:Int)<=57:=om;simp only[go_sem,k1,k2,k3,k4,k5,k6];refine aa4 fok106 (ba9 _ b) ?_;have hl:=last om om om;simp only[go_sem,ge_iff_le,<- hl]
     cases hb:bp1 b with
     | true=>simp only[go_sem,w1];exact ⟨hlt,step hb⟩
     | false=>simp only[go_sem,fin hb,and_self]
   .by_cases k3:(65:Int)<=b.toNat
    .by_cases k4:(b.toNat:Int)<=90
     .simp only[go_sem,k1,k3,k4,w1];exact ⟨hlt,step (by rw[hv];simp only[k1,k3,k4,go_sem])⟩
     .have k5:(48:Int)<=b.toNat:=om;have k6:¬(b.toNat:Int)<=57:=om;simp only[go_sem,k1,k3,k4,k5,k6];refine aa4 fok106 (ba9 _ b) ?_;have hl:=last om om om;simp only[go_sem,ge_iff_le,<- hl]
      cases hb:bp1 b with
      | true=>simp only[go_sem,w1];exact ⟨hlt,step hb⟩
      | false=>simp only[go_sem,fin hb,and_self]
    .by_cases k5:(48:Int)<=b.toNat
     .by_cases k6:(b.toNat:Int)<=57
      .simp only[go_sem,k1,k3,k5,k6,w1];exact ⟨hlt,step (by rw[hv];simp only[k1,k3,k5,k6,go_sem])⟩
      .simp only[go_sem,k1,k3,k5,k6];refine aa4 fok106 (ba9 _ b) ?_;have hl:=last om om om;simp only[go_sem,ge_iff_le,<- hl]
       cases hb:bp1 b with
       | true=>simp only[go_sem,w1];exact ⟨hlt,step hb⟩
       | false=>simp only[go_sem,fin hb,and_self]
     .simp only[go_sem,k1,k3,k5];refine aa4 fok106 (ba9 _ b) ?_;have hl:=last om om om;simp only[go_sem,ge_iff_le,<- hl]
      cases hb:bp1 b with
      | true=>simp only[go_sem,w1];exact ⟨hlt,step hb⟩
      | false=>simp only[go_sem,fin hb,and_self]
  .have hi':i=s.length:=om;have c1:¬(i:Int)<s.length:=om;simp only[go_sem,c1];subst hi';rw[z4] at ha;simp only[ay7,ha,go_sem,hl,h1,and_self]
 .have h1':(64:Int)<s.length:=om;simp only[ic109,go_sem,h0,h1',ay7,h1,Bool.and_false,qe,and_self]
def ep7 (e:EVR)(dep:Bool)(h:e.ver.length<2^62)(g:e.rel.length<2^62):Pq 56 [.agg e.cs,.bool dep] (.bool (bg6 e dep)):=by
 have⟨d,b,a⟩:=e;refine aw8 fok56 (nZ rfl) λσ=>?_
 have f:=dw4 b h;have c:=dw4 a g;by_cases a1:(0:Int)<=d
 .by_cases a2:d<=2147483647
  .simp only[ic56,go_sem,EVR.cs,bg6,a1,a2];refine aa4 fok109 f ?_;simp only[go_sem]
   cases i:ay7 b with
   | false=>simp only[go_sem,and_self]
   | true=>
    simp only[go_sem];refine aa4 fok109 c ?_;simp only[go_sem]
    cases hr:ay7 a with
    | true=>simp only[go_sem,and_self]
    | false=>
     cases dep with
     | true=>
      simp only[go_sem]
      cases a<;>first|rfl|exact ⟨rfl,rfl⟩
     | false=>simp only[go_sem,and_self]
  .simp only[ic56,go_sem,EVR.cs,bg6,a1,a2,and_self]
 .simp only[ic56,go_sem,EVR.cs,bg6,a1,and_self]
def fc8 (n:Int):Pq 107 [.int .u8 n] (.str (fc1 n)):=by
 have⟨_,pf,an,h⟩:=fok107;exact jl7 (g:=1) h E1
def ip1 (n:Int):eb8 n=(decide (n=0) || !decide (fc1 n=[])):=by
 unfold eb8 fc1;by_cases h0:n=0
 .subst h0;rfl
 by_cases e:n=1
 .subst e;rfl
 by_cases d:n=2
 .subst d;rfl
 by_cases c:n=3
 .subst c;rfl
 by_cases b:n=4
 .subst b;rfl
 by_cases a:n=6
 .subst a;rfl
 simp[h0,e,d,c,b,a]
def gh6 (n:Int):Pq 54 [.int .u8 n] (.bool (eb8 n)):=by
 refine aw8 fok54 (nZ rfl) λσ=>?_
 rw[ip1];by_cases h:n=0
 .simp only[ic54,go_sem,h,and_self]
 .simp only[ic54,go_sem,h];refine aa4 fok107 (fc8 n) ?_;simp only[go_sem,and_self]
def jm4 (c:UInt8)(l:Str)(i:Nat):decide (et9 c.toNat l i<0)=!l.contains c:=by
 rw[<- fn3 c l i,<- decide_not];exact decide_eq_decide.2 om
def jb9:List IV:=[.str [97,110,100],.str [111,114],.str [105,102],.str [101,108,115,101],.str [117,110,108,101,115,115],.str [119,105,116,104],.str [119,105,116,104,111,117,116]]
def fn4 {b:UInt8}(h:bg5 b=true):b.toNat<=126:=by
 have:b∈signs:=by simpa [bg5,List.contains_iff_mem] using h
 revert this
 have:∀b∈signs,b.toNat<=126:=by decide +kernel
 exact this b
def cs5 (s:Str)(hs:s.length<2^62):Pq 53 [.str s] (.bool (at5 s)):=by
 refine af5 hE fok53 (nZ rfl) (λa h=>by cases h with|head=>exact .str _|tail _ h=>cases h) ?_;by_cases q:1<=s.length
 .by_cases z:s.length<=64
  .have g:¬(s.length:Int)<1:=om;have r:¬(64:Int)<s.length:=om;simp only[ic53,go_sem,g,r];refine iz5 noT (λm fr σ=>(fr.get 0=.str s/\fr.get 16=.ptr 0 0)/\∃a,σ.obj 0=zh (.bh7 s a)/\a<=s.length/\m=s.length-a/\(s.take a).all bg5=true) s.length ⟨⟨rfl,rfl⟩,0,rfl,qp _,rfl,rfl⟩ ?_;rintro m fr σ ⟨⟨A,e⟩,a,u,hp,rfl,o⟩;by_cases b:a<s.length
   .simp only[go_sem,A,e,u,b,bq3,iz8];by_cases y:s[a].toNat<128
    .rw[fw9 s a b y];by_cases n:s[a].toNat<=126
     .have f:¬(126:Int)<s[a].toNat:=om
      have I:IntKind.u8.wrap (s[a].toNat:Int)=s[a].toNat:=by
       have:=s[a].toNat_lt;simp[IntKind.wrap,IntKind.bits,IntKind.signed];omega
      simp only[go_sem,f,I];refine aa4 (v:=.int .i64 (et9 s[a].toNat signs 0)) fok106 (ba9 signs s[a]) ?_;have hi:decide (et9 s[a].toNat signs 0<0)=!bg5 s[a]:=jm4 s[a] signs 0;simp only[go_sem,hi]
      cases d:bg5 s[a] with
      | true=>
       simp only[go_sem]
       exact ⟨s.length-(a+1),om,a+1,rfl,b,rfl,by rw[cz5 b,o,d];rfl⟩
      | false=>
       simp only[go_sem,at5,bl5 b d];exact ab6 _
     .have f:(126:Int)<s[a].toNat:=om
      have d:bg5 s[a]=false:=by
       cases h:bg5 s[a] with
       | false=>rfl
       | true=>exact absurd (fn4 h) n
      simp only[go_sem,f,at5,bl5 b d];exact ab6 _
    .have p:=decode_high s a b y;generalize Utf8.decode ⟨s.toArray⟩ a=dd at p ⊢;have f:(126:Int)<dd.1:=om
     have d:bg5 s[a]=false:=by
      cases h:bg5 s[a] with
      | false=>rfl
      | true=>have:=fn4 h;omega
     simp only[go_sem,f,at5,bl5 b d];exact ab6 _
   .have j:a=s.length:=om;subst j;rw[z4] at o;simp only[go_sem,A,e,u,bq3,iz8,Nat.lt_irrefl,E0];refine aa9 noT (λi fr σ=>fr=[(0,.str s),(28,.agg jb9),(29,.int .i64 i)]/\∀w∈words.take i,s≠w) 7 ⟨rfl,λw h=>by simp at h⟩ ?_;rintro i fr σ hi ⟨rfl,t⟩;by_cases b:i<7
    .have e1:(i:Int)<7:=om;have e2:(0:Int)<=i:=om;have B:=ac6 (i:=i) om
     obtain ⟨w,p,F,E⟩:∃w,jb9[i]? = zh (.str w)/\words.take (i+1)=words.take i++[w]/\w∈words:=by
      have:i=0\/i=1\/i=2\/i=3\/i=4\/i=5\/i=6:=om;rcases this with rfl|rfl|rfl|rfl|rfl|rfl|rfl<;>exact ⟨_,rfl,rfl,by decide⟩
     simp only[go_sem,e1,e2,Nat.mul_one,p];by_cases c:s=w
     .subst c;have:words.contains s=true:=by simpa using E
      simp only[go_sem,at5,this];exact ab6 _
     .simp only[go_sem,c,B];refine ⟨b,?_⟩;rw[F];intro x D;rcases qk.1 D with h|h
      .exact t x h
      .have:x=w:=by simpa using h
       rw[this];exact c
    .have k:i=7:=om;subst k
     have:words.contains s=false:=by
      cases h:words.contains s with
      | false=>rfl
      | true=>exact absurd rfl (t s (by rw[show words.take 7=words from rfl];simpa using h))
     have H:¬((7:Nat):Int)<7:=om;simp only[go_sem,H,at5,this,q,z,o,Int.lt_irrefl];exact ab6 _
  .have g:¬(s.length:Int)<1:=om;have r:(64:Int)<s.length:=om;simp only[ic53,go_sem,g,r,at5,q,z];exact ab6 _
 .have g:(s.length:Int)<1:=om;simp only[ic53,go_sem,g,at5,q];exact ab6 _
def cs6 (s:Str)(hs:s.length<2^62):Pq 55 [.str s] (.bool (bj8 s)):=by
 refine aw8 fok55 (nZ rfl) λσ=>?_
 simp only[ic55,go_sem];refine aa4 fok53 (cs5 s hs) ?_;simp only[go_sem]
 cases h:at5 s with
 | false=>simp only[go_sem,bj8,h,and_self]
 | true=>
  simp only[go_sem];refine aa4 fok108 (ep5 s [47]) ?_
  have:(decide ([47].length<=s.length)&&decide (s.take [47].length=[47]))=(s.head? == zh 47):=by
   cases s with
   | nil=>rfl
   | cons b l=>simp[eq_comm];by_cases a:b=47<;>simp[a]
  simp only[zo,z9] at this;simp only[go_sem,bj8,h,this,and_self]
def br6 (d:Dep)(g:d.name.length<2^62)(j:d.evr.ver.length<2^62)(i:d.evr.rel.length<2^62):Pq 21 [.agg d.cs] (.bool (ak2 d)):=by
 have⟨name,op,f,a,b⟩:=d;refine aw8 fok21 (nZ rfl) λσ=>?_
 simp only[ic21,go_sem,Dep.cs];refine aa4 fok53 (cs5 name g) ?_;simp only[go_sem]
 cases c:at5 name with
 | false=>simp only[go_sem,ak2,c,and_self]
 | true=>
  simp only[go_sem];refine aa4 fok54 (gh6 op) ?_;simp only[go_sem]
  cases e:eb8 op with
  | false=>simp only[go_sem,ak2,c,e,and_self]
  | true=>
   by_cases h0:op=0
   .subst h0
    have h:ak2 ⟨name,0,f,a,b⟩=(decide (f=0)&&(decide (a=[])&&decide (b=[]))):=by
     simp only[ak2,c,e,go_sem,gw3,EVR.mk.injEq,qm]
    simp only[go_sem,h,and_self]
   .simp only[go_sem,h0];refine aa4 fok55 (cs6 name g) ?_;simp only[go_sem]
    cases hf:bj8 name with
    | true=>simp only[go_sem,ak2,c,e,h0,hf,and_self]
    | false=>
     simp only[go_sem];refine aa4 (v:=.bool (bg6 ⟨f,a,b⟩ true)) fok56 (ep7 ⟨f,a,b⟩ true j i) ?_;simp only[go_sem,ak2,c,e,h0,hf,and_self]
def ac8 {S:Nat->Prop}{s:Store}{a b:Bool}(h:a=b):Frz s S (.bool a) (.bool b):=h▸ab6 a
def bf8 {S:Nat->Prop}{s:Store}{k:IntKind}{a b:Int}(h:a=b):Frz s S (.int k a) (.int k b):=h▸.keep _ (.int _ _)
def cs7 (a:Int):Pq 18 [.int .u8 a] (.bool (ca3 a)):=by
 refine af5 hE fok18 (nZ rfl) (al3 (.int _ _)) ?_;simp only[ic18,go_sem];refine aa4 fok51 (bb1 a) ?_;unfold ca3
 cases ao7 a with
 | false=>simp only[go_sem];exact ac8 rfl
 | true=>
  by_cases h:a=1
  .simp only[go_sem,h];exact ac8 rfl
  .simp only[go_sem,h];exact ac8 (by simp[h])
def fn5 (a b:Int):Pq 172 [.int .u8 a,.int .u8 b] (.bool (en2 a b)):=by
 refine af5 hE fok172 (nZ rfl) (ag7 (.int _ _) (.int _ _)) ?_;have d:=cs7 a;have c:=cs7 b;simp only[ic172,go_sem];refine aa4 fok18 (d) ?_;unfold en2
 cases ca3 a with
 | false=>simp only[go_sem];exact ac8 rfl
 | true=>
  simp only[go_sem];refine aa4 fok18 (c) ?_
  cases ca3 b with
  | false=>simp only[go_sem];exact ac8 rfl
  | true=>
   by_cases h:a=b
   .simp only[go_sem,h];exact ac8 sm
   .simp only[go_sem,h];exact ac8 (by simp[h])
def gh7 (a b:Int):Pq 128 [.int .u8 a,.int .u8 b] (.bool (cy5 a b)):=by
 refine af5 hE fok128 (nZ rfl) (ag7 (.int _ _) (.int _ _)) ?_;have d:=bb1 a;have c:=bb1 b;have hc:=fn5 a b;simp only[ic128,go_sem];refine aa4 fok51 (d) ?_;unfold cy5
 cases ao7 a with
 | false=>simp only[go_sem];exact ac8 rfl
 | true=>
  simp only[go_sem];refine aa4 fok51 (c) ?_
  cases ao7 b with
  | false=>simp only[go_sem];exact ac8 rfl
  | true=>
   simp only[go_sem];refine aa4 fok172 (hc) ?_;simp only[go_sem];exact ac8 sm
def jc1:List IV:=[.int .i64 0,.int .i64 0,.int .i64 0,.int .i64 0,.int .i64 0,.int .i64 0,.int .i64 0,.int .i64 0,.int .i64 0,.int .i64 0,.int .i64 0,.int .i64 2,.int .i64 1,.int .i64 3,.int .i64 0,.int .i64 0,.int .i64 2,.int .i64 0,.int .i64 1,.int .i64 0,.int .i64 0,.int .i64 2,.int .i64 0,.int .i64 0,.int .i64 1]
def hf7:Pq 261 [] (.agg jc1):=by
 refine af5 hE fok261 (nZ rfl) (λa h=>by cases h) ?_;simp only[ic261,go_sem];exact .keep _ (az5 10 _ (by kernel_rfl))
def jm5 (m a:Int)(c:ao7 m=true)(b:ao7 a=true):Pq 210 [.int .u8 m,.int .u8 a] (.int .i64 (be9 m a)):=by
 unfold ao7 at c b;simp only[Bool.and_eq_true,decide_eq_true_eq] at c b;have d:m=1\/m=2\/m=3\/m=4:=om;have e:a=1\/a=2\/a=3\/a=4:=om;rcases d with rfl|rfl|rfl|rfl<;>rcases e with rfl|rfl|rfl|rfl
 all_goals
  refine af5 hE fok210 (nZ rfl) (ag7 (.int _ _) (.int _ _)) ?_;simp only[ic210,go_sem];refine aa4 fok51 (bb1 _) ?_;simp only[go_sem,ao7];refine aa4 fok51 (bb1 _) ?_;simp only[go_sem,ao7];refine aa4 fok261 (hf7) ?_;simp only[go_sem,jc1,List.drop_succ_cons,qn,List.getElem?_cons_succ,List.getElem?_cons_zero];exact .keep _ (.int _ _)
def fn6 (m a:Int)(h:ao7 m=false\/ao7 a=false):be9 m a=0:=by
 unfold ao7 at h;simp only[Bool.and_eq_false_iff,decide_eq_false_iff_not] at h;unfold be9
 repeat' split
 all_goals first|rfl|omega
def ee5 (m a:Int):Pq 210 [.int .u8 m,.int .u8 a] (.int .i64 (be9 m a)):=by
 have b:=bb1 m;have e:=bb1 a
 cases c:ao7 m with
 | false=>
  rw[fn6 m a (.inl c)];refine af5 hE fok210 (nZ rfl) (ag7 (.int _ _) (.int _ _)) ?_;rw[c] at b;simp only[ic210,go_sem];refine aa4 fok51 (b) ?_;simp only[go_sem]
  exact bf8 rfl
 | true=>
  cases d:ao7 a with
  | false=>
   rw[fn6 m a (.inr d)];refine af5 hE fok210 (nZ rfl) (ag7 (.int _ _) (.int _ _)) ?_;rw[c] at b;rw[d] at e;simp only[ic210,go_sem];refine aa4 fok51 (b) ?_;simp only[go_sem];refine aa4 fok51 (e) ?_;simp only[go_sem]
   exact bf8 rfl
  | true=>exact jm5 m a c d
def jm6 (m a:Int):Pq 171 [.int .u8 m,.int .u8 a] (.bool (kb8 m a)):=by
 refine af5 hE fok171 (nZ rfl) (ag7 (.int _ _) (.int _ _)) ?_;have h:=ee5 m a;simp only[ic171,go_sem]
 first|refine aa4 fok210 (h) ?_|refine aa8 (h) ?_
 simp only[go_sem];exact ac8 rfl
def ip2 (k:Int):List IV:=[.int .i64 (asks k).1,.int .i64 (asks k).2.1,.bool (asks k).2.2.1,.int .u8 (asks k).2.2.2]
def gh8 (k:Int)(c:0<=k)(b:k<256):Pq 167 [.int .u8 k] (.agg (ip2 k)):=by
 have w:=wrap64 (x:=k) om om;by_cases a:8<=k
 .refine af5 hE fok167 (nZ rfl) (λa h=>by cases h with|head=>exact .int _ _|tail _ h=>cases h) ?_;simp only[ic167,go_sem,w,a]
  have:ip2 k=[.int .i64 0,.int .i64 0,.bool false,.int .u8 0]:=by
   unfold ip2 asks;rw[if_neg om,if_neg om,if_neg om,if_neg om,if_neg om,if_neg om,if_neg om];rfl
  rw[this];exact .keep _ (az5 10 _ (by kernel_rfl))
 .have:k=0\/k=1\/k=2\/k=3\/k=4\/k=5\/k=6\/k=7:=om;rcases this with rfl|rfl|rfl|rfl|rfl|rfl|rfl|rfl
  all_goals
   refine af5 hE fok167 (nZ rfl) (λa h=>by cases h with|head=>exact .int _ _|tail _ h=>cases h) ?_;simp only[ic167,go_sem,w];exact .keep _ (az5 10 _ (by kernel_rfl))
def hf8 (d:Dep):∀c∈d.cs,Bnd 0 c:=by
 intro c hc;simp only[Dep.cs,zp,zn,or_false] at hc;rcases hc with rfl|rfl|rfl|rfl|rfl<;>first|exact .str _|exact .int _ _
def ee6 (r:aa6):∀c∈r.cs,Bnd 0 c:=by
 induction r using aa6.ind with
 | h k d xs ih=>
  intro c hc;rw[aa6.as1] at hc;simp only[zp,zn,or_false] at hc;rcases hc with rfl|rfl|rfl|rfl|rfl|rfl|rfl<;>first|exact .str _|exact .int _ _|skip
  refine .aa2 _ λe b c hc=>?_
  obtain ⟨a,e,rfl⟩:=zd.1 b;exact ih a e c hc
def ah2 (r:aa6):Bnd 0 (.agg r.cs):=.agg _ (ee6 r)
def ac5 (r:aa6):r.cs.length=7:=by rw[aa6.as1];rfl
def ae6 {P:IV->Prop}{v:IV}(h:P v):∀a∈[v],P a:=λa b=>by
 cases b with
 | head=>exact h
 | tail _ h=>cases h
def fc9 (a:aa6)(xs:List aa6):aa6.bg7 (a::xs)=max a.depth (aa6.bg7 xs):=by simp only[aa6.bg7]
def jm7 (n m:Nat):(if (m:Int)>(n:Int) then (m:Int) else n)=((max n m:Nat):Int):=by
 split<;>omega
def ee7 (r:aa6):r.fit->r.depth<2^62->Pq 166 [.agg r.cs] (.int .i64 r.depth):=by
 induction r using aa6.ind with
 | h k d xs ih=>
  intro hf t;have⟨B,A,z,y,u⟩:=aa6.ce5.1 hf;refine af5 hE fok166 (nZ rfl) (ae6 (ah2 _)) ?_;rw[aa6.as1];by_cases g:k=1
  .simp only[ic166,go_sem,aa6.kind,aa6.depth,g];exact ae5 _ _
  .simp only[aa6.depth,g,if_false] at t;simp only[ic166,go_sem,aa6.kind,aa6.depth,g];refine aa9 noT (λi fr σ=>∃n:Nat,fr=[(3,.int .i64 n),(10,.aa2 (xs.map aa6.cs)),(11,.int .i64 xs.length),(12,.int .i64 i)]/\max n (aa6.bg7 (xs.drop i))=aa6.bg7 xs) xs.length ⟨0,rfl,by simp⟩ ?_;rintro i fr σ hi ⟨n,rfl,e⟩;by_cases b:i<xs.length
   .have⟨a,p,_,m,c,_⟩:=ad3 xs i b;have o:(i:Int)<xs.length:=om;have x:(0:Int)<=i:=om;have f:=ac6 (i:=i) om;rw[m,fc9] at e;have s:a.cs.all IV.leaf=true:=by rw[aa6.as1];rfl
    have q:a.cs.take 7=a.cs:=zc (by rw[ac5];exact za _);simp only[go_sem,o,x,c,ac5,q,s,aa6.args,qn];refine aa4 fok166 (ih a p (u a p) om) ?_;simp only[go_sem,iz7,em1,jm7,f];exact ⟨b,max n a.depth,rfl,by rw[<- e];omega⟩
   .have j:i=xs.length:=om;subst j;have o:¬(xs.length:Int)<xs.length:=om;simp only[ze,aa6.bg7,Nat.max_zero] at e;subst e;have f:=ac6 (i:=aa6.bg7 xs) om;simp only[go_sem,o,f];exact ae5 _ _
def row (p:aa6×Bool):List IV:=[.agg p.1.cs,.bool p.2]
def evs (r:aa6)(al:Bool):List (List IV):=(r.parts al).map row
def ep8 (xs:List aa6)(al:Bool):List (List IV):=(aa6.bj9 xs al).map row
def ke8 (k:Int)(d:Dep)(xs:List aa6)(al:Bool):evs (.mk k d xs) al=[.agg (aa6.mk k d xs).cs,.bool al]::ep8 xs (al||decide (k=6)||decide (k=7)):=by
 simp only[evs,ep8,aa6.parts,zz,row]
def cg3 (a:aa6)(xs:List aa6)(al:Bool):ep8 (a::xs) al=evs a al++ep8 xs al:=by
 simp only[evs,ep8,aa6.bj9,zv]
def boxed (b:Nat)(s:Store):Prop:=b<s.next/\s.obj b=zh (.cells [.func (.func 193) [] [.ptr b 0]])
def ke9 (r:aa6):r.fit->∀(al:Bool) (c:List (List IV)) (b m:Nat) (I:List (List IV)->Store->Prop) (S:Store->Prop) (σ:Store),(∀c s,I c s->boxed b s)->kl7 I->ih4 Tryz.prog EE m I S ->
  I (evs r al++c) σ->Cq 193 [.agg r.cs,.bool al,.yield m,.ptr b 0] σ λv s=>σ.next<=s.next/\((v=.bool true/\I c s)\/(v=.bool false/\S s)):=by
 induction r using aa6.ind with
 | h k d xs ih=>
  intro hf al c b m I S σ g f V hi;have⟨f1,f2,f3,f4,X⟩:=aa6.ce5.1 hf;refine C_f fok193 (nZ rfl) ?_;rw[ke8,List.cons_append,aa6.as1] at hi;rw[aa6.as1];simp only[ic193,go_sem,aa6.kind,aa6.dep,aa6.args] at hi ⊢;refine cw5 V hi (λs D hi=>?_) (λs D hs=>?_)
  .have H:(al=true)\/(al=false/\k=6)\/(al=false/\¬k=6/\k=7)\/(al=false/\¬k=6/\¬k=7):=by
    cases al<;>by_cases h6:k=6<;>by_cases h7:k=7<;>simp[h6,h7]
   rcases H with J|⟨J,K⟩|⟨J,K,W⟩|⟨J,K,W⟩
   .have T:(al||decide (k=6)||decide (k=7))=true:=by simp[J]
    rw[T] at hi;simp only[go_sem,J];refine aa9 noT (λi fr t=>fr=[(1,.bool true),(2,.yield m),(3,.ptr b 0),(27,.aa2 (xs.map aa6.cs)),(28,.int .i64 xs.length),(29,.int .i64 i)]/\I (ep8 (xs.drop i) true++c) t/\σ.next<=t.next) xs.length ⟨rfl,hi,D⟩ ?_;rintro i fr t N ⟨rfl,hi,D⟩;by_cases n:i<xs.length
    .have⟨a,F,_,y,o,_⟩:=ad3 xs i n;have B:(i:Int)<xs.length:=om;have U:(0:Int)<=i:=om;have L:=ac6 (i:=i) om;have P:a.cs.all IV.leaf=true:=by rw[aa6.as1];rfl
     have M:a.cs.take 7=a.cs:=zc (by rw[ac5];exact za _);have⟨Q,A⟩:=g _ _ hi;have z:¬b=t.next:=om;simp only[go_sem,B,U,o,ac5,M,P,A,z];rw[y,cg3,zq] at hi;refine ab8 fok193 (ih a F (X a F) true (ep8 (xs.drop (i+1)) true++c) b m I S _ g f V (f _ _ _ hi (zy _) (λj Y=>?_))) ?_
     .have:¬j=t.next:=om;simp only[aa3,this,if_false]
     .rintro v E ⟨e,⟨rfl,u⟩|⟨rfl,p⟩⟩
      .refine ⟨e,?_⟩;have q:t.next+1<=E.next:=e;simp only[go_sem,L];exact ⟨n,u,om⟩
      .refine ⟨e,?_⟩;have q:t.next+1<=E.next:=e;simp only[go_sem];exact ⟨om,.inr p⟩
    .have x:i=xs.length:=om;subst x;have B:¬(xs.length:Int)<xs.length:=om;simp only[ze,ep8,aa6.bj9,zm,z8] at hi;simp only[go_sem,B];exact ⟨D,.inl hi⟩
   .have T:(al||decide (k=6)||decide (k=7))=true:=by simp[J,K]
    rw[T] at hi;simp only[go_sem,J,K];refine aa9 noT (λi fr t=>fr=[(1,.bool true),(2,.yield m),(3,.ptr b 0),(27,.aa2 (xs.map aa6.cs)),(28,.int .i64 xs.length),(29,.int .i64 i)]/\I (ep8 (xs.drop i) true++c) t/\σ.next<=t.next) xs.length ⟨rfl,hi,D⟩ ?_;rintro i fr t N ⟨rfl,hi,D⟩;by_cases n:i<xs.length
    .have⟨a,F,_,y,o,_⟩:=ad3 xs i n;have B:(i:Int)<xs.length:=om;have U:(0:Int)<=i:=om;have L:=ac6 (i:=i) om;have P:a.cs.all IV.leaf=true:=by rw[aa6.as1];rfl
     have M:a.cs.take 7=a.cs:=zc (by rw[ac5];exact za _);have⟨Q,A⟩:=g _ _ hi;have z:¬b=t.next:=om;simp only[go_sem,B,U,o,ac5,M,P,A,z];rw[y,cg3,zq] at hi;refine ab8 fok193 (ih a F (X a F) true (ep8 (xs.drop (i+1)) true++c) b m I S _ g f V (f _ _ _ hi (zy _) (λj Y=>?_))) ?_
     .have:¬j=t.next:=om;simp only[aa3,this,if_false]
     .rintro v E ⟨e,⟨rfl,u⟩|⟨rfl,p⟩⟩
      .refine ⟨e,?_⟩;have q:t.next+1<=E.next:=e;simp only[go_sem,L];exact ⟨n,u,om⟩
      .refine ⟨e,?_⟩;have q:t.next+1<=E.next:=e;simp only[go_sem];exact ⟨om,.inr p⟩
    .have x:i=xs.length:=om;subst x;have B:¬(xs.length:Int)<xs.length:=om;simp only[ze,ep8,aa6.bj9,zm,z8] at hi;simp only[go_sem,B];exact ⟨D,.inl hi⟩
   .have T:(al||decide (k=6)||decide (k=7))=true:=by simp[J,K,W,show ¬((7:Int)=6) from by omega]
    rw[T] at hi;simp only[go_sem,J,K,W,show ¬((7:Int)=6) from by omega];refine aa9 noT (λi fr t=>fr=[(1,.bool true),(2,.yield m),(3,.ptr b 0),(27,.aa2 (xs.map aa6.cs)),(28,.int .i64 xs.length),(29,.int .i64 i)]/\I (ep8 (xs.drop i) true++c) t/\σ.next<=t.next) xs.length ⟨rfl,hi,D⟩ ?_;rintro i fr t N ⟨rfl,hi,D⟩;by_cases n:i<xs.length
    .have⟨a,F,_,y,o,_⟩:=ad3 xs i n;have B:(i:Int)<xs.length:=om;have U:(0:Int)<=i:=om;have L:=ac6 (i:=i) om;have P:a.cs.all IV.leaf=true:=by rw[aa6.as1];rfl
     have M:a.cs.take 7=a.cs:=zc (by rw[ac5];exact za _);have⟨Q,A⟩:=g _ _ hi;have z:¬b=t.next:=om;simp only[go_sem,B,U,o,ac5,M,P,A,z];rw[y,cg3,zq] at hi;refine ab8 fok193 (ih a F (X a F) true (ep8 (xs.drop (i+1)) true++c) b m I S _ g f V (f _ _ _ hi (zy _) (λj Y=>?_))) ?_
     .have:¬j=t.next:=om;simp only[aa3,this,if_false]
     .rintro v E ⟨e,⟨rfl,u⟩|⟨rfl,p⟩⟩
      .refine ⟨e,?_⟩;have q:t.next+1<=E.next:=e;simp only[go_sem,L];exact ⟨n,u,om⟩
      .refine ⟨e,?_⟩;have q:t.next+1<=E.next:=e;simp only[go_sem];exact ⟨om,.inr p⟩
    .have x:i=xs.length:=om;subst x;have B:¬(xs.length:Int)<xs.length:=om;simp only[ze,ep8,aa6.bj9,zm,z8] at hi;simp only[go_sem,B];exact ⟨D,.inl hi⟩
   .have T:(al||decide (k=6)||decide (k=7))=false:=by simp[J,K,W]
    rw[T] at hi;simp only[go_sem,J,K,W];refine aa9 noT (λi fr t=>fr=[(1,.bool false),(2,.yield m),(3,.ptr b 0),(27,.aa2 (xs.map aa6.cs)),(28,.int .i64 xs.length),(29,.int .i64 i)]/\I (ep8 (xs.drop i) false++c) t/\σ.next<=t.next) xs.length ⟨rfl,hi,D⟩ ?_;rintro i fr t N ⟨rfl,hi,D⟩;by_cases n:i<xs.length
    .have⟨a,F,_,y,o,_⟩:=ad3 xs i n;have B:(i:Int)<xs.length:=om;have U:(0:Int)<=i:=om;have L:=ac6 (i:=i) om;have P:a.cs.all IV.leaf=true:=by rw[aa6.as1];rfl
     have M:a.cs.take 7=a.cs:=zc (by rw[ac5];exact za _);have⟨Q,A⟩:=g _ _ hi;have z:¬b=t.next:=om;simp only[go_sem,B,U,o,ac5,M,P,A,z];rw[y,cg3,zq] at hi;refine ab8 fok193 (ih a F (X a F) false (ep8 (xs.drop (i+1)) false++c) b m I S _ g f V (f _ _ _ hi (zy _) (λj Y=>?_))) ?_
     .have:¬j=t.next:=om;simp only[aa3,this,if_false]
     .rintro v E ⟨e,⟨rfl,u⟩|⟨rfl,p⟩⟩
      .refine ⟨e,?_⟩;have q:t.next+1<=E.next:=e;simp only[go_sem,L];exact ⟨n,u,om⟩
      .refine ⟨e,?_⟩;have q:t.next+1<=E.next:=e;simp only[go_sem];exact ⟨om,.inr p⟩
    .have x:i=xs.length:=om;subst x;have B:¬(xs.length:Int)<xs.length:=om;simp only[ze,ep8,aa6.bj9,zm,z8] at hi;simp only[go_sem,B];exact ⟨D,.inl hi⟩
  .simp only[go_sem];exact ⟨D,.inr hs⟩
def cs8 (r:aa6)(hf:r.fit)(b:Nat):fi4 Tryz.prog EE (.func (.func 194) [] [.ptr b 0,.ab5 r.cs]) (evs r false) (boxed b):=by
 intro d I S σ a c g hi;refine ⟨fok194.1,?_⟩;refine C_f fok194 (nZ rfl) ?_;have⟨j,e⟩:=a _ _ hi;have i:r.cs.take 7=r.cs:=zc (by rw[ac5];exact za _);simp only[ic194,go_sem,e,i,ac5];refine ab8 fok193 (ke9 r hf false [] b d I S σ a c g (by rw[List.append_nil];exact hi)) ?_;rintro v s ⟨f,h⟩;refine ⟨f,?_⟩;simp only[go_sem];refine ⟨f,?_⟩;rcases h with ⟨_,h⟩|⟨_,h⟩
 .exact .inl h
 .exact .inr h
def fd2 (r:aa6)(σ:Store):Cq 137 [.agg r.cs] σ λv s=>v=.func (.func 194) [] [.ptr σ.next 0,.ab5 r.cs]/\boxed σ.next s/\σ.next<=s.next/\∀i,i<σ.next->s.obj i=σ.obj i:=by
 refine C_f fok137 (nZ rfl) ?_;have a:r.cs.all IV.leaf=true:=by rw[aa6.as1];rfl
 simp only[ic137,go_sem,a];refine ⟨⟨z6 _,?_⟩,zy _,λi hi=>?_⟩
 .simp only[aa3,if_true]
 .have:¬i=σ.next:=om;simp only[aa3,this,if_false]
def aa6.dg4 (r:aa6):∀al,(r.parts al).length=r.count:=by
 induction r using aa6.ind with
 | h k d xs ih=>
  intro al;simp only[aa6.parts,aa6.count,zo];congr 1;generalize (al||decide (k=6)||decide (k=7))=al';clear al
  induction xs with
  | nil=>rfl
  | cons a xs ih'=>
   simp only[aa6.bj9,aa6.counts,zg];rw[ih a (zl ..),ih' (λb c=>ih b (zk _ c))]
def ee8 {r:aa6}{al:Bool}:∀a∈evs r al,a.length=2:=λa b=>by
 obtain ⟨p,_,rfl⟩:=zd.1 b;rfl
def jm8 (r:aa6)(al:Bool):(evs r al).length=r.count:=by rw[evs,zb,aa6.dg4]
def cg5 (r:aa6)(hf:r.fit)(hc:r.count<2^62):Pq 118 [.agg r.cs] (.int .i64 r.count):=by
 refine af5 hE fok118 (nZ rfl) (ae6 (ah2 _)) ?_;have hl:r.cs.all IV.leaf=true:=by rw[aa6.as1];rfl
 have ht:r.cs.take 7=r.cs:=zc (by rw[ac5];exact za _);simp only[ic118,go_sem,hl,ht,ac5];refine ab8 fok137 (fd2 r _) ?_;rintro v s1 ⟨rfl,hb,hn,hs⟩;refine ⟨hn,?_⟩;simp only[go_sem] at hn hs hb ⊢;have h0:s1.obj 0=zh (.cells [.int .i64 0]):=by rw[hs 0 om];rfl
 have hb2:=hb.1;refine dc1 (cs8 r hf 1) (λrest s=>boxed 1 s/\∃n:Nat,s.obj 0=zh (.cells [.int .i64 n])/\n+rest.length=r.count) (λ_ _ h=>h.1) ?_ ee8 ?_ ?_ ?_
 .rintro rest s s' ⟨⟨q1,q2⟩,n,q3,q4⟩ hn' hs';exact ⟨⟨om,by rw[hs' 1 q1];exact q2⟩,n,by rw[hs' 0 om];exact q3,q4⟩
 .intro o;have e0:¬0=s1.next:=om;have e1:¬1=s1.next:=om;exact ⟨⟨by show 1<s1.next+1;omega,by simp only[aa3,e1,if_false];exact hb.2⟩,0,by simp only[aa3,e0,if_false];exact h0,by rw[jm8];omega⟩
 .rintro L pre a rest s hev ⟨⟨q1,q2⟩,n,q3,q4⟩ hL hlt;have ha:=ee8 (r:=r) (al:=false) a (by rw[hev];simp)
  match a,ha with
  | [x,y],_=>
   have e0:¬0=s1.next:=om;have e1:¬s1.next=0:=om;have e2:¬1=s1.next:=om;simp only[zo] at q4;have w1:=ac6 (i:=n) om;have e3:¬s1.next=1:=om;simp only[go_sem,hL,e0,q3,e1,w1];refine ea6 (za _) ?_ ⟨⟨q1,?_⟩,n+1,?_,om⟩
   .simp only[aa3,if_true]
   .have:¬1=0:=om;simp only[aa3,e2,this,if_false];exact q2
   .simp only[aa3,e0,if_false,if_true]
 .rintro s o ⟨⟨q1,q2⟩,n,q3,q4⟩ hlt ho;have e0:¬0=s1.next:=om;have:n=r.count:=by simpa using q4
  subst this;simp only[go_sem,e0,q3];exact ae5 _ _
def hf9 (r:aa6):r.fit->∀al,∀p∈r.parts al,p.1.fit:=by
 induction r using aa6.ind with
 | h k d xs ih=>
  intro hf al p hp;simp only[aa6.parts,zp] at hp;rcases hp with rfl|hp
  .exact hf
  .have e:=(aa6.ce5.1 hf).2.2.2.2;clear hf;generalize (al||decide (k=6)||decide (k=7))=al' at hp
   induction xs with
   | nil=>simp[aa6.bj9] at hp
   | cons a xs ih'=>
    simp only[aa6.bj9,qk] at hp;rcases hp with hp|hp
    .exact ih a (zl ..) (e a (zl ..)) _ p hp
    .exact ih' (λb c=>ih b (zk _ c)) (λb c=>e b (zk _ c)) hp
def ip3 (r:aa6):r.depth<=r.count:=by
 induction r using aa6.ind with
 | h k d xs ih=>
  simp only[aa6.depth,aa6.count];split
  .omega
  .apply Nat.succ_le_succ
   induction xs with
   | nil=>simp[aa6.bg7]
   | cons a xs ih'=>
    simp only[aa6.bg7,aa6.counts];have f:=ih a (zl ..);have e:=ih' (λb c=>ih b (zk _ c));omega
def dg5 (r:aa6)(wh:Int)(hf:r.fit)(hc:r.count<2^62):Pq 101 [.agg r.cs,.int .u8 wh] (.int .i64 (af3 r wh)):=by
 refine af5 hE fok101 (nZ rfl) (λa ha=>by
  cases ha with
  | head=>exact ah2 _
  | tail _ ha=>cases ha with
   | head=>exact .int _ _
   | tail _ ha=>cases ha) ?_
 have hl:r.cs.all IV.leaf=true:=by rw[aa6.as1];rfl
 have ht:r.cs.take 7=r.cs:=zc (by rw[ac5];exact za _);have hdl:=ip3 r;by_cases a1:wh<1
 .simp only[ic101,go_sem,hl,a1,af3];exact ae5 _ _
 by_cases a2:3<wh
 .simp only[ic101,go_sem,hl,a1,a2,af3];exact ae5 _ _
 simp only[ic101,go_sem,hl,a1,a2,ht,ac5];refine aa4 fok118 (cg5 r hf hc) ?_;by_cases a3:24<r.count
 .have c3:(24:Int)<r.count:=om;simp only[go_sem,c3,af3,a1,a2,a3,or_self];exact ae5 _ _
 have c3:¬(24:Int)<r.count:=om;simp only[go_sem,c3,ht,ac5];refine aa4 fok166 (ee7 r hf om) ?_;by_cases a4:8<r.depth
 .have c4:(8:Int)<r.depth:=om;simp only[go_sem,c4,af3,a1,a2,a3,a4,or_self];exact ae5 _ _
 have c4:¬(8:Int)<r.depth:=om;simp only[go_sem,c4,ht,ac5]
 have hres:af3 r wh=if (r.parts false).all (λp=>ah5 wh p.1 p.2)=true then 0 else 4:=by
  simp only[af3,a1,a2,a3,a4,or_self,if_false]
 rw[hres];generalize hS:(Store.mk _ _)=s0;refine ab8 fok137 (fd2 r _) ?_;rintro v s1 ⟨rfl,hb,hn,hs⟩;have g0:s0.next=1:=by subst hS;simp only
 have g1:s0.obj 0=zh (.cells [.int .i64 0]):=by subst hS;simp only[aa3,if_true]
 refine ⟨hn,?_⟩;rw[g0] at hb hn hs;have hb2:=hb.1;have h0:s1.obj 0=zh (.cells [.int .i64 0]):=by rw[hs 0 om,g1]
 have e0:¬0=s1.next:=om;have e1:¬s1.next=0:=om;have e2:¬1=s1.next:=om;simp only[go_sem,g0];refine dc1 (cs8 r hf 1) (λrest s=>(boxed 1 s/\s.obj 0=zh (.cells [.int .i64 0]))/\∃ps:List (aa6×Bool),rest=ps.map row/\(∀p∈ps,p.1.fit)/\(r.parts false).all (λp:aa6×Bool=>ah5 wh p.1 p.2)=ps.all (λp:aa6×Bool=>ah5 wh p.1 p.2)) (λ_ _ h=>h.1.1) ?_ ee8 ?_ ?_ ?_
 .rintro rest s s' ⟨⟨⟨q1,q2⟩,q3⟩,q4⟩ hn' hs';exact ⟨⟨⟨om,by rw[hs' 1 q1];exact q2⟩,by rw[hs' 0 om];exact q3⟩,q4⟩
 .intro o;exact ⟨⟨⟨by show 1<s1.next+1;omega,by simp only[aa3,e2,if_false];exact hb.2⟩,by simp only[aa3,e0,if_false];exact h0⟩,_,rfl,hf9 r hf false,rfl⟩
 .rintro L pre a rest s hev ⟨⟨⟨q1,q2⟩,q3⟩,ps,hps,hfp,hall⟩ hL hlt
  cases ps with
  | nil=>cases hps
  | cons p ps=>
   have⟨⟨k,d,xs⟩,al⟩:=p;simp only[zz,List.cons.injEq] at hps;obtain ⟨rfl,rfl⟩:=hps;have⟨f1,f2,f3,f4,f5⟩:=aa6.ce5.1 (hfp _ (zl ..));have hfp':∀p∈ps,p.1.fit:=λp hp=>hfp p (zk _ hp)
   simp only[qf] at hall;have u0:¬0=s.next:=om;have u1:¬s1.next=s.next:=om;have u2:¬s.next=s1.next:=om;have u3:¬0=s.next+1:=om;have u4:¬s1.next=s.next+1:=om;have u5:¬s.next=s.next+1:=om;simp only[row,aa6.as1,aa6.kind,aa6.dep,aa6.args,go_sem,hL,q3,e0,e1,u0,u1,u2,u3,u4,u5];have u6:¬s.next+1=s1.next:=om;have u7:¬s.next+1=s.next:=om;have u8:¬s.next+1=0:=om;have u9:¬s.next=0:=om;have u10:¬1=s.next:=om;have u11:¬1=s.next+1:=om;refine aa4 fok167 (gh8 k f1 f2) ?_;simp only[go_sem,ip2,q3,e0,e1,u0,u3,e2,u1,u2,u4,u5,u6,u7,u8,u9,u10,u11];have hstop:∀ok:Bool,ah5 wh (.mk k d xs) al=ok->ah5 wh (.mk k d xs) al=ok:=λ_ h=>h
   by_cases b1:((asks k).2.2.2:Int)<wh
   .have hok:ah5 wh (.mk k d xs) al=false:=by simp[ah5,aa6.kind,b1]
    simp only[go_sem,b1,q3,e0,e1,u0,u3,e2,u1,u2,u4,u5,u6,u7,u8,u9,u10,u11]
    (refine db9 (by simp only[aa7];omega) (by simp only[aa3,if_true]) ?_;simp only[go_sem,e2,u1,u2,u4,u5,u6,u7,u8,u9,u10,u11,e0,u0,u3];rw[hall,hok];exact ae5 _ _)
   by_cases b2:(al=true/\(asks k).2.2.1=false)
   .have hok:ah5 wh (.mk k d xs) al=false:=by simp[ah5,aa6.kind,b2.1,b2.2]
    simp only[go_sem,b1,b2.1,b2.2,q3,e0,e1,u0,u3,e2,u1,u2,u4,u5,u6,u7,u8,u9,u10,u11]
    (refine db9 (by simp only[aa7];omega) (by simp only[aa3,if_true]) ?_;simp only[go_sem,e2,u1,u2,u4,u5,u6,u7,u8,u9,u10,u11,e0,u0,u3];rw[hall,hok];exact ae5 _ _)
   have hb2:(al&&!(asks k).2.2.1)=false:=by
    cases al<;>cases hx:(asks k).2.2.1<;>simp_all
   have hal:(al=false)\/(al=true/\(asks k).2.2.1=true):=by
    cases al<;>cases hx:(asks k).2.2.1<;>simp_all
   have hdd:decide (d=cq9)=(decide (d.name=[])&&(decide (d.op=0)&&(decide (d.evr.ar6=0)&&(decide (d.evr.ver=[])&&decide (d.evr.rel=[]))))):=by
    have⟨n,o,e,v,r⟩:=d;simp only[cq9,gw3,Dep.mk.injEq,EVR.mk.injEq,qm]
   have hpart:ah5 wh (.mk k d xs) al=(!(decide (((asks k).2.2.2:Int)<wh)||al&&!(asks k).2.2.1||decide (xs.length<(asks k).1)||decide ((asks k).2.1<xs.length))&&(if k=1 then ak2 d else decide (d=cq9))):=rfl;have hdc:=br6 d f3.1 f3.2.1 f3.2.2;rcases hal with h1|⟨h1,h2⟩
   .by_cases b3:xs.length<(asks k).1
    .have c3:(xs.length:Int)<(asks k).1:=om;have hok:ah5 wh (.mk k d xs) al=false:=by simp[ah5,aa6.kind,aa6.args,b3]
     simp only[go_sem,b1,h1,c3,q3,e0,e1,u0,u3,e2,u1,u2,u4,u5,u6,u7,u8,u9,u10,u11]
     (refine db9 (by simp only[aa7];omega) (by simp only[aa3,if_true]) ?_;simp only[go_sem,e2,u1,u2,u4,u5,u6,u7,u8,u9,u10,u11,e0,u0,u3];rw[hall,hok];exact ae5 _ _)
    have c3:¬(xs.length:Int)<(asks k).1:=om;by_cases b4:(asks k).2.1<xs.length
    .have c4:((asks k).2.1:Int)<xs.length:=om;have hok:ah5 wh (.mk k d xs) al=false:=by simp[ah5,aa6.kind,aa6.args,b4]
     simp only[go_sem,b1,h1,c3,c4,q3,e0,e1,u0,u3,e2,u1,u2,u4,u5,u6,u7,u8,u9,u10,u11]
     (refine db9 (by simp only[aa7];omega) (by simp only[aa3,if_true]) ?_;simp only[go_sem,e2,u1,u2,u4,u5,u6,u7,u8,u9,u10,u11,e0,u0,u3];rw[hall,hok];exact ae5 _ _)
    have c4:¬((asks k).2.1:Int)<xs.length:=om;by_cases hk:k=1
    .have hkd:decide (k=1)=true:=decide_eq_true hk;simp only[go_sem,b1,h1,c3,c4,hkd,q3,e0,e1,u0,u3,e2,u1,u2,u4,u5,u6,u7,u8,u9,u10,u11,ce4];refine aa4 fok21 hdc ?_
     cases hd:ak2 d with
     | false=>
      have hok:ah5 wh (.mk k d xs) al=false:=by simp[ah5,aa6.kind,aa6.args,aa6.dep,hk,hd]
      simp only[go_sem,q3,e0,e1,u0,u3,e2,u1,u2,u4,u5,u6,u7,u8,u9,u10,u11]
      (refine db9 (by simp only[aa7];omega) (by simp only[aa3,if_true]) ?_;simp only[go_sem,e2,u1,u2,u4,u5,u6,u7,u8,u9,u10,u11,e0,u0,u3];rw[hall,hok];exact ae5 _ _)
     | true=>
      have hok:ah5 wh (.mk k d xs) al=true:=by
       rw[hpart,decide_eq_false b1,hb2,decide_eq_false b3,decide_eq_false b4,if_pos hk,hd];rfl
      simp only[go_sem,hkd,q3,e0,e1,u0,u3,e2,u1,u2,u4,u5,u6,u7,u8,u9,u10,u11]
      (refine ea6 (by simp only[aa7];omega) (by simp only[aa3,if_true]) ⟨⟨⟨by simp only[aa7];omega,by simp only[aa3,e2,u1,u2,u4,u5,u6,u7,u8,u9,u10,u11,if_false];exact q2⟩,by simp only[aa3,e0,u0,u3,if_false];exact q3⟩,ps,rfl,hfp',by rw[hall,hok,zi]⟩)
    .simp only[go_sem,b1,h1,c3,c4,hk,q3,e0,e1,u0,u3,e2,u1,u2,u4,u5,u6,u7,u8,u9,u10,u11,ce4];rw[<- hdd];by_cases hd:d=cq9
     .have hok:ah5 wh (.mk k d xs) al=true:=by
       rw[hpart,decide_eq_false b1,hb2,decide_eq_false b3,decide_eq_false b4,if_neg hk,decide_eq_true hd];rfl
      have hd1:decide (d=cq9)=true:=decide_eq_true hd;simp only[go_sem,hd1,q3,e0,e1,u0,u3,e2,u1,u2,u4,u5,u6,u7,u8,u9,u10,u11]
      (refine ea6 (by simp only[aa7];omega) (by simp only[aa3,if_true]) ⟨⟨⟨by simp only[aa7];omega,by simp only[aa3,e2,u1,u2,u4,u5,u6,u7,u8,u9,u10,u11,if_false];exact q2⟩,by simp only[aa3,e0,u0,u3,if_false];exact q3⟩,ps,rfl,hfp',by rw[hall,hok,zi]⟩)
     .have hok:ah5 wh (.mk k d xs) al=false:=by simp[ah5,aa6.kind,aa6.args,aa6.dep,hk,hd]
      have hd1:decide (d=cq9)=false:=decide_eq_false hd;simp only[go_sem,hd1,q3,e0,e1,u0,u3,e2,u1,u2,u4,u5,u6,u7,u8,u9,u10,u11]
      (refine db9 (by simp only[aa7];omega) (by simp only[aa3,if_true]) ?_;simp only[go_sem,e2,u1,u2,u4,u5,u6,u7,u8,u9,u10,u11,e0,u0,u3];rw[hall,hok];exact ae5 _ _)
   .by_cases b3:xs.length<(asks k).1
    .have c3:(xs.length:Int)<(asks k).1:=om;have hok:ah5 wh (.mk k d xs) al=false:=by simp[ah5,aa6.kind,aa6.args,b3]
     simp only[go_sem,b1,h1,h2,c3,q3,e0,e1,u0,u3,e2,u1,u2,u4,u5,u6,u7,u8,u9,u10,u11]
     (refine db9 (by simp only[aa7];omega) (by simp only[aa3,if_true]) ?_;simp only[go_sem,e2,u1,u2,u4,u5,u6,u7,u8,u9,u10,u11,e0,u0,u3];rw[hall,hok];exact ae5 _ _)
    have c3:¬(xs.length:Int)<(asks k).1:=om;by_cases b4:(asks k).2.1<xs.length
    .have c4:((asks k).2.1:Int)<xs.length:=om;have hok:ah5 wh (.mk k d xs) al=false:=by simp[ah5,aa6.kind,aa6.args,b4]
     simp only[go_sem,b1,h1,h2,c3,c4,q3,e0,e1,u0,u3,e2,u1,u2,u4,u5,u6,u7,u8,u9,u10,u11]
     (refine db9 (by simp only[aa7];omega) (by simp only[aa3,if_true]) ?_;simp only[go_sem,e2,u1,u2,u4,u5,u6,u7,u8,u9,u10,u11,e0,u0,u3];rw[hall,hok];exact ae5 _ _)
    have c4:¬((asks k).2.1:Int)<xs.length:=om;by_cases hk:k=1
    .have hkd:decide (k=1)=true:=decide_eq_true hk;simp only[go_sem,b1,h1,h2,c3,c4,hkd,q3,e0,e1,u0,u3,e2,u1,u2,u4,u5,u6,u7,u8,u9,u10,u11,ce4];refine aa4 fok21 hdc ?_
     cases hd:ak2 d with
     | false=>
      have hok:ah5 wh (.mk k d xs) al=false:=by simp[ah5,aa6.kind,aa6.args,aa6.dep,hk,hd]
      simp only[go_sem,q3,e0,e1,u0,u3,e2,u1,u2,u4,u5,u6,u7,u8,u9,u10,u11]
      (refine db9 (by simp only[aa7];omega) (by simp only[aa3,if_true]) ?_;simp only[go_sem,e2,u1,u2,u4,u5,u6,u7,u8,u9,u10,u11,e0,u0,u3];rw[hall,hok];exact ae5 _ _)
     | true=>
      have hok:ah5 wh (.mk k d xs) al=true:=by
       rw[hpart,decide_eq_false b1,hb2,decide_eq_false b3,decide_eq_false b4,if_pos hk,hd];rfl
      simp only[go_sem,hkd,q3,e0,e1,u0,u3,e2,u1,u2,u4,u5,u6,u7,u8,u9,u10,u11]
      (refine ea6 (by simp only[aa7];omega) (by simp only[aa3,if_true]) ⟨⟨⟨by simp only[aa7];omega,by simp only[aa3,e2,u1,u2,u4,u5,u6,u7,u8,u9,u10,u11,if_false];exact q2⟩,by simp only[aa3,e0,u0,u3,if_false];exact q3⟩,ps,rfl,hfp',by rw[hall,hok,zi]⟩)
    .simp only[go_sem,b1,h1,h2,c3,c4,hk,q3,e0,e1,u0,u3,e2,u1,u2,u4,u5,u6,u7,u8,u9,u10,u11,ce4];rw[<- hdd];by_cases hd:d=cq9
     .have hok:ah5 wh (.mk k d xs) al=true:=by
       rw[hpart,decide_eq_false b1,hb2,decide_eq_false b3,decide_eq_false b4,if_neg hk,decide_eq_true hd];rfl
      have hd1:decide (d=cq9)=true:=decide_eq_true hd;simp only[go_sem,hd1,q3,e0,e1,u0,u3,e2,u1,u2,u4,u5,u6,u7,u8,u9,u10,u11]
      (refine ea6 (by simp only[aa7];omega) (by simp only[aa3,if_true]) ⟨⟨⟨by simp only[aa7];omega,by simp only[aa3,e2,u1,u2,u4,u5,u6,u7,u8,u9,u10,u11,if_false];exact q2⟩,by simp only[aa3,e0,u0,u3,if_false];exact q3⟩,ps,rfl,hfp',by rw[hall,hok,zi]⟩)
     .have hok:ah5 wh (.mk k d xs) al=false:=by simp[ah5,aa6.kind,aa6.args,aa6.dep,hk,hd]
      have hd1:decide (d=cq9)=false:=decide_eq_false hd;simp only[go_sem,hd1,q3,e0,e1,u0,u3,e2,u1,u2,u4,u5,u6,u7,u8,u9,u10,u11]
      (refine db9 (by simp only[aa7];omega) (by simp only[aa3,if_true]) ?_;simp only[go_sem,e2,u1,u2,u4,u5,u6,u7,u8,u9,u10,u11,e0,u0,u3];rw[hall,hok];exact ae5 _ _)
 .rintro s o ⟨⟨⟨q1,q2⟩,q3⟩,ps,hps,_,hall⟩ hlt ho;have:ps=[]:=by cases ps with|nil=>rfl|cons _ _=>cases hps
  subst this;rw[hall];simp only[go_sem,e0,q3,qh];exact ae5 _ _
def ak4 {α:Type}(q:α->Bool):List α->Int->Int
 | [],_=>-1
 | e::es,i=>if q e then i else ak4 q es (i+1)
def hg6 {a:Type}(q:a->Bool):∀(l:List a) (i:Nat),decide (0<=ak4 q l i)=l.any q:=by
 intro l
 induction l with
 | nil=>intro i;rfl
 | cons x l ih=>
  intro i;simp only[ak4,List.any_cons];by_cases h:q x=true
  .simp only[h,if_true,Bool.true_or];exact decide_eq_true om
  .have b:q x=false:=by simpa using h
   have e:=ih (i+1);rw[qd,qc] at e;simp only[b,zj,if_false,qo];exact e
def aw2 {a:Type}(q:a->Bool)(l:List a):decide (0<=ak4 q l 0)=l.any q:=hg6 q l 0
def aq8 (d:Dep):d.cs.length=5:=rfl
def am8 (d:Dep):d.cs.all IV.leaf=true:=rfl
def an2 (d:Dep):d.cs.take 5=d.cs:=rfl
def ab3 (r:aa6):r.cs.all IV.leaf=true:=by rw[aa6.as1];rfl
def ab9 (r:aa6):r.cs.take 7=r.cs:=zc (by rw[ac5];exact za _)
def ee9 (s:Str):(cc4 s).length=1:=rfl
def cg6 (l:List Dep):Bnd 0 (.aa2 (l.map Dep.cs)):=.aa2 _ λe a c hc=>by
 obtain ⟨d,_,rfl⟩:=zd.1 a;exact hf8 d c hc
def cz6 (l:List Str):Bnd 0 (.aa2 (l.map cc4)):=.aa2 _ λe a c hc=>by
 obtain ⟨d,_,rfl⟩:=zd.1 a;cases hc with|head=>exact .str _|tail _ h=>cases h
def bd6 (l:List aa6):Bnd 0 (.aa2 (l.map aa6.cs)):=.aa2 _ λe a c hc=>by
 obtain ⟨d,_,rfl⟩:=zd.1 a;exact ee6 d c hc
def hg7 (xs:List Dep)(g:Nat)(first cap:List IV)(q:Dep->Bool)(o:xs.length<2^62)(d:okF Tryz.prog g=true)
  (k:∀x∈xs,Pq g (first++[IV.agg (Dep.cs x)]++cap) (.bool (q x))):Pq 138 [.aa2 (xs.map Dep.cs),.func (.func g) first cap] (.int .i64 (ak4 q xs 0)):=by
 refine aw8 fok138 (nZ rfl) λσ=>?_
 simp only[ic138,go_sem];refine aa9 noT (λi fr s=>s=σ/\fr=[(0,.aa2 (xs.map Dep.cs)),(1,.func (.func g) first cap),(7,.int .i64 xs.length),(8,.int .i64 i)]/\ak4 q xs 0=ak4 q (xs.drop i) i) xs.length ⟨rfl,rfl,rfl⟩ ?_;rintro i fr s hi ⟨rfl,rfl,hf⟩;by_cases b:i<xs.length
 .have⟨x,m,_,f,c,_⟩:=ad3 xs i b;have h:(i:Int)<xs.length:=om;have n:(0:Int)<=i:=om;have j:=ac6 (i:=i) om;rw[f] at hf;simp only[go_sem,h,n,c,aq8,an2,am8];refine ak7 d (ey8 (k x m)) ?_;rintro v s ⟨rfl,rfl⟩;refine ⟨za _,?_⟩
  cases a:q x with
  | true=>simp only[go_sem,hf,ak4,a,and_self]
  | false=>
   simp only[go_sem,j];exact ⟨b,by rw[hf];simp only[ak4,a,zj,if_false,qd,qc]⟩
 .have e:i=xs.length:=om;subst e;have h:¬(xs.length:Int)<xs.length:=om;rw[ze] at hf;simp only[go_sem,h,hf,ak4,and_self]
def cg7 (xs:List Dep)(g:Nat)(first cap:List IV)(q:Dep->Bool)(c:xs.length<2^62)(a:okF Tryz.prog g=true)
  (b:∀x∈xs,Pq g (first++[IV.agg (Dep.cs x)]++cap) (.bool (q x))):Pq 79 [.aa2 (xs.map Dep.cs),.func (.func g) first cap] (.bool (xs.any q)):=by
 refine aw8 fok79 (nZ rfl) λσ=>?_
 simp only[ic79,go_sem];refine aa4 fok138 (hg7 xs g first cap q c a b) ?_;simp only[go_sem,aw2,and_self]
def hg8 (x:Dep)(g:Nat)(first cap:List IV)(b:Bool)(f:∀c∈first,Bnd 0 c)(e:∀c∈cap,Bnd 0 c)(a:okF Tryz.prog g=true)(d:Pq g (first++[IV.agg (Dep.cs x)]++cap) (.bool b)) :
  Pq 161 [IV.agg (Dep.cs x),.ab5 [.func (.func g) first cap]] (.bool !b):=by
 refine aw8 fok161 (nZ rfl) λσ=>?_
 simp only[ic161,go_sem,aq8,an2,am8];refine ak7 a (ey8 d) ?_;rintro v s ⟨rfl,rfl⟩;refine ⟨za _,?_⟩;simp only[go_sem,and_self]
def fn8 (xs:List Dep)(n:Int)(g:Nat)(first cap:List IV)(p:Dep->Bool)(h:xs.length<2^62)(i:∀c∈first,Bnd 0 c)(d:∀c∈cap,Bnd 0 c)(b:okF Tryz.prog g=true)
  (f:∀x∈xs,Pq g (first++[IV.agg (Dep.cs x)]++cap) (.bool (p x))):Pq 96 [.aa2 (xs.map Dep.cs),.int .i64 n,.func (.func g) first cap] (.bool (decide ((xs.length:Int)<=n)&&xs.all p)):=by
 refine aw8 fok96 (nZ rfl) λσ=>?_
 by_cases a:(xs.length:Int)<=n
 .simp only[ic96,go_sem,a];refine aa4 fok79 (cg7 xs 161 [] [.ab5 [.func (.func g) first cap]] (λx=>!p x) h fok161.1 λx e=>hg8 x g first cap (p x) i d b (f x e)) ?_;have:(!xs.any λx=>!p x)=xs.all p:=by rw[z5];simp
  simp only[go_sem,a,this,and_self]
 .simp only[ic96,go_sem,a,and_self]
def hg9 (xs:List Str)(g:Nat)(first cap:List IV)(q:Str->Bool)(o:xs.length<2^62)(d:okF Tryz.prog g=true)
  (k:∀x∈xs,Pq g (first++[IV.str x]++cap) (.bool (q x))):Pq 221 [.aa2 (xs.map cc4),.func (.func g) first cap] (.int .i64 (ak4 q xs 0)):=by
 refine aw8 fok221 (nZ rfl) λσ=>?_
 simp only[ic221,go_sem];refine aa9 noT (λi fr s=>s=σ/\fr=[(0,.aa2 (xs.map cc4)),(1,.func (.func g) first cap),(7,.int .i64 xs.length),(8,.int .i64 i)]/\ak4 q xs 0=ak4 q (xs.drop i) i) xs.length ⟨rfl,rfl,rfl⟩ ?_;rintro i fr s hi ⟨rfl,rfl,hf⟩;by_cases b:i<xs.length
 .have⟨x,m,_,f,c,_⟩:=ad3 xs i b;have h:(i:Int)<xs.length:=om;have n:(0:Int)<=i:=om;have j:=ac6 (i:=i) om;rw[f] at hf;simp only[go_sem,h,n,c,ee9,cc4];refine ak7 d (ey8 (k x m)) ?_;rintro v s ⟨rfl,rfl⟩;refine ⟨za _,?_⟩
  cases a:q x with
  | true=>simp only[go_sem,hf,ak4,a,and_self]
  | false=>
   simp only[go_sem,j];exact ⟨b,by rw[hf];simp only[ak4,a,zj,if_false,qd,qc]⟩
 .have e:i=xs.length:=om;subst e;have h:¬(xs.length:Int)<xs.length:=om;rw[ze] at hf;simp only[go_sem,h,hf,ak4,and_self]
def hh4 (xs:List Str)(g:Nat)(first cap:List IV)(q:Str->Bool)(c:xs.length<2^62)(a:okF Tryz.prog g=true)
  (b:∀x∈xs,Pq g (first++[IV.str x]++cap) (.bool (q x))):Pq 162 [.aa2 (xs.map cc4),.func (.func g) first cap] (.bool (xs.any q)):=by
 refine aw8 fok162 (nZ rfl) λσ=>?_
 simp only[ic162,go_sem];refine aa4 fok221 (hg9 xs g first cap q c a b) ?_;simp only[go_sem,aw2,and_self]
def hh5 (x:Str)(g:Nat)(first cap:List IV)(b:Bool)(f:∀c∈first,Bnd 0 c)(e:∀c∈cap,Bnd 0 c)(a:okF Tryz.prog g=true)(d:Pq g (first++[IV.str x]++cap) (.bool b)) :
  Pq 163 [IV.str x,.ab5 [.func (.func g) first cap]] (.bool !b):=by
 refine aw8 fok163 (nZ rfl) λσ=>?_
 simp only[ic163,go_sem,ee9,cc4];refine ak7 a (ey8 d) ?_;rintro v s ⟨rfl,rfl⟩;refine ⟨za _,?_⟩;simp only[go_sem,and_self]
def ip4 (xs:List Str)(n:Int)(g:Nat)(first cap:List IV)(p:Str->Bool)(h:xs.length<2^62)(i:∀c∈first,Bnd 0 c)(d:∀c∈cap,Bnd 0 c)(b:okF Tryz.prog g=true)
  (f:∀x∈xs,Pq g (first++[IV.str x]++cap) (.bool (p x))):Pq 97 [.aa2 (xs.map cc4),.int .i64 n,.func (.func g) first cap] (.bool (decide ((xs.length:Int)<=n)&&xs.all p)):=by
 refine aw8 fok97 (nZ rfl) λσ=>?_
 by_cases a:(xs.length:Int)<=n
 .simp only[ic97,go_sem,a];refine aa4 fok162 (hh4 xs 163 [] [.ab5 [.func (.func g) first cap]] (λx=>!p x) h fok163.1 λx e=>hh5 x g first cap (p x) i d b (f x e)) ?_;have:(!xs.any λx=>!p x)=xs.all p:=by rw[z5];simp
  simp only[go_sem,a,this,and_self]
 .simp only[ic97,go_sem,a,and_self]
def gh9 (xs:List aa6)(g:Nat)(first cap:List IV)(q:aa6->Bool)(o:xs.length<2^62)(d:okF Tryz.prog g=true)
  (k:∀x∈xs,Pq g (first++[IV.agg (aa6.cs x)]++cap) (.bool (q x))):Pq 142 [.aa2 (xs.map aa6.cs),.func (.func g) first cap] (.int .i64 (ak4 q xs 0)):=by
 refine aw8 fok142 (nZ rfl) λσ=>?_
 simp only[ic142,go_sem];refine aa9 noT (λi fr s=>s=σ/\fr=[(0,.aa2 (xs.map aa6.cs)),(1,.func (.func g) first cap),(7,.int .i64 xs.length),(8,.int .i64 i)]/\ak4 q xs 0=ak4 q (xs.drop i) i) xs.length ⟨rfl,rfl,rfl⟩ ?_;rintro i fr s hi ⟨rfl,rfl,hf⟩;by_cases b:i<xs.length
 .have⟨x,m,_,f,c,_⟩:=ad3 xs i b;have h:(i:Int)<xs.length:=om;have n:(0:Int)<=i:=om;have j:=ac6 (i:=i) om;rw[f] at hf;simp only[go_sem,h,n,c,ac5,ab9,ab3];refine ak7 d (ey8 (k x m)) ?_;rintro v s ⟨rfl,rfl⟩;refine ⟨za _,?_⟩
  cases a:q x with
  | true=>simp only[go_sem,hf,ak4,a,and_self]
  | false=>
   simp only[go_sem,j];exact ⟨b,by rw[hf];simp only[ak4,a,zj,if_false,qd,qc]⟩
 .have e:i=xs.length:=om;subst e;have h:¬(xs.length:Int)<xs.length:=om;rw[ze] at hf;simp only[go_sem,h,hf,ak4,and_self]
def bd7 (xs:List aa6)(g:Nat)(first cap:List IV)(q:aa6->Bool)(c:xs.length<2^62)(a:okF Tryz.prog g=true)
  (b:∀x∈xs,Pq g (first++[IV.agg (aa6.cs x)]++cap) (.bool (q x))):Pq 82 [.aa2 (xs.map aa6.cs),.func (.func g) first cap] (.bool (xs.any q)):=by
 refine aw8 fok82 (nZ rfl) λσ=>?_
 simp only[ic82,go_sem];refine aa4 fok142 (gh9 xs g first cap q c a b) ?_;simp only[go_sem,aw2,and_self]
def gi1 (x:aa6)(g:Nat)(first cap:List IV)(b:Bool)(f:∀c∈first,Bnd 0 c)(e:∀c∈cap,Bnd 0 c)(a:okF Tryz.prog g=true)(d:Pq g (first++[IV.agg (aa6.cs x)]++cap) (.bool b)) :
  Pq 165 [IV.agg (aa6.cs x),.ab5 [.func (.func g) first cap]] (.bool !b):=by
 refine aw8 fok165 (nZ rfl) λσ=>?_
 simp only[ic165,go_sem,ac5,ab9,ab3];refine ak7 a (ey8 d) ?_;rintro v s ⟨rfl,rfl⟩;refine ⟨za _,?_⟩;simp only[go_sem,and_self]
def hh6 (xs:List aa6)(n:Int)(g:Nat)(first cap:List IV)(p:aa6->Bool)(h:xs.length<2^62)(i:∀c∈first,Bnd 0 c)(d:∀c∈cap,Bnd 0 c)(b:okF Tryz.prog g=true)
  (f:∀x∈xs,Pq g (first++[IV.agg (aa6.cs x)]++cap) (.bool (p x))):Pq 99 [.aa2 (xs.map aa6.cs),.int .i64 n,.func (.func g) first cap] (.bool (decide ((xs.length:Int)<=n)&&xs.all p)):=by
 refine aw8 fok99 (nZ rfl) λσ=>?_
 by_cases a:(xs.length:Int)<=n
 .simp only[ic99,go_sem,a];refine aa4 fok82 (bd7 xs 165 [] [.ab5 [.func (.func g) first cap]] (λx=>!p x) h fok165.1 λx e=>gi1 x g first cap (p x) i d b (f x e)) ?_;have:(!xs.any λx=>!p x)=xs.all p:=by rw[z5];simp
  simp only[go_sem,a,this,and_self]
 .simp only[ic99,go_sem,a,and_self]
def fn9 (x:Int×List aa6):List IV:=[.int .u8 x.1,ao3 x.2]
def hh7 (p:aa1):List (List IV):=p.rows.map fn9
def ag4 (p:aa1):∀c∈p.cs,Bnd 0 c:=by
 intro c hc;simp only[aa1.cs,zp,zn,or_false] at hc;rcases hc with rfl|rfl|rfl|rfl|rfl|rfl|rfl|rfl|rfl|rfl|rfl|rfl|rfl|rfl|rfl<;>first|exact .str _|exact .int _ _|exact cg6 _|exact bd6 _|exact cz6 _
def ap5 (p:aa1):Bnd 0 (.agg p.cs):=.agg _ (ag4 p)
def ad8 (p:aa1):p.cs.length=15:=rfl
def ad9 (p:aa1):p.cs.take 15=p.cs:=rfl
def ac9 (p:aa1):p.cs.all IV.leaf=true:=rfl
def ip5 (p:aa1):Pq 98 [.agg p.cs] (.func (.func 164) [] [.ab5 p.cs]):=by
 refine aw8 fok98 (nZ rfl) λσ=>?_
 simp only[ic98,go_sem,ac9,and_self]
def gi2 (p:aa1):fi4 Tryz.prog EE (.func (.func 164) [] [.ab5 p.cs]) (hh7 p) (λ_=>True):=by
 intro f I S σ e c b hi;refine ⟨fok164.1,?_⟩;refine C_f fok164 (nZ rfl) ?_;simp only[ic164,go_sem,aa1.cs];simp only[hh7,aa1.rows,zz,zm,fn9] at hi;have a:∀s,σ.next<=s.next->S s->jy8 σ.next I S (.tuple []) s:=λs u hs=>⟨u,.inr hs⟩
 refine cw5 b hi (λs1 d t=>?_) (λs1 d D=>by simp only[go_sem];exact a _ d D);simp only[go_sem];refine cw5 b t (λs2 k r=>?_) (λs2 k B=>by simp only[go_sem];exact a _ om B);simp only[go_sem];refine cw5 b r (λs3 j q=>?_) (λs3 j A=>by simp only[go_sem];exact a _ om A);simp only[go_sem];refine cw5 b q (λs4 i o=>?_) (λs4 i z=>by simp only[go_sem];exact a _ om z);simp only[go_sem];refine cw5 b o (λs5 h n=>?_) (λs5 h y=>by simp only[go_sem];exact a _ om y);simp only[go_sem];refine cw5 b n (λs6 g m=>?_) (λs6 g x=>by simp only[go_sem];exact a _ om x);simp only[go_sem];exact ⟨om,.inl m⟩
def jm9 (r:aa6)(a:Int)(hf:r.fit)(hc:r.count<2^62):Pq 100 [.agg r.cs,.ab5 [.int .u8 a]] (.bool (decide (af3 r a=0))):=by
 refine aw8 fok100 (nZ rfl) λσ=>?_
 simp only[ic100,go_sem,ac5,ab9,ab3];refine aa4 fok101 (dg5 r a hf hc) ?_;simp only[go_sem,and_self]
def ip6 (l:List aa6)(a:Int)(c:l.length<2^62)(hf:∀r∈l,r.fit/\r.count<2^31):Pq 99 [ao3 l,.int .i64 32,.func (.func 100) [] [.ab5 [.int .u8 a]]] (.bool (ai2 l a)):=by
 have h:=hh6 l 32 100 [] [.ab5 [.int .u8 a]] (λr=>decide (af3 r a=0)) c (λc hc=>by cases hc) (ae6 (.ab5 _ (ae6 (.int _ _)))) fok100.1 λx b=>jm9 x a (hf x b).1 (by have:=(hf x b).2;omega)
 have e:decide ((l.length:Int)<=32)=decide (l.length<=32):=decide_eq_decide.2 om;rw[e] at h;exact h
def hh8 {σ:Store}{f id:Nat}{cs:List IV}(a:σ.obj id=zh (.cells cs))(d:∀c∈cs,Bnd 0 c):cc3 σ 0 (.func (.func f) [] [.ptr id 0]) (.func (.func f) [] [.ab5 cs]):=by
 refine .func _ [] [] _ _ rfl rfl (λi hi=>absurd hi (zf _)) (λi hi=>?_)
 match i,hi with
 | 0,_=>
  refine .ptr id 0 cs cs (zf _) (.inl a) om (λj b=>?_);rw[Nat.zero_add];exact .keep _ (d _ (ad5 _ b))
def fd3 {l:List Str}{i:Nat}{f:Str}(h0:0<i)(h:l.drop i=f::l.drop (i+1)):∃a,l[i-1]? = zh a/\rising (l.drop (i-1))=(Op.bytesLess a f&&rising (l.drop i)):=by
 have d:i<l.length:=by
  rcases Nat.lt_or_ge i l.length with b|b
  .exact b
  .rw[List.drop_of_length_le b] at h;cases h
 have c:i-1<l.length:=om;refine ⟨l[i-1],z0 c,?_⟩;rw[List.drop_eq_getElem_cons c,show i-1+1=i from by omega,h];rfl
def hh9 (p:aa1)(hf:p.Fit):Pq 49 [.agg p.cs] (.bool (ae9 p)):=by
 refine af5 hE fok49 (nZ rfl) (ae6 (ap5 _)) ?_;simp only[ic49,go_sem,ac9,aa1.cs];refine aa4 fok53 (cs5 p.name hf.name) ?_
 cases h1:at5 p.name with
 | false=>simp only[go_sem,ae9,h1];exact ab6 _
 | true=>
 simp only[go_sem];refine aa4 fok55 (cs6 p.name hf.name) ?_
 cases h2:bj8 p.name with
 | true=>simp only[go_sem,ae9,h1,h2];exact ab6 _
 | false=>
 simp only[go_sem];refine aa4 (v:=.bool (bg6 p.evr false)) fok56 (ep7 p.evr false hf.evr.1 hf.evr.2) ?_
 cases h3:bg6 p.evr false with
 | false=>simp only[go_sem,ae9,h1,h2,h3];exact ab6 _
 | true=>
 simp only[go_sem];refine aa4 fok95 (fc7 p.al9) ?_;have h4':=cg2 p.al9
 cases h4:ao7 p.al9 with
 | false=>
  rw[h4] at h4'
  simp only[go_sem,h4',ae9,h1,h2,h3,h4];exact ab6 _
 | true=>
 rw[h4] at h4';simp only[go_sem,h4'];by_cases h5:p.vendor.length<=64
 case neg=>
  have h5':(64:Int)<p.vendor.length:=om;simp only[go_sem,h5',ae9,h1,h2,h3,h4,h5];exact ab6 _
 have h5':¬(64:Int)<p.vendor.length:=om;simp only[go_sem,h5'];have e32:∀n:Nat,decide ((n:Int)<=32)=decide (n<=32):=λn=>decide_eq_decide.2 om
 have hp6:=fn8 p.provides 32 21 [] [] ak2 (by have:=hf.au4.1;omega) (λc hc=>by cases hc) (λc hc=>by cases hc) fok21.1 λx hx=>br6 x (hf.au4.2 x hx).1 (hf.au4.2 x hx).2.1 (hf.au4.2 x hx).2.2
 have hp7:=fn8 p.ab2 32 21 [] [] ak2 (by have:=hf.obs.1;omega) (λc hc=>by cases hc) (λc hc=>by cases hc) fok21.1 λx hx=>br6 x (hf.obs.2 x hx).1 (hf.obs.2 x hx).2.1 (hf.obs.2 x hx).2.2
 have hp8:=ip4 p.files 32 55 [] [] bj8 (by have:=hf.files.1;omega) (λc hc=>by cases hc) (λc hc=>by cases hc) fok55.1 λx hx=>cs6 x (hf.files.2 x hx)
 rw[e32] at hp6 hp7 hp8;refine aa4 fok96 hp6 ?_
 cases h6:(decide (p.provides.length<=32)&&p.provides.all ak2) with
 | false=>simp only[go_sem,ae9,h1,h2,h3,h4,h5,h6];exact ab6 _
 | true=>
 simp only[go_sem];refine aa4 fok96 hp7 ?_
 cases h7:(decide (p.ab2.length<=32)&&p.ab2.all ak2) with
 | false=>simp only[go_sem,ae9,h1,h2,h3,h4,h5,h6,h7];exact ab6 _
 | true=>
 simp only[go_sem];refine aa4 fok97 hp8 ?_
 cases h8:(decide (p.files.length<=32)&&p.files.all bj8) with
 | false=>simp only[go_sem,ae9,h1,h2,h3,h4,h5,h6,h7,h8];exact ab6 _
 | true=>
 have hmay:ae9 p=(rising p.files&&p.rows.all λx=>ai2 x.2 x.1):=by
  simp only[ae9,h1,h2,h3,h4,h5,h6,h7,h8,aa1.rows,qf,qh,decide_true,Bool.not_false,Bool.and_true,zi,Bool.and_assoc]
 simp only[go_sem];rw[hmay];refine aa9 noT (λi fr s=>fr=[(1,.ab5 p.cs),(2,.ptr 0 0),(52,strs p.files),(53,.int .i64 p.files.length),(54,.int .i64 i)]/\(s.obj 0=zh (.cells [.bool false])/\0<s.next)/\rising p.files=rising (p.files.drop (i-1))) p.files.length ⟨rfl,⟨?_,?_⟩,rfl⟩ ?_
 .simp only[aa3,if_true]
 .exact Nat.zero_lt_one
 rintro i fr s hi ⟨rfl,⟨q1,q2⟩,hr⟩;by_cases hlt:i<p.files.length
 .have⟨f,ha,hfi,hdr,hget,_⟩:=ad3 p.files i hlt;have c1:(i:Int)<p.files.length:=om;have c2:(0:Int)<=i:=om;have w1:=ac6 (i:=i) (by have:=hf.files.1;omega);by_cases h0:0<i
  .have c0:(0:Int)<i:=om;have⟨a,ha1,ha2⟩:=fd3 h0 hdr;have hget':(p.files.map cc4).getD (i-1) []=cc4 a:=by simp[zx,ha1]
   have w0:IntKind.i64.wrap ((i:Int)-1)=((i-1:Nat):Int):=by
    have:=hf.files.1;rw[wrap64 om om];omega
   have c3:(0:Int)<=((i-1:Nat):Int):=om;have c4:((i-1:Nat):Int)<p.files.length:=om;rw[ha2] at hr;simp only[go_sem,c0,c1,c2,c3,c4,w0,w1,hget,hget',cc4,aa1.cs]
   cases hb:Op.bytesLess a f with
   | true=>
    rw[hb,zi] at hr;simp only[go_sem,w1]
    exact ⟨hlt,⟨q1,q2⟩,hr⟩
   | false=>
    rw[hb,qe] at hr;simp only[go_sem,q1,hr];exact ab6 _
  .have c0:¬(0:Int)<i:=om;simp only[go_sem,c0,c1,c2,w1,hget,cc4];refine ⟨hlt,⟨q1,q2⟩,?_⟩;have:i=0:=om;subst this;exact hr
 .have hi':i=p.files.length:=om;subst hi';have c1:¬(p.files.length:Int)<p.files.length:=om
  have hrt:rising p.files=true:=by
   rw[hr]
   cases hl:p.files.drop (p.files.length-1) with
   | nil=>rfl
   | cons x l=>
    have h1:=congrArg List.length hl;rw[zr,zo] at h1;have h2:l=[]:=List.length_eq_zero_iff.1 om;rw[h2];rfl
  rw[hrt,zi];simp only[go_sem,c1,ad8,ad9];refine aa4 fok98 (ip5 p) ?_;simp only[go_sem];have e0:¬0=s.next:=om;have e1:¬s.next=0:=om;refine dc1 (gi2 p) (λrest s=>(0<s.next/\s.obj 0=zh (.cells [.bool false]))/\∃ts:List (Int×List aa6),rest=ts.map fn9/\(∀x∈ts,x∈p.rows)/\(p.rows.all λx:Int×List aa6=>ai2 x.2 x.1)=ts.all λx:Int×List aa6=>ai2 x.2 x.1) (λ_ _ h=>trivial) ?_ ?_ ?_ ?_ ?_
  .rintro rest s s' ⟨⟨q1,q2⟩,q4⟩ hn' hs';exact ⟨⟨om,by rw[hs' 0 q1];exact q2⟩,q4⟩
  .intro a ha;obtain ⟨x,_,rfl⟩:=zd.1 ha;rfl
  .intro o;exact ⟨⟨by show 0<s.next+1;omega,by simp only[aa3,e0,if_false];exact q1⟩,_,rfl,λx hx=>hx,rfl⟩
  .rintro L pre a rest t hev ⟨⟨q3,q4⟩,ts,hts,hin,hall⟩ hL hlt
   cases ts with
   | nil=>cases hts
   | cons x ts=>
    simp only[zz,List.cons.injEq] at hts;obtain ⟨rfl,rfl⟩:=hts;have⟨wh,l⟩:=x;simp only[qf] at hall;have hfx:=hf.rich _ (hin _ (zl ..));have hin':∀y∈ts,y∈p.rows:=λy hy=>hin y (zk _ hy)
    have u0:¬0=t.next:=om;have u1:¬s.next=t.next:=om;have u2:¬t.next=s.next:=om;have u3:¬t.next=0:=om;simp only[fn9,go_sem,hL,q4,e0,e1,u0,u1,u2,u3];refine ab8 fok99 (bq4 (args':=[ao3 l,.int .i64 32,.func (.func 100) [] [.ab5 [.int .u8 wh]]]) hE rfl ?_ (by unfold IV.plain;rfl) (ip6 l wh (qs hfx.1 (by decide)) hfx.2)) ?_
    .intro i hi
     match i,hi with
     | 0,_=>exact .keep _ (bd6 l)
     | 1,_=>exact .keep _ (.int _ _)
     | 2,_=>exact hh8 (by simp only[aa3,u2,if_false,if_true]) (ae6 (.int _ _))
    .rintro v s2 ⟨rfl,rfl⟩;refine ⟨za _,?_⟩
     cases hok:ai2 l wh with
     | true=>
      simp only[go_sem]
      refine ea6 (by simp only[aa7];omega) (by simp only[aa3,if_true]) ⟨⟨by simp only[aa7];omega,by simp only[aa3,e0,u0,if_false];exact q4⟩,ts,rfl,hin',by rw[hall,hok,zi]⟩
     | false=>
      simp only[go_sem,q4,e0,e1,u0,u1,u2,u3];refine db9 (by simp only[aa7];omega) (by simp only[aa3,if_true]) ?_;simp only[go_sem,e0,u0];rw[hall,hok];exact ab6 _
  .rintro t o ⟨⟨q3,q4⟩,ts,hts,_,hall⟩ hlt ho;have:ts=[]:=by cases ts with|nil=>rfl|cons _ _=>cases hts
   subst this;rw[hall];simp only[go_sem,e0,q4,qh];exact ab6 _
def ad1 (n:Int):List IV:=[.int .i64 n]
def ax6 (l:List Int):Bnd 0 (.aa2 (l.map ad1)):=.aa2 _ λe a c hc=>by
 obtain ⟨d,_,rfl⟩:=zd.1 a;cases hc with|head=>exact .int _ _|tail _ h=>cases h
def ap6 {es:List (List IV)}(h:Bnd 0 (.aa2 es)):∀e∈es,∀c∈e,Bnd 0 c:=by
 cases h with|aa2 _ h=>exact h
def dg6 (xs:List Dep)(i:xs.length<=2147483648):Pq 102 [.aa2 (xs.map Dep.cs)] (.aa2 (xs.map Dep.cs)):=by
 cases f:xs with
 | nil=>
  rw[zm];refine bp8 ?_ ?_
  .refine af5 hE fok102 (nZ rfl) (ae6 .aa5) ?_;simp only[ic102,go_sem,aj9];exact .by1
  .refine af5 hE fok102 (nZ rfl) (ae6 .af7) ?_;simp only[ic102,go_sem,aj9];rw[bm5 (by simp only[aa3,if_true]) rfl];simp only[go_sem]
   exact .dm8 _ _ _ (by simp only[aa3,if_true];exact λh=>(by cases h))
 | cons a as'=>
  have g:xs.map Dep.cs≠[]:=by rw[f];exact λh=>(by cases h)
  have c:∀e∈xs.map Dep.cs,e.length=5/\e.all IV.leaf=true:=λe j=>by
   obtain ⟨x,_,rfl⟩:=zd.1 j;exact ⟨aq8 x,am8 x⟩
  have b:ci5 (.slice 0) (.aa2 (xs.map Dep.cs))=zh false:=by rw[f];rfl
  rw[<- f];refine af5 hE fok102 (nZ rfl) (ae6 (cg6 xs)) ?_;have b:∀d,ci5 (.slice d) (.aa2 (xs.map Dep.cs))=zh false:=λd=>by rw[f];rfl
  simp only[ic102,go_sem,aj9,b];rw[bz8 (by simp only[aa3,if_true]) g c (by rw[zb];exact i)];simp only[go_sem];refine Grow.frz (esz:=5) (es:=xs.map Dep.cs) (.inr ⟨1,by rw[zb],by simp only[aa3,if_true],z6 _⟩) (λx f=>(c x f).1) (λ_ _=>zf _) (ap6 (cg6 xs))
def fd4 (xs:List Str)(i:xs.length<=2147483648):Pq 103 [.aa2 (xs.map cc4)] (.aa2 (xs.map cc4)):=by
 cases f:xs with
 | nil=>
  rw[zm];refine bp8 ?_ ?_
  .refine af5 hE fok103 (nZ rfl) (ae6 .aa5) ?_;simp only[ic103,go_sem,aj9];exact .by1
  .refine af5 hE fok103 (nZ rfl) (ae6 .af7) ?_;simp only[ic103,go_sem,aj9];rw[bm5 (by simp only[aa3,if_true]) rfl];simp only[go_sem]
   exact .dm8 _ _ _ (by simp only[aa3,if_true];exact λh=>(by cases h))
 | cons a as'=>
  have g:xs.map cc4≠[]:=by rw[f];exact λh=>(by cases h)
  have c:∀e∈xs.map cc4,e.length=1/\e.all IV.leaf=true:=λe j=>by
   obtain ⟨x,_,rfl⟩:=zd.1 j;exact ⟨rfl,rfl⟩
  have b:ci5 (.slice 0) (.aa2 (xs.map cc4))=zh false:=by rw[f];rfl
  rw[<- f];refine af5 hE fok103 (nZ rfl) (ae6 (cz6 xs)) ?_;have b:∀d,ci5 (.slice d) (.aa2 (xs.map cc4))=zh false:=λd=>by rw[f];rfl
  simp only[ic103,go_sem,aj9,b];rw[bz8 (by simp only[aa3,if_true]) g c (by rw[zb];exact i)];simp only[go_sem];refine Grow.frz (esz:=1) (es:=xs.map cc4) (.inr ⟨1,by rw[zb],by simp only[aa3,if_true],z6 _⟩) (λx f=>(c x f).1) (λ_ _=>zf _) (ap6 (cz6 xs))
def cg8 (xs:List aa6):∀e∈xs.map aa6.cs,e.length=7/\e.all IV.leaf=true:=λe a=>by
 obtain ⟨x,_,rfl⟩:=zd.1 a;exact ⟨ac5 x,ab3 x⟩
def fd5:List IV:=[.int .u8 0,.str [],.int .u8 0,.int .i64 0,.str [],.str [],.aa5]
def ep9 (r:aa6):r.fit->Pq 105 [.agg r.cs] (.agg r.cs):=by
 induction r using aa6.ind with
 | h k d xs ih=>
  intro hf;have⟨f1,f2,Y,X,U⟩:=aa6.ce5.1 hf;refine af5 hE fok105 (nZ rfl) (ae6 (ah2 _)) ?_;rw[aa6.as1];simp only[ic105,go_sem,aa6.kind,aa6.dep,aa6.args,ce4];refine aa9 noT (λi fr s=>fr=[(2,.ptr 0 0),(3,.ptr 1 0),(12,.aa2 (xs.map aa6.cs)),(13,.int .i64 xs.length),(14,.int .i64 i)]/\∃v,s.obj 0=zh (.cells fd5)/\s.obj 1=zh (.cells [.int .u8 k,.str d.name,.int .u8 d.op,.int .i64 d.evr.ar6,.str d.evr.ver,.str d.evr.rel,v])/\Grow s v 7 ((xs.take i).map aa6.cs)/\1<s.next) xs.length ⟨rfl,.aa5,?_,?_,.inl ⟨rfl,rfl⟩,?_⟩ ?_
  .simp only[aa3,reduceCtorEq,qa,qb,zw,z3,zt,z2,z1,z7,zs,decide_true,decide_false,↓reduceIte,if_true,if_false];rfl
  .simp only[aa3,reduceCtorEq,qa,qb,zw,z3,zt,z2,z1,z7,zs,decide_true,decide_false,↓reduceIte,if_true,if_false]
  .show 1<2;omega
  rintro i fr s P ⟨rfl,v,p,o,m,W⟩;by_cases f:i<xs.length
  .have⟨a,H,_,T,g,y⟩:=ad3 xs i f;have B:(i:Int)<xs.length:=om;have V:(0:Int)<=i:=om;have I:=ac6 (i:=i) om;have D:¬1=s.next:=om;have M:¬0=s.next:=om;simp only[go_sem,B,V,g,ac5,ab9,ab3,o,D,ce4];refine aa8 (ih a H (U a H)) ?_;simp only[go_sem,ac5,ab9,ab3]
   have c:Grow ⟨s.next+1+8,((Store.put ⟨s.next+1,s.obj⟩ s.next (aj8.cells fd5)).put s.next (aj8.cells a.cs)).obj⟩ v 7 ((xs.take i).map aa6.cs):=m.mono (by show s.next<=s.next+1+8;omega) λid _ S=>by
    have:¬id=s.next:=om;simp only[aa3,this,if_false]
   have b:((xs.take i).map aa6.cs).length=i:=by rw[zb,qi];omega
   have n:=ai1 (nid:=s.next+1+1+1+1+1+1) (e:=a.cs) c (cg8 _) ⟨ac5 a,ab3 a⟩ (by rw[b];omega);have E:=ae4 c 1 (.cells [.int .u8 k,.str d.name,.int .u8 d.op,.int .i64 d.evr.ar6,.str d.evr.ver,.str d.evr.rel,v]) (by simp only[aa3,D,if_false];exact o) (λ_ h=>by cases h);have F:=ae4 c 0 (.cells fd5) (by simp only[aa3,M,if_false];exact p) (λ_ h=>by cases h);have q:=ac1 (σ:=⟨s.next+1+8,((Store.put ⟨s.next+1,s.obj⟩ s.next (aj8.cells fd5)).put s.next (aj8.cells a.cs)).obj⟩) v;simp only[fd5] at n E F q;rw[n,b];have L:¬1=s.next+1+1+1+1+1+1:=om;have K:¬0=s.next+1+1+1+1+1+1:=om;have J:¬s.next+1+1+1+1+1+1=1:=om;simp only[go_sem,L,E,I];refine ⟨f,_,?_,rfl,?_,?_⟩
   .simp only[K,if_false,fd5];exact F
   .rw[y,zv,zz,zm];refine .inr ⟨_,by rw[zg,b];rfl,?_,?_⟩
    .simp only[aa3,J,if_false,if_true]
    .simp only[aa7,q];omega
   .rw[q];show 1<s.next+1+8;omega
  .have A:i=xs.length:=om;subst A;have B:¬(xs.length:Int)<xs.length:=om;rw[z4] at m
   have t:v.leaf=true:=by
    rcases m with ⟨rfl,_⟩|⟨id,rfl,_⟩<;>rfl
   simp only[go_sem,B,p,o,ce4,fd5,t];refine .agg _ _ rfl λj Q=>?_
   have:j=0\/j=1\/j=2\/j=3\/j=4\/j=5\/j=6:=by
    simp only[zo,z9] at Q;omega
   rcases this with rfl|rfl|rfl|rfl|rfl|rfl|rfl
   .exact ae5 _ _
   .exact bm4 _
   .exact ae5 _ _
   .exact ae5 _ _
   .exact bm4 _
   .exact bm4 _
   .have z:∀id,v=.slice id 0 (xs.map aa6.cs).length 7->id≠0:=λid u=>m.ne u p (λ_ h=>by cases h)
    refine Grow.frz (m.mono (za _) λid u _=>?_) (λx N=>(cg8 xs x N).1) (λ_ _=>zf _) (ap6 (bd6 xs));have:¬id=0:=z id u;simp only[aa3,this,if_false]
def fd6 (xs:List aa6)(σ:Store)(f:xs.length<=2147483648):Cq 104 [.aa2 (xs.map aa6.cs)] σ λv s=>(∀i,i<σ.next->s.obj i=σ.obj i)/\σ.next<=s.next/\Grow s v 7 (xs.map aa6.cs)/\∀id,v=.slice id 0 xs.length 7->σ.next<=id:=by
 cases c:xs with
 | nil=>
  rw[zm];refine fi5 ?_ ?_
  .refine C_f fok104 (nZ rfl) ?_;simp only[ic104,go_sem,aj9];exact ⟨λ_ _=>trivial,za _,.inl ⟨rfl,rfl⟩,λid h=>by cases h⟩
  .refine C_f fok104 (nZ rfl) ?_;simp only[ic104,go_sem,aj9];rw[bm5 (by simp only[aa3,if_true]) rfl];simp only[go_sem];refine ⟨λi hi=>?_,om,.inr ⟨σ.next,rfl,by simp only[aa3,if_true];rfl,by show σ.next<σ.next+2;omega⟩,λid h=>by cases h;exact za _⟩;have:¬i=σ.next:=om
   simp only[this,if_false]
 | cons a as'=>
  have e:xs.map aa6.cs≠[]:=by rw[c];exact λh=>(by cases h)
  rw[<- c];refine C_f fok104 (nZ rfl) ?_;have b:∀d,ci5 (.slice d) (.aa2 (xs.map aa6.cs))=zh false:=λd=>by rw[c];rfl
  simp only[ic104,go_sem,aj9,b];rw[bz8 (by simp only[aa3,if_true]) e (cg8 xs) (by rw[zb];exact f)];simp only[go_sem];refine ⟨λi hi=>?_,om,.inr ⟨σ.next+1,by rw[zb],by simp only[aa3,if_true],by show σ.next+1<σ.next+2;omega⟩,λid h=>by cases h;omega⟩;have j:¬i=σ.next:=om;have g:¬i=σ.next+1:=om;simp only[j,g,if_false]
def dg7 (s:Store)(done:Prop)(v:IV)(l:List aa6):Prop:=(done/\Grow s v 7 (l.map aa6.cs))\/(¬done/\v=ao3 l)
def dg7.mono {s s':Store}{done a:Prop}{v:IV}{l:List aa6}(h:dg7 s done v l)(e:done↔a)(i:s.next<=s'.next)(g:∀id cs,id<s.next->s.obj id=zh (.row cs)->s'.obj id=zh (.row cs)):dg7 s' a v l:=by
 rcases h with ⟨d,c⟩|⟨d,c⟩
 .refine .inl ⟨e.1 d,?_⟩;rcases c with c|⟨id,f,hr,b⟩
  .exact .inl c
  .exact .inr ⟨id,f,g _ _ b hr,qs b i⟩
 .exact .inr ⟨λh=>d (e.2 h),c⟩
def dg7.leaf {s:Store}{done:Prop}{v:IV}{l:List aa6}(h:dg7 s done v l):v.leaf=true:=by
 rcases h with ⟨_,⟨rfl,_⟩|⟨id,rfl,_⟩⟩|⟨_,rfl⟩<;>rfl
def pcs (p:aa1)(v7 v8 v10 v11 v12 v13:IV):List IV :=
 [.str p.name,.int .i64 p.evr.ar6,.str p.evr.ver,.str p.evr.rel,.int .u8 p.al9,.str p.vendor,deps p.provides,v7,v8,deps p.ab2,v10,v11,v12,v13,strs p.files]
def fo1:List IV:=[.str [],.int .i64 0,.str [],.str [],.int .u8 0,.str [],.aa5,.aa5,.aa5,.aa5,.aa5,.aa5,.aa5,.aa5,.aa5]
def hi6:List (List IV):=[[.ptr 0 7],[.ptr 0 8],[.ptr 0 10],[.ptr 0 11],[.ptr 0 12],[.ptr 0 13]]
def ip7:Nat->Nat
 | 0=>7|1=>8|2=>10|3=>11|4=>12|_=>13
def ip8 (p:aa1):Nat->List aa6
 | 0=>p.requires|1=>p.conflicts|2=>p.ae1|3=>p.ac7|4=>p.suggests|_=>p.ak8
def gi3 (p:aa1)(v:Nat->IV):List IV:=pcs p (v 0) (v 1) (v 2) (v 3) (v 4) (v 5)
def up6 (v:Nat->IV)(i:Nat)(x:IV)(k:Nat):IV:=if k=i then x else v k
def six {q:Nat->Prop}(h0:q 0)(e:q 1)(d:q 2)(c:q 3)(b:q 4)(a:q 5){i:Nat}(h:i<6):q i :=
 match i,h with
 | 0,_=>h0|1,_=>e|2,_=>d|3,_=>c|4,_=>b|5,_=>a
def kf1 (p:aa1)(v:Nat->IV)(x:IV){i:Nat}(h:i<6):ay4 (gi3 p v) (ip7 i) [x]=gi3 p (up6 v i x):=six (q:=λi=>ay4 (gi3 p v) (ip7 i) [x]=gi3 p (up6 v i x)) rfl rfl rfl rfl rfl rfl h
def kf2 (p:aa1)(v:Nat->IV){i:Nat}(h:i<6):((gi3 p v).drop (ip7 i)).head? = zh (v i):=six (q:=λi=>((gi3 p v).drop (ip7 i)).head? = zh (v i)) rfl rfl rfl rfl rfl rfl h
def dw5 (p:aa1)(hf:p.Fit):Pq 50 [.agg p.cs] (.agg p.cs):=by
 refine af5 hE fok50 (nZ rfl) (ae6 (ap5 _)) ?_;simp only[ic50,go_sem,ac9,aa1.cs,bx5];refine aa8 (dg6 p.provides (by have:=hf.au4.1;omega)) ?_;simp only[go_sem,bx5];refine aa8 (dg6 p.ab2 (by have:=hf.obs.1;omega)) ?_;simp only[go_sem,bx5];refine aa8 (fd4 p.files (by have:=hf.files.1;omega)) ?_;simp only[go_sem,bx5];refine aa9 noT (λi fr s=>fr=[(1,.ptr 0 0),(2,.ptr 1 0),(25,.aa2 hi6),(26,.int .i64 6),(27,.int .i64 (i:Int))]/\(s.obj 1=zh (.cells fo1)/\1<s.next)/\∃v,s.obj 0=zh (.cells (gi3 p v))/\∀k,k<6->dg7 s (k<i) (v k) (ip8 p k)) 6 ?_ ?_
 .refine ⟨rfl,⟨?_,?_⟩,λk=>ao3 (ip8 p k),?_,λk _=>.inr ⟨zf _,rfl⟩⟩
  .simp only[aa3,reduceCtorEq,qa,qb,zw,z3,zt,z2,z1,z7,zs,decide_true,decide_false,↓reduceIte,if_true,if_false];rfl
  .simp only[aa7];omega
  .simp only[aa3,reduceCtorEq,qa,qb,zw,z3,zt,z2,z1,z7,zs,decide_true,decide_false,↓reduceIte,if_true,if_false];rfl
 rintro i fr s am ⟨rfl,⟨q1,hn⟩,v,q0,o⟩;by_cases c:i<6
 .have hv:v i=ao3 (ip8 p i):=(o i c).elim (λh=>absurd h.1 (Nat.lt_irrefl _)) λh=>h.2
  have n:(ip8 p i).length<2^31/\∀r∈ip8 p i,r.fit/\r.count<2^31:=six (q:=λi=>(ip8 p i).length<2^31/\∀r∈ip8 p i,r.fit/\r.count<2^31) (hf.rich (1,p.requires) (by simp[aa1.rows])) (hf.rich (2,p.conflicts) (by simp[aa1.rows])) (hf.rich (1,p.ae1) (by simp[aa1.rows])) (hf.rich (3,p.ac7) (by simp[aa1.rows])) (hf.rich (1,p.suggests) (by simp[aa1.rows])) (hf.rich (3,p.ak8) (by simp[aa1.rows])) c;have g1:=kf2 p v c;have g2:hi6.getD i []=[.ptr 0 (ip7 i)]:=six (q:=λi=>hi6.getD i []=[.ptr 0 (ip7 i)]) rfl rfl rfl rfl rfl rfl c;have g3:ip7 i+1<=15:=six (q:=λi=>ip7 i+1<=15) (by decide) (by decide) (by decide) (by decide) (by decide) (by decide) c;have g4:∀v,(gi3 p v).length=15:=λ_=>rfl
  have g5:hi6.length=6:=rfl;have c1:(i:Int)<6:=om;have c2:(0:Int)<=i:=om;have wi:=ac6 (i:=i) om;rw[hv] at g1;simp only[go_sem,c1,c2,g2,g5,q0,bx5,g1];refine ab8 fok104 (fd6 (ip8 p i) _ (by have:=n.1;omega)) ?_;rintro w M ⟨D,af,J,an⟩;refine ⟨af,?_⟩;have N:M.obj 0=zh (.cells (gi3 p v)):=by rw[D 0 om];exact q0
  have aa:M.obj 1=zh (.cells fo1):=by rw[D 1 om];exact q1
  have ac:w.leaf=true:=by rcases J with ⟨rfl,_⟩|⟨id,rfl,_⟩<;>rfl
  have ae:w.cs=[w]:=by rcases J with ⟨rfl,_⟩|⟨id,rfl,_⟩<;>rfl
  have g6:=kf1 p v w c;have Y:=kf2 p (up6 v i w) c;rw[show up6 v i w i=w from if_pos rfl] at Y;have ab:∀k,k≠i->up6 v i w k=v k:=λk F=>if_neg F
  have ad:up6 v i w i=w:=if_pos rfl;clear g1;generalize up6 v i w=u at *;obtain ⟨L,V⟩:∃L,L=ip8 p i:=⟨_,rfl⟩;rw[<- V] at hv n J ⊢;generalize ip7 i=off at *
  have Q:∀s,cx6 0 s w=zh (.int .i64 (L.length:Nat)):=λs=>by
   rcases J with ⟨rfl,he⟩|⟨id,rfl,_⟩
   .have:L=[]:=by simpa using he
    rw[this];rfl
   .rw[dc9,zb]
  simp only[go_sem,N,ac,ae,Q,bx5,g3,g4,g6,Y]
  refine aa9 noT (λj fr t=>fr=[(1,.ptr 0 0),(2,.ptr 1 0),(4,.ptr 0 off),(25,.aa2 hi6),(26,.int .i64 6),(27,.int .i64 (i:Int)),(39,w),(40,.int .i64 L.length),(41,.int .i64 j)] /\
   M.next<=t.next/\t.obj 0=zh (.cells (gi3 p u))/\t.obj 1=zh (.cells fo1)/\∀id cs,id<M.next->M.obj id=zh (.row cs)->t.obj id=zh (.row cs)) L.length ⟨rfl,za _,?_,?_,?_⟩ ?_
  .simp only[aa3,if_true]
  .simp only[aa3,reduceCtorEq,qa,qb,zw,z3,zt,z2,z1,z7,zs,decide_true,decide_false,↓reduceIte,if_false];exact aa
  .intro id cs f h;have:¬id=0:=λe=>by subst e;rw[N] at h;cases h
   simp only[aa3,this,if_false];exact h
  rintro j fr t ag ⟨rfl,t0,X,t2,W⟩;by_cases g:j<L.length
  .have⟨a,ha,_,ao,U,_⟩:=ad3 L j g;rcases J with ⟨_,he⟩|⟨id,rfl,P,H⟩
   .have:L=[]:=by simpa using he
    rw[this] at g;cases g
   have b:=W _ _ H P;have d1:(j:Int)<L.length:=om;have d2:(0:Int)<=j:=om;have w1:=ac6 (i:=j) (by have:=n.1;omega);have T:¬id=0:=λe=>by subst e;rw[X] at b;cases b
   have aj:¬id=1:=λe=>by subst e;rw[t2] at b;cases b
   have u0:¬0=t.next:=om;have u1:¬1=t.next:=om;have u2:¬id=t.next:=om;have u3:¬t.next=id:=om;have u4:¬0=id:=om;have u5:¬1=id:=om;have A:=λx hx=>(cg8 L x hx).1
   have m:=bc1 A;have d:=bp9 A j (by rw[zb];exact g);rw[U] at d;rw[zb] at m;have ai:7<=((L.map aa6.cs).flatten.drop (j*7)).length:=by rw[zr,m];omega
   have z:j*7+7<=(L.map aa6.cs).flatten.length:=by rw[m];omega
   have B:ay4 (L.map aa6.cs).flatten (j*7) a.cs=(L.map aa6.cs).flatten:=gt5 (by rw[ac5];exact d) (by rw[ac5];exact z);simp only[go_sem,d1,d2,b,ai,d,bx5,ey5,ac5,ab3,ab9,X,Y,u0,u2,u3,T];refine aa8 (ep9 a (n.2 a ha).1) ?_;simp only[go_sem,d1,d2,b,z,bx5,ey6,ac5,ab3,B,X,Y,u0,u2,w1];refine ⟨g,om,?_,?_,?_⟩
   .simp only[u4,if_false]
   .simp only[u5,u1,if_false];exact t2
   .intro id' cs f h;have h':=W id' cs f h;have u6:¬id'=t.next:=om;by_cases e:id'=id
    .subst e;rw[b] at h';simp only[if_true];exact h'
    .simp only[e,u6,if_false];exact h'
  .have ah:j=L.length:=om;subst ah;have d1:¬(L.length:Int)<L.length:=om
   have al:Grow t w 7 (L.map aa6.cs):=by
    rcases J with h|⟨id,rfl,P,H⟩
    .exact .inl h
    .exact .inr ⟨id,rfl,W _ _ H P,om⟩
   have E:∀id cs,id<s.next->s.obj id=zh (.row cs)->t.obj id=zh (.row cs):=λid cs f h=>W id cs om (by rw[D id f];exact h)
   simp only[go_sem,d1,wi];refine ⟨c,⟨t2,om⟩,u,X,λk F=>?_⟩;by_cases e:k=i
   .subst e;rw[ad,<- V];exact .inl ⟨z6 _,al⟩
   .rw[ab k e];exact (o k F).mono om om E
 .have ak:i=6:=om;subst ak;have c1:¬((6:Nat):Int)<6:=om;have I:=λk (F:k<6)=>(o k F).leaf
  simp only[go_sem,c1,q0,q1,gi3,pcs,fo1,ce4,I 0 (by decide),I 1 (by decide),I 2 (by decide),I 3 (by decide),I 4 (by decide),I 5 (by decide)]
  have K:∀(v:IV) (l:List aa6) (k:Nat) (s':Store),k<6->dg7 s (k<6) v l->(∀id cs,s.obj id=zh (.row cs)->s'.obj id=zh (.row cs))->s.next<=s'.next->cc3 s' 0 v (ao3 l):=by
   intro v l k s' F P h1 h2;rcases P.mono Iff.rfl h2 (λid cs _ h=>h1 id cs h) with ⟨_,h⟩|⟨h,_⟩
   .exact h.frz (λx hx=>(cg8 l x hx).1) (λ_ _=>zf _) (ap6 (bd6 l))
   .exact absurd F h
  have hr:∀id cs,s.obj id=zh (.row cs)->(s.put 1 (aj8.cells (gi3 p v))).obj id=zh (.row cs):=λid cs h=>by
   have:¬id=1:=λe=>by subst e;rw[q1] at h;cases h
   simp only[aa3,this,if_false];exact h
  have b1:=λy hy=>Frz.keep (σ:=s.put 1 (aj8.cells (gi3 p v))) (S:=λi=>i<0) y hy
  exact .kp8 (.cons (bm4 _) (.cons (ae5 _ _) (.cons (bm4 _) (.cons (bm4 _) (.cons (ae5 _ _) (.cons (bm4 _) (.cons (b1 _ (cg6 _))
   (.cons (K (v 0) _ 0 _ (by decide) (o 0 (by decide)) hr (za _)) (.cons (K (v 1) _ 1 _ (by decide) (o 1 (by decide)) hr (za _)) (.cons (b1 _ (cg6 _)) (.cons (K (v 2) _ 2 _ (by decide) (o 2 (by decide)) hr (za _)) (.cons (K (v 3) _ 3 _ (by decide) (o 3 (by decide)) hr (za _))
   (.cons (K (v 4) _ 4 _ (by decide) (o 4 (by decide)) hr (za _)) (.cons (K (v 5) _ 5 _ (by decide) (o 5 (by decide)) hr (za _)) (.cons (b1 _ (cz6 _)) .nil)))))))))))))))
def bh3 (r:bb5):r.cs.length=17:=by unfold bb5.cs;rw[zg];rfl
def dg9 (r:bb5):r.cs.all IV.leaf=true:=by unfold bb5.cs;rw[ql];rfl
def fo3 (r:bb5):∀c∈r.cs,Bnd 0 c:=by
 intro c hc;unfold bb5.cs at hc;rcases qk.1 hc with h|h
 .exact ag4 _ c h
 .simp only[zp,zn,or_false] at h;rcases h with rfl|rfl<;>exact .int _ _
def cg9 {s s':Store}{v:IV}{esz:Nat}{es:List (List IV)}(h:Grow s v esz es):cx6 0 s' v=zh (.int .i64 es.length):=by
 rcases h with ⟨rfl,rfl⟩|⟨id,rfl,_⟩<;>rfl
structure PS (s:Store) (pp mid:Nat) (rows:List bb5) (inst:Int) (L:NmL) (rv:IV) (B:Nat):Prop where
 cell:s.obj pp=zh (.cells [rv,.int .i64 inst,.map mid])
 grow:Grow s rv 17 (rows.map bb5.cs)
 map:s.obj mid=zh (.map (mEs L))
 row:∀t∈L,s.obj t.2.2=zh (.row (t.2.1.map ad1).flatten)/\t.2.2<s.next/\t.2.1.length<=B
 ids:(L.map (·.2.2)).Nodup
 keys:(L.map (·.1)).Nodup
 ne:∀id n,rv=.slice id 0 n 17->∀t∈L,t.2.2≠id
 lt:pp<s.next/\mid<s.next
def PS.mono {s s':Store}{e mid:Nat}{rows:List bb5}{inst:Int}{L:NmL}{d:IV}{B:Nat}(h:PS s e mid rows inst L d B)(f:s.next<=s'.next)(b:∀i,i<s.next->s'.obj i=s.obj i):PS s' e mid rows inst L d B where
 cell:=by rw[b _ h.lt.1];exact h.cell
 grow:=h.grow.mono f λid _ c=>b id c
 map:=by rw[b _ h.lt.2];exact h.map
 row:=λt a=>⟨by rw[b _ (h.row t a).2.1];exact (h.row t a).1,by have:=(h.row t a).2.1;omega,(h.row t a).2.2⟩
 ids:=h.ids
 keys:=h.keys
 ne:=h.ne
 lt:=⟨by have:=h.lt.1;omega,by have:=h.lt.2;omega⟩
def cb2 (l:List Int):∀e∈l.map Md.ad1,e.length=1/\e.all IV.leaf=true:=λe a=>by
 obtain ⟨x,_,rfl⟩:=zd.1 a;exact ⟨rfl,rfl⟩
def fo4 (l:List bb5):∀e∈l.map bb5.cs,e.length=17/\e.all IV.leaf=true:=λe a=>by
 obtain ⟨x,_,rfl⟩:=zd.1 a;exact ⟨bh3 x,dg9 x⟩
def PS.name {s:Store}{pp mid:Nat}{rows:List bb5}{inst:Int}{L:NmL}{rv:IV}{B:Nat}(h:PS s pp mid rows inst L rv B)(k:Str)(n:Int)(m nid:Nat)(hm:s.next<=m)(hnew:s.next<=nid)(hb:B<2^30) :
  ∃s1,bb4 ⟨m,s.obj⟩ nid 1 (dd7 L k) (.aa2 [[.int .i64 n]])=zh (.slice nid 0 ((ci7 L k).length+1) 1,s1)/\s1.next=m/\s1.obj mid=zh (.map (mEs L))/\(∀i cs,i<s.next->s.obj i=zh (.cells cs)->s1.obj i=zh (.cells cs)) /\
   ∀nx,nid<nx->PS ⟨nx,(s1.put mid (.map (mEs (bf7 L k n nid)))).obj⟩ pp mid rows inst (bf7 L k n nid) rv (B+1):=by
 have hg0:Grow s (dd7 L k) 1 ((ci7 L k).map Md.ad1):=by
  rcases ce6 L k with ⟨h1,h2⟩|⟨t,ht,_,h1,h2⟩
  .rw[h1,h2];exact .inl ⟨rfl,rfl⟩
  .rw[h1,h2];exact .inr ⟨t.2.2,by rw[zb],(h.row t ht).1,(h.row t ht).2.1⟩
 have hg:Grow ⟨m,s.obj⟩ (dd7 L k) 1 ((ci7 L k).map Md.ad1):=Grow.mono (σ:=s) hg0 hm λ_ _ _=>rfl
 have hlen:(ci7 L k).length<=B:=by
  rcases ce6 L k with ⟨h1,h2⟩|⟨t,ht,_,h1,h2⟩
  .rw[h2];exact qp _
  .rw[h2];exact (h.row t ht).2.2
 have hap:=ai1 (nid:=nid) (e:=[.int .i64 n]) hg (cb2 _) ⟨rfl,rfl⟩ (by rw[zb];omega);rw[zb] at hap;have hmid:¬mid=nid:=by have:=h.lt.2;omega
 have hpp:¬pp=nid:=by have:=h.lt.1;omega
 have hpm:¬pp=mid:=λe=>by have h1:=h.cell;have h2:=h.map;rw[e,h2] at h1;cases h1
 have km:=ae4 hg mid _ h.map (λ_ e=>by cases e);have kp:=ae4 hg pp _ h.cell (λ_ e=>by cases e)
 have kother:∀i cs,s.obj i=zh (.row cs)->(∀t∈L,t.1=k->t.2.2≠i)->(ad4 (dd7 L k) ⟨m,s.obj⟩).obj i=zh (.row cs):=by
  intro i cs hi hne;rcases ce6 L k with ⟨h1,_⟩|⟨t,ht,hk,h1,_⟩
  .rw[h1];exact hi
  .rw[h1];show (if i=t.2.2 then none else s.obj i)=_;rw[if_neg (λe=>hne t ht hk e.symm)];exact hi
 refine ⟨_,hap,by rw[aa7,ac1],by rw[aa3,if_neg hmid];exact km,λi cs hi h=>by rw[aa3,if_neg om];exact ae4 hg i _ h (λ_ e=>by cases e),λnx hnx=>?_⟩;have hrow_ne_mid:∀i cs,s.obj i=zh (.row cs)->¬i=mid:=λi cs hi e=>by subst e;rw[h.map] at hi;cases hi
 exact {
  cell:=by
   show (if pp=mid then _ else if pp=nid then _ else (ad4 (dd7 L k) ⟨m,s.obj⟩).obj pp)=_;rw[if_neg hpm,if_neg hpp];exact kp
  grow:=by
   rcases h.grow with h1|⟨id,hv,ho,hlt⟩
   .exact .inl h1
   .refine .inr ⟨id,hv,?_,by show id<nx;omega⟩;show (if id=mid then _ else if id=nid then _ else (ad4 (dd7 L k) ⟨m,s.obj⟩).obj id)=_;rw[if_neg (hrow_ne_mid _ _ ho),if_neg om];exact kother id _ ho λt ht _=>h.ne id _ hv t ht
  map:=by
   show (if mid=mid then _ else _)=_;rw[if_pos rfl]
  row:=by
   intro t ht;rcases ec2 h.keys t ht with ⟨h1,h2⟩|rfl
   .have⟨r1,r2,r3⟩:=h.row t h1;refine ⟨?_,by show t.2.2<nx;omega,om⟩;show (if t.2.2=mid then _ else if t.2.2=nid then _ else (ad4 (dd7 L k) ⟨m,s.obj⟩).obj t.2.2)=_;rw[if_neg (hrow_ne_mid _ _ r1),if_neg om];exact kother _ _ r1 λu hu hk e=>h2 (by rw[<- gw7 h.keys h.ids u hu t h1 e];exact hk)
   .refine ⟨?_,hnx,?_⟩
    .show (if nid=mid then _ else if nid=nid then _ else _)=_;rw[if_neg (λe=>hmid e.symm),if_pos rfl,zv];rfl
    .show (ci7 L k++[n]).length<=B+1;rw[zg];simp;exact hlen
  ids:=(gw6 L h.ids (λhm=>by
   have⟨t,ht,e⟩:=zd.1 hm;have:=(h.row t ht).2.1;have e':t.2.2=nid:=e;omega)).1
  keys:=(fj7 L h.keys).1
  ne:=by
   intro id m hv t ht;rcases ec2 h.keys t ht with ⟨h1,h2⟩|rfl
   .exact h.ne id m hv t h1
   .rcases h.grow with ⟨h1,_⟩|⟨id',hv',ho,hlt⟩
    .rw[h1] at hv;cases hv
    .rw[hv'] at hv;cases hv;show nid≠id;omega
  lt:=⟨by have:=h.lt.1;show pp<nx;omega,by have:=h.lt.2;show mid<nx;omega⟩ }
def iq8 {σ:Store}{mid:Nat}{L:NmL}(h:σ.obj mid=zh (.map (mEs L)))(k:Str):cj3 σ 2 .aa5 false (.map mid) (.str k)=zh (dd7 L k):=by
 have⟨r,b,a⟩:=jk6 L k;simp only[cj3,cc7,h,b,a,zj,if_false]
def fo5 {σ:Store}{mid:Nat}{L:NmL}(h:σ.obj mid=zh (.map (mEs L)))(k:Str)(n:Int)(nid:Nat):ap3 σ 2 (.map mid) (.str k) (.slice nid 0 ((ci7 L k).length+1) 1)=zh (σ.put mid (.map (mEs (bf7 L k n nid)))):=by
 simp only[ap3,h,ks7 L k n nid,qj]
def fo6 (x:aa1):x.cs.head? = zh (.str x.name):=rfl
def bl1 (x:aa1):(x.cs++[IV.int .i64 0,IV.int .i64 0]).length=17:=rfl
def bl2 (x:aa1)(a:Int):(ay4 (x.cs++[IV.int .i64 0,IV.int .i64 0]) 15 [IV.int .i64 a]).length=17:=rfl
def bl3 (x:aa1)(a b:Int):ay4 (ay4 (x.cs++[IV.int .i64 0,IV.int .i64 0]) 15 [IV.int .i64 a]) 16 [IV.int .i64 b]=(bb5.mk x a b).cs:=rfl
def hk7 (r:bb5):r.cs.take 17=r.cs:=zc (by rw[bh3];exact za _)
def PS.push {s:Store}{pp mid:Nat}{rows:List bb5}{inst:Int}{L:NmL}{rv:IV}{B:Nat}(h:PS s pp mid rows inst L rv B)(r:bb5)(m nid:Nat)(hm:s.next<=m)(hnew:s.next<=nid)(hb:rows.length<2^30) :
  ∃s1,bb4 ⟨m,s.obj⟩ nid 17 rv (.aa2 [r.cs])=zh (.slice nid 0 (rows.length+1) 17,s1)/\s1.next=m/\s1.obj pp=s.obj pp /\
   ∀nx,nid<nx->PS ⟨nx,(s1.put pp (.cells [.slice nid 0 (rows.length+1) 17,.int .i64 inst,.map mid])).obj⟩ pp mid (rows++[r]) inst L (.slice nid 0 (rows.length+1) 17) B:=by
 have hg:Grow ⟨m,s.obj⟩ rv 17 (rows.map bb5.cs):=Grow.mono (σ:=s) h.grow hm λ_ _ _=>rfl
 have hap:=ai1 (nid:=nid) (e:=r.cs) hg (fo4 rows) ⟨bh3 r,dg9 r⟩ (by rw[zb];omega);rw[zb] at hap;have hmid:¬mid=nid:=by have:=h.lt.2;omega
 have hpp:¬pp=nid:=by have:=h.lt.1;omega
 have hmp:¬mid=pp:=λe=>by have h1:=h.cell;have h2:=h.map;rw[<- e,h2] at h1;cases h1
 have km:=ae4 hg mid _ h.map (λ_ e=>by cases e);have kp:=ae4 hg pp _ h.cell (λ_ e=>by cases e);refine ⟨_,hap,by rw[aa7,ac1],by rw[aa3,if_neg hpp,kp,h.cell],λnx hnx=>?_⟩
 exact {
  cell:=by
   show (if pp=pp then _ else _)=_;rw[if_pos rfl]
  grow:=by
   refine .inr ⟨nid,by rw[zv,zg,zb];rfl,?_,hnx⟩;show (if nid=pp then _ else if nid=nid then _ else _)=_;rw[if_neg (λe=>hpp e.symm),if_pos rfl,zv];rfl
  map:=by
   show (if mid=pp then _ else if mid=nid then _ else (ad4 rv ⟨m,s.obj⟩).obj mid)=_;rw[if_neg hmp,if_neg hmid];exact km
  row:=by
   intro t ht;have⟨r1,r2,r3⟩:=h.row t ht;refine ⟨?_,by show t.2.2<nx;omega,r3⟩;have e1:¬t.2.2=pp:=λe=>by rw[e,h.cell] at r1;cases r1
   show (if t.2.2=pp then _ else if t.2.2=nid then _ else (ad4 rv ⟨m,s.obj⟩).obj t.2.2)=_;rw[if_neg e1,if_neg om];rcases h.grow with ⟨hv,_⟩|⟨id,hv,ho,hlt⟩
   .rw[hv];exact r1
   .rw[hv];show (if t.2.2=id then none else s.obj t.2.2)=_;rw[if_neg (h.ne id _ hv t ht)];exact r1
  ids:=h.ids
  keys:=h.keys
  ne:=by
   intro id m hv t ht;cases hv;have:=(h.row t ht).2.1;omega
  lt:=⟨by have:=h.lt.1;show pp<nx;omega,by have:=h.lt.2;show mid<nx;omega⟩ }
def ld4 (n pp mid:Nat)(rows:List bb5)(inst:Int)(nm:Nms)(l:List aa1)(eu2 prio:Int):IV->Store->Prop:=λv s=>
 n<=s.next/\((l.all ae9=true/\v=.int .i64 0/\∃L rv,be5 L=dk6 nm rows.length l/\PS s pp mid (rows++rowsOf l eu2 prio) inst L rv (rows.length+l.length))\/(l.all ae9=false/\v=.int .i64 4))
def kf9 (l:List aa1)(hl:l.length<2^20)(hf:∀p∈l,p.Fit)(a prio:Int)(σ:Store)(f mid:Nat)(rows:List bb5)(hr:rows.length<2^20)(inst:Int)(L:NmL)(W:IV)(hp:PS σ f mid rows inst L W rows.length) :
  Cq 17 [.ptr f 0,.aa2 (l.map aa1.cs),.int .i64 a,.int .i64 prio] σ (ld4 σ.next f mid rows inst (be5 L) l a prio):=by
 refine C_f fok17 (nZ rfl) ?_;simp only[ic17,go_sem]
 refine aa9 noT (λi fr s=>fr=[(0,.ptr f 0),(2,.int .i64 a),(3,.int .i64 prio),(11,.aa2 (l.map aa1.cs)),(12,.int .i64 l.length),(13,.int .i64 i)]/\σ.next<=s.next/\(l.take i).all ae9=true /\
  ∃L' b,dk6 (be5 L') (rows.length+i) (l.drop i)=dk6 (be5 L) rows.length l/\PS s f mid (rows++rowsOf (l.take i) a prio) inst L' b (rows.length+i)) l.length ⟨rfl,za _,rfl,L,W,rfl,by simpa [rowsOf] using hp⟩ ?_
 rintro i fr s ab ⟨rfl,hn,c,L',b,g,h⟩;by_cases o:i<l.length
 .have⟨x,z,_,H,q,m⟩:=ad3 l i o;have U:(i:Int)<l.length:=om;have c2:(0:Int)<=i:=om;have w1:=ac6 (i:=i) om;simp only[go_sem,U,c2,q,ad8,ad9,ac9];refine aa8 (hh9 x (hf x z)) ?_
  cases X:ae9 x with
  | false=>
   have:l.all ae9=false:=by rw[qt];exact ⟨x,z,by simp[X]⟩
   simp only[go_sem]
   exact ⟨by simp only[aa7];omega,.inr ⟨this,rfl⟩⟩
  | true=>
   generalize T:Store.mk (s.next+1) _=S1;have ac:S1.next=s.next+1:=by rw[<- T]
   have r:S1.obj s.next=zh (.cells x.cs):=by
    rw[<- T];simp only[aa3,if_true]
   have u:PS S1 f mid (rows++rowsOf (l.take i) a prio) inst L' b (rows.length+i):=h.mono om λj hj=>by
    have e:¬j=s.next:=om;rw[<- T];simp only[aa3,e,if_false]
   have d:=cg9 (s':=⟨S1.next+21,S1.obj⟩) u.grow
   have A:((rows++rowsOf (l.take i) a prio).map bb5.cs).length=rows.length+i:=by
    rw[zb,zg,rowsOf,zb,qi];omega
   rw[A] at d;have⟨y,S,Q,P,N,B⟩:=u.name x.name ((rows.length+i:Nat):Int) (S1.next+21) (S1.next+19) om om om;have E:=iq8 (σ:=⟨S1.next+21,S1.obj⟩) u.map x.name;simp only[go_sem,zu,u.cell,r,d,fo6,E];rw[S];simp only[go_sem,zu];rw[fo5 P x.name ((rows.length+i:Nat):Int)];have Y:=B (S1.next+21) om;have D:¬s.next=mid:=by have:=h.lt.2;omega
   have M:(y.put mid (aj8.map (mEs (bf7 L' x.name ((rows.length+i:Nat):Int) (S1.next+19))))).obj s.next=zh (.cells x.cs):=by
    simp only[aa3,D,if_false];exact N _ _ om r
   have aa:(y.put mid (aj8.map (mEs (bf7 L' x.name ((rows.length+i:Nat):Int) (S1.next+19))))).next=S1.next+21:=Q;generalize y.put mid (aj8.map (mEs (bf7 L' x.name ((rows.length+i:Nat):Int) (S1.next+19))))=S3 at *;have⟨V,t,K,J,n⟩:=Y.push ⟨x,a,prio⟩ (S3.next+15) (S3.next+11) (by show S1.next+21<=_;omega) (by show S1.next+21<=_;omega) (by rw[zg,rowsOf,zb,qi];omega);have k:=Y.cell;simp only at k t;simp only[go_sem,zu,k,M,ad8,ad9,ac9];refine aa8 (dw5 x (hf x z)) ?_;simp only[go_sem,zu,ad8,ad9,ac9,bl1,bl2,bl3,bh3,dg9,hk7,List.append_nil,List.drop_nil];rw[t];have I:V.obj f=zh (.cells [b,.int .i64 inst,.map mid]):=by rw[J];exact k
   simp only[go_sem,zu,I,w1];have h5:=n V.next (by rw[K];omega);refine ⟨o,om,?_,bf7 L' x.name ((rows.length+i:Nat):Int) (S1.next+19),.slice (S3.next+11) 0 ((rows++rowsOf (l.take i) a prio).length+1) 17,?_,?_⟩
   .rw[m,ql,c];simp[X]
   rotate_left
   .rw[m,ez5,<- zq];exact h5
   .rw[<- g,H,dk6,cy1,<- zu]
 .have F:i=l.length:=om;subst F;have U:¬(l.length:Int)<l.length:=om;simp only[go_sem,U];rw[z4] at c h;rw[ze] at g;exact ⟨hn,.inl ⟨c,rfl,L',b,g,h⟩⟩
def al5.Fit (r:al5):Prop:=r.packages.length<2^20/\∀p∈r.packages,p.Fit
def iq9 (r:al5):∀c∈r.cs,Bnd 0 c:=by
 intro c hc;simp only[al5.cs,zp,zn,or_false] at hc;rcases hc with rfl|rfl
 .exact .int _ _
 .exact .aa2 _ λe a c hc=>by
   obtain ⟨p,_,rfl⟩:=zd.1 a;exact ag4 p c hc
abbrev ay5 (l:List aa1):IV:=.aa2 (l.map aa1.cs)
abbrev bb8 (l:List al5):IV:=.aa2 (l.map al5.cs)
def au5 (l:List aa1):Bnd 0 (ay5 l):=.aa2 _ λe a c hc=>by
 obtain ⟨p,_,rfl⟩:=zd.1 a;exact ag4 p c hc
def br7 (l:List al5):Bnd 0 (bb8 l):=.aa2 _ λe a c hc=>by
 obtain ⟨p,_,rfl⟩:=zd.1 a;exact iq9 p c hc
def ap7 {P:IV->Prop}{u v:IV}(c:P u)(b:P v):∀a∈[u,v],P a:=λa d=>by
 cases d with
 | head=>exact c
 | tail _ h=>cases h with
  | head=>exact b
  | tail _ h=>cases h
def bn6 (r:al5):r.cs.length=2:=rfl
def dh1 (r:al5):r.cs.all IV.leaf=true:=rfl
def dh2 (r:al5):r.cs.take 2=r.cs:=rfl
def ef4 (l:List al5)(i:Nat)(a:al5)(h:l.drop i=a::l.drop (i+1)):ah3 (l.drop i)=a.packages.length+ah3 (l.drop (i+1)):=by
 rw[h];simp[ah3]
def PS.frz {s:Store}{g mid:Nat}{rows:List bb5}{inst:Int}{L:NmL}{q:IV}{B:Nat}(h:PS s g mid rows inst L q B):cc3 s 0 (.ptr g 0) (Pool.v ⟨rows,inst,be5 L⟩):=by
 refine .ptr g 0 _ _ (zf _) (.inl h.cell) (za _) λj z=>?_
 have m:j=0\/j=1\/j=2:=by simp only[zo,z9] at z;omega
 rcases m with rfl|rfl|rfl
 .refine h.grow.frz (λx k=>(fo4 rows x k).1) (λ_ _=>zf _) λe d c hc=>?_
  obtain ⟨r,_,rfl⟩:=zd.1 d;exact fo3 r c hc
 .exact ae5 _ _
 .have f:∀i,i<(mEs L).length->∃t∈L,(mEs L).getD i (.undef,.undef)=(.str t.1,.slice t.2.2 0 t.2.1.length 1)/\(nmV (be5 L)).getD i (.undef,.undef)=(.str t.1,.aa2 (t.2.1.map Md.ad1)):=by
   intro i hi;have a:i<L.length:=by simpa [mEs] using hi
   exact ⟨L[i],List.getElem_mem a,by simp[mEs,zx,a],by simp[nmV,be5,zx,a]⟩
  refine .map mid (mEs L) (nmV (be5 L)) (nmV (be5 L)) (zf _) h.map (by simp[nmV,be5,mEs]) (List.Perm.refl _) ⟨?_,.str,λe d=>?_⟩ (λi hi=>?_) (λi hi=>?_)
  .have:(nmV (be5 L)).map (·.1)=(L.map (·.1)).map IV.str:=by simp[nmV,be5]
   rw[this];exact List.Pairwise.map _ (λa b o e=>o (by cases e;rfl)) h.keys
  .simp only[nmV,zd] at d;obtain ⟨t,_,rfl⟩:=d;trivial
  .have⟨t,p,e1,e2⟩:=f i hi;rw[e1,e2];exact bm4 _
  .have⟨t,p,e1,e2⟩:=f i hi;rw[e1,e2];have⟨y,u,_⟩:=h.row t p;have A:Grow s (.slice t.2.2 0 t.2.1.length 1) 1 (t.2.1.map Md.ad1):=.inr ⟨t.2.2,by rw[zb],y,u⟩;refine A.frz (λx k=>(cb2 _ x k).1) (λ_ _=>zf _) λe d c hc=>?_
   obtain ⟨n,_,rfl⟩:=zd.1 d
   cases hc with
   | head=>exact .int _ _
   | tail _ h=>cases h
def ef5 {s:Store}(n:Int):cc3 s 0 (.tuple [.ag2,.int .i64 n]) (.tuple [.ag2,.int .i64 n]):=.bo4 (.cons (.keep _ .ag2) (.cons (ae5 _ _) .nil))
def ct1 (b:List al5)(inst:List aa1)(h1:b.length<2^20)(h2:inst.length<2^20)(h3:ah3 b<2^40)(hr:∀r∈b,al5.Fit r)(hi:∀p∈inst,p.Fit) :
  Pq 10 [bb8 b,ay5 inst] (kb6 (by5 b inst)):=by
 refine af5 hE fok10 (nZ rfl) (ap7 (br7 _) (au5 _)) ?_;simp only[ic10,go_sem];refine aa9 noT (λi fr s=>∃n:Nat,fr=[(0,bb8 b),(1,ay5 inst),(6,.int .i64 n),(16,bb8 b),(17,.int .i64 b.length),(18,.int .i64 i)]/\n+ah3 (b.drop i)=inst.length+ah3 b) b.length ⟨inst.length,rfl,rfl⟩ ?_;rintro i fr s P ⟨n,rfl,N⟩;by_cases d:i<b.length
 .have⟨a,Q,_,g,f,I⟩:=ad3 b i d;have k:(i:Int)<b.length:=om;have T:(0:Int)<=i:=om;have D:=ac6 (i:=i) om;rw[ef4 b i a g] at N
  have X:IntKind.i64.wrap ((n:Int)+a.packages.length)=((n+a.packages.length:Nat):Int):=by
   rw[wrap64 om om];omega
  simp only[go_sem,k,T,f,bn6,dh2,dh1];simp only[go_sem,al5.cs,D,X];exact ⟨d,n+a.packages.length,rfl,om⟩
 have o:i=b.length:=om;subst o;have k:¬(b.length:Int)<b.length:=om;have M:n=inst.length+ah3 b:=by rw[ze] at N;simpa [ah3] using N
 subst M;by_cases B:16<b.length
 .have m:(16:Int)<b.length:=om;simp only[go_sem,k,m,by5,B,true_or];exact .bo4 (.cons (.keep _ .ag2) (.cons (ae5 _ _) .nil))
 have m:¬(16:Int)<b.length:=om;by_cases U:256<inst.length+ah3 b
 .have q:(256:Int)<((inst.length+ah3 b:Nat):Int):=om;simp only[go_sem,k,m,q,by5,B,U,or_true];exact .bo4 (.cons (.keep _ .ag2) (.cons (ae5 _ _) .nil))
 have q:¬(256:Int)<((inst.length+ah3 b:Nat):Int):=om;simp only[go_sem,k,m,q]
 have K:PS ⟨s.next+2,((Store.put ⟨s.next+2,s.obj⟩ s.next (aj8.map [])).put (s.next+1) (aj8.cells [.aa5,.int .i64 inst.length,.map s.next])).obj⟩ (s.next+1) s.next [] inst.length [] .aa5 0 :=
  {cell:=by simp only[aa3,if_true]
   grow:=.inl ⟨rfl,rfl⟩
   map:=by
    have e:¬s.next=s.next+1:=om;simp only[aa3,e,if_false,if_true];rfl
   row:=λt ht=>by cases ht
   ids:=List.nodup_nil
   keys:=List.nodup_nil
   ne:=λ_ _ h=>by cases h
   lt:=⟨by show s.next+1<s.next+2;omega,by show s.next<s.next+2;omega⟩ }
 refine ab8 fok17 (kf9 inst h2 hi (-1) 1025 _ (s.next+1) s.next [] (by decide) inst.length [] .aa5 K) ?_;rintro v s2 ⟨W,⟨S,rfl,L1,F,g2,g3⟩|⟨S,rfl⟩⟩
 case inr=>
  refine ⟨W,?_⟩;simp only[go_sem,by5,B,U,or_self,S];exact ef5 _
 refine ⟨W,?_⟩
 have y:by5 b inst=match ak5 0 b (rowsOf inst (-1) 1025,dk6 [] 0 inst) with
  | some (rows,nm)=>.inl ⟨rows,inst.length,nm⟩
  | none=>.inr 4:=by
  simp only[by5,B,U,or_self,if_false,S,Bool.true_eq_false];rfl
 rw[y];simp only[go_sem]
 refine aa9 noT (λi fr t=>fr=[(9,.ptr (s.next+1) 0),(46,bb8 b),(47,.int .i64 b.length),(48,.int .i64 i)]/\∃rows L z,PS t (s.next+1) s.next rows inst.length L z rows.length /\
  ak5 0 b (rowsOf inst (-1) 1025,dk6 [] 0 inst)=ak5 i (b.drop i) (rows,be5 L)/\rows.length+ah3 (b.drop i)=inst.length+ah3 b) b.length ⟨rfl,rowsOf inst (-1) 1025,L1,F,?_,?_,?_⟩ ?_
 .have e:(rowsOf inst (-1) 1025).length=0+inst.length:=by rw[bw3];omega
  rw[e];exact g3
 .rw[g2];rfl
 .rw[bw3];rfl
 rintro i fr t P ⟨rfl,rows,L,z,hp,c,x⟩;by_cases d:i<b.length
 .have⟨a,Q,_,g,f,I⟩:=ad3 b i d;have k:(i:Int)<b.length:=om;have T:(0:Int)<=i:=om;have D:=ac6 (i:=i) om;rw[ef4 b i a g] at x;rw[g] at c;simp only[go_sem,k,T,f,bn6,dh2,dh1];by_cases u:a.priority<0
  .simp only[go_sem,al5.cs,u];rw[c,ak5,if_pos (.inl u)];exact ef5 _
  by_cases A:1024<a.priority
  .simp only[go_sem,al5.cs,u,A];rw[c,ak5,if_pos (.inr (.inl A))];exact ef5 _
  simp only[go_sem,al5.cs,u,A]
  have J:PS ⟨t.next+1,((Store.put ⟨t.next+1,t.obj⟩ t.next (aj8.cells [.int .i64 0,.aa5])).put t.next (aj8.cells [.int .i64 a.priority,ay5 a.packages])).obj⟩ (s.next+1) s.next rows inst.length L z rows.length:=hp.mono (zy _) λj hj=>by
   have e:¬j=t.next:=om;simp only[aa3,e,if_false]
  refine ab8 fok17 (kf9 a.packages (hr a Q).1 (hr a Q).2 i a.priority _ (s.next+1) s.next rows om inst.length L z J) ?_;rintro v s3 ⟨V,⟨H,rfl,L2,E,k2,Y⟩|⟨H,rfl⟩⟩
  .refine ⟨V,?_⟩;simp only[go_sem,D];refine ⟨d,rows++rowsOf a.packages i a.priority,L2,E,?_,?_,?_⟩
   .rw[zg,bw3];exact Y
   .rw[c,ak5,if_neg (by simp[u,A,H]),k2]
   .rw[zg,bw3];omega
  .refine ⟨V,?_⟩;simp only[go_sem];rw[c,ak5,if_pos (.inr (.inr H))];exact ef5 _
 have o:i=b.length:=om;subst o;have k:¬(b.length:Int)<b.length:=om;rw[ze] at c;simp only[go_sem,k];rw[c,ak5];exact .bo4 (.cons hp.frz (.cons (ae5 _ _) .nil))
def hk8 (s:Str):Pq 285 [.str s] (.bool false):=by
 refine aw8 fok285 (nZ rfl) λσ=>?_
 simp only[ic285,go_sem,and_self,bne_self_eq_false,decide_true,qg]
def hk9 (n:Int):Pq 284 [.int .u8 n] (.bool false):=by
 refine aw8 fok284 (nZ rfl) λσ=>?_
 simp only[ic284,go_sem,and_self,bne_self_eq_false,decide_true,qg]
def hl6 (n:Int):Pq 220 [.int .i64 n] (.bool false):=by
 refine aw8 fok220 (nZ rfl) λσ=>?_
 simp only[ic220,go_sem,and_self,bne_self_eq_false,decide_true,qg]
def bf3 (a b:Int):Pq 155 [.int .i64 a,.int .i64 b] (.int .i64 (aq7 a b)):=by
 refine aw8 fok155 (nZ rfl) λσ=>?_
 simp only[ic155,go_sem];refine aa4 fok220 (hl6 a) ?_;simp only[go_sem];refine aa4 fok220 (hl6 b) ?_;simp only[go_sem];by_cases d:a<b
 .simp only[go_sem,d,aq7,and_self]
 .by_cases e:b<a
  .have c:¬a=b:=om;simp only[go_sem,d,e,c,aq7,and_self]
  .have c:a=b:=om;subst c;simp only[go_sem,d,aq7,and_self,if_false,if_true]
def fd9 (a b:Int):Pq 270 [.int .u8 a,.int .u8 b] (.int .i64 (aq7 a b)):=by
 refine aw8 fok270 (nZ rfl) λσ=>?_
 simp only[ic270,go_sem];refine aa4 fok284 (hk9 a) ?_;simp only[go_sem];refine aa4 fok284 (hk9 b) ?_;simp only[go_sem];by_cases d:a<b
 .simp only[go_sem,d,aq7,and_self]
 .by_cases e:b<a
  .have c:¬a=b:=om;simp only[go_sem,d,e,c,aq7,and_self]
  .have c:a=b:=om;subst c;simp only[go_sem,d,aq7,and_self,if_false,if_true]
def fe1 (a b:Str):Pq 271 [.str a,.str b] (.int .i64 (dd6 a b)):=by
 refine aw8 fok271 (nZ rfl) λσ=>?_
 simp only[ic271,go_sem];refine aa4 fok285 (hk8 a) ?_;simp only[go_sem];refine aa4 fok285 (hk8 b) ?_;simp only[go_sem]
 cases c:Op.bytesLess a b with
 | true=>simp only[go_sem,c,dd6,and_self]
 | false=>
  by_cases d:a=b
  .subst d;simp only[go_sem,c,dd6,and_self,zj,if_false,if_true,decide_true,Bool.or_true,qg]
  .simp only[go_sem,c,d,dd6,and_self,zj,if_false,decide_false,Bool.or_false,Bool.not_false]
def orM:List Int->Int
 | []=>0
 | a::l=>if a=0 then orM l else a
def jn8 (l:List Int)(o:l.length<2^40):Pq 269 [.aa2 (l.map Md.ad1)] (.int .i64 (orM l)):=by
 refine aw8 fok269 (nZ rfl) λσ=>?_
 simp only[ic269,go_sem];refine aa9 noT (λi fr s=>fr=[(3,.int .i64 0),(6,.aa2 (l.map Md.ad1)),(7,.int .i64 l.length),(8,.int .i64 i)]/\s=σ/\orM l=orM (l.drop i)) l.length ⟨rfl,rfl,rfl⟩ ?_;rintro i fr s m ⟨rfl,rfl,b⟩;by_cases c:i<l.length
 .have⟨x,n,_,g,a,k⟩:=ad3 l i c;have d:(i:Int)<l.length:=om;have h:(0:Int)<=i:=om;have j:=ac6 (i:=i) om;rw[g,orM] at b;by_cases e:x=0
  .rw[if_pos e] at b;subst e;simp only[go_sem,d,h,a,Md.ad1,j];exact ⟨c,b⟩
  .rw[if_neg e] at b;simp only[go_sem,d,h,a,Md.ad1,e,b,and_self]
 .have f:i=l.length:=om;subst f;have d:¬(l.length:Int)<l.length:=om;rw[ze,orM] at b;simp only[go_sem,d,b,and_self]
def hl7 (n:Int)(h:n=-1\/n=0\/n=1):Pq 246 [.int .i64 n] (.int .u8 (if n<0 then 1 else if n=0 then 2 else 4)):=by
 rcases h with rfl|rfl|rfl
 all_goals
  refine af5 hE fok246 (nZ rfl) (ae6 (.int _ _)) ?_;simp only[ic246,go_sem];exact .keep _ (.int _ _)
def vkN (n:Nat):Nat:=if n=126 then 1 else if n=94 then 3 else if 97<=n/\n<=122\/65<=n/\n<=90 then 4 else if 48<=n/\n<=57 then 5 else 0
def jn9 (b:UInt8):af6 b=vkN b.toNat:=by
 have h:∀n,n<256->af6 (UInt8.ofNat n)=vkN n:=by decide +kernel
 have:=h b.toNat b.toNat_lt
 rwa [UInt8.ofNat_toNat] at this
def fe2 (b:UInt8):Pq 282 [.int .u8 b.toNat] (.int .u8 (af6 b)):=by
 rw[jn9];have m:=b.toNat_lt;generalize b.toNat=n at *;unfold vkN;refine af5 hE fok282 (nZ rfl) (ae6 (.int _ _)) ?_;by_cases e1:n=126
 .have c:(n:Int)=126:=om;rw[if_pos e1];simp only[ic282,go_sem,c];exact .keep _ (.int _ _)
 have c:¬(n:Int)=126:=om;rw[if_neg e1];by_cases e2:n=94
 .have a:(n:Int)=94:=om;have q:¬(94:Int)=126:=by decide
  rw[if_pos e2];simp only[ic282,go_sem,a,q];exact .keep _ (.int _ _)
 have a:¬(n:Int)=94:=om;rw[if_neg e2];by_cases e3:97<=n/\n<=122
 .have d:(97:Int)<=n:=om;have j:(n:Int)<=122:=om;rw[if_pos (.inl e3)];simp only[ic282,go_sem,c,a,d,j];exact .keep _ (.int _ _)
 by_cases e4:65<=n/\n<=90
 .have d:¬(97:Int)<=n:=om;have e:(65:Int)<=n:=om;have i:(n:Int)<=90:=om;rw[if_pos (.inr e4)];simp only[ic282,go_sem,c,a,d,e,i];exact .keep _ (.int _ _)
 rw[if_neg (λh=>h.elim e3 e4)];by_cases k:48<=n/\n<=57
 .have d:¬(97:Int)<=n:=om;have e:¬(65:Int)<=n:=om;have f:(48:Int)<=n:=om;have g:(n:Int)<=57:=om;rw[if_pos k];simp only[ic282,go_sem,c,a,d,e,f,g];exact .keep _ (.int _ _)
 rw[if_neg k];by_cases d:(97:Int)<=n
 .have j:¬(n:Int)<=122:=om;have e:(65:Int)<=n:=om;have i:¬(n:Int)<=90:=om;have f:(48:Int)<=n:=om;have g:¬(n:Int)<=57:=om;simp only[ic282,go_sem,c,a,d,j,e,i,f,g];exact .keep _ (.int _ _)
 by_cases e:(65:Int)<=n
 .have i:¬(n:Int)<=90:=om;have f:(48:Int)<=n:=om;have g:¬(n:Int)<=57:=om;simp only[ic282,go_sem,c,a,d,e,i,f,g];exact .keep _ (.int _ _)
 by_cases f:(48:Int)<=n
 .have g:¬(n:Int)<=57:=om;simp only[ic282,go_sem,c,a,d,e,f,g];exact .keep _ (.int _ _)
 .simp only[ic282,go_sem,c,a,d,e,f];exact .keep _ (.int _ _)
def ir1 (s:Str)(hs:s.length<2^62)(c:UInt8):Pq 289 [.str s,.int .u8 c.toNat] (.str (s.dropWhile (· == c))):=by
 refine aw8 fok289 (nZ rfl) λσ=>?_
 simp only[ic289,go_sem];refine aa9 noT (λi fr t=>fr=[(0,.str (s.drop i)),(1,.int .u8 c.toNat)]/\t=σ/\s.dropWhile (· == c)=(s.drop i).dropWhile (· == c)) s.length ⟨rfl,rfl,rfl⟩ ?_;rintro i fr t m ⟨rfl,rfl,f⟩;by_cases d:i<s.length
 .have⟨x,o,h,a,_,k⟩:=ad3 s i d;have j:(0:Int)<(s.length-i:Nat):=om;have h0:(s.drop i)[0]? = zh x:=by rw[a];rfl
  by_cases e:x=c
  .subst e;simp only[go_sem,zr,j,ck3,Int.le_refl,Int.toNat_zero,h0,qj]
   have b:cw2 (zh (.int .i64 1)) none (.str (s.drop i))=zh (.str (s.drop (i+1))):=by
    rw[a];simp[cw2,cx3,fg8];exact zc (by rw[zr];omega)
   simp only[go_sem,b];refine ⟨d,?_⟩;rw[f,a,qq,if_pos sm]
  .have n:¬(x.toNat:Int)=c.toNat:=λh=>e (UInt8.toNat_inj.1 om)
   simp only[go_sem,zr,j,ck3,Int.le_refl,Int.toNat_zero,h0,qj,n];rw[f,a,qq,if_neg (by simpa using e)]
 .have g:i=s.length:=om;subst g;rw[ze] at f ⊢;simp only[go_sem,z9,f,and_self,qr]
def ir2 (s:Str)(hs:s.length<2^62):Pq 283 [.str s,.str [48]] (.str (s.dropWhile (· == 48))):=by
 refine aw8 fok283 (nZ rfl) λσ=>?_
 simp only[ic283,go_sem];have a:=ir1 s hs 48;by_cases h0:s=[]
 .subst h0;simp only[go_sem,qr,and_self]
 .have e1:dy7 (.str [48]) (.int .i64 0)=zh (.int .u8 (48:UInt8).toNat):=rfl;have e2:((48:UInt8).toNat:Int)<128:=by decide
  simp only[go_sem,h0,e1,e2];refine aa4 fok289 a ?_;simp only[go_sem,and_self]
def Part.cs (p:Part):List IV:=[.int .u8 p.kind,.str p.s]
def km2 (a b c:Int):orM [a,b,c]=if a≠0 then a else if b≠0 then b else c:=by
 simp only[orM];by_cases f:a=0<;>by_cases e:b=0<;>by_cases d:c=0<;>simp[f,e,d]
def gi5 (a b:Part)(j:a.s.length<2^62)(i:b.s.length<2^62):Pq 233 [.agg (Part.cs a),.agg (Part.cs b)] (.int .i64 (ag8 a b)):=by
 have h:∀p:Part,Bnd 0 (.agg (Part.cs p)):=λp=>.agg _ λc hc=>by
  simp only[Part.cs,zp,zn,or_false] at hc;rcases hc with rfl|rfl
  .exact .int _ _
  .exact .str _
 refine af5 hE fok233 (nZ rfl) (ap7 (h a) (h b)) ?_;by_cases d:a.kind=5
 .have c:((a.kind:Nat):Int)=5:=om;by_cases g:b.kind=5
  .have f:((b.kind:Nat):Int)=5:=om;simp only[ic233,go_sem,Part.cs,c,f]
   first|refine aa4 fok155 (bf3 _ _) ?_|refine aa8 (bf3 _ _) ?_
   simp only[go_sem];refine aa8 (fd9 _ _) ?_;simp only[go_sem];refine aa8 (fe1 _ _) ?_;simp only[go_sem];refine aa8 (jn8 [aq7 5 5,aq7 a.s.length b.s.length,dd6 a.s b.s] sm) ?_;simp only[go_sem];have e:orM [aq7 5 5,aq7 a.s.length b.s.length,dd6 a.s b.s]=ag8 a b:=by rw[km2];simp only[ag8,d,g,and_self,if_true];rfl
   rw[e];exact ae5 _ _
  .have f:¬((b.kind:Nat):Int)=5:=om;simp only[ic233,go_sem,Part.cs,c,f];refine aa8 (fd9 _ _) ?_;simp only[go_sem];refine aa8 (fe1 _ _) ?_;simp only[go_sem];refine aa8 (jn8 [aq7 5 b.kind,0,dd6 a.s b.s] sm) ?_;simp only[go_sem];have e:orM [aq7 5 b.kind,0,dd6 a.s b.s]=ag8 a b:=by rw[km2];simp only[ag8,d,g,and_false,if_false];rfl
   rw[e];exact ae5 _ _
 .have c:¬((a.kind:Nat):Int)=5:=om;simp only[ic233,go_sem,Part.cs,c];refine aa8 (fd9 _ _) ?_;simp only[go_sem];refine aa8 (fe1 _ _) ?_;simp only[go_sem];refine aa8 (jn8 [aq7 a.kind b.kind,0,dd6 a.s b.s] sm) ?_;simp only[go_sem];have e:orM [aq7 a.kind b.kind,0,dd6 a.s b.s]=ag8 a b:=by rw[km2];simp only[ag8,d,false_and,if_false]
  rw[e];exact ae5 _ _
end Go.Id.Tryz
