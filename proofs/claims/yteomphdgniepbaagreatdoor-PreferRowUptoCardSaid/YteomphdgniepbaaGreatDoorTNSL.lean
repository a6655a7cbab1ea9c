/- Who is better: the walk. Conditions: sizes that fit. -/
import Derived.Test.YteomphdgniepbaaGreatDoorTNTH
import Derived.Test.YteomphdgniepbaaGreatDoorTNQF
import Derived.Test.YteomphdgniepbaaGreatDoorTNQA
import Derived.Test.YteomphdgniepbaaGreatDoorFwWk
import Derived.Shelf.SlSortCmp.Insertion
import Derived.Sort.LotA
import Derived.Test.YteomphdgniepbaaGreatDoorTNSH
import Derived.Test.YteomphdgniepbaaGreatDoorTNQL
set_option linter.all false
namespace Go.Id.Tryz
open Go Go.Id Go.Proofs Go.Shelf Go.Id.Md
set_option maxRecDepth 100000
theorem ao1 (o:an5):Bnd 0 o.v:=.ac2 _ fun c hc=>by
 simp only[an5.cs,List.mem_cons,List.not_mem_nil,or_false] at hc;rcases hc with rfl|rfl|rfl|rfl|rfl
 ·exact be7 _
 ·exact ar9 _
 ·exact .int _ _
 ·exact ax2 _
 ·exact dv7 _
theorem fe5 (o:an5):o.v=.ac2 [o.a.v,o.a.p.v,.int .u8 o.a.r.ao2,.aa3 (o.a.l.map aa2.cs),dv6 o.ds5]:=rfl
structure OOK (o:an5):Prop where
 a:AOK o.a
 lk:o.ds5.length=o.a.l.length
theorem dl4 (o:an5)(n:Int):PC Tryz.prog EE 56 [o.v,.int .i64 n] (.bool (o.a.is n)):=by
 refine ai1 hE fok56 (nZ rfl) (al2 (ao1 o) (.int _ _)) ?_;unfold av6.is;rw[fe5];have hl:(o.a.l.map aa2.cs).length=o.a.l.length:=List.length_map ..;generalize o.a.l.map aa2.cs=es at *;generalize o.a.l.length=k at *;by_cases h1:0≤n
 ·by_cases h2:n<(k:Nat)
  ·simp only[ic56,go_sem,as3,h1,h2,hl]; exact af7 rfl
  ·simp only[ic56,go_sem,as3,h1,h2,hl]; exact af7 rfl
 ·simp only[ic56,go_sem,as3,h1]; exact af7 rfl
theorem gm7 {a:av6}{n:Int}(h:a.is n=true):∃ k:Nat,n=k∧k<a.l.length:=by
 unfold av6.is at h;simp only[Bool.and_eq_true,decide_eq_true_eq] at h;exact ⟨n.toNat,by omega,by omega⟩
theorem hi6 (a:av6){k:Nat}(h:k<a.l.length):a.pk k=a.l[k]:=by simp[av6.pk,List.getD_eq_getElem?_getD,h]
theorem em9 (b:Bool):PC Tryz.prog EE 114 [.bool b] (.int .i64 (an5.cu3 b)):=by
 refine ai1 hE fok114 (nZ rfl) (bh9 (.bool _)) ?_
 cases b with
 | false=>simp only[ic114,go_sem]; exact bw1 rfl
 | true=>simp only[ic114,go_sem]; exact bw1 rfl
theorem as5 {v:IV}(h:Bnd 0 v):Bnd 0 (.ac2 [v]):=.ac2 _ (bh9 h)
theorem hi8 (o:an5)(n m:Int):PC Tryz.prog EE 144 [.ac2 [o.v],.ac2 [.int .i64 n],.ac2 [.int .i64 m]] (.int .i64 (am9 (an5.cu3 (o.a.fits n)) (an5.cu3 (o.a.fits m)))):=by
 refine ai1 hE fok144 (nZ rfl) (bc6 (as5 (ao1 o)) (as5 (.int _ _)) (as5 (.int _ _))) ?_;have h1:=de8 o.a n;have h2:=de8 o.a m;have y1:=em9 (o.a.fits n);have y2:=em9 (o.a.fits m);have hc:=bi9 (an5.cu3 (o.a.fits n)) (an5.cu3 (o.a.fits m));rw[fe5];simp only[ic144,go_sem,as3]
 first|refine aa5 fok39 (h1) ?_|refine aa6 (h1) ?_
 simp only[go_sem]
 first|refine aa5 fok114 (y1) ?_|refine aa6 (y1) ?_
 simp only[go_sem,as3]
 first|refine aa5 fok39 (h2) ?_|refine aa6 (h2) ?_
 simp only[go_sem]
 first|refine aa5 fok114 (y2) ?_|refine aa6 (y2) ?_
 simp only[go_sem]
 first|refine aa5 fok69 (hc) ?_|refine aa6 (hc) ?_
 simp only[go_sem];exact bw1 rfl
theorem hj4 (o:an5)(p q:aa2):PC Tryz.prog EE 145 [.ac2 [o.v],.ac2 p.cs,.ac2 q.cs] (.int .i64 (am9 (ay8 o.a.r.ao2 p.ao2) (ay8 o.a.r.ao2 q.ao2))):=by
 refine ai1 hE fok145 (nZ rfl) (bc6 (as5 (ao1 o)) (.ac2 _ (al7 p)) (.ac2 _ (al7 q))) ?_;have h1:=dk5 o.a.r.ao2 p.ao2;have h2:=dk5 o.a.r.ao2 q.ao2;have hc:=bi9 (ay8 o.a.r.ao2 p.ao2) (ay8 o.a.r.ao2 q.ao2);have p4:(p.cs.drop 4).head? = some (.int .u8 p.ao2):=rfl;have q4:(q.cs.drop 4).head? = some (.int .u8 q.ao2):=rfl;rw[fe5];simp only[ic145,go_sem,as3,ak5,p4]
 first|refine aa5 fok146 (h1) ?_|refine aa6 (h1) ?_
 simp only[go_sem,as3,ak5,q4]
 first|refine aa5 fok146 (h2) ?_|refine aa6 (h2) ?_
 simp only[go_sem]
 first|refine aa5 fok69 (hc) ?_|refine aa6 (hc) ?_
 simp only[go_sem];exact bw1 rfl
theorem fw2 (r:az3):(r.cs.drop 16).head? = some (.int .i64 r.prio):=rfl
theorem bj3 (p:Pool)(n:Nat)(h:n<p.rows.length):PC Tryz.prog EE 148 [p.v,.int .i64 n] (.int .i64 p.rows[n].prio):=by
 refine an7 fok148 (nZ rfl) fun σ=>?_
 have c1:(n:Int)<p.rows.length:=by omega
 have c2:(0:Int)≤n:=by omega
 have hg:(p.rows.map az3.cs).getD n []=p.rows[n].cs:=by simp[List.getD_eq_getElem?_getD,h]
 simp only[ic148,go_sem,Pool.v];refine aa5 fok98 (dt4 p.rows n) ?_;simp only[go_sem,c1,c2,hg,be6,fw2,and_self]
/-! ### What is the same -/
theorem fw3 (o:an5){k:Nat}(h:k<o.a.l.length):∃ h2:k<o.a.p.rows.length,o.prio k=o.a.p.rows[k].prio:=by
 have hrl:o.a.p.rows.length=o.a.l.length:=by simp[av6.l,ad1]
 exact ⟨by omega,by simp[an5.prio,List.getD_eq_getElem?_getD,show k<o.a.p.rows.length by omega]⟩
theorem hj5 (o:an5){n m:Nat}(hn:n<o.a.l.length)(hm:m<o.a.l.length):PC Tryz.prog EE 147 [.ac2 [o.v],.ac2 [.int .i64 m],.ac2 [.int .i64 n]] (.int .i64 (am9 (o.prio m) (o.prio n))):=by
 refine ai1 hE fok147 (nZ rfl) (bc6 (as5 (ao1 o)) (as5 (.int _ _)) (as5 (.int _ _))) ?_;obtain ⟨h1,e1⟩:=fw3 o hn;obtain ⟨h2,e2⟩:=fw3 o hm;have p1:=bj3 o.a.p n h1;have p2:=bj3 o.a.p m h2;rw[← e1] at p1;rw[← e2] at p2;have hc:=bi9 (o.prio m) (o.prio n);rw[fe5];simp only[ic147,go_sem,as3]
 first|refine aa5 fok148 (p2) ?_|refine aa6 (p2) ?_
 simp only[go_sem,as3]
 first|refine aa5 fok148 (p1) ?_|refine aa6 (p1) ?_
 simp only[go_sem]
 first|refine aa5 fok69 (hc) ?_|refine aa6 (hc) ?_
 simp only[go_sem];exact bw1 rfl
theorem hj6 (o:an5)(hO:OOK o){n m:Nat}(hn:n<o.a.l.length)(hm:m<o.a.l.length):PC Tryz.prog EE 149 [.ac2 [o.v],.ac2 [.int .i64 n],.ac2 [.int .i64 m]] (.int .i64 (am9 (an5.cu3 (o.lk n)) (an5.cu3 (o.lk m)))):=by
 refine ai1 hE fok149 (nZ rfl) (bc6 (as5 (ao1 o)) (as5 (.int _ _)) (as5 (.int _ _))) ?_;have g1:=bx2 (st:=o.ds5) (n:=n) (by rw[hO.lk]; exact hn);have g2:=bx2 (st:=o.ds5) (n:=m) (by rw[hO.lk]; exact hm);have c1:(n:Int)<o.ds5.length:=by rw[hO.lk]; omega
 have c2:(0:Int)≤n:=by omega
 have c3:(m:Int)<o.ds5.length:=by rw[hO.lk]; omega
 have c4:(0:Int)≤m:=by omega
 have y1:=em9 (o.lk n);have y2:=em9 (o.lk m);have hc:=bi9 (an5.cu3 (o.lk n)) (an5.cu3 (o.lk m));unfold an5.lk at *;rw[Int.toNat_natCast] at *;rw[fe5];simp only[ic149,go_sem,as3,c1,c2,g1]
 first|refine aa5 fok114 (y1) ?_|refine aa6 (y1) ?_
 simp only[go_sem,as3,c3,c4,g2]
 first|refine aa5 fok114 (y2) ?_|refine aa6 (y2) ?_
 simp only[go_sem]
 first|refine aa5 fok69 (hc) ?_|refine aa6 (hc) ?_
 simp only[go_sem];exact bw1 rfl
theorem hj7 (p q:aa2)(hp:EVR.small p.evr)(hq:EVR.small q.evr):PC Tryz.prog EE 150 [.ac2 q.cs,.ac2 p.cs] (.int .i64 (ar5 q.evr p.evr)):=by
 refine ai1 hE fok150 (nZ rfl) (al2 (.ac2 _ (al7 q)) (.ac2 _ (al7 p))) ?_;have h:=bw4 q.evr p.evr hq hp;have p1:(p.cs.drop 1).take 3=p.evr.cs:=rfl;have q1:(q.cs.drop 1).take 3=q.evr.cs:=rfl;have p2:(p.cs.drop 1).length=14:=rfl;have q2:(q.cs.drop 1).length=14:=rfl;simp only[ic150,go_sem,ak5,p1,q1,p2,q2]
 first|refine aa5 fok49 (h) ?_|refine aa6 (h) ?_
 simp only[go_sem];exact bw1 rfl
theorem hj8 (n m:Int):PC Tryz.prog EE 151 [.ac2 [.int .i64 n],.ac2 [.int .i64 m]] (.int .i64 (am9 n m)):=by
 refine ai1 hE fok151 (nZ rfl) (al2 (as5 (.int _ _)) (as5 (.int _ _))) ?_;have hc:=bi9 n m;simp only[ic151,go_sem]
 first|refine aa5 fok69 (hc) ?_|refine aa6 (hc) ?_
 simp only[go_sem];exact bw1 rfl
theorem du8 (fs:List (Nat×List IV))(vals:List Int)(hl:fs.length=vals.length)(hn:fs.length<2^40)(hb:∀ f∈fs,∀ c∈f.2,Bnd 0 c)
  (h:∀ i (h1:i<fs.length) (h2:i<vals.length),okF Tryz.prog fs[i].1=true∧PC Tryz.prog EE fs[i].1 fs[i].2 (.int .i64 vals[i])):PC Tryz.prog EE 143 [.aa3 (fs.map fnC)] (.int .i64 (orM vals)):=by
 refine ai1 hE fok143 (nZ rfl) (af4 (.aa3 _ fun e he c hc=>?_)) ?_
 ·obtain ⟨f,hf,rfl⟩:=List.mem_map.1 he
  cases hc with
  | head=>exact .func _ _ _ (fun c hc=>by cases hc) (hb f hf)
  | tail _ h=>cases h
 simp only[ic143,go_sem];refine ab3 noT (fun i fr s=>fr=[(6,.aa3 (fs.map fnC)),(7,.int .i64 fs.length),(8,.int .i64 i)]∧orM vals=orM (vals.drop i)) fs.length ⟨rfl,rfl⟩ ?_;rintro i fr s hle ⟨rfl,hI⟩;by_cases hlt:i<fs.length
 ·obtain ⟨f,hf,hget0,hdr,hget,htk⟩:=af8 fs i hlt;have hlt2:i<vals.length:=by omega
  have c1:(i:Int)<fs.length:=by omega
  have c2:(0:Int)≤i:=by omega
  have w1:=ad6 (i:=i) (by omega);obtain ⟨k1,k2⟩:=h i hlt hlt2
  have hfi:fs[i]=f:=by
   have:=List.getElem?_eq_getElem hlt; rw[this] at hget0; exact Option.some.inj hget0
  rw[hfi] at k1 k2;rw[List.drop_eq_getElem_cons hlt2,orM] at hI;generalize vals[i]=x at *;simp only[go_sem,c1,c2,hget,fnC];refine ak6 k1 k2 ?_;by_cases hx:x=0
  ·subst hx;simp only[go_sem,w1];exact ⟨hlt,by simpa using hI⟩
  ·rw[if_neg hx] at hI;simp only[go_sem,hx];rw[hI]; exact ad8 _ _
 ·have hi':i=fs.length:=by omega
  subst hi';have c1:¬ (fs.length:Int)<fs.length:=by omega
  rw[hl,List.drop_length,orM] at hI;simp only[go_sem,c1];rw[hI]; exact ad8 _ _
theorem de6 (o:an5)(hO:OOK o){n m:Nat}(hn:n<o.a.l.length)(hm:m<o.a.l.length):PC Tryz.prog EE 57 [o.v,.int .i64 n,.int .i64 m] (.int .i64 (o.cmp n m)):=by
 refine ai1 hE fok57 (nZ rfl) (bc6 (ao1 o) (.int _ _) (.int _ _)) ?_;have hlen:=hO.a.len;have hpn:=hi6 o.a hn;have hpm:=hi6 o.a hm;have en:=(hO.a.small _ (List.getElem_mem hn)).1;have em:=(hO.a.small _ (List.getElem_mem hm)).1
 have hv:o.cmp n m=orM [am9 (an5.cu3 (o.a.fits n)) (an5.cu3 (o.a.fits m)),am9 (ay8 o.a.r.ao2 o.a.l[n].ao2) (ay8 o.a.r.ao2 o.a.l[m].ao2),am9 (o.prio m) (o.prio n),am9 (an5.cu3 (o.lk n)) (an5.cu3 (o.lk m)),ar5 o.a.l[m].evr o.a.l[n].evr,am9 n m]:=by
  unfold an5.cmp Md.lex;rw[hpn,hpm];simp only[orM]
  repeat (first|rfl|split)
  all_goals simp_all
 have c1:=hi8 o n m;have c2:=hj4 o o.a.l[n] o.a.l[m];have c3:=hj5 o hn hm;have c4:=hj6 o hO hn hm;have c5:=hj7 o.a.l[n] o.a.l[m] en em;have c6:=hj8 n m;have b1:=as5 (ao1 o);have b2:=as5 (v:=.int .i64 n) (.int _ _);have b3:=as5 (v:=.int .i64 m) (.int _ _);have b4:Bnd 0 (.ac2 o.a.l[n].cs):=.ac2 _ (al7 _);have b5:Bnd 0 (.ac2 o.a.l[m].cs):=.ac2 _ (al7 _)
 have hf:=du8 [(144,[.ac2 [o.v],.ac2 [.int .i64 n],.ac2 [.int .i64 m]]),(145,[.ac2 [o.v],.ac2 o.a.l[n].cs,.ac2 o.a.l[m].cs]),(147,[.ac2 [o.v],.ac2 [.int .i64 m],.ac2 [.int .i64 n]]),(149,[.ac2 [o.v],.ac2 [.int .i64 n],.ac2 [.int .i64 m]]),(150,[.ac2 o.a.l[m].cs,.ac2 o.a.l[n].cs]),(151,[.ac2 [.int .i64 n],.ac2 [.int .i64 m]])]
  [am9 (an5.cu3 (o.a.fits n)) (an5.cu3 (o.a.fits m)),am9 (ay8 o.a.r.ao2 o.a.l[n].ao2) (ay8 o.a.r.ao2 o.a.l[m].ao2),am9 (o.prio m) (o.prio n),am9 (an5.cu3 (o.lk n)) (an5.cu3 (o.lk m)),ar5 o.a.l[m].evr o.a.l[n].evr,am9 n m] rfl (by simp)
  (fun f hf c hc=>by
   simp only[List.mem_cons,List.not_mem_nil,or_false] at hf;rcases hf with rfl|rfl|rfl|rfl|rfl|rfl
   ·exact bc6 b1 b2 b3 c hc
   ·exact bc6 b1 b4 b5 c hc
   ·exact bc6 b1 b3 b2 c hc
   ·exact bc6 b1 b2 b3 c hc
   ·exact al2 b5 b4 c hc
   ·exact al2 b2 b3 c hc)
  (fun i h1 h2=>by
   match i,h1 with
   | 0,_=>exact ⟨fok144.1,c1⟩
   | 1,_=>exact ⟨fok145.1,c2⟩
   | 2,_=>exact ⟨fok147.1,c3⟩
   | 3,_=>exact ⟨fok149.1,c4⟩
   | 4,_=>exact ⟨fok150.1,c5⟩
   | 5,_=>exact ⟨fok151.1,c6⟩
   | i+6,h=>simp at h; omega)
 rw[← hv] at hf;have bo:=ao1 o;have hov:=fe5 o;have d1:(n:Int)<o.a.l.length:=by omega
 have d2:(0:Int)≤n:=by omega
 have d3:(m:Int)<o.a.l.length:=by omega
 have d4:(0:Int)≤m:=by omega
 have g1:(o.a.l.map aa2.cs).getD n []=o.a.l[n].cs:=by simp[List.getD_eq_getElem?_getD,hn]
 have g2:(o.a.l.map aa2.cs).getD m []=o.a.l[m].cs:=by simp[List.getD_eq_getElem?_getD,hm]
 have olf:o.v.leaf=true:=rfl;have ocs:o.v.cs=[o.v]:=rfl;have onc:∀ (P:Prop),P→P:=fun _ h=>h
 simp only[ic57,go_sem,olf,ocs,hov,d1,d2,d3,d4,g1,g2,ak5,al9,ai4];rw[← hov];generalize hS:Store.mk 18 _=S;have s14:S.obj 14=some (.cells o.a.l[n].cs):=by rw[← hS]; simp only[aa4]; rfl
 have s15:S.obj 15=some (.cells o.a.l[m].cs):=by rw[← hS]; simp only[aa4,if_true]
 have f14:=cm2 s14 (al7 _);have f15:=cm2 s15 (al7 _);have kf:∀ (g:Nat) (cs:List IV),(∀ c∈cs,Bnd 0 c)→co8 S 0 (.func (.func g) [] cs) (.func (.func g) [] cs):=fun g cs h=>.keep _ (.func _ _ _ (fun c hc=>by cases hc) h)
 have hl1:∀ (x y:IV),[x].length=[y].length:=fun _ _=>rfl
 refine ad3 fok143 (cf5 hE (hl1 _ _) (fun i hi=>?_) (by simp[IV.plain]) hf) ?_
 ·match i,hi with
  | 0,_=>
   refine .aa3 _ _ rfl (fun i hi=>?_) fun i hi j hj=>?_
   ·match i,hi with
    | 0,_=>rfl
    | 1,_=>rfl
    | 2,_=>rfl
    | 3,_=>rfl
    | 4,_=>rfl
    | 5,_=>rfl
   ·match i,hi,j,hj with
    | 0,_,0,_=>exact kf _ _ (bc6 b1 b2 b3)
    | 1,_,0,_=>exact eo3 (.cons (.keep _ b1) (.cons f14 (.cons f15 .nil)))
    | 2,_,0,_=>exact kf _ _ (bc6 b1 b3 b2)
    | 3,_,0,_=>exact kf _ _ (bc6 b1 b2 b3)
    | 4,_,0,_=>exact eo3 (.cons f15 (.cons f14 .nil))
    | 5,_,0,_=>exact kf _ _ (al2 b2 b3)
 rintro v w ⟨rfl,rfl⟩;refine ⟨Nat.le_refl _,?_⟩;simp only[go_sem];exact bw1 rfl
theorem bj4 (o:an5)(hO:OOK o)(n m:Int):PC Tryz.prog EE 16 [o.v,.int .i64 n,.int .i64 m] (.bool (o.better n m)):=by
 refine ai1 hE fok16 (nZ rfl) (bc6 (ao1 o) (.int _ _) (.int _ _)) ?_;have h1:=dl4 o n;have h2:=dl4 o m;unfold an5.better;simp only[ic16,go_sem]
 first|refine aa5 fok56 (h1) ?_|refine aa6 (h1) ?_
 cases e1:o.a.is n with
 | false=>simp only[go_sem]; exact af7 rfl
 | true=>
  simp only[go_sem]
  first|refine aa5 fok56 (h2) ?_|refine aa6 (h2) ?_
  cases e2:o.a.is m with
  | false=>simp only[go_sem]; exact af7 rfl
  | true=>
   obtain ⟨k,rfl,hk⟩:=gm7 e1;obtain ⟨j,rfl,hj⟩:=gm7 e2;have hc:=de6 o hO hk hj;simp only[go_sem]
   first|refine aa5 fok57 (hc) ?_|refine aa6 (hc) ?_
   simp only[go_sem];exact af7 rfl
open Go Go.Id Go.Proofs
section
variable {α:Type} [Inhabited α] (emb:α→Int)
def fe6 (d:Array α):List IV:=d.toList.map fun x=>.int .i64 (emb x)
theorem ax3 (d:Array α):(fe6 emb d).length=d.size:=by simp[fe6]
theorem hj9 {d:Array α}{k:Nat}(h:k<d.size):((fe6 emb d).drop k).head? = some (.int .i64 (emb d[k]!)):=by
 simp[fe6,List.head?_drop,h]
theorem en1 {d:Array α}{i:Nat}(h:i<(fe6 emb d).length):(fe6 emb d)[i]=.int .i64 (emb (d[i]'(by rw[ax3] at h; exact h))):=by simp[fe6]
theorem gm8 {d:Array α}{k:Nat}(h:k<d.size)(x:α):ao8 (fe6 emb d) k [.int .i64 (emb x)]=fe6 emb (d.setIfInBounds k x):=by
 refine List.ext_getElem (by rw[ae1 (by rw[ax3]; simp only[List.length_singleton]; omega),ax3,ax3,Array.size_setIfInBounds]) fun i h1 h2=>?_
 have h3:i<d.size:=by rw[ax3,Array.size_setIfInBounds] at h2; exact h2
 have e0:(fe6 emb (d.setIfInBounds k x))[i]=.int .i64 (emb (if k=i then x else d[i])):=by
  rw[en1]; congr 2; exact Array.getElem_setIfInBounds ..
 rw[e0];unfold ao8;simp only[List.getElem_append,List.length_take,ax3,List.getElem_take,List.getElem_drop,List.length_append,List.length_singleton,en1];by_cases e:i=k
 ·subst e;have g1:¬ i<min i d.size:=by omega
  have g2:i<min i d.size+1:=by omega
  simp only[g1,g2,dite_false,dite_true,if_true,List.getElem_singleton]
 ·have e':¬ k=i:=fun h=>e h.symm
  by_cases e2:i<k
  ·have g1:i<min k d.size:=by omega
   have g2:i<min k d.size+1:=by omega
   simp only[g1,g2,dite_true,e',if_false]
  ·have g1:¬ i<min k d.size:=by omega
   have g2:¬ i<min k d.size+1:=by omega
   have g3:k+1+(i-(min k d.size+1))=i:=by omega
   simp only[g2,g3,dite_false,e',if_false]
theorem gm9 {a t vs:List IV}{k:Nat}(h:k+vs.length≤a.length):ao8 (a++t) k vs=ao8 a k vs++t:=by
 unfold ao8;rw[List.take_append_of_le_length (by omega),List.drop_append_of_le_length h];simp only[List.append_assoc]
variable (tl:List IV)
def az5 (d:Array α):List IV:=fe6 emb d++tl
theorem bo7 (d:Array α):(az5 emb tl d).length=d.size+tl.length:=by rw[az5,List.length_append,ax3]
theorem ah4 {d:Array α}{k:Nat}(h:k<d.size):((az5 emb tl d).drop k).head? = some (.int .i64 (emb d[k]!)):=by
 rw[az5,List.drop_append_of_le_length (by rw[ax3]; omega),List.head?_append,hj9 emb h]; rfl
theorem en2 {d:Array α}{k:Nat}(h:k<d.size)(x:α):ao8 (az5 emb tl d) k [.int .i64 (emb x)]=az5 emb tl (d.setIfInBounds k x):=by
 rw[az5,gm9 (by rw[ax3,List.length_singleton]; omega),gm8 emb h,az5]
theorem en3 {d:Array α}{i j:Nat}(hi:i<d.size)(hj:j<d.size):ao8 (ao8 (az5 emb tl d) i [.int .i64 (emb d[j]!)]) j [.int .i64 (emb d[i]!)]=az5 emb tl (Go.Sort.swp d i j):=by
 rw[en2 emb tl hi,en2 emb tl (by rw[Array.size_setIfInBounds]; exact hj)]; rfl
theorem swp_size (d:Array α)(i j:Nat):(Go.Sort.swp d i j).size=d.size:=by simp[Go.Sort.swp]
structure SO (id:Nat) (d':Array α) (σ s:Store):Prop where
 next:σ.next≤s.next
 other:∀ i,i≠id→s.obj i=σ.obj i
 row:s.obj id=some (.row (az5 emb tl d'))
variable {cf:α→α→Int} {g:Nat} {first cap:List IV} {id:Nat}
structure br9 (cf:α→α→Int) (g:Nat) (first cap:List IV):Prop where
 ok:okF Tryz.prog g=true
 pc:∀ x y:α,PC Tryz.prog EE g (first++[.int .i64 (emb x),.int .i64 (emb y)]++cap) (.int .i64 (cf x y))
theorem du9 (hC:br9 emb cf g first cap){σ:Store}(d:Array α)(a b:Nat)(hab:a≤b)(hb:b≤d.size)(hz:d.size<2^40)(ho:σ.obj id=some (.row (az5 emb tl d))) :
  C Tryz.prog EE 223 [.slice id 0 d.size 1,.int .i64 a,.int .i64 b,.func (.func g) first cap] σ fun v s=>v=.tuple []∧SO emb tl id (Go.Sort.insertionSort (ltOf cf) d a b) σ s:=by
 refine C_f fok223 (nZ rfl) ?_;have w0:=ad6 (i:=a) (by omega);simp only[ic223,go_sem,w0];refine ab3 noT (fun k fr t=>∃ dk:Array α,fr=[(0,.slice id 0 d.size 1),(1,.int .i64 a),(2,.int .i64 b),(3,.func (.func g) first cap),(8,.int .i64 ((a+1+k:Nat):Int))]∧SO emb tl id dk σ t∧dk.size=d.size∧Go.Sort.insOuter (ltOf cf) a b (a+1+k) dk=Go.Sort.insertionSort (ltOf cf) d a b) (b-(a+1)) ⟨d,rfl,⟨Nat.le_refl _,fun _ _=>rfl,ho⟩,rfl,rfl⟩ ?_;rintro k fr t hk ⟨dk,rfl,hS,hsz,hI⟩;by_cases hlt:a+1+k<b
 ·have c1:((a+1+k:Nat):Int)<b:=by omega
  have w1:=ad6 (i:=a+1+k) (by omega);rw[Go.Sort.insOuter,if_pos hlt] at hI;simp only[go_sem,c1];refine ab3 noT (fun m fr u=>∃ (j:Nat) (dj:Array α),fr=[(0,.slice id 0 d.size 1),(1,.int .i64 a),(2,.int .i64 b),(3,.func (.func g) first cap),(8,.int .i64 ((a+1+k:Nat):Int)),(9,.int .i64 (j:Int))]∧j+m=a+1+k∧SO emb tl id dj σ u∧dj.size=d.size∧Go.Sort.insInner (ltOf cf) a j dj=Go.Sort.insInner (ltOf cf) a (a+1+k) dk) (a+1+k) ⟨a+1+k,dk,rfl,rfl,?_,hsz,rfl⟩ ?_
  ·exact ⟨hS.next,hS.other,hS.row⟩
  rintro m fr u hm ⟨j,dj,rfl,hj,hSj,hszj,hIj⟩;by_cases hja:a<j
  ·obtain ⟨j',rfl⟩:∃ j',j=j'+1:=⟨j-1,by omega⟩;have d1:(a:Int)<((j'+1:Nat):Int):=by omega
   have d2:IntKind.i64.wrap (((j'+1:Nat):Int)-1)=(j':Int):=by rw[wrap64 (by omega) (by omega)]; omega
   have d3:(0:Int)≤((j'+1:Nat):Int):=by omega
   have d4:((j'+1:Nat):Int)<d.size:=by omega
   have d5:(0:Int)≤(j':Int):=by omega
   have d6:(j':Int)<d.size:=by omega
   have r1:=ah4 emb tl (d:=dj) (k:=j'+1) (by omega);have r2:=ah4 emb tl (d:=dj) (k:=j') (by omega);have hc:=hC.pc dj[j'+1]! dj[j']!;rw[Go.Sort.insInner] at hIj;have hgt:decide (j'+1>a)=true:=decide_eq_true hja;rw[hgt,Bool.true_and] at hIj;simp only[go_sem,d1,d2,d3,d4,d5,d6,hSj.row,r1,r2,Int.toNat_natCast,Nat.zero_add,Nat.mul_one];refine ak6 hC.ok hc ?_;by_cases hcf:cf dj[j'+1]! dj[j']! < 0
   ·have hlt2:ltOf cf dj[j'+1]! dj[j']! = true:=decide_eq_true hcf;rw[if_pos hlt2] at hIj;have hsw:=en3 emb tl (d:=dj) (i:=j'+1) (j:=j') (by omega) (by omega);have r3:j'+1+1≤(az5 emb tl dj).length:=by rw[bo7]; omega
    have r4:j'+1≤(ao8 (az5 emb tl dj) (j'+1) [.int .i64 (emb dj[j']!)]).length:=by rw[ae1 (by rw[bo7]; simp only[List.length_singleton]; omega),bo7]; omega
    simp only[go_sem,hcf,d2,d3,d4,d5,d6,hSj.row,r1,r2,r3,r4,hsw,Int.toNat_natCast,Nat.zero_add,Nat.mul_one];refine ⟨by omega,j',Go.Sort.swp dj (j'+1) j',rfl,by omega,⟨?_,fun i hi=>?_,?_⟩,by rw[swp_size]; exact hszj,hIj⟩
    ·have:=hSj.next; simp only[ab1]; omega
    ·simp only[aa4,hi,if_false]; exact hSj.other i hi
    ·simp only[aa4,if_true]
   ·have hlt2:¬ ltOf cf dj[j'+1]! dj[j']! = true:=by unfold ltOf; simp[hcf]
    rw[if_neg hlt2] at hIj;simp only[go_sem,hcf,w1];refine ⟨by omega,dj,rfl,⟨?_,hSj.other,hSj.row⟩,hszj,?_⟩
    ·have:=hSj.next; show σ.next≤u.next+_; omega
    ·rw[← hI,← hIj];exact congrArg (fun n=>Go.Sort.insOuter (ltOf cf) a b n dj) (by omega)
  ·have d1:¬ (a:Int)<(j:Int):=by omega
   have hd:dj=Go.Sort.insInner (ltOf cf) a (a+1+k) dk:=by
    rw[← hIj]
    cases j with
    | zero=>rfl
    | succ j'=>
     rw[Go.Sort.insInner];have:decide (j'+1>a)=false:=decide_eq_false hja;rw[this]; rfl
   simp only[go_sem,d1,w1];refine ⟨by omega,dj,rfl,⟨?_,hSj.other,hSj.row⟩,hszj,?_⟩
   ·have:=hSj.next; show σ.next≤u.next+_; omega
   ·rw[← hI,hd];exact congrArg (fun n=>Go.Sort.insOuter (ltOf cf) a b n _) (by omega)
 ·have c1:¬ ((a+1+k:Nat):Int)<b:=by omega
  rw[Go.Sort.insOuter,if_neg hlt] at hI;simp only[go_sem,c1];rw[← hI];exact ⟨hS.next,hS.other,hS.row⟩
end
section
variable {α:Type} [Inhabited α] (emb:α→Int) (tl:List IV) {cf:α→α→Int} {g:Nat} {first cap:List IV} {id:Nat}
theorem SO.trans {d d':Array α}{σ s t:Store}(h:SO emb tl id d σ s)(h2:SO emb tl id d' s t):SO emb tl id d' σ t :=
 ⟨Nat.le_trans h.next h2.next,fun i hi=>by rw[h2.other i hi,h.other i hi],h2.row⟩
theorem fe7 (hC:br9 emb cf g first cap){σ:Store}(d:Array α)(lim:Int)(hz:d.size≤12)(ho:σ.obj id=some (.row (az5 emb tl d))) :
  C Tryz.prog EE 153 [.slice id 0 d.size 1,.int .i64 0,.int .i64 d.size,.int .i64 lim,.func (.func g) first cap] σ fun v s=>v=.tuple []∧SO emb tl id (Go.Sort.insertionSort (ltOf cf) d 0 d.size) σ s:=by
 refine C_f fok153 (nZ rfl) ?_;have w0:IntKind.i64.wrap ((d.size:Int)-0)=d.size:=by rw[wrap64 (by omega) (by omega)]; omega
 have c1:(d.size:Int)≤12:=by omega
 simp only[ic153,go_sem];refine ab3 noT (fun k fr t=>k=0∧fr=[(0,.slice id 0 d.size 1),(1,.int .i64 0),(2,.int .i64 d.size),(3,.int .i64 lim),(4,.func (.func g) first cap),(10,.bool true),(11,.bool true)]∧t.obj=σ.obj∧σ.next≤t.next) 0 ⟨rfl,rfl,rfl,Nat.le_refl _⟩ ?_;rintro k fr t _ ⟨rfl,rfl,hto,htn⟩;simp only[go_sem,w0,c1];refine ad3 fok223 (du9 emb tl hC d 0 d.size (Nat.zero_le _) (Nat.le_refl _) (by omega) (by rw[hto]; exact ho)) ?_;rintro v s ⟨rfl,hs⟩;refine ⟨hs.next,?_⟩;simp only[go_sem];exact ⟨Nat.le_trans htn hs.next,fun i hi=>by rw[hs.other i hi,hto],hs.row⟩
theorem ee9 (hC:br9 emb cf g first cap){σ:Store}(d:Array α)(hz:d.size≤12)(L:Int)(hL:PC Tryz.prog EE 154 [.int .u64 d.size] (.int .i64 L))(ho:σ.obj id=some (.row (az5 emb tl d))) :
  C Tryz.prog EE 61 [.slice id 0 d.size 1,.func (.func g) first cap] σ fun v s=>v=.tuple []∧SO emb tl id (Go.Sort.insertionSort (ltOf cf) d 0 d.size) σ s:=by
 refine C_f fok61 (nZ rfl) ?_
 have w0:IntKind.u64.wrap (d.size:Int)=d.size:=by
  show (d.size:Int)%18446744073709551616=d.size;omega
 simp only[ic61,go_sem,w0];refine aa5 fok154 hL ?_;simp only[go_sem];refine ad3 fok153 (fe7 emb tl hC d L hz ho) ?_;rintro v s ⟨rfl,hs⟩;refine ⟨hs.next,?_⟩;simp only[go_sem];exact hs
end
theorem hk6:PC Tryz.prog EE 154 [.int .u64 0] (.int .i64 0):=by
 have h:PC Tryz.prog EE 232 [.int .u64 0] (.int .i64 0):=by
  refine an7 fok232 (nZ rfl) fun σ=>?_
  simp only[ic232,go_sem];show gg9 (some (IV.int .u8 0)) σ _;have w1:IntKind.i64.wrap 0=0:=by decide
  have w2:IntKind.i64.wrap (0+0)=0:=by decide
  simp only[go_sem,w1,w2,and_self]
 refine an7 fok154 (nZ rfl) fun σ=>?_
 simp only[ic154,go_sem];refine aa5 fok232 h ?_;simp only[go_sem,and_self]
theorem hk7:PC Tryz.prog EE 154 [.int .u64 1] (.int .i64 1):=by
 have h:PC Tryz.prog EE 232 [.int .u64 1] (.int .i64 1):=by
  refine an7 fok232 (nZ rfl) fun σ=>?_
  simp only[ic232,go_sem];show gg9 (some (IV.int .u8 1)) σ _;have w1:IntKind.i64.wrap 1=1:=by decide
  have w2:IntKind.i64.wrap (0+1)=1:=by decide
  simp only[go_sem,w1,w2,and_self]
 refine an7 fok154 (nZ rfl) fun σ=>?_
 simp only[ic154,go_sem];refine aa5 fok232 h ?_;simp only[go_sem,and_self]
theorem hk8:PC Tryz.prog EE 154 [.int .u64 2] (.int .i64 2):=by
 have h:PC Tryz.prog EE 232 [.int .u64 2] (.int .i64 2):=by
  refine an7 fok232 (nZ rfl) fun σ=>?_
  simp only[ic232,go_sem];show gg9 (some (IV.int .u8 2)) σ _;have w1:IntKind.i64.wrap 2=2:=by decide
  have w2:IntKind.i64.wrap (0+2)=2:=by decide
  simp only[go_sem,w1,w2,and_self]
 refine an7 fok154 (nZ rfl) fun σ=>?_
 simp only[ic154,go_sem];refine aa5 fok232 h ?_;simp only[go_sem,and_self]
theorem hk9:PC Tryz.prog EE 154 [.int .u64 3] (.int .i64 2):=by
 have h:PC Tryz.prog EE 232 [.int .u64 3] (.int .i64 2):=by
  refine an7 fok232 (nZ rfl) fun σ=>?_
  simp only[ic232,go_sem];show gg9 (some (IV.int .u8 2)) σ _;have w1:IntKind.i64.wrap 2=2:=by decide
  have w2:IntKind.i64.wrap (0+2)=2:=by decide
  simp only[go_sem,w1,w2,and_self]
 refine an7 fok154 (nZ rfl) fun σ=>?_
 simp only[ic154,go_sem];refine aa5 fok232 h ?_;simp only[go_sem,and_self]
theorem hl7:PC Tryz.prog EE 154 [.int .u64 4] (.int .i64 3):=by
 have h:PC Tryz.prog EE 232 [.int .u64 4] (.int .i64 3):=by
  refine an7 fok232 (nZ rfl) fun σ=>?_
  simp only[ic232,go_sem];show gg9 (some (IV.int .u8 3)) σ _;have w1:IntKind.i64.wrap 3=3:=by decide
  have w2:IntKind.i64.wrap (0+3)=3:=by decide
  simp only[go_sem,w1,w2,and_self]
 refine an7 fok154 (nZ rfl) fun σ=>?_
 simp only[ic154,go_sem];refine aa5 fok232 h ?_;simp only[go_sem,and_self]
theorem hl8:PC Tryz.prog EE 154 [.int .u64 5] (.int .i64 3):=by
 have h:PC Tryz.prog EE 232 [.int .u64 5] (.int .i64 3):=by
  refine an7 fok232 (nZ rfl) fun σ=>?_
  simp only[ic232,go_sem];show gg9 (some (IV.int .u8 3)) σ _;have w1:IntKind.i64.wrap 3=3:=by decide
  have w2:IntKind.i64.wrap (0+3)=3:=by decide
  simp only[go_sem,w1,w2,and_self]
 refine an7 fok154 (nZ rfl) fun σ=>?_
 simp only[ic154,go_sem];refine aa5 fok232 h ?_;simp only[go_sem,and_self]
theorem hl9 (k:Nat)(hk:k≤5):∃ L:Int,PC Tryz.prog EE 154 [.int .u64 k] (.int .i64 L):=by
 match k,hk with
 | 0,_=>exact ⟨_,hk6⟩
 | 1,_=>exact ⟨_,hk7⟩
 | 2,_=>exact ⟨_,hk8⟩
 | 3,_=>exact ⟨_,hk9⟩
 | 4,_=>exact ⟨_,hl7⟩
 | 5,_=>exact ⟨_,hl8⟩
theorem ef1 (zs:List Int)(hz:zs≠[])(hl:zs.length<2^30)(σ:Store):C Tryz.prog EE 59 [.aa3 (zs.map Md.ag3)] σ (gf5 σ zs):=by
 refine C_f fok59 (nZ rfl) ?_
 have hnil:∀ (d:TypeId),ck5 (.slice d) (.aa3 (zs.map Md.ag3))=some false:=fun d=>by
  cases zs with
  | nil=>exact absurd rfl hz
  | cons z zs=>rfl
 simp only[ic59,go_sem,hnil];generalize hS:Store.put _ σ.next (aj2.row [])=S;have hSn:S.next=σ.next+2:=by rw[← hS]; rfl
 have hSo:S.obj σ.next=some (.row []):=by rw[← hS]; simp only[aa4,if_true]
 have hSk:∀ i,i<σ.next→S.obj i=σ.obj i:=fun i hi=>by
  have:¬ i=σ.next:=by omega
  rw[← hS]; simp only[aa4,this,if_false]
 have hg:aw8 S σ.next (.slice σ.next 0 0 1) []:=.inr ⟨σ.next,Nat.le_refl _,by omega,rfl,hSo⟩;obtain ⟨v',σ',h1,h2,h3,h4⟩:=ei6 (nid:=σ.next+1) (xs:=zs) hg (by simp only[List.length_nil]; omega);simp only[go_sem,h1];have h5:=h4 σ' rfl (by omega) (by omega) (by omega);rw[List.nil_append] at h5;exact ⟨⟨by omega,fun i hi=>by rw[h3 i hi (by omega)]; exact hSk i hi⟩,h5⟩
abbrev hm3 (o:an5):={ k:Nat // k<o.a.l.length }
def ba9 (o:an5)(x:hm3 o):Int:=((x.1:Nat):Int)
def cfO (o:an5)(x y:hm3 o):Int:=o.cmp (ba9 o x) (ba9 o y)
theorem ii6 (o:an5)(hO:OOK o):br9 (ba9 o) (cfO o) 57 [o.v] []:=⟨fok57.1,fun x y=>de6 o hO x.2 y.2⟩
theorem en4 (o:an5)(n:Int):PC Tryz.prog EE 60 [.int .i64 n,.ac2 [o.v]] (.bool (!o.a.is n)):=by
 refine ai1 hE fok60 (nZ rfl) (al2 (.int _ _) (as5 (ao1 o))) ?_;have h:=dl4 o n;simp only[ic60,go_sem]
 first|refine aa5 fok56 (h) ?_|refine aa6 (h) ?_
 simp only[go_sem];exact af7 rfl
theorem iw1 (o:an5)(hr:∀ n,o.a.is n=true→(o.a.pk n).evr.rel≠[]):Go.Sort.SWO (ltOf (cfO o)):=by
 have hs:∀ x:hm3 o,(o.a.pk (ba9 o x)).evr.rel≠[]:=fun x=>hr _ (by unfold ba9; rw[av6.fq6]; exact decide_eq_true x.2)
 refine ⟨fun x=>?_,fun x y z h1 h2=>?_,fun x y z h1 h2=>?_⟩
 ·unfold ltOf cfO; rw[o.bv3]; rfl
 ·unfold ltOf cfO at *;have t1:=o.wo.tr (ba9 o x) (ba9 o y) (ba9 o z) (hs x) (hs y) (hs z);have t2:=o.wo.tr (ba9 o z) (ba9 o x) (ba9 o y) (hs z) (hs x) (hs y);have n1:=o.wo.neg (ba9 o x) (ba9 o y);have n2:=o.wo.neg (ba9 o y) (ba9 o z);have n3:=o.wo.neg (ba9 o x) (ba9 o z);simp only[decide_eq_true_eq] at h1 h2 ⊢;omega
 ·unfold ltOf cfO at *;have t1:=o.wo.tr (ba9 o z) (ba9 o y) (ba9 o x) (hs z) (hs y) (hs x);have n1:=o.wo.neg (ba9 o x) (ba9 o y);have n2:=o.wo.neg (ba9 o y) (ba9 o z);have n3:=o.wo.neg (ba9 o x) (ba9 o z);simp only[decide_eq_false_iff_not] at h1 h2 ⊢;omega
theorem cs6 (o:an5)(hO:OOK o)(hr:∀ n,o.a.is n=true→(o.a.pk n).evr.rel≠[])(l:List Int)(hl0:l≠[])(hl:l.length<2^30)
  (hSF:∀ (inst:Inhabited (hm3 o)) (σ:Store) (id:Nat) (tl:List IV) (d:Array (hm3 o)),d.size≤l.length→id<σ.next→σ.obj id=some (.row (az5 (ba9 o) tl d)) →
   C Tryz.prog EE 61 [.slice id 0 d.size 1,.func (.func 57) [o.v] []] σ fun v s=>v=.tuple []∧∃ d',Go.Sort.PermIn 0 d.size d d'∧Go.Sort.SortedIn (ltOf (cfO o)) 0 d.size d'∧σ.next≤s.next∧s.obj id=some (.row (az5 (ba9 o) tl d'))) :
  PC Tryz.prog EE 17 [o.v,.aa3 (l.map Md.ag3)] (.aa3 ((o.ak9 l).map Md.ag3)):=by
 refine ai1 hE fok17 (nZ rfl) (al2 (ao1 o) (ap3 l)) ?_;have olf:o.v.leaf=true:=rfl;have ocs:o.v.cs=[o.v]:=rfl;simp only[ic17,go_sem,olf,ocs];refine ad3 fok59 (ef1 l hl0 hl _) ?_;rintro v s ⟨hk,hrow⟩;refine ⟨hk.next,?_⟩;rcases hrow with ⟨_,h0⟩|⟨id,hid1,hid2,rfl,ho⟩
 ·exact absurd h0 hl0
 simp only[go_sem];refine ad3 fok58 (du7 (fun z=>!o.a.is z) (by omega) ho (by rw[List.take_of_length_le (by simp)]) (by simp) fok60.1 (bh9 (as5 (ao1 o))) fun z _=>en4 o z) ?_;rintro v s2 ⟨hn2,_,cs,rfl,ho2,hct,hcl⟩;refine ⟨hn2,?_⟩;have hff:(l.filter fun x=>!(!o.a.is x))=l.filter o.a.is:=List.filter_congr fun x _=>by rw[Bool.not_not]
 simp only[hff] at hct hcl ho2 ⊢;have hfl:(l.filter o.a.is).length≤l.length:=List.length_filter_le _ _;by_cases h0:(l.filter o.a.is).length=0
 ·have h0':((l.filter o.a.is).length:Int)=0:=by omega
  simp only[go_sem,h0']
  have:o.ak9 l=[]:=List.eq_nil_iff_forall_not_mem.2 fun x hx=>by
   obtain ⟨h1,h2⟩:=o.av7.1 hx;have:=List.mem_filter.2 ⟨h1,h2⟩;rw[List.length_eq_zero_iff.1 h0] at this;cases this
  rw[this];exact .ch1
 have h0':¬ ((l.filter o.a.is).length:Int)=0:=by omega
 simp only[go_sem,h0'];obtain ⟨zs,hzs⟩:∃ zs,l.filter o.a.is=zs:=⟨_,rfl⟩;rw[hzs] at h0 h0' hct hcl hfl ⊢;have hall:∀ z∈zs,∃ k:Nat,z=k∧k<o.a.l.length:=fun z hz=>gm7 (List.mem_filter.1 (by rw[hzs]; exact hz)).2
 obtain ⟨ds,hds⟩:∃ ds:List (hm3 o),ds.map (ba9 o)=zs:=by
  clear hzs h0 h0' hct hcl hfl
  induction zs with
  | nil=>exact ⟨[],rfl⟩
  | cons z zs ih=>
   obtain ⟨ds,h⟩:=ih fun y hy=>hall y (List.mem_cons_of_mem _ hy)
   obtain ⟨k,rfl,hk⟩:=hall z List.mem_cons_self;exact ⟨⟨k,hk⟩::ds,by rw[List.map_cons,h]; rfl⟩
 have hdl:ds.length=zs.length:=by rw[← hds,List.length_map]
 have inst:Inhabited (hm3 o):=⟨ds[0]'(by omega)⟩
 have hrw:s2.obj id=some (.row (az5 (ba9 o) (cs.drop zs.length) ds.toArray)):=by
  rw[ho2,az5,fe6];have h2:ds.toArray.toList.map (fun x=>IV.int .i64 (ba9 o x))=zs.map ct8:=by rw[← hds,List.map_map]; rfl
  rw[h2,← hct,List.take_append_drop]
 have hsz:ds.toArray.size=zs.length:=hdl;have hS:=hSF inst s2 id (cs.drop zs.length) ds.toArray (by omega) (Nat.lt_of_lt_of_le hid2 hn2) hrw;rw[hsz] at hS;refine ad3 fok61 hS ?_;rintro v s3 ⟨rfl,d',hP,hU,hS3n,hS3r⟩;refine ⟨hS3n,?_⟩;simp only[go_sem];obtain ⟨zs2,hz2⟩:∃ zs2,d'.toList.map (ba9 o)=zs2:=⟨_,rfl⟩;have hd's:d'.size=zs.length:=by rw[hP.1]; exact hdl
 have hz2l:zs2.length=zs.length:=by rw[← hz2,List.length_map,Array.length_toList,hd's]
 have hpm:d'.toList.Perm ds:=by
  have h3:=hP.2.2;have e1:d'.extract 0 zs.length=d':=by rw[← hd's]; exact Array.extract_size
  have e2:ds.toArray.extract 0 zs.length=ds.toArray:=by rw[← hsz]; exact Array.extract_size
  rw[e1,e2] at h3;exact h3
 have hmem:∀ x,x∈zs2↔x∈l∧o.a.is x=true:=fun x=>by
  rw[← hz2,(hpm.map _).mem_iff,hds,← hzs,List.mem_filter]
 have hup:zs2.Pairwise fun x y=>x=y∨o.cmp x y<0:=by
  refine List.pairwise_iff_getElem.2 fun i j hi hj hij=>?_
  have hi2:i<d'.size:=by rw[hd's]; omega
  have hj2:j<d'.size:=by rw[hd's]; omega
  have h4:=hU i j (Nat.zero_le _) hij (by omega);rw[getElem!_pos d' i hi2,getElem!_pos d' j hj2] at h4;have g1:zs2[i]=ba9 o d'[i]:=by simp[← hz2]
  have g2:zs2[j]=ba9 o d'[j]:=by simp[← hz2]
  rw[g1,g2];unfold ltOf cfO at h4;have h5:¬ o.cmp (ba9 o d'[j]) (ba9 o d'[i])<0:=of_decide_eq_false h4;have n1:=o.wo.neg (ba9 o d'[i]) (ba9 o d'[j]);by_cases e:o.cmp (ba9 o d'[i]) (ba9 o d'[j])=0
  ·exact .inl (o.di9 e)
  ·exact .inr (by omega)
 have hrow2:s3.obj id=some (.row (zs2.map iv++cs.drop zs.length)):=by
  rw[hS3r,az5,fe6,← hz2,List.map_map]; rfl
 have hc:=fe3 (R:=fun x y=>o.cmp x y<0) (σ:=s3) (id:=id) (zs:=zs2) (fun a ha b hb c hc h1 h2=>o.lt_trans hr ((hmem a).1 ha).2 ((hmem b).1 hb).2 ((hmem c).1 hc).2 h1 h2) (by omega) hrow2 hup;rw[hz2l] at hc;refine ad3 fok62 hc ?_;rintro v s4 ⟨⟨D,cs2,hD1,hD2,rfl,ho4,hct2,hcl2⟩,hn4,_⟩;refine ⟨hn4,?_⟩;simp only[go_sem];have hDs:D=o.ak9 l:=o.ds4 hr hD1 fun x=>(hD2 x).trans (hmem x)
 rw[← hDs];exact em8 ho4 hct2 hcl2
theorem fw4 (o:an5)(hO:OOK o)(hr:∀ n,o.a.is n=true→(o.a.pk n).evr.rel≠[])(l:List Int)(hl0:l.length=5)(hlen:∀ k:Nat,k≤5→∃ L:Int,PC Tryz.prog EE 154 [.int .u64 k] (.int .i64 L)) :
  PC Tryz.prog EE 17 [o.v,.aa3 (l.map Md.ag3)] (.aa3 ((o.ak9 l).map Md.ag3)):=
 cs6 o hO hr l (fun h=>by rw[h] at hl0; cases hl0) (by omega) fun inst σ id tl d hd hid ho=>by
  obtain ⟨L,hL⟩:=hlen d.size (by omega);have hw:=iw1 o hr;obtain ⟨h1,h2⟩:=@Go.Sort.insertionSort_holds _ inst (ltOf (cfO o)) hw d 0 d.size (Nat.zero_le _) (Nat.le_refl _);exact (ee9 (ba9 o) tl (ii6 o hO) d (by omega) L hL ho).mono fun v s ⟨e,h⟩=>⟨e,_,h1,h2,h.next,h.row⟩
open Go Go.Id Go.Proofs Go.Id.Md
theorem dv1 (l:List aa7)(n:Int)(hl:l.length<2^62)(ih:∀ r∈l,∀ m:Int,PC Tryz.prog EE 123 [ae7 r.args,.int .i64 m] (.int .i64 (ptR r m))) :
  PC Tryz.prog EE 123 [ae7 l,.int .i64 n] (.int .i64 (ptL l n 0)):=by
 refine an7 fok123 (nZ rfl) fun σ=>?_
 simp only[ic123,go_sem];refine ab3 noT (fun i fr t=>∃ w:Int,t.obj=σ.obj∧t.next=σ.next∧fr=[(0,ae7 l),(1,.int .i64 n),(5,.int .i64 w),(6,.int .i64 i)]∧ptL l n 0=ptL (l.drop i) n w) l.length ⟨0,rfl,rfl,rfl,rfl⟩ ?_;rintro i fr t hi ⟨w,ho,hn,rfl,hf⟩;have ht:t=σ:=by cases t; cases σ; simp only at ho hn; rw[ho,hn]
 subst ht;by_cases hlt:i<l.length
 ·obtain ⟨r,ha,_,hdr,hget,_⟩:=af8 l i hlt;have c1:(i:Int)<l.length:=by omega
  have c2:(0:Int)≤i:=by omega
  have w1:=ad6 (i:=i) (by omega);rw[hdr,ptL] at hf;by_cases hw:w<n
  ·rw[if_pos hw] at hf;simp only[go_sem,c1,c2,hw,hget,ab9,gm3];refine aa5 fok123 (ih r ha _) ?_;simp only[go_sem,w1];exact ⟨hlt,_,rfl,hf⟩
  ·rw[if_neg hw] at hf;simp only[go_sem,c1,hw];rw[hf]
 ·have hi':i=l.length:=by omega
  subst hi';have c1:¬ (l.length:Int)<l.length:=by omega
  rw[List.drop_length,ptL] at hf;simp only[go_sem,c1,hf,and_self]
theorem gn1 (r:aa7):r.ok→∀ m:Int,PC Tryz.prog EE 123 [ae7 r.args,.int .i64 m] (.int .i64 (ptR r m)):=by
 induction r using aa7.ind with
 | h k d xs ih=>
  intro ho m;obtain ⟨_,_,_,h4,h5⟩:=aa7.hc5.1 ho;rw[ii3];exact dv1 xs m h4 fun r hr m=>ih r hr (h5 r hr) m
theorem gn2 (l:List aa7)(hl:l.length<2^62)(h:∀ r∈l,r.ok)(n:Int):PC Tryz.prog EE 123 [ae7 l,.int .i64 n] (.int .i64 (ptL l n 0)):=
 dv1 l n hl fun r hr m=>gn1 r (h r hr) m
theorem bo8 (l:List aa2)(n:Int)(hl:l.length<2^62)(h:∀ p∈l,p.Ok):PC Tryz.prog EE 53 [bg2 l,.int .i64 n] (.int .i64 (szL l n 0)):=by
 refine ai1 hE fok53 (nZ rfl) (an9 (ax2 l) (.int _ _)) ?_;simp only[ic53,go_sem];refine ab3 noT (fun i fr t=>∃ w:Int,fr=[(0,bg2 l),(1,.int .i64 n),(5,.int .i64 w),(6,.int .i64 i)]∧szL l n 0=szL (l.drop i) n w) l.length ⟨0,rfl,rfl⟩ ?_;rintro i fr t hi ⟨w,rfl,hf⟩;by_cases hlt:i<l.length
 ·obtain ⟨p,ha,_,hdr,hget,_⟩:=af8 l i hlt;have c1:(i:Int)<l.length:=by omega
  have c2:(0:Int)≤i:=by omega
  have w1:=ad6 (i:=i) (by omega);rw[hdr,szL] at hf;by_cases hw:w<n
  ·rw[if_pos hw] at hf;have f6:(p.cs.drop 6).head? = some (deps p.provides):=rfl;have f7:(p.cs.drop 7).head? = some (ae7 p.requires):=rfl;have f8:(p.cs.drop 8).head? = some (ae7 p.conflicts):=rfl;have f9:(p.cs.drop 9).head? = some (deps p.ab4):=rfl;have f10:(p.cs.drop 10).head? = some (ae7 p.ac1):=rfl;have f11:(p.cs.drop 11).head? = some (ae7 p.ab8):=rfl;have f12:(p.cs.drop 12).head? = some (ae7 p.suggests):=rfl;have f13:(p.cs.drop 13).head? = some (ae7 p.ac7):=rfl;have f14:(p.cs.drop 14).head? = some (strs p.files):=rfl;simp only[go_sem,c1,c2,hw,hget,bw5,bj1,bj2,f6,f7,f8,f9,f10,f11,f12,f13,f14,be2];have hL:∀ (k:Nat) (hk:k<(ay5 p).length),((ay5 p).map lR).getD k []=[ae7 (ay5 p)[k]]:=fun k hk=>by simp[List.getD_eq_getElem?_getD,hk,lR]
   have hok:=fv8 (h p ha);have hlen:(ay5 p).length=6:=rfl;unfold szP wr at hf;generalize hw0:IntKind.i64.wrap (IntKind.i64.wrap (IntKind.i64.wrap (IntKind.i64.wrap (w+1)+p.provides.length)+p.ab4.length)+p.files.length)=w0 at *;have hl6:IV.aa3 [[ae7 p.requires],[ae7 p.conflicts],[ae7 p.ac1],[ae7 p.ab8],[ae7 p.suggests],[ae7 p.ac7]]=.aa3 ((ay5 p).map lR):=rfl;rw[hl6];have hf':szL l n 0=szL (l.drop (i+1)) n (hh6 (ay5 p) n w0):=hf;clear hf hdr hget f6 f7 f8 f9 f10 f11 f12 f13 f14 hl6;refine ab3 noT (fun k fr u=>∃ v:Int,fr=[(0,bg2 l),(1,.int .i64 n),(5,.int .i64 v),(6,.int .i64 i),(51,.aa3 ((ay5 p).map lR)),(52,.int .i64 6),(53,.int .i64 k)]∧hh6 (ay5 p) n w0=hh6 ((ay5 p).drop k) n v) 6 ⟨w0,rfl,rfl⟩ ?_;rintro k fr u hk ⟨v,rfl,hs⟩;by_cases hlt2:k<6
   ·have d1:(k:Int)<6:=by omega
    have d2:(0:Int)≤k:=by omega
    have d3:(k:Int)<(ay5 p).length:=by omega
    have w2:=ad6 (i:=k) (by omega);have hk2:k<(ay5 p).length:=by omega
    have hgk:=hL k hk2;obtain ⟨o1,o2⟩:=hok _ (List.getElem_mem hk2);rw[List.drop_eq_getElem_cons hk2,hh6] at hs;generalize (ay5 p)[k]=x at *;simp only[go_sem,d1,d2,d3,hgk];refine aa5 fok123 (gn2 x o1 o2 n) ?_;simp only[go_sem,w2];exact ⟨hlt2,_,rfl,hs⟩
   ·have hk':k=6:=by omega
    subst hk';have d1:¬ ((6:Nat):Int)<6:=by omega
    rw[List.drop_of_length_le (by omega),hh6] at hs;rw[hs] at hf';simp only[go_sem,d1,w1];exact ⟨hlt,_,rfl,hf'⟩
  ·rw[if_neg hw] at hf;simp only[go_sem,c1,hw];rw[hf];exact ad8 _ _
 ·have hi':i=l.length:=by omega
  subst hi';have c1:¬ (l.length:Int)<l.length:=by omega
  rw[List.drop_length,szL] at hf;simp only[go_sem,c1];rw[hf];exact ad8 _ _
theorem ci1 (xs ys:List Int)(h1:xs.length<2^62)(h2:ys.length<2^62):PC Tryz.prog EE 18 [.aa3 (xs.map Md.ag3),.aa3 (ys.map Md.ag3)] (.bool (decide (xs=ys))):=by
 refine ai1 hE fok18 (nZ rfl) (an9 (ap3 xs) (ap3 ys)) ?_;by_cases hl:xs.length=ys.length
 case neg=>
  have hl':¬ (xs.length:Int)=ys.length:=by omega
  have:decide (xs=ys)=false:=decide_eq_false fun e=>hl (by rw[e])
  simp only[ic18,go_sem,hl',this];exact ac3 _
 have hl':(xs.length:Int)=ys.length:=by omega
 have hl2:decide ((xs.length:Int)=ys.length)=true:=decide_eq_true hl';simp only[ic18,go_sem,hl2];refine ab3 noT (fun i fr s=>fr=[(0,.aa3 (xs.map Md.ag3)),(1,.aa3 (ys.map Md.ag3)),(5,.int .i64 i)]∧xs.take i=ys.take i) xs.length ⟨rfl,rfl⟩ ?_;rintro i fr s hi ⟨rfl,hf⟩;by_cases hlt:i<xs.length
 ·obtain ⟨x,hx,hxi,hdr,hget,htk⟩:=af8 xs i hlt;obtain ⟨y,hy,hyi,hdr2,hget2,htk2⟩:=af8 ys i (by omega);have c1:(i:Int)<xs.length:=by omega
  have c3:(i:Int)<ys.length:=by omega
  have c2:(0:Int)≤i:=by omega
  have w1:=ad6 (i:=i) (by omega);simp only[go_sem,c1,c2,c3,hget,hget2,Md.ag3,w1];by_cases hxy:x=y
  ·have hd:decide (x=y)=true:=decide_eq_true hxy;simp only[go_sem,hd,w1];refine ⟨hlt,?_⟩;rw[htk,htk2,hf,hxy]
  ·have hd:decide (x=y)=false:=decide_eq_false hxy;have hne:decide (xs=ys)=false:=decide_eq_false fun e=>hxy (by rw[e] at hxi; rw[hxi] at hyi; cases hyi; rfl)
   simp only[go_sem,hd,hne];exact ac3 _
 ·have hi':i=xs.length:=by omega
  subst hi';have c1:¬ (xs.length:Int)<xs.length:=by omega
  rw[List.take_length,hl,List.take_length] at hf;have:decide (xs=ys)=true:=decide_eq_true hf;simp only[go_sem,c1,this];exact ac3 _
theorem aok {ab5:List ak8}{inst:List aa2}{p:Pool}{r:Req}(hI:gt6 ab5 inst)(hn:bu9 ab5 inst=.inl p)(hR:ef3 r)(he:as4 r p.inst=0):AOK ⟨p,r⟩:=by
 have hf:=gt7 hI hn;have hlen:(ad1 p).length≤256:=by simp only[ad1,List.length_map]; exact di6 hn
 unfold as4 at he;split at he
 ·cases he
 split at he
 ·cases he
 rename_i hb;split at he
 ·cases he
 rename_i hj;refine ⟨hlen,fun x hx=>(hf x hx).2.1,fun x hx=>(hf x hx).1,fun x hx=>(hf x hx).2.2,?_,?_,?_,fun j hj=>(hR.it8 j hj).1,fun j hjm=>?_⟩
 ·have h1:=cq3 hn
  have h2:p.inst=inst.length:=by
   unfold bu9 at hn;split at hn
   ·cases hn
   split at hn
   ·cases hn
   split at hn
   ·cases hn; rfl
   ·cases hn
  show p.inst≤((ad1 p).length:Nat);rw[h2,h1,List.length_append]; omega
 ·show r.au3.length≤64; omega
 ·show r.am2.length≤128; omega
 ·have h1:r.au3.all ch6=true:=by simpa using hj
  have h2:=List.all_eq_true.1 h1 j hjm;unfold ch6 at h2;simp only[Bool.and_eq_true,decide_eq_true_eq] at h2;exact ⟨h2.1.1,h2.1.2⟩
theorem fw5 {ab5:List ak8}{inst:List aa2}{p:Pool}(hn:bu9 ab5 inst=.inl p):p.inst=inst.length:=by
 unfold bu9 at hn;split at hn
 ·cases hn
 split at hn
 ·cases hn
 split at hn
 ·cases hn; rfl
 ·cases hn
def ck3 (name ver:Str):aa2:={ name:=name,evr:=⟨0,ver,[49]⟩,ao2:=2,vendor:=[],provides:=[],requires:=[],conflicts:=[],ab4:=[],ac1:=[],ab8:=[],suggests:=[],ac7:=[],files:=[] }
theorem gn3 {s:Store}(x:Str):co8 s 0 (.str x) (.str x):=.keep _ (.str _)
theorem ii7 {s:Store}(k:IntKind)(n:Int):co8 s 0 (.int k n) (.int k n):=.keep _ (.int _ _)
def bw6 (ab5:List ak8)(inst:List aa2):Pool:=match bu9 ab5 inst with
 | .inl p=>p
 | .inr _=>⟨[],0,[]⟩
def r15:Req:=⟨2,false,[],[],0⟩
def en5 (d:Dep):Bool:=decide (d.name.length<100)&&decide (d.evr.ver.length<100)&&decide (d.evr.rel.length<100)
def en6 (p:aa2):Bool:=decide (p.name.length<100)&&decide (p.vendor.length<100)&&decide (p.evr.ver.length<100)&&decide (p.evr.rel.length<100)&&decide (p.provides.length<100)&&p.provides.all en5&&decide (p.ab4.length<100)&&p.ab4.all en5 &&
 decide (p.files.length<100)&&p.files.all (fun s=>decide (s.length<100))&&p.rows.all fun x=>x.2.isEmpty
theorem cm1 {p:aa2}(h:en6 p=true):p.Fit∧p.Ok:=by
 unfold en6 at h;simp only[Bool.and_eq_true,decide_eq_true_eq,List.all_eq_true] at h;obtain ⟨⟨⟨⟨⟨⟨⟨⟨⟨⟨h1,h2⟩,h3⟩,h4⟩,h5⟩,h6⟩,h7⟩,h8⟩,h9⟩,h10⟩,h11⟩:=h
 have hd:∀ d:Dep,en5 d=true→d.fit:=fun d hd=>by
  unfold en5 at hd;simp only[Bool.and_eq_true,decide_eq_true_eq] at hd;exact ⟨by omega,by omega,by omega⟩
 have hr:∀ x∈p.rows,x.2=[]:=fun x hx=>List.isEmpty_iff.1 (h11 x hx)
 exact ⟨⟨by omega,⟨by omega,by omega⟩,⟨by omega,fun d hx=>hd d (h6 d hx)⟩,⟨by omega,fun d hx=>hd d (h8 d hx)⟩,⟨by omega,fun x hx=>by have:=h10 x hx; omega⟩,fun x hx=>by rw[hr x hx]; exact ⟨by simp,fun r h=>by cases h⟩⟩,
  ⟨by omega,by omega,⟨by omega,by omega⟩,⟨by omega,fun d hx=>hd d (h6 d hx)⟩,⟨by omega,fun d hx=>hd d (h8 d hx)⟩,⟨by omega,fun x hx=>by have:=h10 x hx; omega⟩,fun x hx=>by rw[hr x hx]; exact ⟨by simp,fun r h=>by cases h⟩⟩⟩
def fw6 (ab5:List ak8)(inst:List aa2):Bool:=decide (ab5.length<100)&&decide (inst.length<1000)&&inst.all en6&&ab5.all (fun r=>decide (r.packages.length<1000)&&r.packages.all en6)&&decide (al4 ab5<100000)
theorem gn4 {ab5:List ak8}{inst:List aa2}(h:fw6 ab5 inst=true):gt6 ab5 inst:=by
 unfold fw6 at h;simp only[Bool.and_eq_true,decide_eq_true_eq,List.all_eq_true] at h;obtain ⟨⟨⟨⟨h1,h2⟩,h3⟩,h4⟩,h5⟩:=h;exact ⟨by omega,by omega,by omega,fun r hr=>⟨by have:=(h4 r hr).1; omega,fun p hp=>(cm1 ((h4 r hr).2 p hp)).1⟩,fun p hp=>(cm1 (h3 p hp)).1,fun r hr=>⟨by have:=(h4 r hr).1; omega,fun p hp=>(cm1 ((h4 r hr).2 p hp)).2⟩,fun p hp=>(cm1 (h3 p hp)).2⟩
theorem ii8:ef3 r15:=⟨by decide,by decide,fun j h=>by cases h⟩
end Go.Id.Tryz
