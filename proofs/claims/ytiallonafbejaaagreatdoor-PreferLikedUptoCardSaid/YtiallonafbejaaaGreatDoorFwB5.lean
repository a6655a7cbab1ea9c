/- More quiet operations on ideal values: nil,equality of structs,conversions,building,closures,maps that are read. Conditions: none; over any program. -/
import Derived.Test.YtiallonafbejaaaGreatDoorFwB
set_option linter.all false
namespace Go.Id
open Go
variable {P:Program} {w:World} {ρ:Rho}
def fq4:IV→Option IV
 | .nilslice=>some .nilslice
 | .zslice=>some .zslice
 | .eslice=>some .zslice
 | .tslice es=>if es=[] then some (.tslice []) else some .zslice
 | .slice _ _ _ _=>some .zslice
 | .cslice _ _ _ _=>some .zslice
 | _=>none
theorem ew9 {t elem:TypeId}{esz:Nat}{a v:IV}{ra:Value}{k1 k2:IntKind}
  (hu:P.underlying t=some (.slice elem)) (hz:szT P elem=some esz) (h:fq4 a=some v) (ha:VR ρ w a ra) :
  ∃ x,(Instr.sliceAt t ra none (some (.int k1 0)) (some (.int k2 0))).run P w=.ok x w∧VR ρ w v x:=by
 have hb:∀ len cap:Nat,(Instr.sliceBounds true len cap none (some (.int k1 0)) (some (.int k2 0))).run P w=.ok (0,0,0) w:=fun len cap=>by
  simp[Instr.sliceBounds,Instr.sliceBound,asIntOf]
 cases ha with
 | nilslice=>cases h; exact ⟨_,by simp[Instr.sliceAt,Instr.slice,run_underlying hu,hb,run_sizeOf hz],.nilslice⟩
 | zslice c=>cases h; exact ⟨_,by simp[Instr.sliceAt,Instr.slice,run_underlying hu,hb,run_sizeOf hz]; rfl,.zslice _⟩
 | eslice c _=>cases h; exact ⟨_,by simp[Instr.sliceAt,Instr.slice,run_underlying hu,hb,run_sizeOf hz]; rfl,.zslice _⟩
 | tnil=>cases h; exact ⟨_,by simp[Instr.sliceAt,Instr.slice,run_underlying hu,hb,run_sizeOf hz],.tnil⟩
 | tslice es b o cap esz sp vs hf hsz hc hv hle=>
  simp only[fq4] at h
  split at h
  ·cases h; exact ⟨_,by simp[Instr.sliceAt,Instr.slice,run_underlying hu,hb,run_sizeOf hz]; rfl,by
    have:=VR.tslice (ρ:=ρ) (w:=w) [] b o 0 0 sp (fun _ _=>.nilIface) (fun hn=>absurd rfl hn) (fun i hi=>by simp at hi) (fun i hi=>by simp at hi) (fun i hi=>by simp at hi) (by simp)
    exact this⟩
  ·cases h; exact ⟨_,by simp[Instr.sliceAt,Instr.slice,run_underlying hu,hb,run_sizeOf hz]; rfl,.zslice _⟩
 | slice id off len e B d cap rcs el fz hid hbk hsz hle=>cases h; exact ⟨_,by simp[Instr.sliceAt,Instr.slice,run_underlying hu,hb,run_sizeOf hz]; rfl,.zslice _⟩
 | sliceZ id off e B d a hid=>cases h; exact ⟨_,by simp[Instr.sliceAt,Instr.slice,run_underlying hu,hb,run_sizeOf hz]; rfl,.zslice _⟩
 | sliceD id off len e cap ad hid hle=>cases h; exact ⟨_,by simp[Instr.sliceAt,Instr.slice,run_underlying hu,hb,run_sizeOf hz]; rfl,.zslice _⟩
 | cslice id off len e B d rcs el fz hid hbk hsz=>cases h; exact ⟨_,by simp[Instr.sliceAt,Instr.slice,run_underlying hu,hb,run_sizeOf hz]; rfl,.zslice _⟩
 | csliceD id off len e ad hid=>cases h; exact ⟨_,by simp[Instr.sliceAt,Instr.slice,run_underlying hu,hb,run_sizeOf hz]; rfl,.zslice _⟩
 | _=>simp[fq4] at h
/-! ### nil -/
def fq7 (d:TypeDesc):IV→Option Bool
 | .nilptr=>match d with|.pointer _=>some true|_=>none
 | .tptr _=>match d with|.pointer _=>some false|_=>none
 | .ptr _ _=>match d with|.pointer _=>some false|_=>none
 | .nilslice=>match d with|.slice _=>some true|_=>none
 | .zslice=>match d with|.slice _=>some false|_=>none
 | .eslice=>match d with|.slice _=>some false|_=>none
 | .tslice es=>if es=[] then none else match d with|.slice _=>some false|_=>none
 | .slice _ _ _ _=>match d with|.slice _=>some false|_=>none
 | .nilmap=>match d with|.map _ _=>some true|_=>none
 | .map _=>match d with|.map _ _=>some false|_=>none
 | .nilfunc=>match d with|.func _ _ _=>some true|_=>none
 | .func _ _ _=>match d with|.func _ _ _=>some false|_=>none
 | _=>none
def gf1:IV→IV
 | .cslice i o l e=>.slice i o l e
 | .rslice i o l _ e=>.slice i o l e
 | v=>v
theorem ex1 {v:IV}{r:Value}(h:VR ρ w v r):VR ρ w (gf1 v) r:=by
 cases h with
 | cslice id off len esz B d rcs el fz hi hb hsz=>exact .slice id off len esz B d len rcs el fz hi hb hsz (Nat.le_refl _)
 | csliceD id off len esz ad hi=>exact .sliceD id off len esz len ad hi (Nat.le_refl _)
 | rslice id off len room esz B d cap rcs el fz hi hb hsz hle hr=>exact .slice id off len esz B d cap rcs el fz hi hb hsz (Nat.le_trans hle hr)
 | rsliceD id off len room esz cap ad hi hle hr=>exact .sliceD id off len esz cap ad hi (Nat.le_trans hle hr)
 | undef r=>exact .undef r
 | bool b=>exact .bool b
 | int k n=>exact .int k n
 | str s=>exact .str s
 | nilptr=>exact .nilptr
 | ptr id off B d h=>exact .ptr id off B d h
 | ptrD id off ad h=>exact .ptrD id off ad h
 | tptr cs b o vs hf hc hv=>exact .tptr cs b o vs hf hc hv
 | nilslice=>exact .nilslice
 | zslice a=>exact .zslice a
 | eslice a c=>exact .eslice a c
 | slice id off len esz B d cap rcs el fz h hb hsz hle=>exact .slice id off len esz B d cap rcs el fz h hb hsz hle
 | sliceZ id off esz B d a h=>exact .sliceZ id off esz B d a h
 | sliceD id off len esz cap ad h hle=>exact .sliceD id off len esz cap ad h hle
 | tslice es b o cap esz sp vs hf hsz hc hv hle=>exact .tslice es b o cap esz sp vs hf hsz hc hv hle
 | tnil=>exact .tnil
 | nilmap=>exact .nilmap
 | map id B d h=>exact .map id B d h
 | mapD id B h=>exact .mapD id B h
 | tmap es es' b mes clock hp hd hf hb hl hk hv h4 h5=>exact .tmap es es' b mes clock hp hd hf hb hl hk hv h4 h5
 | func fn first cap rf rc hy h1 h2 hf hc=>exact .func fn first cap rf rc hy h1 h2 hf hc
 | yield id B d h=>exact .yield id B d h
 | yieldD id B h=>exact .yieldD id B h
 | nilfunc=>exact .nilfunc
 | iface t v r h=>exact .iface t v r h
 | niliface=>exact .niliface
 | agg cs rs h hv=>exact .agg cs rs h hv
 | tuple cs rs h hv=>exact .tuple cs rs h hv
def cc5 (d:TypeDesc)(v:IV):Option Bool:=fq7 d (gf1 v)
def ef7:TypeDesc→Option Value
 | .pointer _=>some (.pointer none)
 | .slice _=>some (.slice none 0 0)
 | .map _ _=>some (.map none)
 | .func _ _ _=>some .nilFunc
 | _=>none
theorem ef8 {t:TypeId}{d:TypeDesc}{op:BinOp}{x y:Operand}{a:IV}{ra rn:Value}{b:Bool}
  (hu:P.underlying t=some d) (hn:ef7 d=some rn) (hop:op=.eql∨op=.neq) (h:fq7 d a=some b) (ha:VR ρ w a ra) :
  (do eqGuard op t x y ra rn; binOp op t ra rn:Sem Value).run P w=.ok (.bool (if op=.eql then b else !b)) w:=by
 have hg:(eqGuard op t x y ra rn).run P w=.ok () w:=by
  unfold eqGuard
  rcases hop with rfl|rfl<;>cases d<;>simp[ef7] at hn<;>subst hn<;>cases ra<;>rfl
 simp only[Sem.run_bind,hg,Result.andThen_ok]
 have key:(Op.equal t ra rn).run P w=.ok b w:=by
  unfold Op.equal Op.maxDepth Op.equalIn
  cases ha<;>cases d<;>simp[ef7] at hn<;>(try subst hn)<;>simp[fq7] at h<;>simp[run_underlying hu,h]
 rcases hop with rfl|rfl<;>cases d<;>simp[ef7] at hn<;>subst hn<;>cases ha<;>simp[fq7] at h<;>simp[binOp,key]
theorem ex2 {t:TypeId}{d:TypeDesc}{op:BinOp}{x y:Operand}{a:IV}{ra rn:Value}{b:Bool}
  (hu:P.underlying t=some d) (hn:ef7 d=some rn) (hop:op=.eql∨op=.neq) (h:cc5 d a=some b) (ha:VR ρ w a ra) :
  (do eqGuard op t x y ra rn; binOp op t ra rn:Sem Value).run P w=.ok (.bool (if op=.eql then b else !b)) w :=
 ef8 hu hn hop h (ex1 ha)
/-! ### Structs of numbers,strings and bools,held against each other -/
def af9:Nat→IV→IV→Option Bool
 | 0,.bool a,.bool b=>some (a==b)
 | 1,.int k a,.int k' b=>if k=k' then some (decide (a=b)) else none
 | 2,.str a,.str b=>some (decide (a=b))
 | _,_,_=>none
def allEq:List Nat→List IV→List IV→Option Bool
 | [],[],[]=>some true
 | t::ts,x::xs,y::ys=>match af9 t x y,allEq ts xs ys with
  | some a,some b=>some (a&&b)
  | _,_=>none
 | _,_,_=>none
def dd9 (P:Program)(g:TypeId→Option (List Nat)):List Field→Nat→Option (List Nat)
 | [],_=>some []
 | f::fs,off=>
  if f.name ≠ "_" ∧ f.offset = off then
   match g f.type,ai5 P f.type with
   | some l,some none=>if l.length=1 then (dd9 P g fs (off+1)).map (l++·) else none
   | some l,some (some n)=>if n=l.length∧l.length≠0 then (dd9 P g fs (off+l.length)).map (l++·) else none
   | _,_=>none
  else none
def ck9 (P:Program):Nat→TypeId→Option (List Nat)
 | 0,_=>none
 | d+1,t=>match P.underlying t with
  | some .bool=>some [0]
  | some (.int _)=>some [1]
  | some .string=>some [2]
  | some (.struct fs)=>if P.stoodInHeld t then none else dd9 P (ck9 P d) fs.toList 0
  | some (.array n e)=>match P.underlying e with
   | some (.int _)=>if szT P e=some 1∧0<d then some (List.replicate n 1) else none
   | _=>none
  | _=>none
theorem de1 {t1 t2:List Nat}{xs ys:List IV}{b:Bool}(h:allEq (t1++t2) xs ys=some b) :
  ∃ b1 b2,allEq t1 (xs.take t1.length) (ys.take t1.length)=some b1∧allEq t2 (xs.drop t1.length) (ys.drop t1.length)=some b2∧b=(b1&&b2):=by
 induction t1 generalizing xs ys b with
 | nil=>exact ⟨true,b,by simp[allEq],by simpa using h,by simp⟩
 | cons t ts ih=>
  cases xs with
  | nil=>simp[allEq] at h
  | cons x xs=>
   cases ys with
   | nil=>simp[allEq] at h
   | cons y ys=>
    simp only[List.cons_append,allEq] at h
    split at h
    ·rename_i a b' h1 h2
     cases h
     obtain ⟨b1,b2,e1,e2,rfl⟩:=ih h2
     refine ⟨a&&b1,b2,?_,by simpa using e2,by rw[Bool.and_assoc]⟩
     simp[allEq,h1,e1]
    ·cases h
theorem allEq_len {ts:List Nat}{xs ys:List IV}{b:Bool}(h:allEq ts xs ys=some b):xs.length=ts.length∧ys.length=ts.length:=by
 induction ts generalizing xs ys b with
 | nil=>cases xs<;>cases ys<;>simp[allEq] at h ⊢
 | cons t ts ih=>
  cases xs with
  | nil=>simp[allEq] at h
  | cons x xs=>
   cases ys with
   | nil=>simp[allEq] at h
   | cons y ys=>
    simp only[allEq] at h
    split at h
    ·rename_i a b' h1 h2
     have:=ih h2
     simp[this]
    ·cases h
def IV.cs:IV→List IV
 | .agg xs=>xs
 | v=>[v]
theorem IV.cs_one {v:IV}(h:∀ zs,v≠.agg zs):v.cs=[v]:=by
 cases v<;>first|rfl|exact absurd rfl (h _)
theorem do4 (t:Nat)(zs:List IV)(y:IV):af9 t (.agg zs) y=none:=by
 unfold af9; split<;>first|rfl|contradiction
theorem do5 (t:Nat)(zs:List IV)(x:IV):af9 t x (.agg zs)=none:=by
 unfold af9; split<;>first|rfl|contradiction
theorem ce7 {t:Nat}{x y:IV}{b:Bool}(h:allEq [t] [x] [y]=some b):af9 t x y=some b:=by
 simp only[allEq] at h
 split at h
 ·rename_i a c h1 h2; cases h2; simpa [h1] using h
 ·cases h
theorem fq8 {x y:IV}{b:Bool}(h:af9 0 x y=some b):∃ a c,x=.bool a∧y=.bool c∧b=(a==c):=by
 unfold af9 at h; split at h<;>simp_all
theorem cx6 {x y:IV}{b:Bool}(h:af9 1 x y=some b):∃ k a c,x=.int k a∧y=.int k c∧b=decide (a=c):=by
 unfold af9 at h
 split at h
 case h_2 k a k' c=>
  split at h
  ·rename_i hk; subst hk; cases h; exact ⟨_,_,_,rfl,rfl,rfl⟩
  ·cases h
 all_goals first|contradiction|(exfalso; simp_all; done)
theorem fq9 {x y:IV}{b:Bool}(h:af9 2 x y=some b):∃ a c,x=.str a∧y=.str c∧b=decide (a=c):=by
 unfold af9 at h; split at h<;>simp_all
theorem gx5 {t e:TypeId}{k:IntKind}{n:Nat}(hut:P.underlying t=some (.array n e))(hu:P.underlying e=some (.int k))(hsz:szT P e=some 1){d:Nat}{xs ys:List IV}{rxs rys:Array Value}{b:Bool}(hd:0<d)
  (hx:xs.length=rxs.size) (hy:ys.length=rys.size) (vx:∀ i,i<xs.length→VR ρ w (xs.getD i .undef) (rxs.getD i undef)) (vy:∀ i,i<ys.length→VR ρ w (ys.getD i .undef) (rys.getD i undef))
  (hb:allEq (List.replicate n 1) xs ys=some b) :
  (Op.equalIn (d+1) t (.agg rxs) (.agg rys)).run P w=.ok b w:=by
 have hlk:ai5 P e=some none:=by simp[ai5,dw9,hu]
 simp only[Op.equalIn,Sem.run_bind,run_underlying hut,Result.andThen_ok,run_sizeOf hsz,_root_.Std.Legacy.Range.forIn_eq_forIn_range',_root_.Std.Legacy.Range.size,Nat.sub_zero,Nat.add_sub_cancel,Nat.div_one,Nat.mul_one]
 have key:∀ (m off:Nat) (b:Bool),allEq (List.replicate m 1) (xs.drop off) (ys.drop off)=some b →
   (forIn (m:=Sem) (List.range' off m) ((none,()):Option Bool×Unit) fun i __s=>do
      let __do_lift ← part e rxs i
      let __do_lift_1 ← part e rys i
      let __do_lift ← Op.equalIn d e __do_lift __do_lift_1
      if (!__do_lift)=true then pure (ForInStep.done (some false,())) else pure (ForInStep.yield (none,()))).run P w=.ok (if b then none else some false,()) w:=by
  intro m
  induction m with
  | zero=>
   intro off b h
   rw[List.replicate_zero] at h
   cases hxs:xs.drop off<;>cases hys:ys.drop off<;>rw[hxs,hys] at h<;>simp[allEq] at h
   subst h
   simp
  | succ m ih=>
   intro off b h
   rw[List.replicate_succ] at h
   obtain ⟨l1,l2⟩:=allEq_len h
   simp only[List.length_drop,List.length_cons,List.length_replicate] at l1 l2
   have g1:off<xs.length:=by omega
   have g2:off<ys.length:=by omega
   rw[List.drop_eq_getElem_cons g1,List.drop_eq_getElem_cons g2] at h
   simp only[allEq] at h
   split at h
   ·rename_i b1 b2 h1 h2
    cases h
    obtain ⟨x,hpx,hvx⟩:=an6 (P:=P) hlk (show au9 none off xs=some xs[off] by simp[au9,g1]) hx vx
    obtain ⟨y,hpy,hvy⟩:=an6 (P:=P) hlk (show au9 none off ys=some ys[off] by simp[au9,g2]) hy vy
    obtain ⟨k1,a,c,ea,ec,rfl⟩:=cx6 h1
    rw[ea] at hvx
    rw[ec] at hvy
    cases hvx; cases hvy
    have hq:(Op.equalIn d e (.int k1 a) (.int k1 c)).run P w=.ok (decide (a=c)) w:=by
     obtain ⟨d,rfl⟩:∃ m,d=m+1:=⟨d-1,by omega⟩
     simp[Op.equalIn,run_underlying hu,ce5]
    simp only[List.range'_succ,List.forIn_cons,Sem.run_bind,hpx,hpy,hq,Result.andThen_ok]
    by_cases hac:a=c
    ·have:=ih (off+1) b2 h2
     simp only[hac,decide_true,Bool.not_true,Bool.false_eq_true,if_false,Sem.run_pure,Result.andThen_ok,Bool.true_and]
     exact this
    ·simp[hac]
   ·cases h
 rw[key n 0 b (by simpa using hb)]
 cases b<;>simp
def ig1 (P:Program)(d:Nat)(t:TypeId)(tags:List Nat):Prop :=
 ∀ (ρ:Rho) (w:World) (e:Nat) (x y:IV) (rx ry:Value) (b:Bool),VR ρ w x rx→VR ρ w y ry→(match ai5 P t with|some none=>(∀ zs,x≠.agg zs)∧(∀ zs,y≠.agg zs)|some (some _)=>(∃ xs,x=.agg xs)∧∃ ys,y=.agg ys|none=>False) →
  allEq tags x.cs y.cs=some b→(Op.equalIn (e+d) t rx ry).run P w=.ok b w
theorem cl1 {d e:Nat}{g:TypeId→Option (List Nat)}(hg:∀ t tags,g t=some tags→ig1 P d t tags){xs ys:List IV}{rxs rys:Array Value}
  (hx:xs.length=rxs.size) (hy:ys.length=rys.size) (vx:∀ i,i<xs.length→VR ρ w (xs.getD i .undef) (rxs.getD i undef)) (vy:∀ i,i<ys.length→VR ρ w (ys.getD i .undef) (rys.getD i undef)) :
  ∀ (fs:List Field) (off:Nat) (tags:List Nat) (b:Bool),dd9 P g fs off=some tags→allEq tags (xs.drop off) (ys.drop off)=some b →
   (Op.eqFields (e+d) rxs rys fs).run P w=.ok b w:=by
 intro fs
 induction fs with
 | nil=>
  intro off tags b hf h
  cases hf
  cases hxs:xs.drop off<;>cases hys:ys.drop off<;>rw[hxs,hys] at h<;>simp[allEq] at h
  subst h
  simp[Op.eqFields]
 | cons f fs ih=>
  intro off tags b hf h
  simp only[dd9] at hf
  split at hf
  case isFalse=>cases hf
  rename_i hn
  obtain ⟨hn,rfl⟩:=hn
  have step:∀ (l ts:List Nat) (agg:Option Nat),g f.type=some l→ai5 P f.type=some agg→(agg.getD 1=l.length)→(∀ n,agg=some n→l.length≠0)→dd9 P g fs (f.offset+l.length)=some ts→tags=l++ts →
    (Op.eqFields (e+d) rxs rys (f::fs)).run P w=.ok b w:=by
   intro l ts agg hl hk hsz hnz hrest htags
   subst htags
   obtain ⟨b1,b2,e1,e2,rfl⟩:=de1 h
   have len1:=allEq_len e1
   simp only[List.length_take,List.length_drop] at len1
   have hxl:f.offset+l.length≤xs.length∨l.length=0:=by omega
   have hyl:f.offset+l.length≤ys.length∨l.length=0:=by omega
   -- the parts
   have parts:∃ px py,au9 agg f.offset xs=some px∧au9 agg f.offset ys=some py ∧
     (match ai5 P f.type with|some none=>(∀ zs,px≠.agg zs)∧(∀ zs,py≠.agg zs)|some (some _)=>(∃ xs,px=.agg xs)∧∃ ys,py=.agg ys|none=>False) ∧
     allEq l px.cs py.cs=some b1:=by
    cases agg with
    | none=>
     simp at hsz
     have h1:f.offset<xs.length:=by omega
     have h2:f.offset<ys.length:=by omega
     have t1:(xs.drop f.offset).take l.length=[xs[f.offset]]:=by
      rw[← hsz,List.drop_eq_getElem_cons h1]; rfl
     have t2:(ys.drop f.offset).take l.length=[ys[f.offset]]:=by
      rw[← hsz,List.drop_eq_getElem_cons h2]; rfl
     rw[t1,t2] at e1
     have nx:∀ zs,xs[f.offset]≠.agg zs:=by
      intro zs hz
      rw[hz] at e1
      match l,hsz,e1 with
      | [tag],_,e1=>simp only[allEq,do4] at e1; cases e1
     have ny:∀ zs,ys[f.offset]≠.agg zs:=by
      intro zs hz
      rw[hz] at e1
      match l,hsz,e1 with
      | [tag],_,e1=>simp only[allEq,do5] at e1; cases e1
     refine ⟨xs[f.offset],ys[f.offset],by simp[au9,h1],by simp[au9,h2],by rw[hk]; exact ⟨nx,ny⟩,?_⟩
     rw[IV.cs_one nx,IV.cs_one ny]
     exact e1
    | some n=>
     simp at hsz
     have h0:=hnz n rfl
     subst hsz
     have h1:f.offset+l.length≤xs.length:=by omega
     have h2:f.offset+l.length≤ys.length:=by omega
     rw[hk]
     exact ⟨.agg ((xs.drop f.offset).take l.length),.agg ((ys.drop f.offset).take l.length),by simp[au9,h1],by simp[au9,h2],⟨⟨_,rfl⟩,⟨_,rfl⟩⟩,e1⟩
   obtain ⟨px,py,p1,p2,p3,p4⟩:=parts
   obtain ⟨qx,r1,v1⟩:=an6 hk p1 hx vx
   obtain ⟨qy,r2,v2⟩:=an6 hk p2 hy vy
   have heq:=hg f.type l hl ρ w e px py qx qy b1 v1 v2 p3 p4
   simp only[Op.eqFields,hn,ne_eq,not_false_eq_true,if_true,Sem.run_bind,r1,r2,heq,Result.andThen_ok]
   cases b1 with
   | false=>simp
   | true=>
    simp only[Bool.not_true,Bool.false_eq_true,if_false,Bool.true_and]
    exact ih (f.offset+l.length) ts b2 hrest (by simpa [List.drop_drop] using e2)
  split at hf
  ·rename_i l hl hk
   split at hf
   ·rename_i h1
    cases hr:dd9 P g fs (f.offset+1) with
    | none=>rw[hr] at hf; cases hf
    | some ts=>rw[hr] at hf; cases hf; exact step l ts none hl hk (by simp[h1]) (fun n hn=>by cases hn) (by rw[h1]; exact hr) rfl
   ·cases hf
  ·rename_i l n hl hk
   split at hf
   ·rename_i h1
    cases hr:dd9 P g fs (f.offset+l.length) with
    | none=>rw[hr] at hf; cases hf
    | some ts=>rw[hr] at hf; cases hf; exact step l ts (some n) hl hk (by simp[h1.1]) (fun _ _=>h1.2) hr rfl
   ·cases hf
  ·cases hf
end Go.Id
/- The rest of the quiet operations,and all of them as one function on ideal values. Conditions: none; over any program. -/
namespace Go.Id
open Go
variable {P:Program} {w:World} {ρ:Rho}
theorem de2 {t:TypeId}{fs:Array Field}(hu:P.underlying t=some (.struct fs)):∀ k,ai5 P t=some k→∃ n,k=some n:=by
 intro k hk
 have:dw9 P t=some true:=by simp[dw9,hu]
 unfold ai5 at hk
 rw[this] at hk
 cases hz:szT P t with
 | none=>rw[hz] at hk; cases hk
 | some n=>rw[hz] at hk; cases hk; exact ⟨n,rfl⟩
theorem bj1:∀ (d:Nat) (t:TypeId) (tags:List Nat),ck9 P d t=some tags→ig1 P d t tags:=by
 intro d
 induction d with
 | zero=>intro t tags h; simp[ck9] at h
 | succ d ih=>
  intro t tags h ρ w e x y rx ry b vx vy hk hb
  simp only[ck9] at h
  cases hu:P.underlying t with
  | none=>rw[hu] at h; cases h
  | some u=>
   rw[hu] at h
   cases u<;>simp at h
   case bool=>
    subst h
    rw[show ai5 P t=some none from by simp[ai5,dw9,hu]] at hk
    rw[IV.cs_one hk.1,IV.cs_one hk.2] at hb
    obtain ⟨a,c,rfl,rfl,rfl⟩:=fq8 (ce7 hb)
    cases vx; cases vy
    rw[← Nat.add_assoc]
    simp[Op.equalIn,run_underlying hu]
   case int k=>
    subst h
    rw[show ai5 P t=some none from by simp[ai5,dw9,hu]] at hk
    rw[IV.cs_one hk.1,IV.cs_one hk.2] at hb
    obtain ⟨k,a,c,rfl,rfl,rfl⟩:=cx6 (ce7 hb)
    cases vx; cases vy
    rw[← Nat.add_assoc]
    simp[Op.equalIn,run_underlying hu,ce5]
   case string=>
    subst h
    rw[show ai5 P t=some none from by simp[ai5,dw9,hu]] at hk
    rw[IV.cs_one hk.1,IV.cs_one hk.2] at hb
    obtain ⟨a,c,rfl,rfl,rfl⟩:=fq9 (ce7 hb)
    cases vx; cases vy
    rw[← Nat.add_assoc]
    simp[Op.equalIn,run_underlying hu,beq_toListBytes,dx1]
   case struct fs=>
    obtain ⟨hst,h⟩:=h
    have hfo:P.fieldsOf t=fs:=by simp[Program.fieldsOf,hu]
    cases hlk:ai5 P t with
    | none=>rw[hlk] at hk; exact hk.elim
    | some k=>
     obtain ⟨n,rfl⟩:=de2 hu k hlk
     rw[hlk] at hk
     obtain ⟨⟨xs,rfl⟩,⟨ys,rfl⟩⟩:=hk
     cases vx with
     | agg _ rxs hx vx=>
      cases vy with
      | agg _ rys hy vy=>
       simp only[IV.cs] at hb
       rw[← Nat.add_assoc,run_equalIn_struct w (e+d) t rxs rys (by rw[hfo]; exact hu) hst,hfo]
       exact cl1 (fun t tags h=>ih t tags h) hx hy vx vy fs.toList 0 tags b h (by simpa using hb)
   case array n e0=>
    split at h
    ·rename_i k hue
     split at h
     ·rename_i hc
      cases h
      have hlk:ai5 P t=(szT P t).map some:=by simp[ai5,dw9,hu]
      cases hsz:szT P t with
      | none=>rw[hlk,hsz] at hk; exact hk.elim
      | some m=>
       rw[hlk,hsz] at hk
       obtain ⟨⟨xs,rfl⟩,⟨ys,rfl⟩⟩:=hk
       cases vx with
       | agg _ rxs hx vx=>
        cases vy with
        | agg _ rys hy vy=>
         rw[← Nat.add_assoc]
         exact gx5 hu hue hc.1 (by omega) hx hy vx vy hb
     ·cases h
    ·cases h
def gx6 (tags:List Nat)(neg:Bool):IV→IV→Option IV
 | .agg xs,.agg ys=>(allEq tags xs ys).map fun b=>.bool (b ^^ neg)
 | _,_=>none
theorem de3 {d:Nat}(hd:d≤10000){t:TypeId}{tags:List Nat}{n:Nat}{op:BinOp}{x y:Operand}{a b v:IV}{ra rb:Value}(ht:ck9 P d t=some tags)(hl:ai5 P t=some (some n))
  (hm:P.eqGuardType P.depth t=false) (hop:op=.eql∨op=.neq) (h:gx6 tags (decide (op=.neq)) a b=some v) (ha:VR ρ w a ra) (hb:VR ρ w b rb) :
  ∃ r,(do eqGuard op t x y ra rb; binOp op t ra rb:Sem Value).run P w=.ok r w∧VR ρ w v r:=by
 cases ha with
 | agg xs rxs hx vx=>
  cases hb with
  | agg ys rys hy vy=>
   simp only[gx6] at h
   cases hq:allEq tags xs ys with
   | none=>rw[hq] at h; cases h
   | some q=>
    rw[hq] at h
    cases h
    have he:=bj1 d t tags ht ρ w (10000-d) (.agg xs) (.agg ys) (.agg rxs) (.agg rys) q (.agg xs rxs hx vx) (.agg ys rys hy vy) (by rw[hl]; exact ⟨⟨_,rfl⟩,⟨_,rfl⟩⟩) hq
    rw[show 10000-d+d=10000 from by omega] at he
    simp only[Sem.run_bind,run_eqGuard_agg w op t x y rxs rys hm,Result.andThen_ok]
    rcases hop with rfl|rfl
    ·rw[run_eql_struct,he]; exact ⟨_,rfl,by simpa using VR.bool q⟩
    ·rw[run_neq_struct,he]; exact ⟨_,rfl,by simpa using VR.bool (!q)⟩
  | _=>simp[gx6] at h
 | _=>simp[gx6] at h
/-! ### not,conversions -/
def gx7:IV→Option IV
 | .bool b=>some (.bool (!b))
 | _=>none
theorem ex3 {a v:IV}{ra:Value}(h:gx7 a=some v)(ha:VR ρ w a ra):∃ r,(Op.unary .not ra).run P w=.ok r w∧VR ρ w v r:=by
 cases ha<;>simp[gx7] at h
 subst h
 exact ⟨_,rfl,.bool _⟩
def gx8:IV→Option IV
 | .int k n=>some (.int k (k.wrap (0-n)))
 | _=>none
theorem ex4 {a v:IV}{ra:Value}(h:gx8 a=some v)(ha:VR ρ w a ra):∃ r,(Op.unary .neg ra).run P w=.ok r w∧VR ρ w v r:=by
 cases ha<;>simp only[gx8] at h<;>cases h
 exact ⟨_,rfl,.int _ _⟩
def ex5 (k:IntKind):IV→Option IV
 | .int _ n=>some (.int k (k.wrap n))
 | _=>none
theorem ef9 {src dst:TypeId}{k:IntKind}{a v:IV}{ra:Value}{u:TypeDesc}(hs:P.underlying src=some u)(hd:P.underlying dst=some (.int k))(h:ex5 k a=some v)(ha:VR ρ w a ra) :
  ∃ r,(convert src dst ra).run P w=.ok r w∧VR ρ w v r:=by
 cases ha<;>simp only[ex5] at h<;>cases h
 exact ⟨_,by simp[convert,run_underlying hs,run_underlying hd,Conv.intToInt],.int _ _⟩
def de4:IV→Option IV
 | .str s=>some (.str s)
 | _=>none
theorem do6 {src dst:TypeId}{a v:IV}{ra:Value}{u:TypeDesc}(hs:P.underlying src=some u)(hd:P.underlying dst=some .string)(h:de4 a=some v)(ha:VR ρ w a ra) :
  ∃ r,(convert src dst ra).run P w=.ok r w∧VR ρ w v r:=by
 cases ha<;>simp only[de4] at h<;>cases h
 exact ⟨_,by simp[convert,run_underlying hs,run_underlying hd],.str _⟩
/-! ### A check for nil -/
def de5 (v:IV):Option IV :=
 match v with
 | .tptr _=>some v
 | .ptr _ _=>some v
 | .func (.func _) _ _=>some v
 | .yield _=>some v
 | _=>none
theorem eg1 {a v:IV}{o:Oper}{x:Operand}{ev:Operand→Value}(ho:o.op=.nilCheck x)
  (h:de5 a=some v) (ha:VR ρ w a (ev x)):∃ r,(execOp ev o).run P w=.ok (.value r) w∧VR ρ w v r:=by
 have key:∀ r:Value,(∀ q,ev x=q→(match q with|.pointer none|.nilIface|.nilFunc=>False|.func (.method _) _ _=>False|_=>True))→ev x=r→(execOp ev o).run P w=.ok (.value r) w:=by
  intro r hq hr
  have:=hq _ hr
  unfold execOp
  rw[ho]
  simp only[hr]
  cases r with
  | pointer p=>cases p<;>simp at this ⊢
  | func fn f c=>cases fn<;>simp at this ⊢
  | _=>first|rfl|simp at this
 generalize hev:ev x=r at ha
 cases ha with
 | tptr cs b off vs hf hc hv=>
  cases h
  exact ⟨_,key _ (fun q hq=>by rw[hev] at hq; subst hq; trivial) hev,.tptr cs b off vs hf hc hv⟩
 | ptr id off B d hid=>cases h; exact ⟨_,key _ (fun q hq=>by rw[hev] at hq; subst hq; trivial) hev,.ptr id off B d hid⟩
 | ptrD id off ad hid=>cases h; exact ⟨_,key _ (fun q hq=>by rw[hev] at hq; subst hq; trivial) hev,.ptrD id off ad hid⟩
 | func fn first cap rf rc hy h1 h2 hf hc=>
  cases fn<;>simp[de5] at h
  subst h
  exact ⟨_,key _ (fun q hq=>by rw[hev] at hq; subst hq; trivial) hev,.func _ first cap rf rc hy h1 h2 hf hc⟩
 | yield id B d hid=>cases h; exact ⟨_,key _ (fun q hq=>by rw[hev] at hq; subst hq; trivial) hev,.yield id B d hid⟩
 | yieldD id B hid=>cases h; exact ⟨_,key _ (fun q hq=>by rw[hev] at hq; subst hq; trivial) hev,.yieldD id B hid⟩
 | _=>simp[de5] at h
end Go.Id
/- Constants,zero values,building of structs and arrays; tables that are read. Conditions: none; over any program. -/
namespace Go.Id
open Go
variable {P:Program} {w:World} {ρ:Rho}
def cv1:Value→Option IV
 | .bool b=>some (.bool b)
 | .int k n=>some (.int k n)
 | .string s=>some (.str s.data.toList)
 | .pointer none=>some .nilptr
 | .slice none 0 0=>some .nilslice
 | .map none=>some .nilmap
 | .nilFunc=>some .nilfunc
 | .nilIface=>some .niliface
 | _=>none
def cvL:List Value→Option (List IV)
 | []=>some []
 | v::vs=>match cv1 v,cvL vs with
  | some x,some xs=>some (x::xs)
  | _,_=>none
def cv:Value→Option IV
 | .agg cs=>(cvL cs.toList).map .agg
 | v=>cv1 v
def cvs (v:Value):Option (List IV):=cvL v.cells.toList
theorem de6 {v:Value}{x:IV}(h:cv1 v=some x):VR ρ w x v:=by
 unfold cv1 at h
 split at h<;>cases h
 ·exact .bool _
 ·exact .int _ _
 ·rename_i s; exact .str _
 ·exact .nilptr
 ·exact .nilslice
 ·exact .nilmap
 ·exact .nilfunc
 ·exact .niliface
theorem ex6 {vs:List Value}{xs:List IV}(h:cvL vs=some xs):xs.length=vs.length∧∀ i,i<xs.length→VR ρ w (xs.getD i .undef) (vs.getD i undef):=by
 induction vs generalizing xs with
 | nil=>cases h; exact ⟨rfl,fun i hi=>by simp at hi⟩
 | cons v vs ih=>
  simp only[cvL] at h
  split at h
  ·rename_i x ys h1 h2
   cases h
   obtain ⟨hl,hv⟩:=ih h2
   refine ⟨by simp[hl],fun i hi=>?_⟩
   cases i with
   | zero=>simpa using de6 h1
   | succ i=>simpa using hv i (by simpa using hi)
  ·cases h
theorem ce8 {v:Value}{xs:List IV}(h:cvs v=some xs):xs.length=v.cells.size∧∀ i,i<xs.length→VR ρ w (xs.getD i .undef) (v.cells.getD i undef):=by
 obtain ⟨hl,hv⟩:=ex6 (ρ:=ρ) (w:=w) h
 refine ⟨by simpa using hl,fun i hi=>?_⟩
 have:=hv i hi
 simpa [Array.getD_eq_getD_getElem?,List.getD_eq_getElem?_getD] using this
theorem dx2 {v:Value}{x:IV}(h:cv v=some x):VR ρ w x v:=by
 unfold cv at h
 split at h
 ·rename_i cs
  cases hc:cvL cs.toList with
  | none=>rw[hc] at h; cases h
  | some xs=>
   rw[hc] at h
   cases h
   obtain ⟨hl,hv⟩:=ce8 (ρ:=ρ) (w:=w) (v:=.agg cs) (xs:=xs) (by simpa [cvs,Value.cells] using hc)
   exact .agg _ _ (by simpa [Value.cells] using hl) hv
 ·exact de6 h
def CR (ρ:Rho)(w:World)(xs:List IV)(rs:Array Value):Prop:=xs.length=rs.size∧∀ i,i<xs.length→VR ρ w (xs.getD i .undef) (rs.getD i undef)
def IV.leaf:IV→Bool
 | .undef|.agg _|.tuple _=>false
 | _=>true
theorem cx7 {r:Value}(h:r.oneCell'=true):r.cells=#[r]:=by
 cases r<;>first|rfl|simp[Value.oneCell'] at h
theorem bd2 {v:IV}{r:Value}(h:v.leaf=true)(hv:VR ρ w v r):r.oneCell'=true∧r.cells=#[r]:=by
 have:r.oneCell'=true:=by
  cases hv<;>first|rfl|assumption|(simp[IV.leaf] at h; done)
 exact ⟨this,cx7 this⟩
theorem bj2 {v:IV}{r:Value}(hv:VR ρ w v r)(hk:v.cs.all IV.leaf=true):CR ρ w v.cs r.cells∧∀ x∈r.cells.toList,x.oneCell'=true:=by
 by_cases ha:∃ zs,v=.agg zs
 ·obtain ⟨zs,rfl⟩:=ha
  cases hv with
  | agg _ rs h1 h2=>
   refine ⟨⟨h1,h2⟩,fun x hx=>?_⟩
   obtain ⟨i,hi,rfl⟩:=List.mem_iff_getElem.1 hx
   simp[Value.cells] at hi
   have hi':i<zs.length:=by omega
   have hl:(zs.getD i .undef).leaf=true:=by
    have:=List.all_eq_true.1 hk zs[i] (List.getElem_mem _)
    simpa [List.getD_eq_getElem?_getD,hi'] using this
   have:=(bd2 hl (h2 i hi')).1
   rw[ab6 _ _ _ hi] at this
   simpa [Value.cells] using this
 ·have hn:∀ zs,v≠.agg zs:=fun zs h=>ha ⟨zs,h⟩
  rw[IV.cs_one hn] at hk ⊢
  have hl:v.leaf=true:=by simpa using hk
  obtain ⟨h1,h2⟩:=bd2 hl hv
  rw[h2]
  refine ⟨⟨rfl,fun i hi=>?_⟩,fun x hx=>?_⟩
  ·simp at hi; subst hi; simpa using hv
  ·simp at hx; subst hx; exact h1
/-! ### Building -/
def ag9 (l:List IV)(off:Nat)(vs:List IV):List IV:=l.take off++vs++l.drop (off+vs.length)
theorem ac1 {l:List IV}{off:Nat}{vs:List IV}(h:off+vs.length≤l.length):(ag9 l off vs).length=l.length:=by
 unfold ag9; simp; omega
theorem de7 {l:List IV}{off:Nat}{vs:List IV}(h:off+vs.length≤l.length)(i:Nat)(d:IV) :
  (ag9 l off vs).getD i d=if off≤i∧i<off+vs.length then vs.getD (i-off) d else l.getD i d:=by
 unfold ag9
 simp only[List.getD_eq_getElem?_getD,List.getElem?_append,List.length_append,List.length_take,List.getElem?_take,List.getElem?_drop]
 have h1:min off l.length=off:=by omega
 rw[h1]
 by_cases c1:i<off+vs.length
 ·by_cases c2:i<off
  ·simp[c1,c2,Nat.not_le.2 c2]
  ·simp[c1,c2,Nat.not_lt.1 c2]
 ·have c2:¬ (i<off):=by omega
  simp only[c1,if_false,and_false]
  congr 2
  omega
theorem ex8 (off:Nat):∀ (vs:List Value) (k:Nat) (cells:Array Value),
  ((vs.zipIdx k).foldl (fun cs (c,j)=>cs.setIfInBounds (off+j) c) cells).size=cells.size ∧
  ∀ i d,off+k+vs.length≤cells.size→((vs.zipIdx k).foldl (fun cs (c,j)=>cs.setIfInBounds (off+j) c) cells).getD i d =
   if off+k≤i∧i<off+k+vs.length then vs.getD (i-(off+k)) d else cells.getD i d:=by
 intro vs
 induction vs with
 | nil=>intro k cells; exact ⟨rfl,fun i d h=>by simp; intro h1 h2; omega⟩
 | cons v vs ih=>
  intro k cells
  simp only[List.zipIdx_cons,List.foldl_cons]
  obtain ⟨h1,h2⟩:=ih (k+1) (cells.setIfInBounds (off+k) v)
  refine ⟨by rw[h1]; simp,fun i d h=>?_⟩
  simp at h
  rw[h2 i d (by simp; omega)]
  by_cases c1:off+k≤i∧i<off+k+(v::vs).length
  ·obtain ⟨ca,cb⟩:=c1
   simp at cb
   by_cases c2:i=off+k
   ·subst c2
    have hlt:off+k<cells.size:=by omega
    have c3:¬ (off+(k+1)≤off+k):=by omega
    simp[c3,Array.getD_eq_getD_getElem?,hlt]
   ·have c3:off+(k+1)≤i∧i<off+(k+1)+vs.length:=by omega
    have c4:off+k≤i∧i<off+k+(v::vs).length:=by simp; omega
    rw[if_pos c3,if_pos c4]
    have:i-(off+k)=(i-(off+(k+1)))+1:=by omega
    rw[this]
    simp
  ·have c3:¬ (off+(k+1)≤i∧i<off+(k+1)+vs.length):=by simp at c1; omega
   rw[if_neg c3,if_neg c1]
   have c2:off+k≠i:=by simp at c1; omega
   simp[Array.getD_eq_getD_getElem?,Array.getElem?_setIfInBounds,c2]
def an8:List IV→List (Nat×Nat×IV)→Option (List IV)
 | cells,[]=>some cells
 | cells,(off,size,v)::rest=>if v.cs.length=size∧off+size≤cells.length∧v.cs.all IV.leaf=true then an8 (ag9 cells off v.cs) rest else none
theorem cm5 {place:Nat→Option (Nat×Nat)}:∀ (ips:List (Nat×Nat×IV)) (rps:List (Nat×Value)) (cells out:List IV) (rcells:Array Value),CR ρ w cells rcells →
  ips.length=rps.length→(∀ j,j<ips.length→place (rps.getD j (0,undef)).1=some ((ips.getD j (0,0,.undef)).1,(ips.getD j (0,0,.undef)).2.1)∧VR ρ w (ips.getD j (0,0,.undef)).2.2 (rps.getD j (0,undef)).2) →
  an8 cells ips=some out→∃ rout,Instr.fill place rcells rps=some rout∧CR ρ w out rout:=by
 intro ips
 induction ips with
 | nil=>
  intro rps cells out rcells hc hl hp h
  cases rps with
  | nil=>cases h; exact ⟨rcells,rfl,hc⟩
  | cons _ _=>simp at hl
 | cons ip ips ih=>
  intro rps cells out rcells hc hl hp h
  obtain ⟨off,size,v⟩:=ip
  cases rps with
  | nil=>simp at hl
  | cons rp rps=>
   obtain ⟨i,r⟩:=rp
   simp only[an8] at h
   split at h
   case isFalse=>cases h
   rename_i hh
   obtain ⟨h1,h2,h3⟩:=hh
   obtain ⟨hp0,hv0⟩:=hp 0 (by simp)
   simp at hp0 hv0
   obtain ⟨⟨c1,c2⟩,c3⟩:=bj2 hv0 h3
   have hs:r.cells.size=size:=by omega
   have hcs:rcells.size=cells.length:=hc.1.symm
   obtain ⟨f1,f2⟩:=ex8 off r.cells.toList 0 rcells
   have hfold:r.cells.zipIdx.foldl (fun cs (c,j)=>cs.setIfInBounds (off+j) c) rcells=(r.cells.toList.zipIdx 0).foldl (fun cs (c,j)=>cs.setIfInBounds (off+j) c) rcells:=by
    rw[← Array.foldl_toList]; simp
   refine (ih rps (ag9 cells off v.cs) out (r.cells.zipIdx.foldl (fun cs (c,j)=>cs.setIfInBounds (off+j) c) rcells) ⟨?_,fun j hj=>?_⟩ (by simpa using hl) (fun j hj=>by simpa using hp (j+1) (by simpa using hj)) h).imp fun rout ho=>⟨?_,ho.2⟩
   ·rw[hfold,f1,ac1 (by omega)]; exact hc.1
   ·rw[ac1 (by omega)] at hj
    rw[de7 (by omega),hfold,f2 j undef (by simp; omega)]
    simp only[Nat.add_zero,Array.length_toList]
    rw[hs,h1]
    split
    ·rename_i hj'
     have:=c2 (j-off) (by omega)
     simpa [Array.getD_eq_getD_getElem?,List.getD_eq_getElem?_getD] using this
    ·exact hc.2 j hj
   ·simp only[Instr.fill,hp0]
    rw[if_neg (by simp; omega)]
    exact ho.1
end Go.Id
/- Maps,read. Conditions: none; over any program. -/
namespace Go.Id
open Go
variable {P:Program} {w:World} {ρ:Rho} {E:Nat→IV} {σ:Store}
def cb4 (σ:Store):IV→Option (List (IV×IV))
 | .nilmap=>some []
 | .tmap es=>some es
 | .map id=>match σ.obj id with
  | some (.map es)=>some es
  | _=>none
 | _=>none
def ah1 (tag:Nat)(x y:IV):Option Bool :=
 match Nat.ble 3 tag with
 | true=>match x with
  | .agg xs=>match y with
   | .agg ys=>allEq (List.replicate (tag-3) 1) xs ys
   | _=>none
  | _=>none
 | false=>af9 tag x y
def kOK (tag:Nat)(k:IV):Bool :=
 match Nat.ble 3 tag with
 | true=>(ah1 tag k k).isSome
 | false=>true
def aq8 (tag:Nat)(k:IV):List (IV×IV)→Option (Option IV)
 | []=>match kOK tag k with
  | true=>some none
  | false=>none
 | e::es=>match ah1 tag k e.1 with
  | some true=>some (some e.2)
  | some false=>aq8 tag k es
  | none=>none
def dd5 (σ:Store)(tag:Nat)(zero:IV)(ok:Bool)(x k:IV):Option IV :=
 match cb4 σ x with
 | some es=>match aq8 tag k es with
  | some r=>some (if ok then .tuple [r.getD zero,.bool r.isSome] else r.getD zero)
  | none=>none
 | none=>none
def do7:Option TypeDesc→Option Nat
 | some .bool=>some 0
 | some (.int _)=>some 1
 | some .string=>some 2
 | _=>none
def hu8 (P:Program)(t:TypeId):Bool:=match P.underlying t with
 | some (.int _)=>true
 | _=>false
def ex9 (P:Program)(kt:TypeId):Option Nat :=
 match P.underlying kt with
 | some (.struct fs)=>match ck9 P 30 kt,ai5 P kt with
  | some tags, some (some _) => if tags = List.replicate tags.length 1 ∧ fs.toList.all (fun f => f.name != "_" && hu8 P f.type && decide (f.offset < tags.length)) = true then some (tags.length + 3) else none
  | _,_=>none
 | d=>do7 d
theorem cm6 {kt:TypeId}{tag:Nat}(h:ex9 P kt=some tag):∃ d,P.underlying kt=some d∧((do7 (some d)=some tag∧tag<3) ∨
  (∃ fs n m, d = .struct fs ∧ tag = n + 3 ∧ ck9 P 30 kt = some (List.replicate n 1) ∧ ai5 P kt = some (some m) ∧ ∀ f ∈ fs.toList, f.name ≠ "_" ∧ hu8 P f.type = true ∧ f.offset < n)) := by
 unfold ex9 at h
 split at h
 ·rename_i fs hu
  refine ⟨_,hu,.inr ?_⟩
  split at h
  ·rename_i tags m hf hl
   split at h
   ·rename_i hc
    cases h
    refine ⟨fs,tags.length,m,rfl,rfl,by rw[hf]; exact congrArg some hc.1,hl,fun f hf=>?_⟩
    have:=List.all_eq_true.1 hc.2 f hf
    simp only[Bool.and_eq_true,bne_iff_ne,ne_eq,decide_eq_true_eq] at this
    exact ⟨this.1.1,this.1.2,this.2⟩
   ·cases h
  ·cases h
 ·cases hu:P.underlying kt with
  | none=>rw[hu] at h; cases h
  | some d=>
   rw[hu] at h
   refine ⟨d,rfl,.inl ⟨h,?_⟩⟩
   cases d<;>simp only[do7] at h<;>cases h<;>decide
theorem hu9 {n:Nat}:Nat.ble 3 (n+3)=true:=Nat.ble_eq_true_of_le (by omega)
theorem bl9 {tag:Nat}(h:tag<3)(x y:IV):ah1 tag x y=af9 tag x y:=by
 unfold ah1
 cases hb:Nat.ble 3 tag with
 | false=>rfl
 | true=>have:=Nat.le_of_ble_eq_true hb; omega
theorem ba2 {n:Nat}{x y:IV}{b:Bool}(h:ah1 (n+3) x y=some b):∃ xs ys,x=.agg xs∧y=.agg ys∧allEq (List.replicate n 1) xs ys=some b:=by
 unfold ah1 at h
 rw[hu9] at h
 simp only at h
 split at h
 ·split at h
  ·exact ⟨_,_,rfl,rfl,h⟩
  ·cases h
 ·cases h
theorem bd3:∀ {n:Nat} {xs ys:List IV} {b:Bool},allEq (List.replicate n 1) xs ys=some b →
  ∃ (ks:List IntKind) (as bs:List Int),ks.length=n∧as.length=n∧bs.length=n∧xs=(ks.zip as).map (fun p=>IV.int p.1 p.2)∧ys=(ks.zip bs).map (fun p=>IV.int p.1 p.2)∧b=decide (as=bs):=by
 intro n
 induction n with
 | zero=>
  intro xs ys b h
  have:=allEq_len h
  simp at this
  obtain ⟨rfl,rfl⟩:=this
  simp[allEq] at h
  exact ⟨[],[],[],rfl,rfl,rfl,rfl,rfl,by simp[h]⟩
 | succ n ih=>
  intro xs ys b h
  rw[List.replicate_succ] at h
  cases xs with
  | nil=>simp[allEq] at h
  | cons x xs=>
   cases ys with
   | nil=>simp[allEq] at h
   | cons y ys=>
    simp only[allEq] at h
    split at h
    ·rename_i a c h1 h2
     cases h
     obtain ⟨k,p,q,rfl,rfl,rfl⟩:=cx6 h1
     obtain ⟨ks,as,bs,l1,l2,l3,rfl,rfl,rfl⟩:=ih h2
     refine ⟨k::ks,p::as,q::bs,by simp[l1],by simp[l2],by simp[l3],rfl,rfl,?_⟩
     by_cases e1:p=q<;>by_cases e2:as=bs<;>simp[e1,e2]
    ·cases h
theorem cm7:∀ (ks:List IntKind) (as bs:List Int),as.length=ks.length→bs.length=ks.length→allEq (List.replicate ks.length 1) ((ks.zip as).map fun p=>IV.int p.1 p.2) ((ks.zip bs).map fun p=>IV.int p.1 p.2)=some (decide (as=bs)):=by
 intro ks
 induction ks with
 | nil=>
  intro as bs h1 h2
  cases as<;>cases bs<;>simp at h1 h2
  simp[allEq]
 | cons k ks ih=>
  intro as bs h1 h2
  cases as with
  | nil=>simp at h1
  | cons a as=>
   cases bs with
   | nil=>simp at h2
   | cons b bs=>
    simp only[List.length_cons,List.replicate_succ,List.zip_cons_cons,List.map_cons,allEq,af9,if_true]
    rw[ih as bs (by simpa using h1) (by simpa using h2)]
    by_cases e1:a=b<;>by_cases e2:as=bs<;>simp[e1,e2]
theorem ey1 {tag:Nat}{k e:IV}{b:Bool}(h:ah1 tag k e=some b):kOK tag k=true:=by
 unfold kOK
 cases hb:Nat.ble 3 tag with
 | false=>rfl
 | true=>
  have h3:=Nat.le_of_ble_eq_true hb
  obtain ⟨n,rfl⟩:∃ n,tag=n+3:=⟨tag-3,by omega⟩
  obtain ⟨xs,ys,rfl,rfl,h1⟩:=ba2 h
  obtain ⟨ks,as,bs,l1,l2,l3,rfl,rfl,rfl⟩:=bd3 h1
  have:=cm7 ks as as (by omega) (by omega)
  rw[l1] at this
  simp[ah1,this,hb]
theorem dx3 {tag:Nat}{k:IV}{es:List (IV×IV)}{r:Option IV}(h:aq8 tag k es=some r):kOK tag k=true:=by
 cases es with
 | nil=>
  simp only[aq8] at h
  split at h
  ·assumption
  ·cases h
 | cons e es=>
  simp only[aq8] at h
  cases hq:ah1 tag k e.1 with
  | none=>rw[hq] at h; cases h
  | some b=>exact ey1 hq
theorem gf2 (s t:List UInt8):(ByteArray.mk s.toArray==ByteArray.mk t.toArray)=decide (s=t):=by
 show (s.toArray==t.toArray)=_
 by_cases h:s=t<;>simp[h]
def EsR (ρ:Rho)(w:World)(es:List (IV×IV))(mes:List MapEntry):Prop :=
 es.length=mes.length∧∀ i,i<es.length→VR ρ w (es.getD i (.undef,.undef)).1 (mes.getD i default).key∧VR ρ w (es.getD i (.undef,.undef)).2 (mes.getD i default).val
theorem br2 {d:TypeDesc}{tag:Nat}{x y:IV}{rx ry:Value}{b:Bool}(ht:do7 (some d)=some tag)(h:af9 tag x y=some b)(hx:VR ρ w x rx)(hy:VR ρ w y ry):Instr.sameNow d rx ry=some b:=by
 cases d<;>simp only[do7] at ht<;>cases ht<;>cases x<;>cases y<;>simp only[af9] at h<;>first|cases h; done|skip
 ·cases hx; cases hy; cases h; rfl
 ·cases hx; cases hy
  simp only[Instr.sameNow]
  split at h
  ·cases h; rename_i e; simp[e,ce5]
  ·cases h
 ·cases hx; cases hy; cases h
  rename_i s t
  simp only[Instr.sameNow,gf2]
theorem cl2 {fs:Array Field}{x y:Value}:Instr.sameNow (.struct fs) x y=none:=by unfold Instr.sameNow; split<;>first|rfl|contradiction
def EqK (P:Program)(kt:TypeId)(tag:Nat):Prop:=∀ (ρ:Rho) (w:World) (x y:IV) (rx ry:Value) (b:Bool),ah1 tag x y=some b→VR ρ w x rx→VR ρ w y ry→(Op.equal kt rx ry).run P w=.ok b w
theorem eg2 {kt:TypeId}{n m:Nat}(hf:ck9 P 30 kt=some (List.replicate n 1))(hl:ai5 P kt=some (some m)):EqK P kt (n+3):=by
 intro ρ w x y rx ry b h hx hy
 obtain ⟨xs,ys,rfl,rfl,h1⟩:=ba2 h
 have he:=bj1 30 kt _ hf ρ w (10000-30) (.agg xs) (.agg ys) rx ry b hx hy (by rw[hl]; exact ⟨⟨_,rfl⟩,⟨_,rfl⟩⟩) h1
 exact he
theorem cc6 {kt:TypeId}{tag:Nat}{k:IV}{rk:Value}(ht:ex9 P kt=some tag)(hk:VR ρ w k rk):∀ (es:List (IV×IV)) (mes:List MapEntry),EsR ρ w es mes →
  ∀ (r:Option Nat),(r=none→∀ e∈es,ah1 tag k e.1=some false)→(∀ j,r=some j→j<es.length∧ah1 tag k (es.getD j (.undef,.undef)).1=some true∧∀ i,i<j→ah1 tag k (es.getD i (.undef,.undef)).1=some false) →
  (Instr.findKey kt rk mes).run P w=.ok (r.map fun j=>(j,(mes.getD j default).val)) w:=by
 obtain ⟨d,hu,hd⟩:=cm6 ht
 have now:∀ (es:List (IV×IV)) (mes:List MapEntry) (i0:Nat),tag<3→do7 (some d)=some tag→EsR ρ w es mes→∀ (r:Option Nat),(r=none→∀ e∈es,ah1 tag k e.1=some false)→(∀ j,r=some j→j<es.length∧ah1 tag k (es.getD j (.undef,.undef)).1=some true∧∀ i,i<j→ah1 tag k (es.getD i (.undef,.undef)).1=some false) →
   Instr.findNow d rk mes i0=some (r.map fun j=>(i0+j,(mes.getD j default).val)):=by
  intro es
  induction es with
  | nil=>
   intro mes i0 _ _ he r h1 h2
   have:mes=[]:=List.length_eq_zero_iff.1 he.1.symm
   subst this
   cases r with
   | none=>rfl
   | some j=>exact absurd (h2 j rfl).1 (by simp)
  | cons e es ih=>
   intro mes i0 h3 hto he r h1 h2
   cases mes with
   | nil=>exact absurd he.1 (by simp)
   | cons m mes=>
    have h0:=he.2 0 (by simp)
    simp at h0
    have he':EsR ρ w es mes:=⟨by have:=he.1; simpa using this,fun j hj=>by have:=he.2 (j+1) (by simp; omega); simpa using this⟩
    cases r with
    | none=>
     have hq:=h1 rfl e (List.mem_cons_self ..)
     rw[bl9 h3] at hq
     simp only[Instr.findNow,br2 hto hq hk h0.1]
     have:=ih mes (i0+1) h3 hto he' none (fun _ e he=>h1 rfl e (List.mem_cons_of_mem _ he)) (fun j hj=>by cases hj)
     simpa using this
    | some j=>
     obtain ⟨g1,g2,g3⟩:=h2 j rfl
     cases j with
     | zero=>
      simp at g2
      rw[bl9 h3] at g2
      simp[Instr.findNow,br2 hto g2 hk h0.1]
     | succ j=>
      have hq:=g3 0 (by omega)
      simp at hq
      rw[bl9 h3] at hq
      simp only[Instr.findNow,br2 hto hq hk h0.1]
      have:=ih mes (i0+1) h3 hto he' (some j) (fun h=>by cases h) (fun j' hj'=>by
       cases hj'
       refine ⟨by simpa using g1,by simpa using g2,fun i hi=>?_⟩
       have:=g3 (i+1) (by omega)
       simpa using this)
      rw[this]
      simp
      omega
 have ask:∀ (es:List (IV×IV)) (mes:List MapEntry) (i0:Nat),EqK P kt tag→EsR ρ w es mes→∀ (r:Option Nat),(r=none→∀ e∈es,ah1 tag k e.1=some false)→(∀ j,r=some j→j<es.length∧ah1 tag k (es.getD j (.undef,.undef)).1=some true∧∀ i,i<j→ah1 tag k (es.getD i (.undef,.undef)).1=some false) →
   (Instr.findAsking kt rk mes i0).run P w=.ok (r.map fun j=>(i0+j,(mes.getD j default).val)) w:=by
  intro es
  induction es with
  | nil=>
   intro mes i0 _ he r h1 h2
   have:mes=[]:=List.length_eq_zero_iff.1 he.1.symm
   subst this
   cases r with
   | none=>simp[Instr.findAsking]
   | some j=>exact absurd (h2 j rfl).1 (by simp)
  | cons e es ih=>
   intro mes i0 hE he r h1 h2
   cases mes with
   | nil=>exact absurd he.1 (by simp)
   | cons m mes=>
    have h0:=he.2 0 (by simp)
    simp at h0
    have he':EsR ρ w es mes:=⟨by have:=he.1; simpa using this,fun j hj=>by have:=he.2 (j+1) (by simp; omega); simpa using this⟩
    cases r with
    | none=>
     have hq:=h1 rfl e (List.mem_cons_self ..)
     have hr:=hE ρ w k e.1 rk m.key false hq hk h0.1
     have:=ih mes (i0+1) hE he' none (fun _ e he=>h1 rfl e (List.mem_cons_of_mem _ he)) (fun j hj=>by cases hj)
     simp only[Instr.findAsking,Sem.run_bind,hr,Result.andThen_ok]
     simpa using this
    | some j=>
     obtain ⟨g1,g2,g3⟩:=h2 j rfl
     cases j with
     | zero=>
      simp at g2
      have hr:=hE ρ w k e.1 rk m.key true g2 hk h0.1
      simp[Instr.findAsking,hr]
     | succ j=>
      have hq:=g3 0 (by omega)
      simp at hq
      have hr:=hE ρ w k e.1 rk m.key false hq hk h0.1
      have:=ih mes (i0+1) hE he' (some j) (fun h=>by cases h) (fun j' hj'=>by
       cases hj'
       refine ⟨by simpa using g1,by simpa using g2,fun i hi=>?_⟩
       have:=g3 (i+1) (by omega)
       simpa using this)
      simp only[Instr.findAsking,Sem.run_bind,hr,Result.andThen_ok]
      simp only[Bool.false_eq_true,if_false]
      rw[this]
      simp
      omega
 intro es mes he r h1 h2
 rcases hd with ⟨hto,h3⟩|⟨fs,n,m,rfl,rfl,hf,hl,_⟩
 ·have:=now es mes 0 h3 hto he r h1 h2
  simp only[Instr.findKey,Sem.run_bind,run_underlying hu,Result.andThen_ok,this]
  simp
 ·have hE:=eg2 (P:=P) hf hl
  cases mes with
  | nil=>
   have hes:es=[]:=List.length_eq_zero_iff.1 he.1
   subst hes
   cases r with
   | none=>simp[Instr.findKey,run_underlying hu,Instr.findNow]
   | some j=>exact absurd (h2 j rfl).1 (by simp)
  | cons m mes=>
   have:=ask es (m::mes) 0 hE he r h1 h2
   simp only[Instr.findKey,Sem.run_bind,run_underlying hu,Result.andThen_ok,Instr.findNow,cl2]
   rw[this]
   simp
theorem fr3 {tag:Nat}{k:IV}:∀ (es:List (IV×IV)) (r:Option IV),aq8 tag k es=some r→∃ q:Option Nat,(q=none→∀ e∈es,ah1 tag k e.1=some false)∧(∀ j,q=some j→j<es.length∧ah1 tag k (es.getD j (.undef,.undef)).1=some true∧∀ i,i<j→ah1 tag k (es.getD i (.undef,.undef)).1=some false) ∧
  r=q.map fun j=>(es.getD j (.undef,.undef)).2:=by
 intro es
 induction es with
 | nil=>
  intro r h
  refine ⟨none,(fun _ e he=>by cases he),(fun j hj=>by cases hj),?_⟩
  simp only[aq8] at h
  split at h<;>cases h
  rfl
 | cons e es ih=>
  intro r h
  simp only[aq8] at h
  cases hq:ah1 tag k e.1 with
  | none=>rw[hq] at h; cases h
  | some b=>
   rw[hq] at h
   cases b with
   | true=>cases h; exact ⟨some 0,(fun h=>by cases h),(fun j hj=>by cases hj; exact ⟨by simp,by simpa using hq,fun i hi=>absurd hi (Nat.not_lt_zero _)⟩),rfl⟩
   | false=>
    obtain ⟨q,h1,h2,h3⟩:=ih r h
    refine ⟨q.map (·+1),fun h=>?_,fun j hj=>?_,?_⟩
    ·cases q with
     | none=>intro x hx; rcases List.mem_cons.1 hx with rfl|hx; exact hq; exact h1 rfl x hx
     | some j=>cases h
    ·cases q with
     | none=>cases hj
     | some j0=>
      cases hj
      obtain ⟨g1,g2,g3⟩:=h2 j0 rfl
      refine ⟨by simpa using g1,by simpa using g2,fun i hi=>?_⟩
      have hi:i<j0+1:=hi
      cases i with
      | zero=>simpa using hq
      | succ i=>have:=g3 i (by omega); simpa using this
    ·rw[h3]; cases q<;>simp
theorem as9 {kt:TypeId}{tag:Nat}{b:Bool}{k:IV}{rk:Value}(ht:ex9 P kt=some tag)(hok:kOK tag k=true)(hk:VR ρ w k rk):(Instr.checkKey b 10000 kt rk).run P w=.ok () w:=by
 obtain ⟨d,hu,hd⟩:=cm6 ht
 rcases hd with ⟨hto,h3⟩|⟨fs,n,m,rfl,rfl,hf,hl,hfs⟩
 ·unfold Instr.checkKey
  cases d<;>simp only[do7] at hto<;>cases hto<;>simp[run_underlying hu]
 ·unfold kOK at hok
  rw[hu9] at hok
  simp only at hok
  obtain ⟨bb,hb⟩:=Option.isSome_iff_exists.1 hok
  obtain ⟨xs,ys,rfl,hys,h1⟩:=ba2 hb
  cases hys
  obtain ⟨ks,as,bs,l1,l2,l3,hxs,hys,rfl⟩:=bd3 h1
  cases hk with
  | agg _ rxs hx vx=>
   rw[show (10000:Nat)=9999+1 from rfl,Instr.checkKey]
   simp only[Sem.run_bind,run_underlying hu,Result.andThen_ok]
   rw[← Array.forIn_toList]
   have hxl:xs.length=n:=by rw[hxs]; simp[l1,l2]
   generalize fs.toList=L at hfs
   induction L with
   | nil=>simp
   | cons f L ih=>
    obtain ⟨hn,hi,ho⟩:=hfs f (List.mem_cons_self ..)
    have hint:∃ kk,P.underlying f.type=some (.int kk):=by
     unfold hu8 at hi
     split at hi
     ·rename_i kk hkk; exact ⟨kk,hkk⟩
     ·cases hi
    obtain ⟨kk,hkk⟩:=hint
    have hag:ai5 P f.type=some none:=by simp[ai5,dw9,hkk]
    have hfo:f.offset<xs.length:=by omega
    obtain ⟨px,r1,v1⟩:=an6 (P:=P) (off:=f.offset) (v:=xs[f.offset]) hag (by simp[au9,hfo]) hx vx
    have p2:(Instr.checkKey b 9999 f.type px).run P w=.ok () w:=by
     unfold Instr.checkKey
     simp[run_underlying hkk]
    simp only[List.forIn_cons,Sem.run_bind,hn,ne_eq,not_false_eq_true,if_true,Result.andThen_ok,r1,p2,Sem.run_pure]
    exact ih fun f hf=>hfs f (List.mem_cons_of_mem _ hf)
open Classical in
theorem eg3 {tag:Nat}{k a b:IV}{K:KK}{r:Bool}(h:af9 tag k a=some r)(ha:cx5 K a)(hb:cx5 K b):af9 tag k b=some (decide (k=b)):=by
 unfold af9 at h
 split at h
 ·cases K<;>cases ha
 ·cases K with
  | int K=>
   simp only[cx5] at ha
   cases b<;>simp only[cx5] at hb
   split at h
   ·rename_i hk; subst ha; subst hb; subst hk; simp[af9]
   ·cases h
  | _=>cases ha
 ·cases K with
  | str=>cases b<;>first|(cases hb; done)|simp[af9]
  | _=>cases ha
 ·cases h
theorem fr4:∀ (ks:List IntKind) (cs:List IV),cs.length=ks.length→(∀ i,i<cs.length→∃ n,cs.getD i .undef=.int (ks.getD i .i64) n)→∃ as:List Int,as.length=ks.length∧cs=(ks.zip as).map fun p=>IV.int p.1 p.2:=by
 intro ks
 induction ks with
 | nil=>intro cs h _; exact ⟨[],rfl,by simpa using h⟩
 | cons k ks ih=>
  intro cs h hc
  cases cs with
  | nil=>simp at h
  | cons c cs=>
   obtain ⟨n,hn⟩:=hc 0 (by simp)
   simp at hn
   obtain ⟨as,h1,h2⟩:=ih cs (by simpa using h) (fun i hi=>by have:=hc (i+1) (by simp; omega); simpa using this)
   exact ⟨n::as,by simp[h1],by rw[hn,h2]; rfl⟩
theorem gk3:∀ (ks:List IntKind) (as bs:List Int),as.length=ks.length→bs.length=ks.length→((ks.zip as).map fun p=>IV.int p.1 p.2)=((ks.zip bs).map fun p=>IV.int p.1 p.2)→as=bs:=by
 intro ks
 induction ks with
 | nil=>intro as bs h1 h2 _; cases as<;>cases bs<;>simp at h1 h2 ⊢
 | cons k ks ih=>
  intro as bs h1 h2 h
  cases as with
  | nil=>simp at h1
  | cons a as=>
   cases bs with
   | nil=>simp at h2
   | cons b bs=>
    simp only[List.zip_cons_cons,List.map_cons,List.cons.injEq,IV.int.injEq,true_and] at h
    rw[h.1,ih as bs (by simpa using h1) (by simpa using h2) h.2]
theorem ey2:∀ (ks ks':List IntKind) (as bs:List Int),as.length=ks.length→bs.length=ks'.length→ks.length=ks'.length→(∀ i,i<ks.length→∃ n,((ks.zip as).map fun p=>IV.int p.1 p.2).getD i .undef=.int (ks'.getD i .i64) n)→ks=ks':=by
 intro ks
 induction ks with
 | nil=>intro ks' as bs _ _ h _; exact (List.length_eq_zero_iff.1 h.symm).symm
 | cons k ks ih=>
  intro ks' as bs h1 h2 h hc
  cases ks' with
  | nil=>simp at h
  | cons k' ks'=>
   cases as with
   | nil=>simp at h1
   | cons a as=>
    cases bs with
    | nil=>simp at h2
    | cons b bs=>
     obtain ⟨n,hn⟩:=hc 0 (by simp)
     simp at hn
     rw[hn.1,ih ks' as bs (by simpa using h1) (by simpa using h2) (by simpa using h) (fun i hi=>by have:=hc (i+1) (by simp; omega); simpa using this)]
open Classical in
theorem ey3 {tag:Nat}{k a b:IV}{K:KK}{r:Bool}(h:ah1 tag k a=some r)(ha:cx5 K a)(hb:cx5 K b):ah1 tag k b=some (decide (k=b)):=by
 by_cases h3:tag<3
 ·rw[bl9 h3] at h ⊢; exact eg3 h ha hb
 ·obtain ⟨n,rfl⟩:∃ n,tag=n+3:=⟨tag-3,by omega⟩
  obtain ⟨xs,ys,rfl,rfl,h1⟩:=ba2 h
  obtain ⟨ks,as,bs,l1,l2,l3,rfl,rfl,rfl⟩:=bd3 h1
  cases K with
  | agg ks'=>
   simp only[cx5] at ha
   have e1:ks=ks':=ey2 ks ks' bs (List.replicate ks'.length 0) (by omega) (by simp) (by have:=ha.1; simp at this; omega) (fun i hi=>ha.2 i (by simp; omega))
   subst e1
   cases b with
   | agg cs=>
    simp only[cx5] at hb
    obtain ⟨cs',c1,rfl⟩:=fr4 ks cs hb.1 hb.2
    have:=cm7 ks as cs' (by omega) c1
    rw[l1] at this
    unfold ah1
    rw[hu9]
    simp only[Nat.add_sub_cancel,this]
    congr 1
    by_cases e:as=cs'
    ·subst e; simp
    ·have:¬ (IV.agg ((ks.zip as).map fun p=>IV.int p.1 p.2)=IV.agg ((ks.zip cs').map fun p=>IV.int p.1 p.2)):=fun h=>e (gk3 ks as cs' (by omega) c1 (IV.agg.inj h))
     simp only[e,this,decide_false]
   | _=>cases hb
  | _=>cases ha
open Classical in
theorem de8 {tag:Nat}{k:IV}(hok:kOK tag k=true):∀ (es:List (IV×IV)),(∀ e∈es,ah1 tag k e.1=some (decide (k=e.1)))→aq8 tag k es=some ((es.find? fun e=>decide (k=e.1)).map (·.2)):=by
 intro es
 induction es with
 | nil=>intro _; simp only[aq8,hok]; rfl
 | cons e es ih=>
  intro h
  simp only[aq8,h e (List.mem_cons_self ..),List.find?_cons]
  by_cases hk:k=e.1
  ·simp[hk]
  ·simp only[hk,decide_false]
   exact ih fun x hx=>h x (List.mem_cons_of_mem _ hx)
open Classical in
theorem ey4 {k:IV}{es es':List (IV×IV)}(hp:es'.Perm es)(hn:(es.map (·.1)).Nodup):(es'.find? fun e=>decide (k=e.1))=es.find? fun e=>decide (k=e.1):=by
 cases h:es.find? fun e=>decide (k=e.1) with
 | none=>
  rw[List.find?_eq_none] at h ⊢
  exact fun x hx=>h x (hp.subset hx)
 | some e=>
  have he:=List.mem_of_find?_eq_some h
  have hk:k=e.1:=by simpa using List.find?_some h
  cases h':es'.find? fun e=>decide (k=e.1) with
  | none=>
   rw[List.find?_eq_none] at h'
   exact absurd hk (by simpa using h' e (hp.symm.subset he))
  | some e'=>
   have he':=hp.subset (List.mem_of_find?_eq_some h')
   have hk':k=e'.1:=by simpa using List.find?_some h'
   congr 1
   have inj:∀ (l:List (IV×IV)),(l.map (·.1)).Nodup→∀ x∈l,∀ y∈l,x.1=y.1→x=y:=by
    intro l
    induction l with
    | nil=>intro _ x hx; cases hx
    | cons a l ih=>
     intro hn x hx y hy hxy
     simp only[List.map_cons,List.nodup_cons] at hn
     rcases List.mem_cons.1 hx with hx1|hx1<;>rcases List.mem_cons.1 hy with hy1|hy1
     ·rw[hx1,hy1]
     ·exact absurd (List.mem_map.2 ⟨y,hy1,by rw[← hxy,hx1]⟩) hn.1
     ·exact absurd (List.mem_map.2 ⟨x,hx1,by rw[hxy,hy1]⟩) hn.1
     ·exact ih hn.2 x hx1 y hy1 hxy
   exact inj es hn e' he' e he (by rw[← hk',← hk])
open Classical in
theorem eg4 {tag:Nat}{k:IV}{es es':List (IV×IV)}{r:Option IV}(hp:es'.Perm es)(hd:dd6 es)(h:aq8 tag k es=some r):aq8 tag k es'=some r:=by
 obtain ⟨hn,K,hK⟩:=hd
 have hok:=dx3 h
 have dec:∀ e∈es,ah1 tag k e.1=some (decide (k=e.1)):=by
  cases es with
  | nil=>intro e he; cases he
  | cons a l=>
   simp only[aq8] at h
   cases hq:ah1 tag k a.1 with
   | none=>rw[hq] at h; cases h
   | some b=>exact fun e he=>ey3 hq (hK a (List.mem_cons_self ..)) (hK e he)
 rw[de8 hok es dec] at h
 rw[de8 hok es' fun e he=>dec e (hp.subset he),ey4 hp hn]
 exact h
theorem fr5 {x:IV}{r:Value}{es:List (IV×IV)}(hs:Sim E ρ w σ)(h:cb4 σ x=some es)(hx:VR ρ w x r) :
  (r=.map none∧es=[])∨∃ b mes clock es',r=.map (some b)∧w.heap[b]? = some (.map mes clock)∧EsR ρ w es' mes.toList∧(∀ tag k o,aq8 tag k es=some o→aq8 tag k es'=some o):=by
 have toL:∀ (mes:Array MapEntry) (i:Nat),mes.toList.getD i default=mes.getD i default:=fun mes i=>by simp[List.getD_eq_getElem?_getD,Array.getD_eq_getD_getElem?]
 cases hx with
 | nilmap=>cases h; exact .inl ⟨rfl,rfl⟩
 | tmap _ es' b mes clock hp hd hf hb hl hk hv h4 h5=>
  cases h
  exact .inr ⟨b,mes,clock,es',rfl,hb,⟨by simpa using hl,fun i hi=>by rw[toL]; exact ⟨hk i hi,hv i hi⟩⟩,fun _ _ _=>eg4 hp hd⟩
 | map id B d hi=>
  simp only[cb4] at h
  obtain ⟨o,h1,h2⟩:=hs.obj id B d hi
  rw[h1] at h
  cases o with
  | map es'=>
   cases h
   obtain ⟨mes,clock,g1,g0,g2,g3,g4,g5⟩:=h2
   exact .inr ⟨B,mes,clock,_,rfl,g1,⟨by simpa using g2,fun i hi=>by rw[toL]; exact g3 i hi⟩,fun _ _ _ h=>h⟩
  | _=>cases h
 | mapD id B hi=>simp only[cb4,hs.dead id hi] at h; cases h
 | _=>cases h
theorem ey5 {xt kt et:TypeId}{tag:Nat}{zero x k v:IV}{z:Value}{ok:Bool}{rx rk:Value}(hu:P.underlying xt=some (.map kt et))(ht:ex9 P kt=some tag)
  (hz:(zeroValue et).run P w=.ok z w) (hzv:VR ρ w zero z) (hs:Sim E ρ w σ) (h:dd5 σ tag zero ok x k=some v) (hx:VR ρ w x rx) (hkv:VR ρ w k rk) :
  ∃ r,(Instr.lookup xt rx rk ok).run P w=.ok r w∧VR ρ w v r:=by
 unfold dd5 at h
 cases hm:cb4 σ x with
 | none=>rw[hm] at h; cases h
 | some es=>
  rw[hm] at h
  simp only at h
  cases hl:aq8 tag k es with
  | none=>rw[hl] at h; cases h
  | some r=>
   rw[hl] at h
   cases h
   have pair:∀ (a:IV) (ra:Value) (b:Bool),VR ρ w a ra→VR ρ w (if ok then .tuple [a,.bool b] else a) (if ok then .tuple #[ra,.bool b] else ra):=by
    intro a ra b ha
    cases ok with
    | true=>
     refine .tuple _ _ rfl fun i hi=>?_
     match i,hi with
     | 0,_=>exact ha
     | 1,_=>exact .bool b
    | false=>exact ha
   have hok:=dx3 hl
   have hck:∀ b,(Instr.checkKey b 10000 kt rk).run P w=.ok () w:=fun b=>as9 ht hok hkv
   rcases fr5 hs hm hx with ⟨rfl,rfl⟩|⟨b,mes,clock,es',rfl,hb,hes,hlp⟩
   ·have hf:=cc6 ht hkv [] [] ⟨rfl,fun i hi=>by simp at hi⟩ none (fun _ e he=>by cases he) (fun j hj=>by cases hj)
    have hr:r=none:=by
     simp only[aq8,hok] at hl
     cases hl; rfl
    subst hr
    exact ⟨_,by simp[Instr.lookup,run_underlying hu,hck,hf,hz],pair _ _ _ hzv⟩
   ·obtain ⟨q,g1,g2,g3⟩:=fr3 _ _ (hlp _ _ _ hl)
    have hf:=cc6 ht hkv es' mes.toList hes q g1 g2
    have hg:(getObj b).run P w=.ok (.map mes clock) w:=by simp[getObj,Sem.run,hb]
    cases q with
    | none=>
     subst g3
     exact ⟨_,by simp[Instr.lookup,run_underlying hu,hg,hck,hf,hz],pair _ _ _ hzv⟩
    | some j=>
     subst g3
     have:=(hes.2 j (g2 j rfl).1).2
     exact ⟨_,by simp[Instr.lookup,run_underlying hu,hg,hck,hf],pair _ _ _ this⟩
/-! ### max,min of two numbers -/
def mmI (mx:Bool):IV→IV→Option IV
 | .int k a,.int _ b=>some (.int k (if mx then (if b>a then b else a) else (if b<a then b else a)))
 | _,_=>none
theorem ey6 {x y v:IV}{rx ry:Value}{ts:Array TypeId}{t:TypeId}(h:mmI true x y=some v)(hx:VR ρ w x rx)(hy:VR ρ w y ry):∃ r,(Builtin.max_ ts t #[rx,ry]).run P w=.ok r w∧VR ρ w v r:=by
 cases hx<;>simp only[mmI] at h<;>first|(cases h; done)|skip
 cases hy<;>simp only[mmI] at h<;>cases h
 exact ⟨_,by simp[Builtin.max_,Builtin.max2],.int _ _⟩
theorem ey8 {x y v:IV}{rx ry:Value}{ts:Array TypeId}{t:TypeId}(h:mmI false x y=some v)(hx:VR ρ w x rx)(hy:VR ρ w y ry):∃ r,(Builtin.min_ ts t #[rx,ry]).run P w=.ok r w∧VR ρ w v r:=by
 cases hx<;>simp only[mmI] at h<;>first|(cases h; done)|skip
 cases hy<;>simp only[mmI] at h<;>cases h
 exact ⟨_,by simp[Builtin.min_,Builtin.min2],.int _ _⟩
end Go.Id
