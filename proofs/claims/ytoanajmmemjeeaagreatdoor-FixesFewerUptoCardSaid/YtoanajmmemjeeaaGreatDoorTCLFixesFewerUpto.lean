/- FixesFewerUpto,within the bound: what its contract gives. Conditions: none. -/
import Derived.Test.YtoanajmmemjeeaaGreatDoorTCSP
import Derived.Test.YtoanajmmemjeeaaGreatDoorRows
import Derived.Test.YtoanajmmemjeeaaGreatDoorTie
import Derived.Test.YtoanajmmemjeeaaGreatDoorCards
import Derived.ProofKit
import Derived.LaidMore
import Derived.Lay
import Derived.OpenShut
import Derived.Carry
import Derived.Stop.Joined
import Derived.SevenTiedAt
import Derived.JoinedCond
import Derived.Deep.DeepHandedRow
open Nat renaming le_refl→za
open List renaming all_eq_true→zb
set_option linter.all false
set_option maxRecDepth 100000
namespace Go.Proofs.YtoanajmmemjeeaaGreatDoor
open Go Go.Id Go.Proofs Go.ChangeShapes Go.WideShapes Go.ChangeAt Go.WideMaps Go.WideElems Go.RowKit
def tW : List (String × DataW Unit) := [("math/bits.deBruijn32tab", Rows.laid_math_bits_deBruijn32tab), ("math/bits.deBruijn64tab", Rows.laid_math_bits_deBruijn64tab), ("internal/strconv.uint64pow10", Rows.laid_internal_strconv_uint64pow10), ("unicode/utf8.acceptRanges", Rows.laid_unicode_utf8_acceptRanges), ("chandlery/span.ops", Rows.laid_chandlery_span_ops), ("chandlery/dep.words", Rows.laid_chandlery_dep_words), ("unicode/utf8.first", Rows.laid_unicode_utf8_first)]
def own:ownKnob Tryz.prog.godebug=none:=by kernel_rfl
def ku6{W:World}(h:laidMetH Tryz.prog tW W):∀g,VR nV W (B7 Go.Id.Tryz.GV g) (.pointer (some ⟨g,0,none⟩)):=by rw[MakeChecks.laidMetH_plain _ _ _ (by kernel_rfl)]at h;refine Ya h Go.Id.Tryz.GV λx hx=>?_;simp only[Go.Id.Tryz.GV,List.mem_cons,List.not_mem_nil,or_false]at hx;rcases hx with rfl|rfl;{refine ⟨"chandlery/dep.words", Rows.laid_chandlery_dep_words, _, 8, _, _, rfl, by simp [tW], by kernel_rfl, rfl, by kernel_rfl⟩};refine ⟨"chandlery/span.ops", Rows.laid_chandlery_span_ops, _, 8, _, _, rfl, by simp [tW], by kernel_rfl, rfl, by kernel_rfl⟩
noncomputable def start (os : Os) : World := (World.doorLaid Tryz.prog 74 os).layVars Tryz.prog (tW.filter fun x => ["unicode/utf8.first"].contains x.1)
noncomputable def BB : List Nat := (List.range 14).filter fun b => some b != Tryz.prog.globalNamed "unicode/utf8.first"
def Za(os:Os)(args:Array Value):laidMetH Tryz.prog tW ((start os).forCall (λ_ _=>0) ⟨#[],args,[]⟩).memory:=by rw[MakeChecks.laidMetH_plain _ _ _ (by kernel_rfl)];exact laidMet_layVars (w0 := World.doorLaid Tryz.prog 74 os) ["unicode/utf8.first"] BB (by simp [start,World.memory,World.forCall,Input.heap]) (by kernel_rfl) (by kernel_rfl) (LaidIn.of_run BB 8 (by kernel_rfl) (by kernel_rfl) (by kernel_rfl) (by kernel_rfl))
def laidOut:laidOutB Tryz.prog=true:=by kernel_rfl
def ku7:Tryz.prog.readableRec 22=true:=by kernel_rfl
def ku8:Tryz.prog.readableRec 23=true:=by kernel_rfl
def ku9:Tryz.prog.readableRec 27=true:=by kernel_rfl
def kv1:Tryz.prog.readableRec 3=true:=by kernel_rfl
variable {W:World}
def PA{v:Value}{iv:IV}{a:Option Addr}{l c:Nat}(b:v=.slice a l c)(h:VL nV W [iv] v.cells.toList):VR nV W iv v:=by have:=h.get 0 (Nat.zero_lt_one);subst b;simpa [Value.cells] using this
def ka1{v:Value}{a:List IV}{c:Array Value}(d:v=.agg c)(h:VL nV W a v.cells.toList):VR nV W (.agg a) v:=by subst d;have b:=h.len;simp only[Value.cells]at h b;exact .agg _ _ (by simpa using b) λi hi=>by simpa [Array.getD_eq_getD_getElem?,List.getD_eq_getElem?_getD] using h.get i hi
def Zb{v:Value}{iv:IV}(a:v.cells=#[v])(h:VL nV W [iv] v.cells.toList):VR nV W iv v:=by have:=h.get 0 (Nat.zero_lt_one);rw[a]at this;simpa using this
variable {H:Type}
def ic5{enc:TypeId×Value->H}{P:Program}{base:Nat}{b:Nat->Bool}{a:Bool}{q p o n:TypeId}{vs:List Value}{ds:List (DataW H)}{ps:List MemPlace}(h:DataW.TrodAll enc P W base b a [q,p,o,n] vs ds ps): ∃v0 v1 v2 v3 k j i g f e d c,vs=[v0,v1,v2,v3]/\ds=[k,j,i,g]/\ps=f++(e++(d++(c)))/\DataW.Trod enc P W base b a q v0 k f/\DataW.Trod enc P W base b a p v1 j e/\DataW.Trod enc P W base b a o v2 i d/\DataW.Trod enc P W base b a n v3 g c:=by match vs,ds,h with|v0 :: vs,k::ds,⟨f,q0,h0,g0,e0⟩=>match vs,ds,g0 with|v1::vs,j::ds,⟨e,q1,h1,g1,e1⟩=>match vs,ds,g1 with|v2::vs,i::ds,⟨d,q2,h2,g2,e2⟩=>match vs,ds,g2 with|v3::vs,g::ds,⟨c,q3,h3,g3,e3⟩=>match vs,ds,g3 with|[],[],hz=>refine ⟨v0,v1,v2,v3,k,j,i,g,f,e,d,c,rfl,rfl,?_,h0,h1,h2,h3⟩;have m:q3=[]:=hz;rw[e0,e1,e2,e3,m,List.append_nil]
noncomputable def tX:Array Value:=#[.slice none 0 0,.slice none 0 0,.agg #[.int .u8 0,.bool false,.slice none 0 0,.slice none 0 0,.int .i64 0],.int .i64 0]
def ka2(a:Os)(enc:TypeId×Value->H):DataW.whole enc Tryz.prog ((start a).forCall (λ_ _=>0) ⟨#[],tX,[]⟩).memory Tryz.f3.params.toList Rows.fixesFewerSpec.vars false tX.toList 8=some ([.nil,.nil,.agg [.lit (.int .u8 0),.lit (.bool false),.nil,.nil,.lit (.int .i64 0)],.lit (.int .i64 0)],[],[]):=by kernel_rfl
def QO (a:Os):Input.okWideB Tryz.prog ((start a).forCall (λ_ _=>0) ⟨#[],tX,[]⟩) 3 ⟨#[],tX,[]⟩=true:=by kernel_rfl
def Zc (a:Os):((start a).forCall (λ_ _=>0) ⟨#[],tX,[]⟩).Shaped Tryz.prog:=World.shaped_of_ZipB (by kernel_rfl) (by kernel_rfl)
def ka3(a:Os)(enc:TypeId×Value->H):(Rows.OpenSpec.upto Rows.fixesFewerSpec).bare.sizedB enc Tryz.prog Tryz.f3 false ((start a).forCall (λ_ _=>0) ⟨#[],tX,[]⟩).memory tX 8=true:=by kernel_rfl
theorem ll9 (b:Os){H:Type}(enc:TypeId×Value->H):∃(w:World) (a:Tape) (i:Input),w.os=b/\(w.forCall a i).Shaped Tryz.checked.prog/\i.vars=[]/\Input.okWide Tryz.checked.prog (w.forCall a i) .any w.heap.size 3 i /\
  (Rows.OpenSpec.upto Rows.fixesFewerSpec).preRow enc Tryz.checked.prog Tryz.f3 [] false tW (w.forCall a i).memory i.args/\({}:Assume).holds Tryz.checked.prog (lone (Frame.enter Tryz.checked.prog 3 i.args .normal) [] (w.forCall a i)):=
 ⟨start b,λ_ _=>0,⟨#[],tX,[]⟩,World.layVars_os _ _ _,Zc b,(Input.okWide_of_okWideB (base:=0) (QO b)).1,(Input.okWide_of_okWideB (QO b)).2,
  OpenSpec.preRow_of_cond 8 (ka2 b enc) (by kernel_rfl) (λk c=>by cases c;kernel_rfl) (ka3 b enc) (Za b _),by
  simp only[Assume.holds];exact ⟨by simp,by simp,λ_=>Modest.zero,by simp,by simp⟩⟩
def QX(H:Type)(enc:TypeId×Value->H)(W:World)(base:Nat)(args:Array Value)(ds X:List (DataW H))(o:List MemPlace)(c:∀(j:Nat) t v,Tryz.f3.params[j]? = some t->args[j]? = some v->Value.okWide Tryz.prog W .any base t v)(hW:DataW.Whole enc Tryz.prog Tryz.f3.params.toList Rows.fixesFewerSpec.vars false W args.toList ds X o)(n:Rows.uptoSmall H (ds++X)=true)(g:(DataW.weightsEach Tryz.prog (Tryz.f3.params.toList++Rows.fixesFewerSpec.plain.varTypes Tryz.prog) (ds++X)).all (·<=reachBytes)=true)(hL:laidMetH Tryz.prog tW W): Calls Tryz.prog 3 args W λe W'=>∃v,e=.returned v/\Rows.fixesFewerSpec.post enc Tryz.prog Tryz.f3 false true false false W args v W':=by
 have B:=hW;obtain ⟨p,q,S,hV,rfl,ak,ag⟩:=hW;have hA:DataW.TrodAll enc Tryz.prog W 0 (λ_=>true) true Tryz.f3.params.toList args.toList ds p:=S;rw[Tryz.params3]at hA c g;obtain ⟨v0,v1,v2,v3,d0,d1,Z,Y,N,I,u,s,r,rfl,rfl,t0,t1,t2,t3⟩:=ic5 hA;have ha:args=#[v0,v1,v2,v3]:=by rw[<- Array.toList_inj,r]
 subst ha;obtain ⟨rfl,rfl⟩:=trodVars_none hV;have f:Rows.uptoBulkAll [d0,d1,Z,Y]<=1048576:=of_decide_eq_true n;simp only[Rows.uptoBulkAll]at f;have w0:WT Tryz.prog 22 d0:=λk n=>by simpa using zb.1 g k (DataW.weights_mem_each (j:=0) (t:=22) (d:=d0) rfl rfl k n)
 have⟨a0,l0,c0,e0⟩:=okWide_slice Tryz.underlying22 (c 0 22 v0 rfl rfl);have⟨n0,h0⟩:=t0;have⟨M,ad,Q,G⟩:=Go.Id.Tryz.Zz (enc:=enc) ⟨_,_,h0⟩ w0;have x0:=PA e0 (Do (λb f=>yV b f) n0 n0 _ _ _ _ _ h0 (G n0 (za _)));have y0:=Go.Id.Tryz.FS _ _ _ _ (G n0 (za _));have w1:WT Tryz.prog 23 d1:=λk n=>by simpa using zb.1 g k (DataW.weights_mem_each (j:=1) (t:=23) (d:=d1) rfl rfl k n)
 have⟨a1,l1,c1,e1⟩:=okWide_slice Tryz.underlying23 (c 1 23 v1 rfl rfl);have⟨A,V⟩:=t1;have⟨L,ac,P,F⟩:=Go.Id.Tryz.OC (enc:=enc) ⟨_,_,V⟩ w1;have x1:=PA e1 (Do (λb f=>yV b f) A A _ _ _ _ _ V (F A (za _)));have y1:=Go.Id.Tryz.FS _ _ _ _ (F A (za _));have w2:WT Tryz.prog 27 Z:=λk n=>by simpa using zb.1 g k (DataW.weights_mem_each (j:=2) (t:=27) (d:=Z) rfl rfl k n)
 have⟨al,e2,_⟩:=okWide_struct Tryz.underlying27 (c 2 27 v2 rfl rfl);have⟨z,U⟩:=t2;have⟨K,O,E⟩:=Go.Id.Tryz.ky1 (enc:=enc) ⟨_,_,U⟩ w2;have x2:=ka1 e2 (Do (λb f=>yV b f) z z _ _ _ _ _ U (E z (za _)));have y2:=Go.Id.Tryz.FS _ _ _ _ (E z (za _));have w3:WT Tryz.prog 3 Y:=λk n=>by simpa using zb.1 g k (DataW.weights_mem_each (j:=3) (t:=3) (d:=Y) rfl rfl k n)
 have⟨z3,e3⟩:=okWide_int Tryz.underlying3 (c 3 3 v3 rfl rfl);have⟨y,T⟩:=t3;have⟨J,D⟩:=Go.Id.Tryz.kx9 (enc:=enc) ⟨_,_,T⟩ w3;have x3:=Zb (by rw[e3];rfl) (Do (λb f=>yV b f) y y _ _ _ _ _ T (D y (za _)));have y3:=Go.Id.Tryz.FS _ _ _ _ (D y (za _));refine (Yb (Go.Id.Tryz.RC M L K J (Go.Id.Tryz.lm7 Q P (by omega) (by omega)) (Go.Id.Tryz.ky2 O (by omega)) (by omega) (by omega)) (ku6 hL) ⟨rfl,λi hi=>?_⟩).mono λe W' ⟨he,f⟩=>?_;{match i,hi with|0,_=>exact x0|1,_=>exact x1|2,_=>exact x2|3,_=>exact x3};subst he;have m:∀x∈N++(I++(u++(s))),x.block<W.heap.size:=λx a=>B.lt x (by simpa using a);refine ⟨_,rfl,Go.Id.Rt (pa:=N++(I++(u++(s)))) (pv:=[]) B (λ_ _ _=>trodAll_mk1 (shut_bool (by kernel_rfl) _)) (λsp h=>?_) (λ_ _=>rfl) (by simp) f (ok_one (t:=Tryz.f3.resultTypes[0]!) (by kernel_rfl) rfl (okWide_bool_mk (by kernel_rfl) _))⟩;rw[Tryz.params3];exact ⟨N,I++(u++(s)),WideElems.Trod_stays laidOut ku7 (by decide +kernel) ⟨n0,h0⟩ (λx a=>f.same (m x (by simp[a]))) (λx a=>h x (by simp[a])),⟨I,u++(s),WideElems.Trod_stays laidOut ku8 (by decide +kernel) ⟨A,V⟩ (λx a=>f.same (m x (by simp[a]))) (λx a=>h x (by simp[a])),⟨u,s,WideElems.Trod_stays laidOut ku9 (by decide +kernel) ⟨z,U⟩ (λx a=>f.same (m x (by simp[a]))) (λx a=>h x (by simp[a])),⟨s,[],WideElems.Trod_stays laidOut kv1 (by decide +kernel) ⟨y,T⟩ (λx a=>f.same (m x (by simp[a]))) (λx a=>h x (by simp[a])),rfl,by simp⟩,rfl⟩,rfl⟩,rfl⟩
theorem QZ (e:Os)(a:e.Started)(H:Type)(enc:TypeId×Value->H)(F:Stop.Interp) :
  ReturnsInHanded {} Tryz.checked e 3 .any ((Rows.OpenSpec.upto Rows.fixesFewerSpec).preRow enc Tryz.prog Tryz.f3 [] false tW) (((Rows.OpenSpec.upto Rows.fixesFewerSpec).at F).post enc Tryz.prog Tryz.f3 false true false false):=by
 refine returnsInHanded_of_row (C:=Tryz.checked) (s:=Rows.OpenSpec.upto Rows.fixesFewerSpec) own a (by kernel_rfl) Tryz.func3 (ll9 e enc) ?_;intro W base args ds i b d g _ c f h _ _;exact QX H enc W base args ds i b d g (c _ rfl) f h
end Go.Proofs.YtoanajmmemjeeaaGreatDoor
