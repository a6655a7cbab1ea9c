/- WishEachUpto,within the bound: what its contract gives. Conditions: none. -/
import Derived.Test.YthjhfdodeghbpaaGreatDoorTESP
import Derived.Test.YthjhfdodeghbpaaGreatDoorRows
import Derived.Test.YthjhfdodeghbpaaGreatDoorTie
import Derived.Test.YthjhfdodeghbpaaGreatDoorCards
import Derived.ProofKit
import Derived.LaidMore
import Derived.Lay
import Derived.OpenShut
import Derived.Carry
import Derived.Stop.Joined
import Derived.SevenTiedAt
import Derived.JoinedCond
import Derived.Deep.DeepHandedRow
open Nat renaming le_refl→za
open List renaming all_eq_true→zb
set_option linter.all false
set_option maxRecDepth 100000
private theorem sm{P:Prop}(h:P:=by simp):P:=h
namespace Go.Proofs.YthjhfdodeghbpaaGreatDoor
open Go Go.Id Go.Proofs Go.ChangeShapes Go.WideShapes Go.ChangeAt Go.WideMaps Go.WideElems Go.RowKit
def ed8 : List (String × DataW Unit) := [("math/bits.deBruijn32tab", Rows.laid_math_bits_deBruijn32tab), ("math/bits.deBruijn64tab", Rows.laid_math_bits_deBruijn64tab), ("internal/strconv.uint64pow10", Rows.laid_internal_strconv_uint64pow10), ("unicode/utf8.acceptRanges", Rows.laid_unicode_utf8_acceptRanges), ("chandlery/span.ops", Rows.laid_chandlery_span_ops), ("chandlery/dep.words", Rows.laid_chandlery_dep_words), ("chandlery/rich.kinds", Rows.laid_chandlery_rich_kinds), ("unicode/utf8.first", Rows.laid_unicode_utf8_first)]
def own:ownKnob Tryz.prog.godebug=none:=by kernel_rfl
def kd9 {W:World}(h:laidMetH Tryz.prog ed8 W):∀g,VR gm1 W (gf1 Go.Id.Tryz.km1 g) (.pointer (some ⟨g,0,none⟩)):=by
 rw[MakeChecks.laidMetH_plain _ _ _ (by kernel_rfl)] at h;refine ik4 h Go.Id.Tryz.km1 λx hx=>?_
 simp only[Go.Id.Tryz.km1,List.mem_cons,List.not_mem_nil,or_false] at hx;rcases hx with rfl|rfl|rfl
 .refine ⟨"chandlery/dep.words", Rows.laid_chandlery_dep_words, _, 8, _, _, rfl, by simp [ed8], by kernel_rfl, rfl, by kernel_rfl⟩
 .refine ⟨"chandlery/span.ops", Rows.laid_chandlery_span_ops, _, 8, _, _, rfl, by simp [ed8], by kernel_rfl, rfl, by kernel_rfl⟩
 .refine ⟨"chandlery/rich.kinds", Rows.laid_chandlery_rich_kinds, _, 8, _, _, rfl, by simp [ed8], by kernel_rfl, rfl, by kernel_rfl⟩
noncomputable def start (os : Os) : World := (World.doorLaid Tryz.prog 85 os).layVars Tryz.prog (ed8.filter fun x => ["unicode/utf8.first"].contains x.1)
noncomputable def BB : List Nat := (List.range 15).filter fun b => some b != Tryz.prog.globalNamed "unicode/utf8.first"
def io2 (os:Os)(args:Array Value):laidMetH Tryz.prog ed8 ((start os).forCall (λ_ _=>0) ⟨#[],args,[]⟩).memory:=by
 rw[MakeChecks.laidMetH_plain _ _ _ (by kernel_rfl)]
 exact laidMet_layVars (w0 := World.doorLaid Tryz.prog 85 os) ["unicode/utf8.first"] BB (by simp [start,World.memory,World.forCall,Input.heap]) (by kernel_rfl) (by kernel_rfl) (LaidIn.of_run BB 8 (by kernel_rfl) (by kernel_rfl) (by kernel_rfl) (by kernel_rfl))
def laidOut:laidOutB Tryz.prog=true:=by kernel_rfl
def ke1:Tryz.prog.readableRec 22=true:=by kernel_rfl
def ke2:Tryz.prog.readableRec 23=true:=by kernel_rfl
def ke3:Tryz.prog.readableRec 27=true:=by kernel_rfl
def jb7 {W:World}{v:Value}{iv:IV}{a:Option Addr}{l c:Nat}(b:v=.slice a l c)(h:VL gm1 W [iv] v.cells.toList):VR gm1 W iv v:=by
 have:=h.get 0 (Nat.zero_lt_one);subst b
 simpa [Value.cells] using this
def jl8 {W:World}{v:Value}{a:List IV}{c:Array Value}(d:v=.agg c)(h:VL gm1 W a v.cells.toList):VR gm1 W (.agg a) v:=by
 subst d;have b:=h.len;simp only[Value.cells] at h b;exact .agg _ _ (by simpa using b) λi hi=>by simpa [Array.getD_eq_getD_getElem?,List.getD_eq_getElem?_getD] using h.get i hi
def he3 {H:Type}{enc:TypeId×Value->H}{P:Program}{w:World}{base:Nat}{a:Nat->Bool}{held:Bool}{m k j:TypeId}{vs:List Value}{ds:List (DataW H)}{ps:List MemPlace}(h:DataW.TrodAll enc P w base a held [m,k,j] vs ds ps) :
  ∃v0 v1 v2 g f e d c b,vs=[v0,v1,v2]/\ds=[g,f,e]/\ps=d++(c++(b))/\DataW.Trod enc P w base a held m v0 g d/\DataW.Trod enc P w base a held k v1 f c/\DataW.Trod enc P w base a held j v2 e b:=by
 match vs,ds,h with
 | v0::vs,g::ds,⟨d,q0,h0,g0,e0⟩=>
  match vs,ds,g0 with
  | v1::vs,f::ds,⟨c,q1,h1,g1,e1⟩=>
   match vs,ds,g1 with
   | v2::vs,e::ds,⟨b,q2,h2,g2,e2⟩=>
    match vs,ds,g2 with
    | [],[],hz=>
     refine ⟨v0,v1,v2,g,f,e,d,c,b,rfl,rfl,?_,h0,h1,h2⟩;have i:q2=[]:=hz;rw[e0,e1,e2,i,List.append_nil]
noncomputable def eo9:Array Value:=#[.slice none 0 0,.slice none 0 0,.agg #[.int .u8 0,.bool false,.slice none 0 0,.slice none 0 0,.int .i64 0]]
def jl9 (a:Os){H:Type}(enc:TypeId×Value->H):DataW.whole enc Tryz.prog ((start a).forCall (λ_ _=>0) ⟨#[],eo9,[]⟩).memory Tryz.f3.params.toList Rows.wishEachSpec.vars false eo9.toList 8=some ([.nil,.nil,.agg [.lit (.int .u8 0),.lit (.bool false),.nil,.nil,.lit (.int .i64 0)]],[],[]):=by kernel_rfl
def kx8 (a:Os):Input.okWideB Tryz.prog ((start a).forCall (λ_ _=>0) ⟨#[],eo9,[]⟩) 3 ⟨#[],eo9,[]⟩=true:=by kernel_rfl
def io3 (a:Os):((start a).forCall (λ_ _=>0) ⟨#[],eo9,[]⟩).Shaped Tryz.prog:=World.shaped_of_ZipB (by kernel_rfl) (by kernel_rfl)
def jm1 (a:Os){H:Type}(enc:TypeId×Value->H):(Rows.OpenSpec.upto Rows.wishEachSpec).bare.sizedB enc Tryz.prog Tryz.f3 false ((start a).forCall (λ_ _=>0) ⟨#[],eo9,[]⟩).memory eo9 8=true:=by kernel_rfl
def kt1 (b:Os){H:Type}(enc:TypeId×Value->H):∃(w:World) (a:Tape) (i:Input),w.os=b/\(w.forCall a i).Shaped Tryz.checked.prog/\i.vars=[]/\Input.okWide Tryz.checked.prog (w.forCall a i) .any w.heap.size 3 i /\
  (Rows.OpenSpec.upto Rows.wishEachSpec).preRow enc Tryz.checked.prog Tryz.f3 [] false ed8 (w.forCall a i).memory i.args/\({}:Assume).holds Tryz.checked.prog (lone (Frame.enter Tryz.checked.prog 3 i.args .normal) [] (w.forCall a i)):=
 ⟨start b,λ_ _=>0,⟨#[],eo9,[]⟩,World.layVars_os _ _ _,io3 b,(Input.okWide_of_okWideB (base:=0) (kx8 b)).1,(Input.okWide_of_okWideB (kx8 b)).2,
  OpenSpec.preRow_of_cond 8 (jl9 b enc) (by kernel_rfl) (λk c=>by cases c;kernel_rfl) (jm1 b enc) (io2 b _),by
  simp only[Assume.holds];exact ⟨by simp,by simp,λ_=>Modest.zero,by simp,by simp⟩⟩
def br4 (H:Type)(enc:TypeId×Value->H)(W:World)(base:Nat)(args:Array Value)(ds T:List (DataW H))(h:List MemPlace)
  (a:∀(j:Nat) t v,Tryz.f3.params[j]? = some t->args[j]? = some v->Value.okWide Tryz.prog W .any base t v)
  (hW:DataW.Whole enc Tryz.prog Tryz.f3.params.toList Rows.wishEachSpec.vars false W args.toList ds T h) (o:Rows.uptoSmall H (ds++T)=true)
  (g:(DataW.weightsEach Tryz.prog (Tryz.f3.params.toList++Rows.wishEachSpec.plain.varTypes Tryz.prog) (ds++T)).all (·<=reachBytes)=true) (hL:laidMetH Tryz.prog ed8 W) :
  Calls Tryz.prog 3 args W λe W'=>∃v,e=.returned v/\Rows.wishEachSpec.post enc Tryz.prog Tryz.f3 false true false false W args v W':=by
 have z:=hW;obtain ⟨p,q,P,hV,rfl,ad,ac⟩:=hW;have hA:DataW.TrodAll enc Tryz.prog W 0 (λ_=>true) true Tryz.f3.params.toList args.toList ds p:=P;rw[Tryz.params3] at hA a g;obtain ⟨v0,v1,Y,X,V,U,K,E,s,r,rfl,rfl,t0,t1,t2⟩:=he3 hA;have ha:args=#[v0,v1,Y]:=by rw[<- Array.toList_inj,r]
 subst ha;obtain ⟨rfl,rfl⟩:=trodVars_none hV;have f:Rows.uptoBulkAll [X,V,U]<=1048576:=of_decide_eq_true o;simp only[Rows.uptoBulkAll] at f
 have w0:WT Tryz.prog 22 X:=λk o=>by
  simpa using zb.1 g k (DataW.weights_mem_each (j:=0) (t:=22) (d:=X) rfl rfl k o)
 have⟨a0,l0,c0,e0⟩:=okWide_slice Tryz.underlying22 (a 0 22 v0 rfl rfl);have⟨n0,h0⟩:=t0;have⟨J,ab,N,D⟩:=Go.Id.Tryz.iq1 (enc:=enc) ⟨_,_,h0⟩ w0;have x0:=jb7 e0 (eb6 (λb f=>dd4 b f) n0 n0 _ _ _ _ _ h0 (D n0 (za _)));have y0:=Go.Id.Tryz.fe8 _ _ _ _ (D n0 (za _))
 have w1:WT Tryz.prog 23 V:=λk o=>by
  simpa using zb.1 g k (DataW.weights_mem_each (j:=1) (t:=23) (d:=V) rfl rfl k o)
 have⟨a1,l1,c1,e1⟩:=okWide_slice Tryz.underlying23 (a 1 23 v1 rfl rfl);have⟨y,S⟩:=t1;have⟨I,aa,M,B⟩:=Go.Id.Tryz.hj7 (enc:=enc) ⟨_,_,S⟩ w1;have x1:=jb7 e1 (eb6 (λb f=>dd4 b f) y y _ _ _ _ _ S (B y (za _)));have y1:=Go.Id.Tryz.fe8 _ _ _ _ (B y (za _))
 have w2:WT Tryz.prog 27 U:=λk o=>by
  simpa using zb.1 g k (DataW.weights_mem_each (j:=2) (t:=27) (d:=U) rfl rfl k o)
 have⟨ae,e2,_⟩:=okWide_struct Tryz.underlying27 (a 2 27 Y rfl rfl);have⟨u,Q⟩:=t2;have⟨F,L,A⟩:=Go.Id.Tryz.kg9 (enc:=enc) ⟨_,_,Q⟩ w2;have x2:=jl8 e2 (eb6 (λb f=>dd4 b f) u u _ _ _ _ _ Q (A u (za _)));have y2:=Go.Id.Tryz.fe8 _ _ _ _ (A u (za _));refine (ik5 (Go.Id.Tryz.fe6 J I F (Go.Id.Tryz.ku1 N M (by omega) (by omega)) (Go.Id.Tryz.kh1 L (by omega))) (kd9 hL) ⟨rfl,λi hi=>?_⟩).mono λe W' ⟨he,f⟩=>?_
 .match i,hi with
  | 0,_=>exact x0
  | 1,_=>exact x1
  | 2,_=>exact x2
 subst he;have n:∀x∈K++(E++(s)),x.block<W.heap.size:=λx c=>z.lt x (by simpa using c)
 refine ⟨_,rfl,Go.Id.eb7 (pa:=K++(E++(s))) (pv:=[]) z (λ_ _ _=>trodAll_mk1 (shut_bool (by kernel_rfl) _)) (λsp m=>?_) (λ_ _=>rfl) sm f (ok_one (t:=Tryz.f3.resultTypes[0]!) (by kernel_rfl) rfl (okWide_bool_mk (by kernel_rfl) _))⟩;rw[Tryz.params3];exact ⟨K,E++(s),WideElems.Trod_stays laidOut ke1 (by decide +kernel) ⟨n0,h0⟩ (λx c=>f.same (n x (by simp[c]))) (λx c=>m x (by simp[c])),⟨E,s,WideElems.Trod_stays laidOut ke2 (by decide +kernel) ⟨y,S⟩ (λx c=>f.same (n x (by simp[c]))) (λx c=>m x (by simp[c])),⟨s,[],WideElems.Trod_stays laidOut ke3 (by decide +kernel) ⟨u,Q⟩ (λx c=>f.same (n x (by simp[c]))) (λx c=>m x (by simp[c])),rfl,by simp⟩,rfl⟩,rfl⟩
def ca9 (e:Os)(a:e.Started)(H:Type)(enc:TypeId×Value->H)(F:Stop.Interp) :
  ReturnsInHanded {} Tryz.checked e 3 .any ((Rows.OpenSpec.upto Rows.wishEachSpec).preRow enc Tryz.prog Tryz.f3 [] false ed8) (((Rows.OpenSpec.upto Rows.wishEachSpec).at F).post enc Tryz.prog Tryz.f3 false true false false):=by
 refine returnsInHanded_of_row (C:=Tryz.checked) (s:=Rows.OpenSpec.upto Rows.wishEachSpec) own a (by kernel_rfl) Tryz.func3 (kt1 e enc) ?_;intro W base args ds i b d g _ c f h _ _;exact br4 H enc W base args ds i b d g (c _ rfl) f h
end Go.Proofs.YthjhfdodeghbpaaGreatDoor
