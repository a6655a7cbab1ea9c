/- WishTellsUpto,within the bound: what its contract gives. Conditions: none. -/
import Derived.Test.YtlpijcemoicebaaGreatDoorTJSP
import Derived.Test.YtlpijcemoicebaaGreatDoorRows
import Derived.Test.YtlpijcemoicebaaGreatDoorTie
import Derived.Test.YtlpijcemoicebaaGreatDoorCards
import Derived.ProofKit
import Derived.LaidMore
import Derived.Lay
import Derived.OpenShut
import Derived.Carry
import Derived.Stop.Joined
import Derived.SevenTiedAt
import Derived.JoinedCond
import Derived.Deep.DeepHandedRow
open Nat renaming le_refl→za
open List renaming all_eq_true→zb
set_option linter.all false
set_option maxRecDepth 100000
namespace Go.Proofs.YtlpijcemoicebaaGreatDoor
open Go Go.Id Go.Proofs Go.ChangeShapes Go.WideShapes Go.ChangeAt Go.WideMaps Go.WideElems Go.RowKit
def ui : List (String × DataW Unit) := [("math/bits.deBruijn32tab", Rows.laid_math_bits_deBruijn32tab), ("math/bits.deBruijn64tab", Rows.laid_math_bits_deBruijn64tab), ("internal/strconv.uint64pow10", Rows.laid_internal_strconv_uint64pow10), ("unicode/utf8.acceptRanges", Rows.laid_unicode_utf8_acceptRanges), ("chandlery/span.ops", Rows.laid_chandlery_span_ops), ("chandlery/dep.words", Rows.laid_chandlery_dep_words), ("chandlery/rich.kinds", Rows.laid_chandlery_rich_kinds), ("unicode/utf8.first", Rows.laid_unicode_utf8_first)]
def own:ownKnob Tryz.prog.godebug=none:=by kernel_rfl
def kx7{W:World}(h:laidMetH Tryz.prog ui W):∀g,VR qR W (C8 Go.Id.Tryz.HI g) (.pointer (some ⟨g,0,none⟩)):=by rw[MakeChecks.laidMetH_plain _ _ _ (by kernel_rfl)]at h;refine Y9 h Go.Id.Tryz.HI λx hx=>?_;simp only[Go.Id.Tryz.HI,List.mem_cons,List.not_mem_nil,or_false]at hx;rcases hx with rfl|rfl|rfl;{refine ⟨"chandlery/dep.words", Rows.laid_chandlery_dep_words, _, 8, _, _, rfl, by simp [ui], by kernel_rfl, rfl, by kernel_rfl⟩};{refine ⟨"chandlery/span.ops", Rows.laid_chandlery_span_ops, _, 8, _, _, rfl, by simp [ui], by kernel_rfl, rfl, by kernel_rfl⟩};refine ⟨"chandlery/rich.kinds", Rows.laid_chandlery_rich_kinds, _, 8, _, _, rfl, by simp [ui], by kernel_rfl, rfl, by kernel_rfl⟩
noncomputable def start (os : Os) : World := (World.doorLaid Tryz.prog 85 os).layVars Tryz.prog (ui.filter fun x => ["unicode/utf8.first"].contains x.1)
noncomputable def BB : List Nat := (List.range 15).filter fun b => some b != Tryz.prog.globalNamed "unicode/utf8.first"
def ZE(os:Os)(args:Array Value):laidMetH Tryz.prog ui ((start os).forCall (λ_ _=>0) ⟨#[],args,[]⟩).memory:=by rw[MakeChecks.laidMetH_plain _ _ _ (by kernel_rfl)];exact laidMet_layVars (w0 := World.doorLaid Tryz.prog 85 os) ["unicode/utf8.first"] BB (by simp [start,World.memory,World.forCall,Input.heap]) (by kernel_rfl) (by kernel_rfl) (LaidIn.of_run BB 8 (by kernel_rfl) (by kernel_rfl) (by kernel_rfl) (by kernel_rfl))
def laidOut:laidOutB Tryz.prog=true:=by kernel_rfl
def kx8:Tryz.prog.readableRec 22=true:=by kernel_rfl
def kx9:Tryz.prog.readableRec 23=true:=by kernel_rfl
def ky1:Tryz.prog.readableRec 27=true:=by kernel_rfl
variable {W:World}
def QA{v:Value}{iv:IV}{a:Option Addr}{l c:Nat}(b:v=.slice a l c)(h:VL qR W [iv] v.cells.toList):VR qR W iv v:=by have:=h.get 0 (Nat.zero_lt_one);subst b;simpa [Value.cells] using this
def kf2{v:Value}{a:List IV}{c:Array Value}(d:v=.agg c)(h:VL qR W a v.cells.toList):VR qR W (.agg a) v:=by subst d;have b:=h.len;simp only[Value.cells]at h b;exact .agg _ _ (by simpa using b) λi hi=>by simpa [Array.getD_eq_getD_getElem?,List.getD_eq_getElem?_getD] using h.get i hi
variable {H:Type}
def Xe{enc:TypeId×Value->H}{P:Program}{base:Nat}{a:Nat->Bool}{held:Bool}{m k j:TypeId}{vs:List Value}{ds:List (DataW H)}{ps:List MemPlace}(h:DataW.TrodAll enc P W base a held [m,k,j] vs ds ps): ∃v0 v1 v2 g f e d c b,vs=[v0,v1,v2]/\ds=[g,f,e]/\ps=d++(c++(b))/\DataW.Trod enc P W base a held m v0 g d/\DataW.Trod enc P W base a held k v1 f c/\DataW.Trod enc P W base a held j v2 e b:=by match vs,ds,h with|v0::vs,g::ds,⟨d,q0,h0,g0,e0⟩=>match vs,ds,g0 with|v1::vs,f::ds,⟨c,q1,h1,g1,e1⟩=>match vs,ds,g1 with|v2::vs,e::ds,⟨b,q2,h2,g2,e2⟩=>match vs,ds,g2 with|[],[],hz=>refine ⟨v0,v1,v2,g,f,e,d,c,b,rfl,rfl,?_,h0,h1,h2⟩;have i:q2=[]:=hz;rw[e0,e1,e2,i,List.append_nil]
noncomputable def vw:Array Value:=#[.slice none 0 0,.slice none 0 0,.agg #[.int .u8 0,.bool false,.slice none 0 0,.slice none 0 0,.int .i64 0]]
def kf3(a:Os)(enc:TypeId×Value->H):DataW.whole enc Tryz.prog ((start a).forCall (λ_ _=>0) ⟨#[],vw,[]⟩).memory Tryz.f3.params.toList Rows.wishTellsSpec.vars false vw.toList 8=some ([.nil,.nil,.agg [.lit (.int .u8 0),.lit (.bool false),.nil,.nil,.lit (.int .i64 0)]],[],[]):=by kernel_rfl
def RK (a:Os):Input.okWideB Tryz.prog ((start a).forCall (λ_ _=>0) ⟨#[],vw,[]⟩) 3 ⟨#[],vw,[]⟩=true:=by kernel_rfl
def ZF (a:Os):((start a).forCall (λ_ _=>0) ⟨#[],vw,[]⟩).Shaped Tryz.prog:=World.shaped_of_ZipB (by kernel_rfl) (by kernel_rfl)
def kf4(a:Os)(enc:TypeId×Value->H):(Rows.OpenSpec.upto Rows.wishTellsSpec).bare.sizedB enc Tryz.prog Tryz.f3 false ((start a).forCall (λ_ _=>0) ⟨#[],vw,[]⟩).memory vw 8=true:=by kernel_rfl
theorem lm9 (os:Os){H:Type}(enc:TypeId×Value->H):∃(w:World) (tape:Tape) (i:Input),w.os=os/\(w.forCall tape i).Shaped Tryz.checked.prog/\i.vars=[]/\Input.okWide Tryz.checked.prog (w.forCall tape i) .any w.heap.size 3 i /\
  (Rows.OpenSpec.upto Rows.wishTellsSpec).preRow enc Tryz.checked.prog Tryz.f3 [] false ui (w.forCall tape i).memory i.args/\({}:Assume).holds Tryz.checked.prog (lone (Frame.enter Tryz.checked.prog 3 i.args .normal) [] (w.forCall tape i)):=
 ⟨start os,λ_ _=>0,⟨#[],vw,[]⟩,World.layVars_os _ _ _,ZF os,(Input.okWide_of_okWideB (base:=0) (RK os)).1,(Input.okWide_of_okWideB (RK os)).2,
  OpenSpec.preRow_of_cond 8 (kf3 os enc) (by kernel_rfl) (λk hk=>by cases hk;kernel_rfl) (kf4 os enc) (ZE os _),by
  simp only[Assume.holds];exact ⟨by simp,by simp,λ_=>Modest.zero,by simp,by simp⟩⟩
def RS(H:Type)(enc:TypeId×Value->H)(W:World)(base:Nat)(args:Array Value)(ds Q:List (DataW H))(h:List MemPlace)(a:∀(j:Nat) t v,Tryz.f3.params[j]? = some t->args[j]? = some v->Value.okWide Tryz.prog W .any base t v)(Z:DataW.Whole enc Tryz.prog Tryz.f3.params.toList Rows.wishTellsSpec.vars false W args.toList ds Q h)(o:Rows.uptoSmall H (ds++Q)=true)(g:(DataW.weightsEach Tryz.prog (Tryz.f3.params.toList++Rows.wishTellsSpec.plain.varTypes Tryz.prog) (ds++Q)).all (·<=reachBytes)=true)(hL:laidMetH Tryz.prog ui W): Calls Tryz.prog 3 args W λe W'=>∃v,e=.returned v/\Rows.wishTellsSpec.post enc Tryz.prog Tryz.f3 false true false false W args v W':=by
 have z:=Z;obtain ⟨p,q,N,hV,rfl,ak,ag⟩:=Z;have hA:DataW.TrodAll enc Tryz.prog W 0 (λ_=>true) true Tryz.f3.params.toList args.toList ds p:=N;rw[Tryz.params3]at hA a g;obtain ⟨Y,X,V,U,T,S,J,E,s,r,rfl,rfl,t0,t1,t2⟩:=Xe hA;have ha:args=#[Y,X,V]:=by rw[<- Array.toList_inj,r]
 subst ha;obtain ⟨rfl,rfl⟩:=trodVars_none hV;have f:Rows.uptoBulkAll [U,T,S]<=1048576:=of_decide_eq_true o;simp only[Rows.uptoBulkAll]at f;have w0:WT Tryz.prog 22 U:=λk o=>by simpa using zb.1 g k (DataW.weights_mem_each (j:=0) (t:=22) (d:=U) rfl rfl k o)
 have⟨a0,l0,c0,e0⟩:=okWide_slice Tryz.underlying22 (a 0 22 Y rfl rfl);have⟨n0,h0⟩:=t0;have⟨I,ad,M,D⟩:=Go.Id.Tryz.Z3 (enc:=enc) ⟨_,_,h0⟩ w0;have x0:=QA e0 (Gx (λb f=>D9 b f) n0 n0 _ _ _ _ _ h0 (D n0 (za _)));have y0:=Go.Id.Tryz.JR _ _ _ _ (D n0 (za _));have w1:WT Tryz.prog 23 T:=λk o=>by simpa using zb.1 g k (DataW.weights_mem_each (j:=1) (t:=23) (d:=T) rfl rfl k o)
 have⟨a1,l1,c1,e1⟩:=okWide_slice Tryz.underlying23 (a 1 23 X rfl rfl);have⟨y,P⟩:=t1;have⟨G,ac,L,B⟩:=Go.Id.Tryz.Pu (enc:=enc) ⟨_,_,P⟩ w1;have x1:=QA e1 (Gx (λb f=>D9 b f) y y _ _ _ _ _ P (B y (za _)));have y1:=Go.Id.Tryz.JR _ _ _ _ (B y (za _));have w2:WT Tryz.prog 27 S:=λk o=>by simpa using zb.1 g k (DataW.weights_mem_each (j:=2) (t:=27) (d:=S) rfl rfl k o)
 have⟨al,e2,_⟩:=okWide_struct Tryz.underlying27 (a 2 27 V rfl rfl);have⟨u,O⟩:=t2;have⟨F,K,A⟩:=Go.Id.Tryz.la9 (enc:=enc) ⟨_,_,O⟩ w2;have x2:=kf2 e2 (Gx (λb f=>D9 b f) u u _ _ _ _ _ O (A u (za _)));have y2:=Go.Id.Tryz.JR _ _ _ _ (A u (za _));refine (Za (Go.Id.Tryz.SZ I G F (Go.Id.Tryz.lo6 M L (by omega) (by omega)) (Go.Id.Tryz.lb1 K (by omega))) (kx7 hL) ⟨rfl,λi hi=>?_⟩).mono λe W' ⟨he,f⟩=>?_;{match i,hi with|0,_=>exact x0|1,_=>exact x1|2,_=>exact x2};subst he;have n:∀x∈J++(E++(s)),x.block<W.heap.size:=λx c=>z.lt x (by simpa using c);refine ⟨_,rfl,Go.Id.Sr (pa:=J++(E++(s))) (pv:=[]) z (λ_ _ _=>trodAll_mk1 (shut_bool (by kernel_rfl) _)) (λsp m=>?_) (λ_ _=>rfl) (by simp) f (ok_one (t:=Tryz.f3.resultTypes[0]!) (by kernel_rfl) rfl (okWide_bool_mk (by kernel_rfl) _))⟩;rw[Tryz.params3];exact ⟨J,E++(s),WideElems.Trod_stays laidOut kx8 (by decide +kernel) ⟨n0,h0⟩ (λx c=>f.same (n x (by simp[c]))) (λx c=>m x (by simp[c])),⟨E,s,WideElems.Trod_stays laidOut kx9 (by decide +kernel) ⟨y,P⟩ (λx c=>f.same (n x (by simp[c]))) (λx c=>m x (by simp[c])),⟨s,[],WideElems.Trod_stays laidOut ky1 (by decide +kernel) ⟨u,O⟩ (λx c=>f.same (n x (by simp[c]))) (λx c=>m x (by simp[c])),rfl,by simp⟩,rfl⟩,rfl⟩
theorem RU (os:Os)(started:os.Started)(H:Type)(enc:TypeId×Value->H)(F:Stop.Interp) :
  ReturnsInHanded {} Tryz.checked os 3 .any ((Rows.OpenSpec.upto Rows.wishTellsSpec).preRow enc Tryz.prog Tryz.f3 [] false ui) (((Rows.OpenSpec.upto Rows.wishTellsSpec).at F).post enc Tryz.prog Tryz.f3 false true false false):=by
 refine returnsInHanded_of_row (C:=Tryz.checked) (s:=Rows.OpenSpec.upto Rows.wishTellsSpec) own started (by kernel_rfl) Tryz.func3 (lm9 os enc) ?_;intro W base args ds gs before hval hW _ hcond hsz hL _ _;exact RS H enc W base args ds gs before hval hW (hcond _ rfl) hsz hL
end Go.Proofs.YtlpijcemoicebaaGreatDoor
