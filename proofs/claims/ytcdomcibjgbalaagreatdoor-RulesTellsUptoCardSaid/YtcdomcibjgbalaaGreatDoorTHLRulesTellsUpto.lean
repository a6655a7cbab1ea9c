/- RulesTellsUpto,within the bound: what its contract gives. Conditions: none. -/
import Derived.Test.YtcdomcibjgbalaaGreatDoorUb
import Derived.Test.YtcdomcibjgbalaaGreatDoorTHZH
import Derived.Test.YtcdomcibjgbalaaGreatDoorRows
import Derived.Test.YtcdomcibjgbalaaGreatDoorTie
import Derived.Test.YtcdomcibjgbalaaGreatDoorCards
import Derived.ProofKit
import Derived.LaidMore
import Derived.Lay
import Derived.OpenShut
import Derived.Carry
import Derived.Stop.Joined
import Derived.SevenTiedAt
import Derived.JoinedCond
import Derived.Deep.DeepHandedRow
open Nat renaming le_refl→za
open List renaming all_eq_true→zb
set_option linter.all false
set_option maxRecDepth 100000
namespace Go.Proofs.YtcdomcibjgbalaaGreatDoor
open Go Go.Id Go.Proofs Go.ChangeShapes Go.WideShapes Go.ChangeAt Go.WideMaps Go.WideElems Go.RowKit
def en4 : List (String × DataW Unit) := [("math/bits.deBruijn32tab", Rows.laid_math_bits_deBruijn32tab), ("math/bits.deBruijn64tab", Rows.laid_math_bits_deBruijn64tab), ("internal/strconv.uint64pow10", Rows.laid_internal_strconv_uint64pow10), ("unicode/utf8.acceptRanges", Rows.laid_unicode_utf8_acceptRanges), ("chandlery/span.ops", Rows.laid_chandlery_span_ops), ("chandlery/dep.words", Rows.laid_chandlery_dep_words), ("unicode/utf8.first", Rows.laid_unicode_utf8_first)]
theorem own:ownKnob Tryz.prog.godebug=none:=by kernel_rfl
theorem jt5 {W:World}(h:laidMetH Tryz.prog en4 W):∀g,VR gi3 W (gc1 Go.Id.Tryz.ka6 g) (.pointer (some ⟨g,0,none⟩)):=by
 rw[MakeChecks.laidMetH_plain _ _ _ (by kernel_rfl)] at h;refine ie4 h Go.Id.Tryz.ka6 λx hx=>?_
 simp only[Go.Id.Tryz.ka6,List.mem_cons,List.not_mem_nil,or_false] at hx;rcases hx with rfl|rfl
 ·refine ⟨"chandlery/dep.words", Rows.laid_chandlery_dep_words, _, 8, _, _, rfl, by simp [en4], by kernel_rfl, rfl, by kernel_rfl⟩
 ·refine ⟨"chandlery/span.ops", Rows.laid_chandlery_span_ops, _, 8, _, _, rfl, by simp [en4], by kernel_rfl, rfl, by kernel_rfl⟩
noncomputable def start (os : Os) : World := (World.doorLaid Tryz.prog 74 os).layVars Tryz.prog (en4.filter fun x => ["unicode/utf8.first"].contains x.1)
noncomputable def BB : List Nat := (List.range 14).filter fun b => some b != Tryz.prog.globalNamed "unicode/utf8.first"
theorem ii1 (os:Os)(args:Array Value):laidMetH Tryz.prog en4 ((start os).forCall (λ_ _=>0) ⟨#[],args,[]⟩).memory:=by
 rw[MakeChecks.laidMetH_plain _ _ _ (by kernel_rfl)]
 exact laidMet_layVars (w0 := World.doorLaid Tryz.prog 74 os) ["unicode/utf8.first"] BB (by simp [start,World.memory,World.forCall,Input.heap]) (by kernel_rfl) (by kernel_rfl) (LaidIn.of_run BB 8 (by kernel_rfl) (by kernel_rfl) (by kernel_rfl) (by kernel_rfl))
theorem laidOut:laidOutB Tryz.prog=true:=by kernel_rfl
theorem jt6:Tryz.prog.readableRec 22=true:=by kernel_rfl
theorem jt7:Tryz.prog.readableRec 23=true:=by kernel_rfl
theorem jt8:Tryz.prog.readableRec 27=true:=by kernel_rfl
theorem jt9:Tryz.prog.readableRec 28=true:=by kernel_rfl
theorem gw5 {W:World}{v:Value}{iv:IV}{a:Option Addr}{l c:Nat}(hv:v=.slice a l c)(h:VL gi3 W [iv] v.cells.toList):VR gi3 W iv v:=by
 have:=h.get 0 (Nat.zero_lt_one);subst hv
 simpa [Value.cells] using this
theorem jd8 {W:World}{v:Value}{ivs:List IV}{rs:Array Value}(hv:v=.agg rs)(h:VL gi3 W ivs v.cells.toList):VR gi3 W (.agg ivs) v:=by
 subst hv;have hl:=h.len;simp only[Value.cells] at h hl;exact .agg _ _ (by simpa using hl) λi hi=>by simpa [Array.getD_eq_getD_getElem?,List.getD_eq_getElem?_getD] using h.get i hi
theorem gw6 {H:Type}{enc:TypeId×Value->H}{P:Program}{w:World}{base:Nat}{sp:Nat->Bool}{held:Bool}{t0 t1 t2 t3:TypeId}{vs:List Value}{ds:List (DataW H)}{ps:List MemPlace}(h:DataW.TrodAll enc P w base sp held [t0,t1,t2,t3] vs ds ps) :
  ∃v0 v1 v2 v3 d0 d1 d2 d3 p0 p1 p2 p3,vs=[v0,v1,v2,v3]/\ds=[d0,d1,d2,d3]/\ps=p0++(p1++(p2++(p3)))/\DataW.Trod enc P w base sp held t0 v0 d0 p0/\DataW.Trod enc P w base sp held t1 v1 d1 p1/\DataW.Trod enc P w base sp held t2 v2 d2 p2/\DataW.Trod enc P w base sp held t3 v3 d3 p3:=by
 match vs,ds,h with
 | v0 :: vs,d0::ds,⟨p0,q0,h0,g0,e0⟩=>
  match vs,ds,g0 with
  | v1::vs,d1::ds,⟨p1,q1,h1,g1,e1⟩=>
   match vs,ds,g1 with
   | v2::vs,d2::ds,⟨p2,q2,h2,g2,e2⟩=>
    match vs,ds,g2 with
    | v3::vs,d3::ds,⟨p3,q3,h3,g3,e3⟩=>
     match vs,ds,g3 with
     | [],[],hz=>
      refine ⟨v0,v1,v2,v3,d0,d1,d2,d3,p0,p1,p2,p3,rfl,rfl,?_,h0,h1,h2,h3⟩;have hz2:q3=[]:=hz;rw[e0,e1,e2,e3,hz2,List.append_nil]
noncomputable def en5:Array Value:=#[.slice none 0 0,.slice none 0 0,.agg #[.int .u8 0,.bool false,.slice none 0 0,.slice none 0 0,.int .i64 0],.slice none 0 0]
theorem jd9 (os:Os){H:Type}(enc:TypeId×Value->H):DataW.whole enc Tryz.prog ((start os).forCall (λ_ _=>0) ⟨#[],en5,[]⟩).memory Tryz.f3.params.toList Rows.rulesTellsSpec.vars false en5.toList 8=some ([.nil,.nil,.agg [.lit (.int .u8 0),.lit (.bool false),.nil,.nil,.lit (.int .i64 0)],.nil],[],[]):=by kernel_rfl
theorem kl7 (os:Os):Input.okWideB Tryz.prog ((start os).forCall (λ_ _=>0) ⟨#[],en5,[]⟩) 3 ⟨#[],en5,[]⟩=true:=by kernel_rfl
theorem ii2 (os:Os):((start os).forCall (λ_ _=>0) ⟨#[],en5,[]⟩).Shaped Tryz.prog:=World.shaped_of_ZipB (by kernel_rfl) (by kernel_rfl)
theorem je1 (os:Os){H:Type}(enc:TypeId×Value->H):(Rows.OpenSpec.upto Rows.rulesTellsSpec).bare.sizedB enc Tryz.prog Tryz.f3 false ((start os).forCall (λ_ _=>0) ⟨#[],en5,[]⟩).memory en5 8=true:=by kernel_rfl
theorem kh5 (os:Os){H:Type}(enc:TypeId×Value->H):∃(w:World) (tape:Tape) (i:Input),w.os=os/\(w.forCall tape i).Shaped Tryz.checked.prog/\i.vars=[]/\Input.okWide Tryz.checked.prog (w.forCall tape i) .any w.heap.size 3 i /\
  (Rows.OpenSpec.upto Rows.rulesTellsSpec).preRow enc Tryz.checked.prog Tryz.f3 [] false en4 (w.forCall tape i).memory i.args/\({}:Assume).holds Tryz.checked.prog (lone (Frame.enter Tryz.checked.prog 3 i.args .normal) [] (w.forCall tape i)):=
 ⟨start os,λ_ _=>0,⟨#[],en5,[]⟩,World.layVars_os _ _ _,ii2 os,(Input.okWide_of_okWideB (base:=0) (kl7 os)).1,(Input.okWide_of_okWideB (kl7 os)).2,
  OpenSpec.preRow_of_cond 8 (jd9 os enc) (by kernel_rfl) (λk hk=>by cases hk;kernel_rfl) (je1 os enc) (ii1 os _),by
  simp only[Assume.holds];exact ⟨by simp,by simp,λ_=>Modest.zero,by simp,by simp⟩⟩
theorem bm5 (H:Type)(enc:TypeId×Value->H)(W:World)(base:Nat)(args:Array Value)(ds gs:List (DataW H))(before:List MemPlace)
  (hval:∀(j:Nat) t v,Tryz.f3.params[j]? = some t->args[j]? = some v->Value.okWide Tryz.prog W .any base t v)
  (hW:DataW.Whole enc Tryz.prog Tryz.f3.params.toList Rows.rulesTellsSpec.vars false W args.toList ds gs before) (hk:Rows.uptoSmall H (ds++gs)=true)
  (hsz:(DataW.weightsEach Tryz.prog (Tryz.f3.params.toList++Rows.rulesTellsSpec.plain.varTypes Tryz.prog) (ds++gs)).all (·<=reachBytes)=true) (hL:laidMetH Tryz.prog en4 W) :
  Calls Tryz.prog 3 args W λe W'=>∃v,e=.returned v/\Rows.rulesTellsSpec.post enc Tryz.prog Tryz.f3 false true false false W args v W':=by
 have hW':=hW;obtain ⟨p,q,hA0,hV,rfl,hfz,hnd⟩:=hW;have hA:DataW.TrodAll enc Tryz.prog W 0 (λ_=>true) true Tryz.f3.params.toList args.toList ds p:=hA0;rw[Tryz.params3] at hA hval hsz;obtain ⟨v0,v1,v2,v3,d0,d1,d2,d3,p0,p1,p2,p3,hargs,rfl,rfl,t0,t1,t2,t3⟩:=gw6 hA;have ha:args=#[v0,v1,v2,v3]:=by rw[<- Array.toList_inj,hargs]
 subst ha;obtain ⟨rfl,rfl⟩:=trodVars_none hV;have hb:Rows.uptoBulkAll [d0,d1,d2,d3]<=1048576:=of_decide_eq_true hk;simp only[Rows.uptoBulkAll] at hb
 have w0:WT Tryz.prog 22 d0:=λk hk=>by
  simpa using zb.1 hsz k (DataW.weights_mem_each (j:=0) (t:=22) (d:=d0) rfl rfl k hk)
 obtain ⟨a0,l0,c0,e0⟩:=okWide_slice Tryz.underlying22 (hval 0 22 v0 rfl rfl);obtain ⟨n0,h0⟩:=t0;obtain ⟨xx0,ll0,kk0,gg0⟩:=Go.Id.Tryz.il1 (enc:=enc) ⟨_,_,h0⟩ w0;have x0:=gw5 e0 (dd4 (λb hb=>cr2 b hb) n0 n0 _ _ _ _ _ h0 (gg0 n0 (za _)));have y0:=Go.Id.Tryz.eg4 _ _ _ _ (gg0 n0 (za _))
 have w1:WT Tryz.prog 23 d1:=λk hk=>by
  simpa using zb.1 hsz k (DataW.weights_mem_each (j:=1) (t:=23) (d:=d1) rfl rfl k hk)
 obtain ⟨a1,l1,c1,e1⟩:=okWide_slice Tryz.underlying23 (hval 1 23 v1 rfl rfl);obtain ⟨n1,h1⟩:=t1;obtain ⟨xx1,ll1,kk1,gg1⟩:=Go.Id.Tryz.hd9 (enc:=enc) ⟨_,_,h1⟩ w1;have x1:=gw5 e1 (dd4 (λb hb=>cr2 b hb) n1 n1 _ _ _ _ _ h1 (gg1 n1 (za _)));have y1:=Go.Id.Tryz.eg4 _ _ _ _ (gg1 n1 (za _))
 have w2:WT Tryz.prog 27 d2:=λk hk=>by
  simpa using zb.1 hsz k (DataW.weights_mem_each (j:=2) (t:=27) (d:=d2) rfl rfl k hk)
 obtain ⟨cs2,e2,_⟩:=okWide_struct Tryz.underlying27 (hval 2 27 v2 rfl rfl);obtain ⟨n2,h2⟩:=t2;obtain ⟨xx2,kk2,gg2⟩:=Go.Id.Tryz.jz3 (enc:=enc) ⟨_,_,h2⟩ w2;have x2:=jd8 e2 (dd4 (λb hb=>cr2 b hb) n2 n2 _ _ _ _ _ h2 (gg2 n2 (za _)));have y2:=Go.Id.Tryz.eg4 _ _ _ _ (gg2 n2 (za _))
 have w3:WT Tryz.prog 28 d3:=λk hk=>by
  simpa using zb.1 hsz k (DataW.weights_mem_each (j:=3) (t:=28) (d:=d3) rfl rfl k hk)
 obtain ⟨a3,l3,c3,e3⟩:=okWide_slice Tryz.underlying28 (hval 3 28 v3 rfl rfl);obtain ⟨n3,h3⟩:=t3;obtain ⟨xx3,ll3,kk3,gg3⟩:=Go.Id.Tryz.io8 (enc:=enc) ⟨_,_,h3⟩ w3;have x3:=gw5 e3 (dd4 (λb hb=>cr2 b hb) n3 n3 _ _ _ _ _ h3 (gg3 n3 (za _)));have y3:=Go.Id.Tryz.eg4 _ _ _ _ (gg3 n3 (za _));refine (ie5 (Go.Id.Tryz.ef4 xx0 xx1 xx2 xx3 (Go.Id.Tryz.kj6 kk0 kk1 (by omega) (by omega)) (Go.Id.Tryz.jz4 kk2 (by omega)) (Go.Id.Tryz.io9 (by omega))) (jt5 hL) ⟨rfl,λi hi=>?_⟩).mono λe W' ⟨he,hb⟩=>?_
 ·match i,hi with
  | 0,_=>exact x0
  | 1,_=>exact x1
  | 2,_=>exact x2
  | 3,_=>exact x3
 subst he;have hlt:∀x∈p0++(p1++(p2++(p3))),x.block<W.heap.size:=λx hx=>hW'.lt x (by simpa using hx)
 refine ⟨_,rfl,Go.Id.ea9 (pa:=p0++(p1++(p2++(p3)))) (pv:=[]) hW' (λ_ _ _=>trodAll_mk1 (shut_bool (by kernel_rfl) _)) (λsp hsp=>?_) (λ_ _=>rfl) (by simp) hb (ok_one (t:=Tryz.f3.resultTypes[0]!) (by kernel_rfl) rfl (okWide_bool_mk (by kernel_rfl) _))⟩;rw[Tryz.params3];exact ⟨p0,p1++(p2++(p3)),WideElems.Trod_stays laidOut jt6 (by decide +kernel) ⟨n0,h0⟩ (λx hx=>hb.same (hlt x (by simp[hx]))) (λx hx=>hsp x (by simp[hx])),⟨p1,p2++(p3),WideElems.Trod_stays laidOut jt7 (by decide +kernel) ⟨n1,h1⟩ (λx hx=>hb.same (hlt x (by simp[hx]))) (λx hx=>hsp x (by simp[hx])),⟨p2,p3,WideElems.Trod_stays laidOut jt8 (by decide +kernel) ⟨n2,h2⟩ (λx hx=>hb.same (hlt x (by simp[hx]))) (λx hx=>hsp x (by simp[hx])),⟨p3,[],WideElems.Trod_stays laidOut jt9 (by decide +kernel) ⟨n3,h3⟩ (λx hx=>hb.same (hlt x (by simp[hx]))) (λx hx=>hsp x (by simp[hx])),rfl,by simp⟩,rfl⟩,rfl⟩,rfl⟩
theorem br2 (os:Os)(started:os.Started)(H:Type)(enc:TypeId×Value->H)(F:Stop.Interp) :
  ReturnsInHanded {} Tryz.checked os 3 .any ((Rows.OpenSpec.upto Rows.rulesTellsSpec).preRow enc Tryz.prog Tryz.f3 [] false en4) (((Rows.OpenSpec.upto Rows.rulesTellsSpec).at F).post enc Tryz.prog Tryz.f3 false true false false):=by
 refine returnsInHanded_of_row (C:=Tryz.checked) (s:=Rows.OpenSpec.upto Rows.rulesTellsSpec) own started (by kernel_rfl) Tryz.func3 (kh5 os enc) ?_;intro W base args ds gs before hval hW _ hcond hsz hL _ _;exact bm5 H enc W base args ds gs before hval hW (hcond _ rfl) hsz hL
end Go.Proofs.YtcdomcibjgbalaaGreatDoor
