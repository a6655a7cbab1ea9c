/- PreferTellsUpto,within the bound: what its contract gives. Conditions: none. -/
import Derived.Test.YtcdakaadeghccaaGreatDoorTSXF
import Derived.Test.YtcdakaadeghccaaGreatDoorRows
import Derived.Test.YtcdakaadeghccaaGreatDoorTie
import Derived.Test.YtcdakaadeghccaaGreatDoorCards
import Derived.ProofKit
import Derived.LaidMore
import Derived.Lay
import Derived.OpenShut
import Derived.Carry
import Derived.Stop.Joined
import Derived.SevenTiedAt
import Derived.JoinedCond
import Derived.Deep.DeepHandedRow
open Nat renaming le_refl→za
open List renaming all_eq_true→zb
set_option linter.all false
set_option maxRecDepth 100000
namespace Go.Proofs.YtcdakaadeghccaaGreatDoor
open Go Go.Id Go.Proofs Go.ChangeShapes Go.WideShapes Go.ChangeAt Go.WideMaps Go.WideElems Go.RowKit
def dt3 : List (String × DataW Unit) := [("unicode/utf8.acceptRanges", Rows.laid_unicode_utf8_acceptRanges), ("chandlery/span.ops", Rows.laid_chandlery_span_ops), ("chandlery/dep.words", Rows.laid_chandlery_dep_words), ("chandlery/rich.kinds", Rows.laid_chandlery_rich_kinds), ("unicode/utf8.first", Rows.laid_unicode_utf8_first)]
theorem own:ownKnob Tryz.prog.godebug=none:=by kernel_rfl
theorem je5 {W:World}(h:laidMetH Tryz.prog dt3 W):∀ g,VR ex1 W (fq7 Go.Id.Tryz.jk3 g) (.pointer (some ⟨g,0,none⟩)):=by
 rw[MakeChecks.laidMetH_plain _ _ _ (by kernel_rfl)] at h;refine ha8 h Go.Id.Tryz.jk3 fun x hx=>?_
 simp only[Go.Id.Tryz.jk3,List.mem_cons,List.not_mem_nil,or_false] at hx;rcases hx with rfl|rfl|rfl
 ·refine ⟨"chandlery/dep.words", Rows.laid_chandlery_dep_words, _, 8, _, _, rfl, by simp [dt3], by kernel_rfl, rfl, by kernel_rfl⟩
 ·refine ⟨"chandlery/span.ops", Rows.laid_chandlery_span_ops, _, 8, _, _, rfl, by simp [dt3], by kernel_rfl, rfl, by kernel_rfl⟩
 ·refine ⟨"chandlery/rich.kinds", Rows.laid_chandlery_rich_kinds, _, 8, _, _, rfl, by simp [dt3], by kernel_rfl, rfl, by kernel_rfl⟩
noncomputable def start (os : Os) : World := (World.doorLaid Tryz.prog 70 os).layVars Tryz.prog (dt3.filter fun x => ["unicode/utf8.first"].contains x.1)
noncomputable def BB : List Nat := (List.range 12).filter fun b => some b != Tryz.prog.globalNamed "unicode/utf8.first"
theorem hf9 (os:Os)(args:Array Value):laidMetH Tryz.prog dt3 ((start os).forCall (fun _ _=>0) ⟨#[],args,[]⟩).memory:=by
 rw[MakeChecks.laidMetH_plain _ _ _ (by kernel_rfl)]
 exact laidMet_layVars (w0 := World.doorLaid Tryz.prog 70 os) ["unicode/utf8.first"] BB (by simp [start,World.memory,World.forCall,Input.heap]) (by kernel_rfl) (by kernel_rfl) (LaidIn.of_run BB 8 (by kernel_rfl) (by kernel_rfl) (by kernel_rfl) (by kernel_rfl))
theorem laidOut:laidOutB Tryz.prog=true:=by kernel_rfl
theorem je6:Tryz.prog.readableRec 22=true:=by kernel_rfl
theorem je7:Tryz.prog.readableRec 23=true:=by kernel_rfl
theorem je8:Tryz.prog.readableRec 27=true:=by kernel_rfl
theorem je9:Tryz.prog.readableRec 28=true:=by kernel_rfl
theorem ie1:Tryz.prog.readableRec 3=true:=by kernel_rfl
theorem gi4 {W:World}{v:Value}{iv:IV}{a:Option Addr}{l c:Nat}(hv:v=.slice a l c)(h:VL ex1 W [iv] v.cells.toList):VR ex1 W iv v:=by
 have:=h.get 0 (Nat.zero_lt_one);subst hv
 simpa [Value.cells] using this
theorem in6 {W:World}{v:Value}{ivs:List IV}{rs:Array Value}(hv:v=.agg rs)(h:VL ex1 W ivs v.cells.toList):VR ex1 W (.agg ivs) v:=by
 subst hv;have hl:=h.len;simp only[Value.cells] at h hl;exact .agg _ _ (by simpa using hl) fun i hi=>by simpa [Array.getD_eq_getD_getElem?,List.getD_eq_getElem?_getD] using h.get i hi
theorem ez1 {W:World}{v:Value}{iv:IV}(hv:v.cells=#[v])(h:VL ex1 W [iv] v.cells.toList):VR ex1 W iv v:=by
 have:=h.get 0 (Nat.zero_lt_one);rw[hv] at this
 simpa using this
theorem gi5 {H:Type} {enc:TypeId×Value->H} {P:Program} {w:World} {base:Nat} {sp:Nat->Bool} {held:Bool} {t0 t1 t2 t3 t4 t5:TypeId} {vs:List Value} {ds:List (DataW H)} {ps:List MemPlace} (h:DataW.TrodAll enc P w base sp held [t0,t1,t2,t3,t4,t5] vs ds ps) :
  ∃ v0 v1 v2 v3 v4 v5 d0 d1 d2 d3 d4 d5 p0 p1 p2 p3 p4 p5,vs=[v0,v1,v2,v3,v4,v5]/\ds=[d0,d1,d2,d3,d4,d5]/\ps=p0++(p1++(p2++(p3++(p4++(p5)))))/\DataW.Trod enc P w base sp held t0 v0 d0 p0/\DataW.Trod enc P w base sp held t1 v1 d1 p1/\DataW.Trod enc P w base sp held t2 v2 d2 p2/\DataW.Trod enc P w base sp held t3 v3 d3 p3/\DataW.Trod enc P w base sp held t4 v4 d4 p4/\DataW.Trod enc P w base sp held t5 v5 d5 p5:=by
 match vs,ds,h with
 | v0 :: vs,d0::ds,⟨p0,q0,h0,g0,e0⟩=>
  match vs,ds,g0 with
  | v1 :: vs,d1::ds,⟨p1,q1,h1,g1,e1⟩=>
   match vs,ds,g1 with
   | v2 :: vs,d2::ds,⟨p2,q2,h2,g2,e2⟩=>
    match vs,ds,g2 with
    | v3::vs,d3::ds,⟨p3,q3,h3,g3,e3⟩=>
     match vs,ds,g3 with
     | v4::vs,d4::ds,⟨p4,q4,h4,g4,e4⟩=>
      match vs,ds,g4 with
      | v5::vs,d5::ds,⟨p5,q5,h5,g5,e5⟩=>
       match vs,ds,g5 with
       | [],[],hz=>
        refine ⟨v0,v1,v2,v3,v4,v5,d0,d1,d2,d3,d4,d5,p0,p1,p2,p3,p4,p5,rfl,rfl,?_,h0,h1,h2,h3,h4,h5⟩;have hz2:q5=[]:=hz;rw[e0,e1,e2,e3,e4,e5,hz2,List.append_nil]
noncomputable def ee4:Array Value:=#[.slice none 0 0,.slice none 0 0,.agg #[.int .u8 0,.bool false,.slice none 0 0,.slice none 0 0,.int .i64 0],.slice none 0 0,.int .i64 0,.int .i64 0]
theorem in7 (os:Os){H:Type}(enc:TypeId×Value->H):DataW.whole enc Tryz.prog ((start os).forCall (fun _ _=>0) ⟨#[],ee4,[]⟩).memory Tryz.f3.params.toList Rows.preferTellsSpec.vars false ee4.toList 8=some ([.nil,.nil,.agg [.lit (.int .u8 0),.lit (.bool false),.nil,.nil,.lit (.int .i64 0)],.nil,.lit (.int .i64 0),.lit (.int .i64 0)],[],[]):=by kernel_rfl
theorem jt8 (os:Os):Input.okWideB Tryz.prog ((start os).forCall (fun _ _=>0) ⟨#[],ee4,[]⟩) 3 ⟨#[],ee4,[]⟩=true:=by kernel_rfl
theorem hg6 (os:Os):((start os).forCall (fun _ _=>0) ⟨#[],ee4,[]⟩).Shaped Tryz.prog:=World.shaped_of_ZipB (by kernel_rfl) (by kernel_rfl)
theorem in8 (os:Os){H:Type}(enc:TypeId×Value->H):(Rows.OpenSpec.upto Rows.preferTellsSpec).bare.sizedB enc Tryz.prog Tryz.f3 false ((start os).forCall (fun _ _=>0) ⟨#[],ee4,[]⟩).memory ee4 8=true:=by kernel_rfl
theorem jq6 (os:Os){H:Type}(enc:TypeId×Value->H):∃ (w:World) (tape:Tape) (i:Input),w.os=os/\(w.forCall tape i).Shaped Tryz.checked.prog/\i.vars=[]/\Input.okWide Tryz.checked.prog (w.forCall tape i) .any w.heap.size 3 i /\
  (Rows.OpenSpec.upto Rows.preferTellsSpec).preRow enc Tryz.checked.prog Tryz.f3 [] false dt3 (w.forCall tape i).memory i.args/\({}:Assume).holds Tryz.checked.prog (lone (Frame.enter Tryz.checked.prog 3 i.args .normal) [] (w.forCall tape i)):=
 ⟨start os,fun _ _=>0,⟨#[],ee4,[]⟩,World.layVars_os _ _ _,hg6 os,(Input.okWide_of_okWideB (base:=0) (jt8 os)).1,(Input.okWide_of_okWideB (jt8 os)).2,
  OpenSpec.preRow_of_cond 8 (in7 os enc) (by kernel_rfl) (fun k hk=>by cases hk; kernel_rfl) (in8 os enc) (hf9 os _),by
  simp only[Assume.holds];exact ⟨by simp,by simp,fun _=>Modest.zero,by simp,by simp⟩⟩
theorem bh3 (H:Type)(enc:TypeId×Value->H)(W:World)(base:Nat)(args:Array Value)(ds gs:List (DataW H))(before:List MemPlace)
  (hval:∀ (j:Nat) t v,Tryz.f3.params[j]? = some t->args[j]? = some v->Value.okWide Tryz.prog W .any base t v)
  (hW:DataW.Whole enc Tryz.prog Tryz.f3.params.toList Rows.preferTellsSpec.vars false W args.toList ds gs before) (hk:Rows.uptoSmall H (ds++gs)=true)
  (hsz:(DataW.weightsEach Tryz.prog (Tryz.f3.params.toList++Rows.preferTellsSpec.plain.varTypes Tryz.prog) (ds++gs)).all (·<=reachBytes)=true) (hL:laidMetH Tryz.prog dt3 W) :
  Calls Tryz.prog 3 args W fun e W'=>∃ v,e=.returned v/\Rows.preferTellsSpec.post enc Tryz.prog Tryz.f3 false true false false W args v W':=by
 have hW':=hW;obtain ⟨p,q,hA0,hV,rfl,hfz,hnd⟩:=hW;have hA:DataW.TrodAll enc Tryz.prog W 0 (fun _=>true) true Tryz.f3.params.toList args.toList ds p:=hA0;rw[Tryz.params3] at hA hval hsz;obtain ⟨v0,v1,v2,v3,v4,v5,d0,d1,d2,d3,d4,d5,p0,p1,p2,p3,p4,p5,hargs,rfl,rfl,t0,t1,t2,t3,t4,t5⟩:=gi5 hA;have ha:args=#[v0,v1,v2,v3,v4,v5]:=by rw[<- Array.toList_inj,hargs]
 subst ha;obtain ⟨rfl,rfl⟩:=trodVars_none hV;have hb:Rows.uptoBulkAll [d0,d1,d2,d3,d4,d5]<=1048576:=of_decide_eq_true hk;simp only[Rows.uptoBulkAll] at hb
 have w0:WT Tryz.prog 22 d0:=fun k hk=>by
  simpa using zb.1 hsz k (DataW.weights_mem_each (j:=0) (t:=22) (d:=d0) rfl rfl k hk)
 obtain ⟨a0,l0,c0,e0⟩:=okWide_slice Tryz.underlying22 (hval 0 22 v0 rfl rfl);obtain ⟨n0,h0⟩:=t0;obtain ⟨xx0,ll0,kk0,gg0⟩:=Go.Id.Tryz.hl8 (enc:=enc) ⟨_,_,h0⟩ w0;have x0:=gi4 e0 (bw8 (fun b hb=>bm9 b hb) n0 n0 _ _ _ _ _ h0 (gg0 n0 (za _)));have y0:=Go.Id.Tryz.cp4 _ _ _ _ (gg0 n0 (za _))
 have w1:WT Tryz.prog 23 d1:=fun k hk=>by
  simpa using zb.1 hsz k (DataW.weights_mem_each (j:=1) (t:=23) (d:=d1) rfl rfl k hk)
 obtain ⟨a1,l1,c1,e1⟩:=okWide_slice Tryz.underlying23 (hval 1 23 v1 rfl rfl);obtain ⟨n1,h1⟩:=t1;obtain ⟨xx1,ll1,kk1,gg1⟩:=Go.Id.Tryz.gl8 (enc:=enc) ⟨_,_,h1⟩ w1;have x1:=gi4 e1 (bw8 (fun b hb=>bm9 b hb) n1 n1 _ _ _ _ _ h1 (gg1 n1 (za _)));have y1:=Go.Id.Tryz.cp4 _ _ _ _ (gg1 n1 (za _))
 have w2:WT Tryz.prog 27 d2:=fun k hk=>by
  simpa using zb.1 hsz k (DataW.weights_mem_each (j:=2) (t:=27) (d:=d2) rfl rfl k hk)
 obtain ⟨cs2,e2,_⟩:=okWide_struct Tryz.underlying27 (hval 2 27 v2 rfl rfl);obtain ⟨n2,h2⟩:=t2;obtain ⟨xx2,kk2,gg2⟩:=Go.Id.Tryz.jj1 (enc:=enc) ⟨_,_,h2⟩ w2;have x2:=in6 e2 (bw8 (fun b hb=>bm9 b hb) n2 n2 _ _ _ _ _ h2 (gg2 n2 (za _)));have y2:=Go.Id.Tryz.cp4 _ _ _ _ (gg2 n2 (za _))
 have w3:WT Tryz.prog 28 d3:=fun k hk=>by
  simpa using zb.1 hsz k (DataW.weights_mem_each (j:=3) (t:=28) (d:=d3) rfl rfl k hk)
 obtain ⟨a3,l3,c3,e3⟩:=okWide_slice Tryz.underlying28 (hval 3 28 v3 rfl rfl);obtain ⟨n3,h3⟩:=t3;obtain ⟨xx3,ll3,kk3,gg3⟩:=Go.Id.Tryz.iu4 (enc:=enc) ⟨_,_,h3⟩ w3;have x3:=gi4 e3 (bw8 (fun b hb=>bm9 b hb) n3 n3 _ _ _ _ _ h3 (gg3 n3 (za _)));have y3:=Go.Id.Tryz.cp4 _ _ _ _ (gg3 n3 (za _))
 have w4:WT Tryz.prog 3 d4:=fun k hk=>by
  simpa using zb.1 hsz k (DataW.weights_mem_each (j:=4) (t:=3) (d:=d4) rfl rfl k hk)
 obtain ⟨z4,e4⟩:=okWide_int Tryz.underlying3 (hval 4 3 v4 rfl rfl);obtain ⟨n4,h4⟩:=t4;obtain ⟨xx4,gg4⟩:=Go.Id.Tryz.if9 (enc:=enc) ⟨_,_,h4⟩ w4;have x4:=ez1 (by rw[e4]; rfl) (bw8 (fun b hb=>bm9 b hb) n4 n4 _ _ _ _ _ h4 (gg4 n4 (za _)));have y4:=Go.Id.Tryz.cp4 _ _ _ _ (gg4 n4 (za _))
 have w5:WT Tryz.prog 3 d5:=fun k hk=>by
  simpa using zb.1 hsz k (DataW.weights_mem_each (j:=5) (t:=3) (d:=d5) rfl rfl k hk)
 obtain ⟨z5,e5⟩:=okWide_int Tryz.underlying3 (hval 5 3 v5 rfl rfl);obtain ⟨n5,h5⟩:=t5;obtain ⟨xx5,gg5⟩:=Go.Id.Tryz.if9 (enc:=enc) ⟨_,_,h5⟩ w5;have x5:=ez1 (by rw[e5]; rfl) (bw8 (fun b hb=>bm9 b hb) n5 n5 _ _ _ _ _ h5 (gg5 n5 (za _)));have y5:=Go.Id.Tryz.cp4 _ _ _ _ (gg5 n5 (za _));refine (ha9 (Go.Id.Tryz.dd6 xx0 xx1 xx2 xx3 xx4 xx5 (Go.Id.Tryz.js5 kk0 kk1 (by omega) (by omega)) (Go.Id.Tryz.jj2 kk2 (by omega)) (Go.Id.Tryz.iu5 (by omega))) (je5 hL) ⟨rfl,fun i hi=>?_⟩).mono fun e W' ⟨he,hb⟩=>?_
 ·match i,hi with
  | 0,_=>exact x0
  | 1,_=>exact x1
  | 2,_=>exact x2
  | 3,_=>exact x3
  | 4,_=>exact x4
  | 5,_=>exact x5
 subst he;have hlt:∀ x∈p0++(p1++(p2++(p3++(p4++(p5))))),x.block<W.heap.size:=fun x hx=>hW'.lt x (by simpa using hx)
 refine ⟨_,rfl,Go.Id.dr5 (pa:=p0++(p1++(p2++(p3++(p4++(p5)))))) (pv:=[]) hW' (fun _ _ _=>trodAll_mk1 (shut_bool (by kernel_rfl) _)) (fun sp hsp=>?_) (fun _ _=>rfl) (by simp) hb (ok_one (t:=Tryz.f3.resultTypes[0]!) (by kernel_rfl) rfl (okWide_bool_mk (by kernel_rfl) _))⟩;rw[Tryz.params3];exact ⟨p0,p1++(p2++(p3++(p4++(p5)))),WideElems.Trod_stays laidOut je6 (by decide +kernel) ⟨n0,h0⟩ (fun x hx=>hb.same (hlt x (by simp[hx]))) (fun x hx=>hsp x (by simp[hx])),⟨p1,p2++(p3++(p4++(p5))),WideElems.Trod_stays laidOut je7 (by decide +kernel) ⟨n1,h1⟩ (fun x hx=>hb.same (hlt x (by simp[hx]))) (fun x hx=>hsp x (by simp[hx])),⟨p2,p3++(p4++(p5)),WideElems.Trod_stays laidOut je8 (by decide +kernel) ⟨n2,h2⟩ (fun x hx=>hb.same (hlt x (by simp[hx]))) (fun x hx=>hsp x (by simp[hx])),⟨p3,p4++(p5),WideElems.Trod_stays laidOut je9 (by decide +kernel) ⟨n3,h3⟩ (fun x hx=>hb.same (hlt x (by simp[hx]))) (fun x hx=>hsp x (by simp[hx])),⟨p4,p5,WideElems.Trod_stays laidOut ie1 (by decide +kernel) ⟨n4,h4⟩ (fun x hx=>hb.same (hlt x (by simp[hx]))) (fun x hx=>hsp x (by simp[hx])),⟨p5,[],WideElems.Trod_stays laidOut ie1 (by decide +kernel) ⟨n5,h5⟩ (fun x hx=>hb.same (hlt x (by simp[hx]))) (fun x hx=>hsp x (by simp[hx])),rfl,by simp⟩,rfl⟩,rfl⟩,rfl⟩,rfl⟩,rfl⟩
theorem bl4 (os:Os)(started:os.Started)(H:Type)(enc:TypeId×Value->H)(F:Stop.Interp) :
  ReturnsInHanded {} Tryz.checked os 3 .any ((Rows.OpenSpec.upto Rows.preferTellsSpec).preRow enc Tryz.prog Tryz.f3 [] false dt3) (((Rows.OpenSpec.upto Rows.preferTellsSpec).at F).post enc Tryz.prog Tryz.f3 false true false false):=by
 refine returnsInHanded_of_row (C:=Tryz.checked) (s:=Rows.OpenSpec.upto Rows.preferTellsSpec) own started (by kernel_rfl) Tryz.func3 (jq6 os enc) ?_;intro W base args ds gs before hval hW _ hcond hsz hL _ _;exact bh3 H enc W base args ds gs before hval hW (hcond _ rfl) hsz hL
end Go.Proofs.YtcdakaadeghccaaGreatDoor
