/- OrderTellsUpto,within the bound: what its contract gives. Conditions: none. -/
import Derived.Test.YtihiokikiejcpaaGreatDoorTROL
import Derived.Test.YtihiokikiejcpaaGreatDoorRows
import Derived.Test.YtihiokikiejcpaaGreatDoorTie
import Derived.Test.YtihiokikiejcpaaGreatDoorCards
import Derived.ProofKit
import Derived.LaidMore
import Derived.Lay
import Derived.OpenShut
import Derived.Carry
import Derived.Stop.Joined
import Derived.SevenTiedAt
import Derived.JoinedCond
import Derived.Deep.DeepHandedRow
set_option linter.all false
namespace Go.Proofs.YtihiokikiejcpaaGreatDoor
open Go Go.Id Go.Proofs Go.ChangeShapes Go.WideShapes Go.ChangeAt Go.WideMaps Go.WideElems Go.RowKit
set_option maxRecDepth 100000
def dq7 : List (String × DataW Unit) := [("unicode/utf8.acceptRanges", Rows.laid_unicode_utf8_acceptRanges), ("chandlery/span.ops", Rows.laid_chandlery_span_ops), ("chandlery/dep.words", Rows.laid_chandlery_dep_words), ("unicode/utf8.first", Rows.laid_unicode_utf8_first)]
theorem own:ownKnob Tryz.prog.godebug=none:=by kernel_rfl
theorem ie7 {W:World}(h:laidMetH Tryz.prog dq7 W):∀ g,VR fd3 W (ew5 Go.Id.Tryz.ik3 g) (.pointer (some ⟨g,0,none⟩)):=by
 rw[MakeChecks.laidMetH_plain _ _ _ (by kernel_rfl)] at h;refine gf8 h Go.Id.Tryz.ik3 fun x hx=>?_
 simp only[Go.Id.Tryz.ik3,List.mem_cons,List.not_mem_nil,or_false] at hx;rcases hx with rfl|rfl
 ·refine ⟨"chandlery/dep.words", Rows.laid_chandlery_dep_words, _, 8, _, _, rfl, by simp [dq7], by kernel_rfl, rfl, by kernel_rfl⟩
 ·refine ⟨"chandlery/span.ops", Rows.laid_chandlery_span_ops, _, 8, _, _, rfl, by simp [dq7], by kernel_rfl, rfl, by kernel_rfl⟩
noncomputable def start (os : Os) : World := (World.doorLaid Tryz.prog 59 os).layVars Tryz.prog (dq7.filter fun x => ["unicode/utf8.first"].contains x.1)
noncomputable def BB : List Nat := (List.range 11).filter fun b => some b != Tryz.prog.globalNamed "unicode/utf8.first"
theorem gj5 (os:Os)(args:Array Value):laidMetH Tryz.prog dq7 ((start os).forCall (fun _ _=>0) ⟨#[],args,[]⟩).memory:=by
 rw[MakeChecks.laidMetH_plain _ _ _ (by kernel_rfl)]
 exact laidMet_layVars (w0 := World.doorLaid Tryz.prog 59 os) ["unicode/utf8.first"] BB (by simp [start,World.memory,World.forCall,Input.heap]) (by kernel_rfl) (by kernel_rfl) (LaidIn.of_run BB 8 (by kernel_rfl) (by kernel_rfl) (by kernel_rfl) (by kernel_rfl))
theorem laidOut:laidOutB Tryz.prog=true:=by kernel_rfl
theorem ie8:Tryz.prog.readableRec 22=true:=by kernel_rfl
theorem ie9:Tryz.prog.readableRec 23=true:=by kernel_rfl
theorem if1:Tryz.prog.readableRec 24=true:=by kernel_rfl
theorem gt2:Tryz.prog.readableRec 3=true:=by kernel_rfl
theorem fp8 {W:World}{v:Value}{iv:IV}{a:Option Addr}{l c:Nat}(hv:v=.slice a l c)(h:VL fd3 W [iv] v.cells.toList):VR fd3 W iv v:=by
 have:=h.get 0 (Nat.zero_lt_one);subst hv
 simpa [Value.cells] using this
theorem eh3 {W:World}{v:Value}{iv:IV}(hv:v.cells=#[v])(h:VL fd3 W [iv] v.cells.toList):VR fd3 W iv v:=by
 have:=h.get 0 (Nat.zero_lt_one);rw[hv] at this
 simpa using this
theorem fp9 {H:Type}{enc:TypeId×Value->H}{P:Program}{w:World}{base:Nat}{sp:Nat->Bool}{held:Bool}{t0 t1 t2 t3 t4:TypeId}{vs:List Value}{ds:List (DataW H)}{ps:List MemPlace}(h:DataW.TrodAll enc P w base sp held [t0,t1,t2,t3,t4] vs ds ps) :
  ∃ v0 v1 v2 v3 v4 d0 d1 d2 d3 d4 p0 p1 p2 p3 p4,vs=[v0,v1,v2,v3,v4]/\ds=[d0,d1,d2,d3,d4]/\ps=p0++(p1++(p2++(p3++(p4))))/\DataW.Trod enc P w base sp held t0 v0 d0 p0/\DataW.Trod enc P w base sp held t1 v1 d1 p1/\DataW.Trod enc P w base sp held t2 v2 d2 p2/\DataW.Trod enc P w base sp held t3 v3 d3 p3/\DataW.Trod enc P w base sp held t4 v4 d4 p4:=by
 match vs,ds,h with
 | v0 :: vs,d0::ds,⟨p0,q0,h0,g0,e0⟩=>
  match vs,ds,g0 with
  | v1 :: vs,d1::ds,⟨p1,q1,h1,g1,e1⟩=>
   match vs,ds,g1 with
   | v2::vs,d2::ds,⟨p2,q2,h2,g2,e2⟩=>
    match vs,ds,g2 with
    | v3::vs,d3::ds,⟨p3,q3,h3,g3,e3⟩=>
     match vs,ds,g3 with
     | v4::vs,d4::ds,⟨p4,q4,h4,g4,e4⟩=>
      match vs,ds,g4 with
      | [],[],hz=>
       refine ⟨v0,v1,v2,v3,v4,d0,d1,d2,d3,d4,p0,p1,p2,p3,p4,rfl,rfl,?_,h0,h1,h2,h3,h4⟩;have hz2:q4=[]:=hz;rw[e0,e1,e2,e3,e4,hz2,List.append_nil]
noncomputable def dq8:Array Value:=#[.slice none 0 0,.slice none 0 0,.slice none 0 0,.int .i64 0,.int .i64 0]
theorem hf8 (os:Os){H:Type}(enc:TypeId×Value->H):DataW.whole enc Tryz.prog ((start os).forCall (fun _ _=>0) ⟨#[],dq8,[]⟩).memory Tryz.f3.params.toList Rows.orderTellsSpec.vars false dq8.toList 8=some ([.nil,.nil,.nil,.lit (.int .i64 0),.lit (.int .i64 0)],[],[]):=by kernel_rfl
theorem iu7 (os:Os):Input.okWideB Tryz.prog ((start os).forCall (fun _ _=>0) ⟨#[],dq8,[]⟩) 3 ⟨#[],dq8,[]⟩=true:=by kernel_rfl
theorem gj6 (os:Os):((start os).forCall (fun _ _=>0) ⟨#[],dq8,[]⟩).Shaped Tryz.prog:=World.shaped_of_ZipB (by kernel_rfl) (by kernel_rfl)
theorem hf9 (os:Os){H:Type}(enc:TypeId×Value->H):(Rows.OpenSpec.upto Rows.orderTellsSpec).bare.sizedB enc Tryz.prog Tryz.f3 false ((start os).forCall (fun _ _=>0) ⟨#[],dq8,[]⟩).memory dq8 8=true:=by kernel_rfl
theorem is2 (os:Os){H:Type}(enc:TypeId×Value->H):∃ (w:World) (tape:Tape) (i:Input),w.os=os/\(w.forCall tape i).Shaped Tryz.checked.prog/\i.vars=[]/\Input.okWide Tryz.checked.prog (w.forCall tape i) .any w.heap.size 3 i /\
  (Rows.OpenSpec.upto Rows.orderTellsSpec).preRow enc Tryz.checked.prog Tryz.f3 [] false dq7 (w.forCall tape i).memory i.args/\({}:Assume).holds Tryz.checked.prog (lone (Frame.enter Tryz.checked.prog 3 i.args .normal) [] (w.forCall tape i)):=
 ⟨start os,fun _ _=>0,⟨#[],dq8,[]⟩,World.layVars_os _ _ _,gj6 os,(Input.okWide_of_okWideB (base:=0) (iu7 os)).1,(Input.okWide_of_okWideB (iu7 os)).2,
  OpenSpec.preRow_of_cond 8 (hf8 os enc) (by kernel_rfl) (fun k hk=>by cases hk; kernel_rfl) (hf9 os enc) (gj5 os _),by
  simp only[Assume.holds];exact ⟨by simp,by simp,fun _=>Modest.zero,by simp,by simp⟩⟩
theorem bd9 (H:Type)(enc:TypeId×Value->H)(W:World)(base:Nat)(args:Array Value)(ds gs:List (DataW H))(before:List MemPlace)
  (hval:∀ (j:Nat) t v,Tryz.f3.params[j]? = some t->args[j]? = some v->Value.okWide Tryz.prog W .any base t v)
  (hW:DataW.Whole enc Tryz.prog Tryz.f3.params.toList Rows.orderTellsSpec.vars false W args.toList ds gs before) (hk:Rows.uptoSmall H (ds++gs)=true)
  (hsz:(DataW.weightsEach Tryz.prog (Tryz.f3.params.toList++Rows.orderTellsSpec.plain.varTypes Tryz.prog) (ds++gs)).all (·<=reachBytes)=true) (hL:laidMetH Tryz.prog dq7 W) :
  Calls Tryz.prog 3 args W fun e W'=>∃ v,e=.returned v/\Rows.orderTellsSpec.post enc Tryz.prog Tryz.f3 false true false false W args v W':=by
 have hW':=hW;obtain ⟨p,q,hA0,hV,rfl,hfz,hnd⟩:=hW;have hA:DataW.TrodAll enc Tryz.prog W 0 (fun _=>true) true Tryz.f3.params.toList args.toList ds p:=hA0;rw[Tryz.params3] at hA hval hsz;obtain ⟨v0,v1,v2,v3,v4,d0,d1,d2,d3,d4,p0,p1,p2,p3,p4,hargs,rfl,rfl,t0,t1,t2,t3,t4⟩:=fp9 hA;have ha:args=#[v0,v1,v2,v3,v4]:=by rw[<- Array.toList_inj,hargs]
 subst ha;obtain ⟨rfl,rfl⟩:=trodVars_none hV;have hb:Rows.uptoBulkAll [d0,d1,d2,d3,d4]<=1048576:=of_decide_eq_true hk;simp only[Rows.uptoBulkAll] at hb
 have w0:WT Tryz.prog 22 d0:=fun k hk=>by
  simpa using List.all_eq_true.1 hsz k (DataW.weights_mem_each (j:=0) (t:=22) (d:=d0) rfl rfl k hk)
 obtain ⟨a0,l0,c0,e0⟩:=okWide_slice Tryz.underlying22 (hval 0 22 v0 rfl rfl);obtain ⟨n0,h0⟩:=t0;obtain ⟨xx0,ll0,kk0,gg0⟩:=Go.Id.Tryz.gl9 (enc:=enc) ⟨_,_,h0⟩ w0;have x0:=fp8 e0 (cd8 (fun b hb=>bp5 b hb) n0 n0 _ _ _ _ _ h0 (gg0 n0 (Nat.le_refl _)));have y0:=Go.Id.Tryz.cp3 _ _ _ _ (gg0 n0 (Nat.le_refl _))
 have w1:WT Tryz.prog 23 d1:=fun k hk=>by
  simpa using List.all_eq_true.1 hsz k (DataW.weights_mem_each (j:=1) (t:=23) (d:=d1) rfl rfl k hk)
 obtain ⟨a1,l1,c1,e1⟩:=okWide_slice Tryz.underlying23 (hval 1 23 v1 rfl rfl);obtain ⟨n1,h1⟩:=t1;obtain ⟨xx1,ll1,kk1,gg1⟩:=Go.Id.Tryz.ft8 (enc:=enc) ⟨_,_,h1⟩ w1;have x1:=fp8 e1 (cd8 (fun b hb=>bp5 b hb) n1 n1 _ _ _ _ _ h1 (gg1 n1 (Nat.le_refl _)));have y1:=Go.Id.Tryz.cp3 _ _ _ _ (gg1 n1 (Nat.le_refl _))
 have w2:WT Tryz.prog 24 d2:=fun k hk=>by
  simpa using List.all_eq_true.1 hsz k (DataW.weights_mem_each (j:=2) (t:=24) (d:=d2) rfl rfl k hk)
 obtain ⟨a2,l2,c2,e2⟩:=okWide_slice Tryz.underlying24 (hval 2 24 v2 rfl rfl);obtain ⟨n2,h2⟩:=t2;obtain ⟨xx2,ll2,kk2,gg2⟩:=Go.Id.Tryz.gl1 (enc:=enc) ⟨_,_,h2⟩ w2;have x2:=fp8 e2 (cd8 (fun b hb=>bp5 b hb) n2 n2 _ _ _ _ _ h2 (gg2 n2 (Nat.le_refl _)));have y2:=Go.Id.Tryz.cp3 _ _ _ _ (gg2 n2 (Nat.le_refl _))
 have w3:WT Tryz.prog 3 d3:=fun k hk=>by
  simpa using List.all_eq_true.1 hsz k (DataW.weights_mem_each (j:=3) (t:=3) (d:=d3) rfl rfl k hk)
 obtain ⟨z3,e3⟩:=okWide_int Tryz.underlying3 (hval 3 3 v3 rfl rfl);obtain ⟨n3,h3⟩:=t3;obtain ⟨xx3,gg3⟩:=Go.Id.Tryz.gt8 (enc:=enc) ⟨_,_,h3⟩ w3;have x3:=eh3 (by rw[e3]; rfl) (cd8 (fun b hb=>bp5 b hb) n3 n3 _ _ _ _ _ h3 (gg3 n3 (Nat.le_refl _)));have y3:=Go.Id.Tryz.cp3 _ _ _ _ (gg3 n3 (Nat.le_refl _))
 have w4:WT Tryz.prog 3 d4:=fun k hk=>by
  simpa using List.all_eq_true.1 hsz k (DataW.weights_mem_each (j:=4) (t:=3) (d:=d4) rfl rfl k hk)
 obtain ⟨z4,e4⟩:=okWide_int Tryz.underlying3 (hval 4 3 v4 rfl rfl);obtain ⟨n4,h4⟩:=t4;obtain ⟨xx4,gg4⟩:=Go.Id.Tryz.gt8 (enc:=enc) ⟨_,_,h4⟩ w4;have x4:=eh3 (by rw[e4]; rfl) (cd8 (fun b hb=>bp5 b hb) n4 n4 _ _ _ _ _ h4 (gg4 n4 (Nat.le_refl _)));have y4:=Go.Id.Tryz.cp3 _ _ _ _ (gg4 n4 (Nat.le_refl _));refine (gf9 (Go.Id.Tryz.dj3 xx0 xx1 xx2 xx3 xx4 (Go.Id.Tryz.is5 kk0 kk1 (by omega) (by omega)) (Go.Id.Tryz.gl2 (by omega))) (ie7 hL) ⟨rfl,fun i hi=>?_⟩).mono fun e W' ⟨he,hb⟩=>?_
 ·match i,hi with
  | 0,_=>exact x0
  | 1,_=>exact x1
  | 2,_=>exact x2
  | 3,_=>exact x3
  | 4,_=>exact x4
 subst he;have hlt:∀ x∈p0++(p1++(p2++(p3++(p4)))),x.block<W.heap.size:=fun x hx=>hW'.lt x (by simpa using hx)
 refine ⟨_,rfl,Go.Id.df4 (pa:=p0++(p1++(p2++(p3++(p4))))) (pv:=[]) hW' (fun _ _ _=>trodAll_mk1 (shut_bool (by kernel_rfl) _)) (fun sp hsp=>?_) (fun _ _=>rfl) (by simp) hb (ok_one (t:=Tryz.f3.resultTypes[0]!) (by kernel_rfl) rfl (okWide_bool_mk (by kernel_rfl) _))⟩;rw[Tryz.params3];exact ⟨p0,p1++(p2++(p3++(p4))),WideElems.Trod_stays laidOut ie8 (by decide +kernel) ⟨n0,h0⟩ (fun x hx=>hb.same (hlt x (by simp[hx]))) (fun x hx=>hsp x (by simp[hx])),⟨p1,p2++(p3++(p4)),WideElems.Trod_stays laidOut ie9 (by decide +kernel) ⟨n1,h1⟩ (fun x hx=>hb.same (hlt x (by simp[hx]))) (fun x hx=>hsp x (by simp[hx])),⟨p2,p3++(p4),WideElems.Trod_stays laidOut if1 (by decide +kernel) ⟨n2,h2⟩ (fun x hx=>hb.same (hlt x (by simp[hx]))) (fun x hx=>hsp x (by simp[hx])),⟨p3,p4,WideElems.Trod_stays laidOut gt2 (by decide +kernel) ⟨n3,h3⟩ (fun x hx=>hb.same (hlt x (by simp[hx]))) (fun x hx=>hsp x (by simp[hx])),⟨p4,[],WideElems.Trod_stays laidOut gt2 (by decide +kernel) ⟨n4,h4⟩ (fun x hx=>hb.same (hlt x (by simp[hx]))) (fun x hx=>hsp x (by simp[hx])),rfl,by simp⟩,rfl⟩,rfl⟩,rfl⟩,rfl⟩
theorem bh6 (os:Os)(started:os.Started)(H:Type)(enc:TypeId×Value->H)(F:Stop.Interp) :
  ReturnsInHanded {} Tryz.checked os 3 .any ((Rows.OpenSpec.upto Rows.orderTellsSpec).preRow enc Tryz.prog Tryz.f3 [] false dq7) (((Rows.OpenSpec.upto Rows.orderTellsSpec).at F).post enc Tryz.prog Tryz.f3 false true false false):=by
 refine returnsInHanded_of_row (C:=Tryz.checked) (s:=Rows.OpenSpec.upto Rows.orderTellsSpec) own started (by kernel_rfl) Tryz.func3 (is2 os enc) ?_;intro W base args ds gs before hval hW _ hcond hsz hL _ _;exact bd9 H enc W base args ds gs before hval hW (hcond _ rfl) hsz hL
end Go.Proofs.YtihiokikiejcpaaGreatDoor
