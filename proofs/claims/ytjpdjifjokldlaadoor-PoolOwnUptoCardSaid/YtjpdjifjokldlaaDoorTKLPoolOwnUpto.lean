/- PoolOwnUpto,within the bound: what its contract gives. Conditions: none. -/
import Derived.Test.YtjpdjifjokldlaaDoorTKQJ
import Derived.Test.YtjpdjifjokldlaaDoorRows
import Derived.Test.YtjpdjifjokldlaaDoorTie
import Derived.Test.YtjpdjifjokldlaaDoorCards
import Derived.ProofKit
import Derived.LaidMore
import Derived.Lay
import Derived.OpenShut
import Derived.Carry
import Derived.Stop.Joined
import Derived.SevenTiedAt
import Derived.JoinedCond
import Derived.Deep.DeepHandedRow
set_option linter.all false
namespace Go.Proofs.YtjpdjifjokldlaaDoor
open Go Go.Id Go.Proofs Go.ChangeShapes Go.WideShapes Go.ChangeAt Go.WideMaps Go.WideElems Go.RowKit
set_option maxRecDepth 100000
def dh6 : List (String × DataW Unit) := [("chandlery/span.ops", Rows.laid_chandlery_span_ops), ("chandlery/dep.words", Rows.laid_chandlery_dep_words)]
theorem own:ownKnob Tryd.prog.godebug=none:=by kernel_rfl
theorem hh2 {W:World}(h:laidMetH Tryd.prog dh6 W):∀ g,VR fj3 W (el7 Go.Id.Tryd.ho7 g) (.pointer (some ⟨g,0,none⟩)):=by
 rw[MakeChecks.laidMetH_plain _ _ _ (by kernel_rfl)] at h;refine ft3 h Go.Id.Tryd.ho7 fun x hx=>?_
 simp only[Go.Id.Tryd.ho7,List.mem_cons,List.not_mem_nil,or_false] at hx;rcases hx with rfl|rfl
 ·refine ⟨"chandlery/dep.words", Rows.laid_chandlery_dep_words, _, 8, _, _, rfl, by simp [dh6], by kernel_rfl, rfl, by kernel_rfl⟩
 ·refine ⟨"chandlery/span.ops", Rows.laid_chandlery_span_ops, _, 8, _, _, rfl, by simp [dh6], by kernel_rfl, rfl, by kernel_rfl⟩
noncomputable def start (os : Os) : World := (World.doorLaid Tryd.prog 49 os).layVars Tryd.prog (dh6.filter fun x => ["unicode/utf8.first"].contains x.1)
noncomputable def BB : List Nat := (List.range 9).filter fun b => some b != Tryd.prog.globalNamed "unicode/utf8.first"
theorem fu8 (os:Os)(args:Array Value):laidMetH Tryd.prog dh6 ((start os).forCall (fun _ _=>0) ⟨#[],args,[]⟩).memory:=by
 rw[MakeChecks.laidMetH_plain _ _ _ (by kernel_rfl)]
 exact laidMet_layVars (w0 := World.doorLaid Tryd.prog 49 os) ["unicode/utf8.first"] BB (by simp [start,World.memory,World.forCall,Input.heap]) (by kernel_rfl) (by kernel_rfl) (LaidIn.of_run BB 8 (by kernel_rfl) (by kernel_rfl) (by kernel_rfl) (by kernel_rfl))
theorem laidOut:laidOutB Tryd.prog=true:=by kernel_rfl
theorem en4:Tryd.prog.readableRec 22=true:=by kernel_rfl
theorem ff2:Tryd.prog.readableRec 23=true:=by kernel_rfl
theorem gd4 {W:World}{v:Value}{iv:IV}{a:Option Addr}{l c:Nat}(hv:v=.slice a l c)(h:VL fj3 W [iv] v.cells.toList):VR fj3 W iv v:=by
 have:=h.get 0 (Nat.zero_lt_one);subst hv
 simpa [Value.cells] using this
theorem dh7 {H:Type}{enc:TypeId×Value→H}{P:Program}{w:World}{base:Nat}{sp:Nat→Bool}{held:Bool}{t t':TypeId}{vs:List Value}{ds:List (DataW H)}{ps:List MemPlace}(h:DataW.TrodAll enc P w base sp held [t,t'] vs ds ps) :
  ∃ v v' d d' p p',vs=[v,v']∧ds=[d,d']∧ps=p++p'∧DataW.Trod enc P w base sp held t v d p∧DataW.Trod enc P w base sp held t' v' d' p':=by
 match vs,ds,h with
 | v::vs,d::ds,⟨p,q,h1,h2,e⟩=>
  match vs,ds,h2 with
  | v'::vs,d'::ds,⟨p',q',h3,h4,e'⟩=>
   match vs,ds,h4 with
   | [],[],h5=>
    refine ⟨v,v',d,d',p,p',rfl,rfl,?_,h1,h3⟩;have h6:q'=[]:=h5;rw[e,e',h6,List.append_nil]
noncomputable def dh8:Array Value:=#[.slice none 0 0,.slice none 0 0]
theorem go2 (os:Os){H:Type}(enc:TypeId×Value→H):DataW.whole enc Tryd.prog ((start os).forCall (fun _ _=>0) ⟨#[],dh8,[]⟩).memory Tryd.f3.params.toList Rows.poolOwnSpec.vars false dh8.toList 8=some ([.nil,.nil],[],[]):=by kernel_rfl
theorem ik1 (os:Os):Input.okWideB Tryd.prog ((start os).forCall (fun _ _=>0) ⟨#[],dh8,[]⟩) 3 ⟨#[],dh8,[]⟩=true:=by kernel_rfl
theorem fu9 (os:Os):((start os).forCall (fun _ _=>0) ⟨#[],dh8,[]⟩).Shaped Tryd.prog:=World.shaped_of_ZipB (by kernel_rfl) (by kernel_rfl)
theorem go3 (os:Os){H:Type}(enc:TypeId×Value→H):(Rows.OpenSpec.upto Rows.poolOwnSpec).bare.sizedB enc Tryd.prog Tryd.f3 false ((start os).forCall (fun _ _=>0) ⟨#[],dh8,[]⟩).memory dh8 8=true:=by kernel_rfl
theorem ie5 (os:Os){H:Type}(enc:TypeId×Value→H):∃ (w:World) (tape:Tape) (i:Input),w.os=os∧(w.forCall tape i).Shaped Tryd.checked.prog∧i.vars=[]∧Input.okWide Tryd.checked.prog (w.forCall tape i) .any w.heap.size 3 i ∧
  (Rows.OpenSpec.upto Rows.poolOwnSpec).preRow enc Tryd.checked.prog Tryd.f3 [] false dh6 (w.forCall tape i).memory i.args∧({}:Assume).holds Tryd.checked.prog (lone (Frame.enter Tryd.checked.prog 3 i.args .normal) [] (w.forCall tape i)):=
 ⟨start os,fun _ _=>0,⟨#[],dh8,[]⟩,World.layVars_os _ _ _,fu9 os,(Input.okWide_of_okWideB (base:=0) (ik1 os)).1,(Input.okWide_of_okWideB (ik1 os)).2,
  OpenSpec.preRow_of_cond 8 (go2 os enc) (by kernel_rfl) (fun k hk=>by cases hk; kernel_rfl) (go3 os enc) (fu8 os _),by
  simp only[Assume.holds];exact ⟨by simp,by simp,fun _=>Modest.zero,by simp,by simp⟩⟩
theorem bh5 (H:Type)(enc:TypeId×Value→H)(W:World)(base:Nat)(args:Array Value)(ds gs:List (DataW H))(before:List MemPlace)
  (hval:∀ (j:Nat) t v,Tryd.f3.params[j]? = some t→args[j]? = some v→Value.okWide Tryd.prog W .any base t v)
  (hW:DataW.Whole enc Tryd.prog Tryd.f3.params.toList Rows.poolOwnSpec.vars false W args.toList ds gs before) (hk:Rows.uptoSmall H (ds++gs)=true)
  (hsz:(DataW.weightsEach Tryd.prog (Tryd.f3.params.toList++Rows.poolOwnSpec.plain.varTypes Tryd.prog) (ds++gs)).all (·≤reachBytes)=true) (hL:laidMetH Tryd.prog dh6 W) :
  Calls Tryd.prog 3 args W fun e W'=>∃ v,e=.returned v∧Rows.poolOwnSpec.post enc Tryd.prog Tryd.f3 false true false false W args v W':=by
 have hW':=hW;obtain ⟨p,q,hA0,hV,rfl,hfz,hnd⟩:=hW;have hA:DataW.TrodAll enc Tryd.prog W 0 (fun _=>true) true Tryd.f3.params.toList args.toList ds p:=hA0;rw[Tryd.params3] at hA hval hsz;obtain ⟨v,v',d,d',p1,p2,hargs,rfl,rfl,t1,t2⟩:=dh7 hA;have ha:args=#[v,v']:=by rw[← Array.toList_inj,hargs]
 subst ha;obtain ⟨rfl,rfl⟩:=trodVars_none hV;have hb:Rows.uptoBulkAll [d,d']≤1048576:=of_decide_eq_true hk;simp only[Rows.uptoBulkAll] at hb
 have w1:WT Tryd.prog 22 d:=fun k hk=>by
  simpa using List.all_eq_true.1 hsz k (DataW.weights_mem_each (j:=0) (t:=22) (d:=d) rfl rfl k hk)
 have w2:WT Tryd.prog 23 d':=fun k hk=>by
  simpa using List.all_eq_true.1 hsz k (DataW.weights_mem_each (j:=1) (t:=23) (d:=d') rfl rfl k hk)
 obtain ⟨a1,l1,c1,e1⟩:=okWide_slice Tryd.underlying22 (hval 0 22 v rfl rfl);obtain ⟨a2,l2,c2,e2⟩:=okWide_slice Tryd.underlying23 (hval 1 23 v' rfl rfl);obtain ⟨n1,h1⟩:=t1;obtain ⟨n2,h2⟩:=t2;obtain ⟨repos,r1,r2,r3⟩:=Go.Id.Tryd.fw7 (enc:=enc) ⟨_,_,h1⟩ w1;obtain ⟨inst,i1,i2,i3⟩:=Go.Id.Tryd.fi2 (enc:=enc) ⟨_,_,h2⟩ w2;have x1:=gd4 e1 (dp2 (fun b hb=>cx3 b hb) n1 n1 _ _ _ _ _ h1 (r3 n1 (Nat.le_refl _)));have x2:=gd4 e2 (dp2 (fun b hb=>cx3 b hb) n2 n2 _ _ _ _ _ h2 (i3 n2 (Nat.le_refl _)));have y1:=Go.Id.Tryd.fi3 _ _ _ _ (r3 n1 (Nat.le_refl _));have y2:=Go.Id.Tryd.fi3 _ _ _ _ (i3 n2 (Nat.le_refl _));refine (ft4 (Go.Id.Tryd.en3 repos inst (Go.Id.Tryd.if4 r2 i2 (by omega) (by omega))) (hh2 hL) ⟨rfl,fun i hi=>?_⟩).mono fun e W' ⟨he,hb⟩=>?_
 ·match i,hi with
  | 0,_=>exact x1
  | 1,_=>exact x2
 subst he;have hlt:∀ x∈p1++p2,x.block<W.heap.size:=fun x hx=>hW'.lt x (by simpa using hx)
 refine ⟨_,rfl,Go.Id.cx4 (pa:=p1++p2) (pv:=[]) hW' (fun _ _ _=>trodAll_mk1 (shut_bool (by kernel_rfl) _)) (fun sp hsp=>?_) (fun _ _=>rfl) (by simp) hb (ok_one (t:=Tryd.f3.resultTypes[0]!) (by kernel_rfl) rfl (okWide_bool_mk (by kernel_rfl) _))⟩;rw[Tryd.params3]
 exact ⟨p1,p2,WideElems.Trod_stays laidOut en4 (by decide +kernel) ⟨n1,h1⟩ (fun x hx=>hb.same (hlt x (List.mem_append_left _ hx))) (fun x hx=>hsp x (by simp[hx])),
  ⟨p2,[],WideElems.Trod_stays laidOut ff2 (by decide +kernel) ⟨n2,h2⟩ (fun x hx=>hb.same (hlt x (List.mem_append_right _ hx))) (fun x hx=>hsp x (by simp[hx])),rfl,by simp⟩,rfl⟩
theorem bo3 (os:Os)(started:os.Started)(H:Type)(enc:TypeId×Value→H)(F:Stop.Interp) :
  ReturnsInHanded {} Tryd.checked os 3 .any ((Rows.OpenSpec.upto Rows.poolOwnSpec).preRow enc Tryd.prog Tryd.f3 [] false dh6) (((Rows.OpenSpec.upto Rows.poolOwnSpec).at F).post enc Tryd.prog Tryd.f3 false true false false):=by
 refine returnsInHanded_of_row (C:=Tryd.checked) (s:=Rows.OpenSpec.upto Rows.poolOwnSpec) own started (by kernel_rfl) Tryd.func3 (ie5 os enc) ?_;intro W base args ds gs before hval hW _ hcond hsz hL _ _;exact bh5 H enc W base args ds gs before hval hW (hcond _ rfl) hsz hL
end Go.Proofs.YtjpdjifjokldlaaDoor
