/- PoolByNameUpto,within the bound: what its contract gives. Conditions: none. -/
import Derived.Test.YtiallonafbejaaaGreatDoorTURF
import Derived.Test.YtiallonafbejaaaGreatDoorTUQJ
import Derived.Test.YtiallonafbejaaaGreatDoorRows
import Derived.Test.YtiallonafbejaaaGreatDoorTie
import Derived.Test.YtiallonafbejaaaGreatDoorCards
import Derived.ProofKit
import Derived.LaidMore
import Derived.Lay
import Derived.OpenShut
import Derived.Carry
import Derived.Stop.Joined
import Derived.SevenTiedAt
import Derived.JoinedCond
import Derived.Deep.DeepHandedRow
set_option linter.all false
namespace Go.Proofs.YtiallonafbejaaaGreatDoor
open Go Go.Id Go.Proofs Go.ChangeShapes Go.WideShapes Go.ChangeAt Go.WideMaps Go.WideElems Go.RowKit
set_option maxRecDepth 100000
def laidZ : List (String × DataW Unit) := [("unicode/utf8.acceptRanges", Rows.laid_unicode_utf8_acceptRanges), ("chandlery/span.ops", Rows.laid_chandlery_span_ops), ("chandlery/dep.words", Rows.laid_chandlery_dep_words), ("unicode/utf8.first", Rows.laid_unicode_utf8_first)]
theorem own : ownKnob Tryz.prog.godebug=none:=by kernel_rfl
theorem env_ok {W : World} (h : laidMetH Tryz.prog laidZ W) : ∀ g,VR rho0 W (envOf Go.Id.Tryz.envL g) (.pointer (some ⟨g,0,none⟩)):=by
 rw [MakeChecks.laidMetH_plain _ _ _ (by kernel_rfl)] at h
 refine laid_env h Go.Id.Tryz.envL fun x hx => ?_
 simp only [Go.Id.Tryz.envL,List.mem_cons,List.not_mem_nil,or_false] at hx
 rcases hx with rfl | rfl
 ·refine ⟨"chandlery/dep.words", Rows.laid_chandlery_dep_words, _, 8, _, _, rfl, by simp [laidZ], by kernel_rfl, rfl, by kernel_rfl⟩
 ·refine ⟨"chandlery/span.ops", Rows.laid_chandlery_span_ops, _, 8, _, _, rfl, by simp [laidZ], by kernel_rfl, rfl, by kernel_rfl⟩
noncomputable def start (os : Os) : World := (World.doorLaid Tryz.prog 70 os).layVars Tryz.prog (laidZ.filter fun x => ["unicode/utf8.first"].contains x.1)
noncomputable def BB : List Nat := (List.range 12).filter fun b => some b != Tryz.prog.globalNamed "unicode/utf8.first"
theorem door_met (os : Os) (args : Array Value) : laidMetH Tryz.prog laidZ ((start os).forCall (fun _ _ => 0) ⟨#[],args,[]⟩).memory:=by
 rw [MakeChecks.laidMetH_plain _ _ _ (by kernel_rfl)]
 exact laidMet_layVars (w0 := World.doorLaid Tryz.prog 70 os) ["unicode/utf8.first"] BB (by simp [start, World.memory, World.forCall, Input.heap]) (by kernel_rfl) (by kernel_rfl) (LaidIn.of_run BB 8 (by kernel_rfl) (by kernel_rfl) (by kernel_rfl) (by kernel_rfl))
theorem laidOut : laidOutB Tryz.prog=true:=by kernel_rfl
theorem read_repos : Tryz.prog.readableRec 22=true:=by kernel_rfl
theorem read_pkgs : Tryz.prog.readableRec 23=true:=by kernel_rfl
theorem one_vr {W : World} {v : Value} {iv : IV} {a : Option Addr} {l c : Nat} (hv : v=.slice a l c) (h : VL rho0 W [iv] v.cells.toList) : VR rho0 W iv v:=by
 have:=h.get 0 (Nat.zero_lt_one)
 subst hv
 simpa [Value.cells] using this
theorem trodAll_pair {H : Type} {enc : TypeId × Value→H} {P : Program} {w : World} {base : Nat} {sp : Nat→Bool} {held : Bool} {t t' : TypeId} {vs : List Value} {ds : List (DataW H)} {ps : List MemPlace} (h : DataW.TrodAll enc P w base sp held [t,t'] vs ds ps) :
  ∃ v v' d d' p p',vs=[v,v']∧ds=[d,d']∧ps=p ++ p'∧DataW.Trod enc P w base sp held t v d p∧DataW.Trod enc P w base sp held t' v' d' p':=by
 match vs,ds,h with
 | v :: vs,d :: ds,⟨p,q,h1,h2,e⟩ =>
  match vs,ds,h2 with
  | v' :: vs,d' :: ds,⟨p',q',h3,h4,e'⟩ =>
   match vs,ds,h4 with
   | [],[],h5 =>
    refine ⟨v,v',d,d',p,p',rfl,rfl,?_,h1,h3⟩
    have h6 : q'=[]:=h5
    rw [e,e',h6,List.append_nil]
noncomputable def wargs : Array Value:=#[.slice none 0 0,.slice none 0 0]
theorem w_reads (os : Os) {H : Type} (enc : TypeId × Value→H) : DataW.whole enc Tryz.prog ((start os).forCall (fun _ _ => 0) ⟨#[],wargs,[]⟩).memory Tryz.f3.params.toList Rows.poolByNameSpec.vars false wargs.toList 8=some ([.nil,.nil],[],[]):=by kernel_rfl
theorem w_ok (os : Os) : Input.okWideB Tryz.prog ((start os).forCall (fun _ _ => 0) ⟨#[],wargs,[]⟩) 3 ⟨#[],wargs,[]⟩=true:=by kernel_rfl
theorem w_shaped (os : Os) : ((start os).forCall (fun _ _ => 0) ⟨#[],wargs,[]⟩).Shaped Tryz.prog:=World.shaped_of_ZipB (by kernel_rfl) (by kernel_rfl)
theorem w_sized (os : Os) {H : Type} (enc : TypeId × Value→H) : (Rows.OpenSpec.upto Rows.poolByNameSpec).bare.sizedB enc Tryz.prog Tryz.f3 false ((start os).forCall (fun _ _ => 0) ⟨#[],wargs,[]⟩).memory wargs 8=true:=by kernel_rfl
theorem w_all (os : Os) {H : Type} (enc : TypeId × Value→H) : ∃ (w : World) (tape : Tape) (i : Input),w.os=os∧(w.forCall tape i).Shaped Tryz.checked.prog∧i.vars=[]∧Input.okWide Tryz.checked.prog (w.forCall tape i) .any w.heap.size 3 i ∧
  (Rows.OpenSpec.upto Rows.poolByNameSpec).preRow enc Tryz.checked.prog Tryz.f3 [] false laidZ (w.forCall tape i).memory i.args∧({} : Assume).holds Tryz.checked.prog (lone (Frame.enter Tryz.checked.prog 3 i.args .normal) [] (w.forCall tape i)) :=
 ⟨start os,fun _ _ => 0,⟨#[],wargs,[]⟩,World.layVars_os _ _ _,w_shaped os,(Input.okWide_of_okWideB (base:=0) (w_ok os)).1,(Input.okWide_of_okWideB (w_ok os)).2,
  OpenSpec.preRow_of_cond 8 (w_reads os enc) (by kernel_rfl) (fun k hk => by cases hk; kernel_rfl) (w_sized os enc) (door_met os _),by
  simp only [Assume.holds]
  exact ⟨by simp,by simp,fun _ => Modest.zero,by simp,by simp⟩⟩
theorem poolByNameUpto_contract (H : Type) (enc : TypeId × Value→H) (W : World) (base : Nat) (args : Array Value) (ds gs : List (DataW H)) (before : List MemPlace)
  (hval : ∀ (j : Nat) t v,Tryz.f3.params[j]? = some t→args[j]? = some v→Value.okWide Tryz.prog W .any base t v)
  (hW : DataW.Whole enc Tryz.prog Tryz.f3.params.toList Rows.poolByNameSpec.vars false W args.toList ds gs before) (hk : Rows.uptoSmall H (ds ++ gs)=true)
  (hsz : (DataW.weightsEach Tryz.prog (Tryz.f3.params.toList ++ Rows.poolByNameSpec.plain.varTypes Tryz.prog) (ds ++ gs)).all (·≤reachBytes)=true) (hL : laidMetH Tryz.prog laidZ W) :
  Calls Tryz.prog 3 args W fun e W' => ∃ v,e=.returned v∧Rows.poolByNameSpec.post enc Tryz.prog Tryz.f3 false true false false W args v W':=by
 have hW':=hW
 obtain ⟨p,q,hA0,hV,rfl,hfz,hnd⟩:=hW
 have hA : DataW.TrodAll enc Tryz.prog W 0 (fun _ => true) true Tryz.f3.params.toList args.toList ds p:=hA0
 rw [Tryz.params3] at hA hval hsz
 obtain ⟨v,v',d,d',p1,p2,hargs,rfl,rfl,t1,t2⟩:=trodAll_pair hA
 have ha : args=#[v,v']:=by rw [← Array.toList_inj,hargs]
 subst ha
 obtain ⟨rfl,rfl⟩:=trodVars_none hV
 have hb : Rows.uptoBulkAll [d,d']≤1048576:=of_decide_eq_true hk
 simp only [Rows.uptoBulkAll] at hb
 have w1 : WT Tryz.prog 22 d:=fun k hk => by
  simpa using List.all_eq_true.1 hsz k (DataW.weights_mem_each (j:=0) (t:=22) (d:=d) rfl rfl k hk)
 have w2 : WT Tryz.prog 23 d':=fun k hk => by
  simpa using List.all_eq_true.1 hsz k (DataW.weights_mem_each (j:=1) (t:=23) (d:=d') rfl rfl k hk)
 obtain ⟨a1,l1,c1,e1⟩:=okWide_slice Tryz.underlying22 (hval 0 22 v rfl rfl)
 obtain ⟨a2,l2,c2,e2⟩:=okWide_slice Tryz.underlying23 (hval 1 23 v' rfl rfl)
 obtain ⟨n1,h1⟩:=t1
 obtain ⟨n2,h2⟩:=t2
 obtain ⟨repos,r1,r2,r3⟩:=Go.Id.Tryz.rd_repos (enc:=enc) ⟨_,_,h1⟩ w1
 obtain ⟨inst,i1,i2,i3⟩:=Go.Id.Tryz.rd_pkgs (enc:=enc) ⟨_,_,h2⟩ w2
 have x1:=one_vr e1 (trod_vr (fun b hb => rho0_fb b hb) n1 n1 _ _ _ _ _ h1 (r3 n1 (Nat.le_refl _)))
 have x2:=one_vr e2 (trod_vr (fun b hb => rho0_fb b hb) n2 n2 _ _ _ _ _ h2 (i3 n2 (Nat.le_refl _)))
 have y1:=Go.Id.Tryz.bulk_dv _ _ _ _ (r3 n1 (Nat.le_refl _))
 have y2:=Go.Id.Tryz.bulk_dv _ _ _ _ (i3 n2 (Nat.le_refl _))
 refine (calls_PC (Go.Id.Tryz.poolByName_pc repos inst (Go.Id.Tryz.in_ok r2 i2 (by omega) (by omega))) (env_ok hL) ⟨rfl,fun i hi => ?_⟩).mono fun e W' ⟨he,hb⟩ => ?_
 ·match i,hi with
  | 0,_ => exact x1
  | 1,_ => exact x2
 subst he
 have hlt : ∀ x∈p1 ++ p2,x.block < W.heap.size:=fun x hx => hW'.lt x (by simpa using hx)
 refine ⟨_,rfl,Go.Id.post_of_below (pa:=p1 ++ p2) (pv:=[]) hW' (fun _ _ _ => trodAll_mk1 (shut_bool (by kernel_rfl) _)) (fun sp hsp => ?_) (fun _ _ => rfl) (by simp) hb (ok_one (t:=Tryz.f3.resultTypes[0]!) (by kernel_rfl) rfl (okWide_bool_mk (by kernel_rfl) _))⟩
 rw [Tryz.params3]
 exact ⟨p1,p2,WideElems.Trod_stays laidOut read_repos (by decide +kernel) ⟨n1,h1⟩ (fun x hx => hb.same (hlt x (List.mem_append_left _ hx))) (fun x hx => hsp x (by simp [hx])),
  ⟨p2,[],WideElems.Trod_stays laidOut read_pkgs (by decide +kernel) ⟨n2,h2⟩ (fun x hx => hb.same (hlt x (List.mem_append_right _ hx))) (fun x hx => hsp x (by simp [hx])),rfl,by simp⟩,rfl⟩
theorem poolByNameUpto_lifted (os : Os) (started : os.Started) (H : Type) (enc : TypeId × Value→H) (F : Stop.Interp) :
  ReturnsInHanded {} Tryz.checked os 3 .any ((Rows.OpenSpec.upto Rows.poolByNameSpec).preRow enc Tryz.prog Tryz.f3 [] false laidZ) (((Rows.OpenSpec.upto Rows.poolByNameSpec).at F).post enc Tryz.prog Tryz.f3 false true false false):=by
 refine returnsInHanded_of_row (C:=Tryz.checked) (s:=Rows.OpenSpec.upto Rows.poolByNameSpec) own started (by kernel_rfl) Tryz.func3 (w_all os enc) ?_
 intro W base args ds gs before hval hW _ hcond hsz hL _ _
 exact poolByNameUpto_contract H enc W base args ds gs before hval hW (hcond _ rfl) hsz hL
end Go.Proofs.YtiallonafbejaaaGreatDoor
