/- The seat's rows over repositories and packages: from a contract of a law to its row. Conditions: none. -/
import Derived.Test.YtiallonafbejaaaDoorTXPK
import Derived.Test.YtiallonafbejaaaDoorTXTP
import Derived.Test.YtiallonafbejaaaDoorRows
import Derived.Test.YtiallonafbejaaaDoorTie
import Derived.Test.YtiallonafbejaaaDoorCards
import Derived.ProofKit
import Derived.LaidMore
import Derived.Lay
import Derived.OpenShut
import Derived.Carry
import Derived.Stop.Joined
import Derived.SevenTiedAt
set_option linter.all false
namespace Go.Proofs.YtiallonafbejaaaDoor
open Go Go.Id Go.Proofs Go.ChangeShapes Go.WideShapes Go.ChangeAt Go.WideMaps Go.WideElems Go.RowKit
set_option maxRecDepth 100000
def laidD : List (String × DataW Unit) := [("chandlery/span.ops", Rows.laid_chandlery_span_ops), ("chandlery/dep.words", Rows.laid_chandlery_dep_words)]
theorem own : ownKnob Tryd.prog.godebug=none:=by kernel_rfl
theorem env_ok {W : World} (h : laidMetH Tryd.prog laidD W) : ∀ g,VR rho0 W (envOf Go.Id.Tryd.envL g) (.pointer (some ⟨g,0,none⟩)):=by
 rw [MakeChecks.laidMetH_plain _ _ _ (by kernel_rfl)] at h
 refine laid_env h Go.Id.Tryd.envL fun x hx => ?_
 simp only [Go.Id.Tryd.envL,List.mem_cons,List.not_mem_nil,or_false] at hx
 rcases hx with rfl | rfl
 ·refine ⟨"chandlery/dep.words", Rows.laid_chandlery_dep_words, _, 8, _, _, rfl, by simp [laidD], by kernel_rfl, rfl, by kernel_rfl⟩
 ·refine ⟨"chandlery/span.ops", Rows.laid_chandlery_span_ops, _, 8, _, _, rfl, by simp [laidD], by kernel_rfl, rfl, by kernel_rfl⟩
theorem door_met (os : Os) (args : Array Value) : laidMetH Tryd.prog laidD ((World.doorLaid Tryd.prog 49 os).forCall (fun _ _ => 0) ⟨#[],args,[]⟩).memory:=by
 exact laidMetH_of_parts3 (fuel:=8) (laidMet_of_run' 8 (by kernel_rfl) (by kernel_rfl)) (by kernel_rfl) (by kernel_rfl)
theorem laidOut : laidOutB Tryd.prog=true:=by kernel_rfl
theorem read_repos : Tryd.prog.readableRec 22=true:=by kernel_rfl
theorem read_pkgs : Tryd.prog.readableRec 23=true:=by kernel_rfl
theorem one_vr {W : World} {v : Value} {iv : IV} {a : Option Addr} {l c : Nat} (hv : v=.slice a l c) (h : VL rho0 W [iv] v.cells.toList) : VR rho0 W iv v:=by
 have:=h.get 0 (Nat.zero_lt_one)
 subst hv
 simpa [Value.cells] using this
theorem trodAll_pair {H : Type} {enc : TypeId × Value→H} {P : Program} {w : World} {base : Nat} {sp : Nat→Bool} {held : Bool} {t t' : TypeId} {vs : List Value} {ds : List (DataW H)} {ps : List MemPlace} (h : DataW.TrodAll enc P w base sp held [t,t'] vs ds ps) :
  ∃ v v' d d' p p',vs=[v,v']∧ds=[d,d']∧ps=p ++ p'∧DataW.Trod enc P w base sp held t v d p∧DataW.Trod enc P w base sp held t' v' d' p':=by
 match vs,ds,h with
 | v :: vs,d :: ds,⟨p,q,h1,h2,e⟩ =>
  match vs,ds,h2 with
  | v' :: vs,d' :: ds,⟨p',q',h3,h4,e'⟩ =>
   match vs,ds,h4 with
   | [],[],h5 =>
    refine ⟨v,v',d,d',p,p',rfl,rfl,?_,h1,h3⟩
    have h6 : q'=[]:=h5
    rw [e,e',h6,List.append_nil]
theorem poolLess_lifted (os : Os) (started : os.Started) (H : Type) (enc : TypeId × Value→H) :
  ReturnsInHanded {} Tryd.checked os 3 .any (fun w args => (Rows.poolLessSpec.pre enc Tryd.prog Tryd.f3 [] false w args∧laidMetH Tryd.prog laidD w)∧sizedMet enc Tryd.prog Tryd.f3 (OpenSpec.ofChange Rows.poolLessSpec) false w args)
   (Rows.poolLessSpec.post enc Tryd.prog Tryd.f3 false true false false):=by
 refine returnsInHanded_of_change_and (C:=Tryd.checked) (X:=fun w _ => laidMetH Tryd.prog laidD w) (fun _ _ _ hh h => h.of_heap hh) own started (by kernel_rfl) Tryd.func3
  (ChangeSpec.witness_shaped (enc:=enc) (C:=Tryd.checked) (os:=os) (X:=fun w _ => laidMetH Tryd.prog laidD w) false (World.doorLaid Tryd.prog 49 os) #[.slice none 0 0,.slice none 0 0] 8 rfl (World.shaped_of_ZipB (by kernel_rfl) (by kernel_rfl)) (by kernel_rfl) (by kernel_rfl) (by kernel_rfl) (door_met os _)) ?_
 intro W base args ds gs before hval0 hW _ hsz0 hL _
 have hval : ∀ (j : Nat) t v,Tryd.f3.params[j]? = some t→args[j]? = some v→Value.okWide Tryd.prog W .any base t v:=hval0
 have hsz : (DataW.weightsEach Tryd.prog (Tryd.f3.params.toList ++ Rows.poolLessSpec.plain.varTypes Tryd.prog) (ds ++ gs)).all (·≤reachBytes)=true:=hsz0
 have hW':=hW
 obtain ⟨p,q,hA0,hV,rfl,hfz,hnd⟩:=hW
 have hA : DataW.TrodAll enc Tryd.prog W 0 (fun _ => true) true Tryd.f3.params.toList args.toList ds p:=hA0
 rw [Tryd.params3] at hA hval hsz
 obtain ⟨v,v',d,d',p1,p2,hargs,rfl,rfl,t1,t2⟩:=trodAll_pair hA
 have ha : args=#[v,v']:=by rw [← Array.toList_inj,hargs]
 subst ha
 obtain ⟨rfl,rfl⟩:=trodVars_none hV
 have w1 : WT Tryd.prog 22 d:=fun k hk => by
  simpa using List.all_eq_true.1 hsz k (DataW.weights_mem_each (j:=0) (t:=22) (d:=d) rfl rfl k hk)
 have w2 : WT Tryd.prog 23 d':=fun k hk => by
  simpa using List.all_eq_true.1 hsz k (DataW.weights_mem_each (j:=1) (t:=23) (d:=d') rfl rfl k hk)
 obtain ⟨a1,l1,c1,e1⟩:=okWide_slice Tryd.underlying22 (hval 0 22 v rfl rfl)
 obtain ⟨a2,l2,c2,e2⟩:=okWide_slice Tryd.underlying23 (hval 1 23 v' rfl rfl)
 obtain ⟨n1,h1⟩:=t1
 obtain ⟨n2,h2⟩:=t2
 obtain ⟨repos,r1,r2,r3⟩:=Go.Id.Tryd.rd_repos (enc:=enc) ⟨_,_,h1⟩ w1
 obtain ⟨inst,i1,i2,i3⟩:=Go.Id.Tryd.rd_pkgs (enc:=enc) ⟨_,_,h2⟩ w2
 have x1:=one_vr e1 (trod_vr (fun b hb => rho0_fb b hb) n1 n1 _ _ _ _ _ h1 (r3 n1 (Nat.le_refl _)))
 have x2:=one_vr e2 (trod_vr (fun b hb => rho0_fb b hb) n2 n2 _ _ _ _ _ h2 (i3 n2 (Nat.le_refl _)))
 refine (calls_PC (Go.Id.Tryd.poolLess_pc repos inst r1 i1 r2 i2) (env_ok hL) ⟨rfl,fun i hi => ?_⟩).mono fun e W' ⟨he,hb⟩ => ?_
 ·match i,hi with
  | 0,_ => exact x1
  | 1,_ => exact x2
 subst he
 have hlt : ∀ x∈p1 ++ p2,x.block < W.heap.size:=fun x hx => hW'.lt x (by simpa using hx)
 refine ⟨_,rfl,Go.Id.post_of_below (pa:=p1 ++ p2) (pv:=[]) hW' (fun _ _ _ => trodAll_mk1 (shut_bool (by kernel_rfl) _)) (fun sp hsp => ?_) (fun _ _ => rfl) (by simp) hb (ok_one (t:=Tryd.f3.resultTypes[0]!) (by kernel_rfl) rfl (okWide_bool_mk (by kernel_rfl) _))⟩
 rw [Tryd.params3]
 exact ⟨p1,p2,WideElems.Trod_stays laidOut read_repos (by decide +kernel) ⟨n1,h1⟩ (fun x hx => hb.same (hlt x (List.mem_append_left _ hx))) (fun x hx => hsp x (by simp [hx])),
  ⟨p2,[],WideElems.Trod_stays laidOut read_pkgs (by decide +kernel) ⟨n2,h2⟩ (fun x hx => hb.same (hlt x (List.mem_append_right _ hx))) (fun x hx => hsp x (by simp [hx])),rfl,by simp⟩,rfl⟩
theorem poolLess_said : Rows.PoolLessSaid :=
 OpenClaim.holds_of_wide 3 Tryd.f3 rfl rfl rfl rfl rfl rfl rfl ⟨rfl,rfl,rfl,rfl,rfl⟩ rfl rfl rfl rfl rfl (by kernel_rfl) Tryd.func3 (by kernel_rfl)
  (of_decide_eq_true (by kernel_rfl)) (by unfold Func.isWrapper; first | (rw [if_pos (by decide +kernel)]; kernel_rfl) | (rw [if_neg (by decide +kernel)]; exact ⟨rfl,rfl⟩))
  (fun os started H enc _ => poolLess_lifted os started H enc)
theorem poolLess_card : Rows.PoolLessCardSaid :=
 Claim7.holds_tied_plain_at .later [] [.mapped, .data] true (true, "531f5a3786407616f5ba124fe9ed791d7cf7013f4ffd0b443f7ef83f25dc785e") false
  poolLess_said (fun _ h => by cases h) (by kernel_rfl) (fun _ h => by cases h) poolLess_row_tie rfl ⟨rfl,rfl⟩ (by kernel_rfl) rfl
  (fun f fn hf hfn => by
   obtain rfl : f = 3 := Option.some.inj ((show Tryd.prog.funcNamed "chandlery/chandlerylaw12.PoolLess" = some 3 by kernel_rfl).symm.trans hf) |>.symm
   obtain rfl : fn=Tryd.f3:=(Option.some.inj (Tryd.func3.symm.trans hfn)).symm
   exact ⟨by kernel_rfl,fun j t ht => by
    rw [Tryd.params3] at ht
    have hm : t∈[22,23]:=by simpa using Array.mem_of_getElem? ht
    have hall : ([22,23].all fun u => !Tryd.prog.wantsStandIn u)=true:=by kernel_rfl
    exact (show Tryd.prog.wantsStandIn t=false by simpa using List.all_eq_true.1 hall t hm)⟩)
  (by kernel_rfl)
end Go.Proofs.YtiallonafbejaaaDoor
