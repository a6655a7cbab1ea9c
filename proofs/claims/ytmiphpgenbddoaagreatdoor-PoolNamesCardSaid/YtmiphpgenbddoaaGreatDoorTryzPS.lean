/- PoolNames, the rest behind the row: by its run, with the great pool's answer from New's contract. Conditions: none. -/
import Derived.Test.YtmiphpgenbddoaaGreatDoorTryzPF
import Derived.Test.YtmiphpgenbddoaaGreatDoorTryzPI
import Derived.Test.YtmiphpgenbddoaaGreatDoorFwTe
set_option linter.all false
namespace Go.Id.Tryz
open Go Go.Id Go.Proofs Go.Id.Md
set_option maxRecDepth 100000
def aP : Package := { name := [97], evr := ⟨0, [49], [49]⟩, arch := 1, vendor := [], provides := [], requires := [], conflicts := [], obsoletes := [], recommends := [], supplements := [], suggests := [], enhances := [], files := [] }
def aC : List IV := [.str [97], .int .i64 0, .str [49], .str [49], .int .u8 1, .str [], .nilslice, .nilslice, .nilslice, .nilslice, .nilslice, .nilslice, .nilslice, .nilslice, .nilslice]
theorem named_pc : PC Tryz.prog EE 28 [.str [97]] (.agg aC) := run_pc 60 .nil (by kernel_rfl) (by kernel_rfl)
def nums : List (List IV) := (List.range 256).map fun n : Nat => [.int .i64 (Int.ofNat n)]
def xV : IV := .tptr [.tslice (List.replicate 156 (aP.cs ++ [.int .i64 (-1), .int .i64 1025]) ++ List.replicate 100 (aP.cs ++ [.int .i64 0, .int .i64 0])), .int .i64 156, .tmap [(.str [97], .tslice nums)]]
theorem aP_may : pkgMay aP = true := by kernel_rfl
theorem newM_many : newV (newM [⟨0, List.replicate 100 aP⟩] (List.replicate 156 aP)) = .tuple [xV, .int .i64 0] := by kernel_rfl
theorem aP_fit : aP.Fit := ⟨by decide, ⟨by decide, by decide⟩, ⟨by decide, fun d h => by cases h⟩, ⟨by decide, fun d h => by cases h⟩, ⟨by decide, fun d h => by cases h⟩, fun x hx => by
  simp only [Package.rows, aP, List.mem_cons, List.not_mem_nil, or_false] at hx
  rcases hx with rfl | rfl | rfl | rfl | rfl | rfl <;> exact ⟨by decide, fun r h => by cases h⟩⟩
theorem many_pc : PC Tryz.prog EE 11 [reposV [⟨0, List.replicate 100 aP⟩], pkgsV (List.replicate 156 aP)] (.tuple [xV, .int .i64 0]) := by
  rw [← newM_many]
  refine poolNew_pc _ _ (by decide) (by simp) (by simp [sumLen]) ?_ ?_
  · intro r hr
    cases List.mem_singleton.1 hr
    exact ⟨by simp, fun p hp => by rw [(List.mem_replicate.1 hp).2]; exact aP_fit⟩
  · intro p hp
    rw [(List.mem_replicate.1 hp).2]; exact aP_fit
noncomputable def memoX : Memo := [(11, [reposV [⟨0, List.replicate 100 aP⟩], pkgsV (List.replicate 156 aP)], .tuple [xV, .int .i64 0]), (10, [], .bool true)]
theorem memoX_ok : MK memoX := .cons (by kernel_rfl) many_pc (.cons (by kernel_rfl) awake_pc .nil)
noncomputable def rest : IC := match ic4 with | .seq _ (.seq _ (.seq _ (.seq _ (.seq _ (.seq _ r))))) => r | _ => .skip
noncomputable abbrev tabX : Tab := tabOf tabT (fun _ => true) (primM 179 memoX) fzN
theorem tabX_ok : TabOK Tryz.prog EE tabX := tabM_ok tabT_ok fok179 rfl memoX_ok
end Go.Id.Tryz
