/- Runs of the seat's functions inside the kernel. Conditions: none. -/
import Derived.Test.YtiallonafbejaaaDoorTXPA
import Derived.Test.YtiallonafbejaaaDoorFwKa
set_option linter.all false
namespace Go.Id.Tryd
open Go Go.Id Go.Proofs Go.Id.Md
def fzN : Nat→Nat→List Nat:=fun _ _ => []
noncomputable abbrev runM (M : Memo) (d k : Nat) (az : List IV) : Option IV:=(runK (tabOf tabT (fun _ => true) (primM 86 M) fzN) EE 100000 d 0 k az ⟨0,.e⟩).map (·.1)
abbrev MK:=MOK Tryd.prog EE
theorem memo1 {k : Nat} {M : Memo} {az : List IV} {v : IV} (d : Nat) (hM : MK M) (hk : okF Tryd.prog k=true) (h : runM M d k az=some v) : MK ((k,az,v) :: M):=by
 unfold runM at h
 rw [runK_eq] at h
 exact memo_run tabT_ok fok86 rfl hE hk hM h
theorem run_pc {k : Nat} {M : Memo} {az : List IV} {v : IV} (d : Nat) (hM : MK M) (hk : okF Tryd.prog k=true) (h : runM M d k az=some v) : PC Tryd.prog EE k az v :=
 (memo1 d hM hk h _ (List.mem_cons_self ..)).2
end Go.Id.Tryd
