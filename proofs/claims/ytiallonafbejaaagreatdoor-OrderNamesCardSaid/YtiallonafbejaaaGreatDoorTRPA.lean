/- Names, versions, architectures, operators: what the program tells of them. Conditions: none. -/
import Derived.Test.YtiallonafbejaaaGreatDoorGRT
import Derived.Test.YtiallonafbejaaaGreatDoorFwZ
import Derived.Test.YtiallonafbejaaaGreatDoorMd
set_option linter.all false
namespace Go.Id.Tryz
open Go Go.Id Go.Proofs Go.Id.Md
set_option linter.unusedSimpArgs false
set_option linter.unusedVariables false
def envL : List (Nat × List IV) := [(0, words.map .str), (1, [.tmap opsL])]
abbrev EE : Nat → IV := envOf envL
theorem hE : ∀ g, Bnd 0 (EE g) := env_bnd (by kernel_rfl)
end Go.Id.Tryz
