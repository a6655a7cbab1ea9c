/- The table of the compiled codes,written by a program. Conditions: none. -/
import Derived.Test.YtcdakaadeghccaaGreatDoorGS0
import Derived.Test.YtcdakaadeghccaaGreatDoorGS1
import Derived.Test.YtcdakaadeghccaaGreatDoorGS2
import Derived.Test.YtcdakaadeghccaaGreatDoorGS3
set_option linter.all false
namespace Go.Id.Tryz
open Go Go.Id Go.Proofs
end Go.Id.Tryz
