/- All codes. Conditions: none. -/
import Derived.Test.YtlpijcemoicebaaGreatDoorGJ0
import Derived.Test.YtlpijcemoicebaaGreatDoorGJ1
import Derived.Test.YtlpijcemoicebaaGreatDoorGJ2
import Derived.Test.YtlpijcemoicebaaGreatDoorGJ3
set_option linter.all false
