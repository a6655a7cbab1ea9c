/- All codes. Conditions: none. -/
import Derived.Test.YtoanajmmemjeeaaGreatDoorGC0
import Derived.Test.YtoanajmmemjeeaaGreatDoorGC1
import Derived.Test.YtoanajmmemjeeaaGreatDoorGC2
import Derived.Test.YtoanajmmemjeeaaGreatDoorGC3
set_option linter.all false
