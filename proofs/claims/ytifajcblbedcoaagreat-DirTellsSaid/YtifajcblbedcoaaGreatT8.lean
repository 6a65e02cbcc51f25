import Derived.Test.YtifajcblbedcoaaGreatT5
import Derived.Test.YtifajcblbedcoaaGreatT7
import Derived.Test.YtifajcblbedcoaaGreatPtrB
import Derived.Deep.RegionHeld3
import Derived.Deep.DrawnRows
namespace Go.Proofs.YtifajcblbedcoaaGreat
set_option linter.unusedVariables false
set_option linter.unusedSimpArgs false
open Go.RowKit Hp
attribute [local go_sem ↓] Go.wp_at_zero Go.wp_at_succ
attribute [local irreducible] Go.Calls
set_option maxRecDepth 100000
set_option maxHeartbeats 1000000
end Go.Proofs.YtifajcblbedcoaaGreat
