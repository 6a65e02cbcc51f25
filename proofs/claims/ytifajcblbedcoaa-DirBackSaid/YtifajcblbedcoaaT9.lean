import Derived.Test.YtifajcblbedcoaaT5
import Derived.Test.YtifajcblbedcoaaPtrB
namespace Go.Proofs.Ytifajcblbedcoaa
set_option linter.unusedVariables false
set_option linter.unusedSimpArgs false
open Go.RowKit Hp
attribute [local irreducible] Go.Calls
set_option maxHeartbeats 1000000
end Go.Proofs.Ytifajcblbedcoaa
