import Derived.Test.YtifajcblbedcoaaTy
namespace Go.Proofs.Ytifajcblbedcoaa
set_option linter.unusedVariables false
set_option linter.unusedSimpArgs false
open Go.RowKit Hp
set_option maxHeartbeats 400000
end Go.Proofs.Ytifajcblbedcoaa
