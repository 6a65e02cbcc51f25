import Derived.Test.YtifajcblbedcoaaGreatTy
import Derived.Test.YtifajcblbedcoaaGreatNum
import Derived.Test.YtifajcblbedcoaaGreatSepP
namespace Go.Proofs.YtifajcblbedcoaaGreat
set_option linter.unusedVariables false
set_option linter.unusedSimpArgs false
open Go.RowKit Hp
set_option maxHeartbeats 400000
end Go.Proofs.YtifajcblbedcoaaGreat
