import Derived.Test.YtifajcblbedcoaaGreatTy
import Derived.Test.YtifajcblbedcoaaGreatNum
import Derived.Test.YtifajcblbedcoaaGreatSepP
namespace Go.Proofs.YtifajcblbedcoaaGreat
set_option linter.unusedVariables false
set_option linter.unusedSimpArgs false
open Go.RowKit Hp
set_option maxHeartbeats 400000
theorem isB_one (n : Int) : ([Value.int .u8 (n % 256)]).all isB = true := by
  simp [isB]; omega
end Go.Proofs.YtifajcblbedcoaaGreat
