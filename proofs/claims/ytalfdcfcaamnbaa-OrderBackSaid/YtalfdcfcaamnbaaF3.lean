import Derived.Test.YtalfdcfcaamnbaaF2
namespace Go.Proofs.Ytalfdcfcaamnbaa
set_option linter.unusedVariables false
set_option linter.unusedSimpArgs false
open Go.RowKit Hp
attribute [local irreducible] Go.Calls
set_option maxRecDepth 100000
set_option maxHeartbeats 4000000
attribute [local go_sem ↓] loadedInt loadedWp loadedSl
end Go.Proofs.Ytalfdcfcaamnbaa
