import Derived.Test.YtmdfbdfijnmhkaaGreatR23
import Derived.Test.YtmdfbdfijnmhkaaGreatKB
namespace Go.Proofs.YtmdfbdfijnmhkaaGreat
set_option linter.unusedVariables false
set_option linter.unusedSimpArgs false
open Go.RowKit Hp
attribute [local irreducible] Go.Calls Go.wpList
set_option maxRecDepth 100000
set_option maxHeartbeats 4000000
end Go.Proofs.YtmdfbdfijnmhkaaGreat
