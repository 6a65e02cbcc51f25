import Derived.Test.YtmdfbdfijnmhkaaGreatPost
import Derived.Test.YtmdfbdfijnmhkaaGreatPtr
import Derived.Lib.SmallJoins
import Derived.Deep.SlicePairs
namespace Go.Proofs.YtmdfbdfijnmhkaaGreat
set_option linter.unusedVariables false
set_option linter.unusedSimpArgs false
open Go.ChangeShapes Go.WideShapes Go.ChangeAt Go.RowKit Hp
end Go.Proofs.YtmdfbdfijnmhkaaGreat
