import Derived.Test.YtmdfbdfijnmhkaaPost
import Derived.Test.YtmdfbdfijnmhkaaPtr
import Derived.Lib.SmallJoins
import Derived.Deep.SlicePairs
namespace Go.Proofs.Ytmdfbdfijnmhkaa
set_option linter.unusedVariables false
set_option linter.unusedSimpArgs false
open Go.ChangeShapes Go.WideShapes Go.ChangeAt Go.RowKit Hp
end Go.Proofs.Ytmdfbdfijnmhkaa
