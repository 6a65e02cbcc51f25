import Derived.Test.YtmdfbdfijnmhkaaSepY
namespace Go.Proofs.Ytmdfbdfijnmhkaa
set_option linter.unusedVariables false
set_option linter.unusedSimpArgs false
open Go.RowKit
namespace Hp
variable {P : Program}
end Hp
end Go.Proofs.Ytmdfbdfijnmhkaa
