import Derived.Test.YtmdfbdfijnmhkaaGreatSepY
namespace Go.Proofs.YtmdfbdfijnmhkaaGreat
set_option linter.unusedVariables false
set_option linter.unusedSimpArgs false
open Go.RowKit
namespace Hp
variable {P : Program}
end Hp
end Go.Proofs.YtmdfbdfijnmhkaaGreat
