import Derived.Test.YtmdfbdfijnmhkaaGreatPtrL
namespace Go.Proofs.YtmdfbdfijnmhkaaGreat
set_option linter.unusedVariables false
set_option linter.unusedSimpArgs false
open Hp
end Go.Proofs.YtmdfbdfijnmhkaaGreat
