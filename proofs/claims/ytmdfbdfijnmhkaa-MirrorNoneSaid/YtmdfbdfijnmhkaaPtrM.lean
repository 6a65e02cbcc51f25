import Derived.Test.YtmdfbdfijnmhkaaPtrL
namespace Go.Proofs.Ytmdfbdfijnmhkaa
set_option linter.unusedVariables false
set_option linter.unusedSimpArgs false
open Hp
end Go.Proofs.Ytmdfbdfijnmhkaa
