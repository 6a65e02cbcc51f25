import Derived.Test.YtifajcblbedcoaaGreatPtrL
namespace Go.Proofs.YtifajcblbedcoaaGreat
set_option linter.unusedVariables false
set_option linter.unusedSimpArgs false
open Hp
end Go.Proofs.YtifajcblbedcoaaGreat
