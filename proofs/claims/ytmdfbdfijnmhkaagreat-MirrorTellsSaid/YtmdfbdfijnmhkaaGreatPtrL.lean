import Derived.Test.YtmdfbdfijnmhkaaGreatPtrR
namespace Go.Proofs.YtmdfbdfijnmhkaaGreat
set_option linter.unusedVariables false
set_option linter.unusedSimpArgs false
open Hp
section
variable {l : List (Int × Int)} {b v : Int} {S : List UInt8}
end
end Go.Proofs.YtmdfbdfijnmhkaaGreat
