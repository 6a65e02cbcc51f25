import Derived.Test.YtmdfbdfijnmhkaaGreatPtr
import Derived.Test.YtmdfbdfijnmhkaaGreatNum
namespace Go.Proofs.YtmdfbdfijnmhkaaGreat
set_option linter.unusedVariables false
set_option linter.unusedSimpArgs false
open Hp
def addrB (l : List (Int × Int)) (i : Nat) : List UInt8 := numB (l.getD i (0, 0)).1 1 ++ numB (l.getD i (0, 0)).2 2
def addrsB (l : List (Int × Int)) : Nat → List UInt8
  | 0 => []
  | k + 1 => addrsB l k ++ addrB l k
def bytesP (l : List (Int × Int)) (b v : Int) (S : List UInt8) : List UInt8 := numB l.length 1 ++ addrsB l 3 ++ numB b 4 ++ numB v 1 ++ S
end Go.Proofs.YtmdfbdfijnmhkaaGreat
