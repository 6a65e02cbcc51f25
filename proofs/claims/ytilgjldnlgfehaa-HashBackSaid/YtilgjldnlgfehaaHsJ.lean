/- The chapter's further examples, computed. -/
import Derived.Test.YtilgjldnlgfehaaHsK
import Derived.Test.YtilgjldnlgfehaaHX
namespace Go.Proofs.Ytilgjldnlgfehaa
set_option linter.unusedVariables false
set_option linter.unusedSimpArgs false
open Hp
def longB : List UInt8 := [97, 98, 99, 100, 98, 99, 100, 101, 99, 100, 101, 102, 100, 101, 102, 103, 101, 102, 103, 104, 102, 103, 104, 105, 103, 104, 105, 106, 104, 105, 106, 107, 105, 106, 107, 108, 106, 107, 108, 109, 107, 108, 109, 110, 108, 109, 110, 111, 109, 110, 111, 112, 110, 111, 112, 113]
theorem sum_long : ((sumB longB).take 4 == [36, 141, 106, 97] && (sumB longB).drop 28 == [25, 219, 6, 193]) = true := by decide +kernel
def abcP : List UInt8 := 97 :: 98 :: 99 :: 128 :: (List.replicate 59 0 ++ [24])
theorem pieces_abc : pieces abcB = [abcP] := by decide +kernel
theorem pieces_55 : (pieces (List.replicate 55 0)).length = 1 := by decide +kernel
theorem pieces_56 : (pieces (List.replicate 56 0)).length = 2 := by decide +kernel
theorem parse_empty : parseR [] = (List.replicate 32 0, 4, 0) := rfl
theorem parse_G : parseR (List.replicate 64 71) = (List.replicate 32 0, 2, 0) := by decide +kernel
end Go.Proofs.Ytilgjldnlgfehaa
