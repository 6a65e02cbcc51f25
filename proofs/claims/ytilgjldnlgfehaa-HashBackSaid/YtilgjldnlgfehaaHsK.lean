/- The chapter's digests, computed. -/
import Derived.Test.YtilgjldnlgfehaaHs
namespace Go.Proofs.Ytilgjldnlgfehaa
set_option linter.unusedVariables false
set_option linter.unusedSimpArgs false
def abcB : List UInt8 := [97, 98, 99]
theorem sum_abc : ((sumB abcB).take 4 == [186, 120, 22, 191] && (sumB abcB).drop 28 == [242, 0, 21, 173]) = true := by decide +kernel
theorem sum_nil : ((sumB []).take 4 == [227, 176, 196, 66] && (sumB []).drop 28 == [120, 82, 184, 85]) = true := by decide +kernel
end Go.Proofs.Ytilgjldnlgfehaa
