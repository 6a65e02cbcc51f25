import Derived.Test.YtifajcblbedcoaaGreatPtrR
namespace Go.Proofs.YtifajcblbedcoaaGreat
set_option linter.unusedVariables false
set_option linter.unusedSimpArgs false
open Hp
section
variable {l : List (Int × Int)} {b v : Int} {S : List UInt8}
end
theorem sameB_refl (l : List (Int × Int)) (b v : Int) (S : List UInt8) : sameB l l b v b v S S = true := by simp [sameB]
end Go.Proofs.YtifajcblbedcoaaGreat
