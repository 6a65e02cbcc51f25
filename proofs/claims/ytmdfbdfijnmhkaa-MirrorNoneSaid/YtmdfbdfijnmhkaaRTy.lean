import Derived.Test.YtmdfbdfijnmhkaaKTy
import Derived.Test.YtmdfbdfijnmhkaaSepO
import Derived.Test.YtmdfbdfijnmhkaaSepQ
import Derived.Test.YtmdfbdfijnmhkaaSepP
import Derived.Test.YtmdfbdfijnmhkaaSepF
import Derived.Test.YtmdfbdfijnmhkaaSepY
import Derived.Test.YtmdfbdfijnmhkaaRegL
import Derived.Test.YtmdfbdfijnmhkaaR0
namespace Go.Proofs.Ytmdfbdfijnmhkaa
set_option linter.unusedVariables false
set_option linter.unusedSimpArgs false
open Go.RowKit Hp
instance rSE : TyS Try.prog 39 := ⟨by kernel_rfl⟩
instance rNE : TyN Try.prog 39 1 := ⟨by kernel_rfl⟩
instance rIE : TyI Try.prog 39 .i64 := ⟨by kernel_rfl⟩
instance rAR : TyA Try.prog 151 2 := ⟨by kernel_rfl⟩
instance rNR : TyN Try.prog 151 2 := ⟨by kernel_rfl⟩
instance rZR : TyZ Try.prog 151 [.int .i64 0, .int .i64 0] := ⟨by kernel_rfl⟩
instance rSpA : TyS Try.prog 25 := ⟨by kernel_rfl⟩
instance rNpA : TyN Try.prog 25 1 := ⟨by kernel_rfl⟩
instance rAA : TyA Try.prog 70 5 := ⟨by kernel_rfl⟩
instance rNA : TyN Try.prog 70 5 := ⟨by kernel_rfl⟩
instance rZA : TyZ Try.prog 70 [.slice none 0 0, .slice none 0 0, .int .i64 0, .bool false, .int .i64 0] := ⟨by kernel_rfl⟩
instance rBA : TyB Try.prog 70 [.slice none 0 0, .slice none 0 0, .int .i64 0, .bool false, .int .i64 0] := ⟨by kernel_rfl⟩
instance rAD : TyA Try.prog 93 5 := ⟨by kernel_rfl⟩
instance rND : TyN Try.prog 93 5 := ⟨by kernel_rfl⟩
instance rED : TyE Try.prog 93 5 48 := ⟨by kernel_rfl⟩
instance rSlD : TySl Try.prog 67 93 := ⟨by kernel_rfl⟩
instance rSsD : TyS Try.prog 67 := ⟨by kernel_rfl⟩
instance rNsD : TyN Try.prog 67 1 := ⟨by kernel_rfl⟩
instance rAW : TyA Try.prog 128 258 := ⟨by kernel_rfl⟩
instance rNW : TyN Try.prog 128 258 := ⟨by kernel_rfl⟩
instance rEW : TyE Try.prog 128 258 272 := ⟨by kernel_rfl⟩
instance rSlW : TySl Try.prog 68 128 := ⟨by kernel_rfl⟩
instance rSsW : TyS Try.prog 68 := ⟨by kernel_rfl⟩
instance rNsW : TyN Try.prog 68 1 := ⟨by kernel_rfl⟩
instance rAS : TyA Try.prog 89 256 := ⟨by kernel_rfl⟩
instance rNS : TyN Try.prog 89 256 := ⟨by kernel_rfl⟩
instance rES : TyE Try.prog 89 256 256 := ⟨by kernel_rfl⟩
instance rSlS : TySl Try.prog 90 89 := ⟨by kernel_rfl⟩
instance rSsS : TyS Try.prog 90 := ⟨by kernel_rfl⟩
instance rNsS : TyN Try.prog 90 1 := ⟨by kernel_rfl⟩
instance rSF : TyS Try.prog 91 := ⟨by kernel_rfl⟩
instance rNF : TyN Try.prog 91 1 := ⟨by kernel_rfl⟩
instance rSlF : TySl Try.prog 126 85 := ⟨by kernel_rfl⟩
instance rSfn : TyS Try.prog 85 := ⟨by kernel_rfl⟩
instance rNfn : TyN Try.prog 85 1 := ⟨by kernel_rfl⟩
instance rEfn : TyE Try.prog 85 1 8 := ⟨by kernel_rfl⟩
instance rSsF : TyS Try.prog 126 := ⟨by kernel_rfl⟩
end Go.Proofs.Ytmdfbdfijnmhkaa
