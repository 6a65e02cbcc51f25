/- The types' rows of arrays of devices. -/
import Derived.Test.YtclleohpmgihaaaKTy
import Derived.Test.YtclleohpmgihaaaSepO
import Derived.Test.YtclleohpmgihaaaSepQ
import Derived.Test.YtclleohpmgihaaaSepP
import Derived.Test.YtclleohpmgihaaaSepF
import Derived.Test.YtclleohpmgihaaaSepY
import Derived.Test.YtclleohpmgihaaaRegL
import Derived.Test.YtclleohpmgihaaaR0
namespace Go.Proofs.Ytclleohpmgihaaa
set_option linter.unusedVariables false
set_option linter.unusedSimpArgs false
open Go.RowKit Hp
instance rSE : TyS Try.prog 27 := ⟨by kernel_rfl⟩
instance rNE : TyN Try.prog 27 1 := ⟨by kernel_rfl⟩
instance rIE : TyI Try.prog 27 .i64 := ⟨by kernel_rfl⟩
instance rAR : TyA Try.prog 97 2 := ⟨by kernel_rfl⟩
instance rNR : TyN Try.prog 97 2 := ⟨by kernel_rfl⟩
instance rZR : TyZ Try.prog 97 [.int .i64 0, .int .i64 0] := ⟨by kernel_rfl⟩
instance rSpA : TyS Try.prog 24 := ⟨by kernel_rfl⟩
instance rNpA : TyN Try.prog 24 1 := ⟨by kernel_rfl⟩
instance rAA : TyA Try.prog 64 5 := ⟨by kernel_rfl⟩
instance rNA : TyN Try.prog 64 5 := ⟨by kernel_rfl⟩
instance rZA : TyZ Try.prog 64 [.slice none 0 0, .slice none 0 0, .int .i64 0, .bool false, .int .i64 0] := ⟨by kernel_rfl⟩
instance rBA : TyB Try.prog 64 [.slice none 0 0, .slice none 0 0, .int .i64 0, .bool false, .int .i64 0] := ⟨by kernel_rfl⟩
instance rAD : TyA Try.prog 79 5 := ⟨by kernel_rfl⟩
instance rND : TyN Try.prog 79 5 := ⟨by kernel_rfl⟩
instance rED : TyE Try.prog 79 5 48 := ⟨by kernel_rfl⟩
instance rSlD : TySl Try.prog 61 79 := ⟨by kernel_rfl⟩
instance rSsD : TyS Try.prog 61 := ⟨by kernel_rfl⟩
instance rNsD : TyN Try.prog 61 1 := ⟨by kernel_rfl⟩
instance rAW : TyA Try.prog 84 258 := ⟨by kernel_rfl⟩
instance rNW : TyN Try.prog 84 258 := ⟨by kernel_rfl⟩
instance rEW : TyE Try.prog 84 258 272 := ⟨by kernel_rfl⟩
instance rSlW : TySl Try.prog 62 84 := ⟨by kernel_rfl⟩
instance rSsW : TyS Try.prog 62 := ⟨by kernel_rfl⟩
instance rNsW : TyN Try.prog 62 1 := ⟨by kernel_rfl⟩
instance rAS : TyA Try.prog 82 256 := ⟨by kernel_rfl⟩
instance rNS : TyN Try.prog 82 256 := ⟨by kernel_rfl⟩
instance rES : TyE Try.prog 82 256 256 := ⟨by kernel_rfl⟩
instance rSlS : TySl Try.prog 76 82 := ⟨by kernel_rfl⟩
instance rSsS : TyS Try.prog 76 := ⟨by kernel_rfl⟩
instance rNsS : TyN Try.prog 76 1 := ⟨by kernel_rfl⟩
instance rSF : TyS Try.prog 77 := ⟨by kernel_rfl⟩
instance rNF : TyN Try.prog 77 1 := ⟨by kernel_rfl⟩
instance rSlF : TySl Try.prog 95 70 := ⟨by kernel_rfl⟩
instance rSfn : TyS Try.prog 70 := ⟨by kernel_rfl⟩
instance rNfn : TyN Try.prog 70 1 := ⟨by kernel_rfl⟩
instance rEfn : TyE Try.prog 70 1 8 := ⟨by kernel_rfl⟩
instance rSsF : TyS Try.prog 95 := ⟨by kernel_rfl⟩
end Go.Proofs.Ytclleohpmgihaaa
