/- The types' rows of arrays of devices. -/
import Derived.Test.YtclleohpmgihaaaGreatKTy
import Derived.Test.YtclleohpmgihaaaGreatSepO
import Derived.Test.YtclleohpmgihaaaGreatSepQ
import Derived.Test.YtclleohpmgihaaaGreatSepP
import Derived.Test.YtclleohpmgihaaaGreatSepF
import Derived.Test.YtclleohpmgihaaaGreatSepY
import Derived.Test.YtclleohpmgihaaaGreatRegL
import Derived.Test.YtclleohpmgihaaaGreatR0
namespace Go.Proofs.YtclleohpmgihaaaGreat
set_option linter.unusedVariables false
set_option linter.unusedSimpArgs false
open Go.RowKit Hp
instance rSE : TyS Tryz.prog 26 := ⟨by kernel_rfl⟩
instance rNE : TyN Tryz.prog 26 1 := ⟨by kernel_rfl⟩
instance rIE : TyI Tryz.prog 26 .i64 := ⟨by kernel_rfl⟩
instance rAR : TyA Tryz.prog 103 2 := ⟨by kernel_rfl⟩
instance rNR : TyN Tryz.prog 103 2 := ⟨by kernel_rfl⟩
instance rZR : TyZ Tryz.prog 103 [.int .i64 0, .int .i64 0] := ⟨by kernel_rfl⟩
instance rSpA : TyS Tryz.prog 25 := ⟨by kernel_rfl⟩
instance rNpA : TyN Tryz.prog 25 1 := ⟨by kernel_rfl⟩
instance rAA : TyA Tryz.prog 49 5 := ⟨by kernel_rfl⟩
instance rNA : TyN Tryz.prog 49 5 := ⟨by kernel_rfl⟩
instance rZA : TyZ Tryz.prog 49 [.slice none 0 0, .slice none 0 0, .int .i64 0, .bool false, .int .i64 0] := ⟨by kernel_rfl⟩
instance rBA : TyB Tryz.prog 49 [.slice none 0 0, .slice none 0 0, .int .i64 0, .bool false, .int .i64 0] := ⟨by kernel_rfl⟩
instance rAD : TyA Tryz.prog 53 5 := ⟨by kernel_rfl⟩
instance rND : TyN Tryz.prog 53 5 := ⟨by kernel_rfl⟩
instance rED : TyE Tryz.prog 53 5 48 := ⟨by kernel_rfl⟩
instance rSlD : TySl Tryz.prog 46 53 := ⟨by kernel_rfl⟩
instance rSsD : TyS Tryz.prog 46 := ⟨by kernel_rfl⟩
instance rNsD : TyN Tryz.prog 46 1 := ⟨by kernel_rfl⟩
instance rAW : TyA Tryz.prog 86 258 := ⟨by kernel_rfl⟩
instance rNW : TyN Tryz.prog 86 258 := ⟨by kernel_rfl⟩
instance rEW : TyE Tryz.prog 86 258 272 := ⟨by kernel_rfl⟩
instance rSlW : TySl Tryz.prog 47 86 := ⟨by kernel_rfl⟩
instance rSsW : TyS Tryz.prog 47 := ⟨by kernel_rfl⟩
instance rNsW : TyN Tryz.prog 47 1 := ⟨by kernel_rfl⟩
instance rAS : TyA Tryz.prog 84 256 := ⟨by kernel_rfl⟩
instance rNS : TyN Tryz.prog 84 256 := ⟨by kernel_rfl⟩
instance rES : TyE Tryz.prog 84 256 256 := ⟨by kernel_rfl⟩
instance rSlS : TySl Tryz.prog 50 84 := ⟨by kernel_rfl⟩
instance rSsS : TyS Tryz.prog 50 := ⟨by kernel_rfl⟩
instance rNsS : TyN Tryz.prog 50 1 := ⟨by kernel_rfl⟩
instance rSF : TyS Tryz.prog 51 := ⟨by kernel_rfl⟩
instance rNF : TyN Tryz.prog 51 1 := ⟨by kernel_rfl⟩
instance rSlF : TySl Tryz.prog 101 74 := ⟨by kernel_rfl⟩
instance rSfn : TyS Tryz.prog 74 := ⟨by kernel_rfl⟩
instance rNfn : TyN Tryz.prog 74 1 := ⟨by kernel_rfl⟩
instance rEfn : TyE Tryz.prog 74 1 8 := ⟨by kernel_rfl⟩
instance rSsF : TyS Tryz.prog 101 := ⟨by kernel_rfl⟩
end Go.Proofs.YtclleohpmgihaaaGreat
