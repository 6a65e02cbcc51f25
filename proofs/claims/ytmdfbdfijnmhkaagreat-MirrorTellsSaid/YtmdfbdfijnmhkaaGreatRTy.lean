import Derived.Test.YtmdfbdfijnmhkaaGreatKTy
import Derived.Test.YtmdfbdfijnmhkaaGreatSepO
import Derived.Test.YtmdfbdfijnmhkaaGreatSepQ
import Derived.Test.YtmdfbdfijnmhkaaGreatSepP
import Derived.Test.YtmdfbdfijnmhkaaGreatSepF
import Derived.Test.YtmdfbdfijnmhkaaGreatSepY
import Derived.Test.YtmdfbdfijnmhkaaGreatRegL
import Derived.Test.YtmdfbdfijnmhkaaGreatR0
namespace Go.Proofs.YtmdfbdfijnmhkaaGreat
set_option linter.unusedVariables false
set_option linter.unusedSimpArgs false
open Go.RowKit Hp
instance rSE : TyS Tryz.prog 37 := ⟨by kernel_rfl⟩
instance rNE : TyN Tryz.prog 37 1 := ⟨by kernel_rfl⟩
instance rIE : TyI Tryz.prog 37 .i64 := ⟨by kernel_rfl⟩
instance rAR : TyA Tryz.prog 154 2 := ⟨by kernel_rfl⟩
instance rNR : TyN Tryz.prog 154 2 := ⟨by kernel_rfl⟩
instance rZR : TyZ Tryz.prog 154 [.int .i64 0, .int .i64 0] := ⟨by kernel_rfl⟩
instance rSpA : TyS Tryz.prog 23 := ⟨by kernel_rfl⟩
instance rNpA : TyN Tryz.prog 23 1 := ⟨by kernel_rfl⟩
instance rAA : TyA Tryz.prog 109 5 := ⟨by kernel_rfl⟩
instance rNA : TyN Tryz.prog 109 5 := ⟨by kernel_rfl⟩
instance rZA : TyZ Tryz.prog 109 [.slice none 0 0, .slice none 0 0, .int .i64 0, .bool false, .int .i64 0] := ⟨by kernel_rfl⟩
instance rBA : TyB Tryz.prog 109 [.slice none 0 0, .slice none 0 0, .int .i64 0, .bool false, .int .i64 0] := ⟨by kernel_rfl⟩
instance rAD : TyA Tryz.prog 89 5 := ⟨by kernel_rfl⟩
instance rND : TyN Tryz.prog 89 5 := ⟨by kernel_rfl⟩
instance rED : TyE Tryz.prog 89 5 48 := ⟨by kernel_rfl⟩
instance rSlD : TySl Tryz.prog 106 89 := ⟨by kernel_rfl⟩
instance rSsD : TyS Tryz.prog 106 := ⟨by kernel_rfl⟩
instance rNsD : TyN Tryz.prog 106 1 := ⟨by kernel_rfl⟩
instance rAW : TyA Tryz.prog 149 258 := ⟨by kernel_rfl⟩
instance rNW : TyN Tryz.prog 149 258 := ⟨by kernel_rfl⟩
instance rEW : TyE Tryz.prog 149 258 272 := ⟨by kernel_rfl⟩
instance rSlW : TySl Tryz.prog 107 149 := ⟨by kernel_rfl⟩
instance rSsW : TyS Tryz.prog 107 := ⟨by kernel_rfl⟩
instance rNsW : TyN Tryz.prog 107 1 := ⟨by kernel_rfl⟩
instance rAS : TyA Tryz.prog 144 256 := ⟨by kernel_rfl⟩
instance rNS : TyN Tryz.prog 144 256 := ⟨by kernel_rfl⟩
instance rES : TyE Tryz.prog 144 256 256 := ⟨by kernel_rfl⟩
instance rSlS : TySl Tryz.prog 86 144 := ⟨by kernel_rfl⟩
instance rSsS : TyS Tryz.prog 86 := ⟨by kernel_rfl⟩
instance rNsS : TyN Tryz.prog 86 1 := ⟨by kernel_rfl⟩
instance rSF : TyS Tryz.prog 87 := ⟨by kernel_rfl⟩
instance rNF : TyN Tryz.prog 87 1 := ⟨by kernel_rfl⟩
instance rSlF : TySl Tryz.prog 146 92 := ⟨by kernel_rfl⟩
instance rSfn : TyS Tryz.prog 92 := ⟨by kernel_rfl⟩
instance rNfn : TyN Tryz.prog 92 1 := ⟨by kernel_rfl⟩
instance rEfn : TyE Tryz.prog 92 1 8 := ⟨by kernel_rfl⟩
instance rSsF : TyS Tryz.prog 146 := ⟨by kernel_rfl⟩
end Go.Proofs.YtmdfbdfijnmhkaaGreat
