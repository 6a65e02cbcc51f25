import Derived.Test.YtmdfbdfijnmhkaaGreatR22
namespace Go.Proofs.YtmdfbdfijnmhkaaGreat
set_option linter.unusedVariables false
set_option linter.unusedSimpArgs false
open Go.RowKit Hp
attribute [local irreducible] Go.Calls Go.wpList
set_option maxRecDepth 100000
set_option maxHeartbeats 4000000
instance rSB : TyS Tryz.prog 47 := ⟨by kernel_rfl⟩
instance rSlB : TySl Tryz.prog 47 4 := ⟨by kernel_rfl⟩
instance rEB : TyE Tryz.prog 4 1 1 := ⟨by kernel_rfl⟩
section
attribute [local go_sem ↓] loadedSD loadedIn loadedSS
end
end Go.Proofs.YtmdfbdfijnmhkaaGreat
