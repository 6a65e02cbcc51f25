import Derived.Test.YtmdfbdfijnmhkaaGreatR19
namespace Go.Proofs.YtmdfbdfijnmhkaaGreat
set_option linter.unusedVariables false
set_option linter.unusedSimpArgs false
open Go.RowKit Hp
attribute [local irreducible] Go.Calls Go.wpList
set_option maxRecDepth 100000
set_option maxHeartbeats 4000000
def AR.fellE (a : AR) (dev : Int) (rs : List Int) : Int := firstE (rs ++ [orE (!(a.dv dev).gone) 14])
theorem cell_blk {w : World} {g : Nat} {T : TypeId} {v : Value} (h : w.heap[g]? = some (.cells (List.toArray [v]) T (0, 0))) : w.cell? ⟨g, 0, none⟩ = some v := St.cell (St.one w g T [v] h) (off := 0) (.head _) rfl
end Go.Proofs.YtmdfbdfijnmhkaaGreat
