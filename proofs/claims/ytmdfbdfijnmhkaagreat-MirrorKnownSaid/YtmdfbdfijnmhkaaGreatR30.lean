import Derived.Test.YtmdfbdfijnmhkaaGreatR29
namespace Go.Proofs.YtmdfbdfijnmhkaaGreat
set_option linter.unusedVariables false
set_option linter.unusedSimpArgs false
open Go.RowKit Hp
theorem zeroCells_one {z : Array Value} (h : z.toList.all (·.oneCell') = true) (n : Nat) : ∀ v ∈ (Builtin.zeroCells z n).toList, v.oneCell' = true := by
  have := all_zeroCells (p := (·.oneCell')) h n
  exact List.all_eq_true.1 this
end Go.Proofs.YtmdfbdfijnmhkaaGreat
