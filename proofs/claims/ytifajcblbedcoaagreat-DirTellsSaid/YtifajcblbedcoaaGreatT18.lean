import Derived.Test.YtifajcblbedcoaaGreatT5
import Derived.Test.YtifajcblbedcoaaGreatSepY
import Derived.Deep.RegionHeld3
import Derived.Outline
import Derived.IntWalk
namespace Go.Proofs.YtifajcblbedcoaaGreat
set_option linter.unusedVariables false
set_option linter.unusedSimpArgs false
open Go.RowKit Hp
attribute [local irreducible] Go.Calls
set_option maxHeartbeats 1000000
theorem put_app (a t : List Value) (j : Nat) (vs : List Value) : putAt (a ++ t) (a.length + j) vs = a ++ putAt t j vs := by
  simp only [putAt, Nat.add_assoc, List.append_assoc]
  rw [List.take_append, List.drop_append, List.take_of_length_le (by omega), List.drop_of_length_le (by omega)]
  simp [Nat.add_sub_cancel_left]
end Go.Proofs.YtifajcblbedcoaaGreat
