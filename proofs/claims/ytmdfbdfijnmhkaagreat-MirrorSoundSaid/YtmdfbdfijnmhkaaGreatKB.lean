import Derived.Test.YtmdfbdfijnmhkaaGreatKTy
import Derived.Test.YtmdfbdfijnmhkaaGreatSepP
import Derived.Test.YtmdfbdfijnmhkaaGreatSepO
import Derived.Deep.RegionHeld3
import Derived.Outline
import Derived.IntWalk
namespace Go.Proofs.YtmdfbdfijnmhkaaGreat
set_option linter.unusedVariables false
set_option linter.unusedSimpArgs false
open Go.RowKit Hp
attribute [local irreducible] Go.Calls
set_option maxHeartbeats 1000000
theorem sameBytes_any (v u : Value) (n m : Nat) (l k : List UInt8) (w : World) (hv : Rd w v 1 n (bytesV l)) (hu : Rd w u 1 m (bytesV k)) :
    Calls Tryz.prog 18 #[v, u] w fun e w' => e = .returned (.bool (l == k)) ∧ St w [] w' [] := by
  go_enter Tryz.func18, Tryz.ntmps18
  go_wp2_with (first | go_big_skip | go_big_guard | (refine wl_bytes_string rfl rfl rfl hv ?_) | (refine wl_bytes_string rfl rfl rfl hu ?_))
  go_ret
  exact ⟨rfl, St.refl w⟩
end Go.Proofs.YtmdfbdfijnmhkaaGreat
