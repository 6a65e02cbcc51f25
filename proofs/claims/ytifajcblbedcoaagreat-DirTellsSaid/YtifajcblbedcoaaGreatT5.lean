import Derived.Test.YtifajcblbedcoaaGreatT1
import Derived.Test.YtifajcblbedcoaaGreatT2
import Derived.Test.YtifajcblbedcoaaGreatT3
import Derived.Test.YtifajcblbedcoaaGreatT4
namespace Go.Proofs.YtifajcblbedcoaaGreat
set_option linter.unusedVariables false
set_option linter.unusedSimpArgs false
open Go.RowKit Hp
set_option maxHeartbeats 400000
theorem check_any (ao : Option Addr) (n c : Nat) (l : List (Int × Int)) (b v : Int) (S : List UInt8) (w : World) (hS : L32 S) (hA : Rd w (.slice ao n c) 2 n (addrsV l)) (hn : l.length = n) :
    Calls Tryz.prog 84 #[.agg (ptrCells (.slice ao n c) b v S).toArray] w fun e w' => e = .returned (.int .i64 (checkE l b v S)) ∧ St w [] w' [] := by
  have Hn := hid hn; clear hn
  go_enter Tryz.func84, Tryz.ntmps84
  have hst := St.refl w
  go_wp2_with (first | go_big_skip | go_big_guard | (refine wl_boxA hst rfl rfl rfl ?_; intro g w1 hst1; clear hst) | (refine wl_loadE rfl rfl rfl ?_; first | refine ⟨_, Loads.at [] hst1 rfl, ?_⟩ | refine ⟨_, Loads.atA (ptrCells (.slice ao n c) b v S) [] hst1 (ptr_len hS _ _ _) (ptr_all _ _ _ _), ?_⟩) | (go_at_call 83; refine (hole_any _ _ _ _ _ _ _ hS).mono ?_; rintro _ _ ⟨rfl, hcall⟩; replace hst1 := St.call0 hst1 hcall; clear hcall) | (go_at_call 121; refine (may_any _ _ _ l _ (Rd.old hst1 hA) Hn.out).mono ?_; rintro _ _ ⟨rfl, hcall⟩; replace hst1 := St.call0 hst1 hcall; clear hcall))
  all_goals (go_ret; exact ⟨ret_int (by have := Hn.out; unfold checkE checkB; grind), hst1.nil⟩)
theorem refCheck_any (ao : Option Addr) (n c : Nat) (l : List (Int × Int)) (b v : Int) (S : List UInt8) (w : World) (hS : L32 S) (hA : Rd w (.slice ao n c) 2 n (addrsV l)) (hn : l.length = n) :
    Calls Tryz.prog 99 #[.agg (ptrCells (.slice ao n c) b v S).toArray] w fun e w' => e = .returned (.int .i64 (checkE l b v S)) ∧ St w [] w' [] := by
  have Hn := hid hn; clear hn
  go_enter Tryz.func99, Tryz.ntmps99
  have hst := St.refl w
  go_wp2_with (first | go_big_skip | go_big_guard | (refine wl_boxA hst rfl rfl rfl ?_; intro g w1 hst1; clear hst) | (refine wl_loadE rfl rfl rfl ?_; first | refine ⟨_, Loads.at [] hst1 rfl, ?_⟩ | refine ⟨_, Loads.atA (ptrCells (.slice ao n c) b v S) [] hst1 (ptr_len hS _ _ _) (ptr_all _ _ _ _), ?_⟩) | (go_at_call 100; refine (refHole_any _ _ _ _ _ _ _ hS).mono ?_; rintro _ _ ⟨rfl, hcall⟩; replace hst1 := St.call0 hst1 hcall; clear hcall) | (go_at_call 128; refine (refAddrs_any _ _ _ l _ (Rd.old hst1 hA) Hn.out).mono ?_; rintro _ _ ⟨rfl, hcall⟩; replace hst1 := St.call0 hst1 hcall; clear hcall))
  all_goals (go_ret; exact ⟨ret_int (by have := Hn.out; unfold checkE checkB; grind), hst1.nil⟩)
end Go.Proofs.YtifajcblbedcoaaGreat
