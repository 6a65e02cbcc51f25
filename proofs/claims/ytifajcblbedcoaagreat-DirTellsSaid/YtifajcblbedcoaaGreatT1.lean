import Derived.Test.YtifajcblbedcoaaGreatTy
namespace Go.Proofs.YtifajcblbedcoaaGreat
set_option linter.unusedVariables false
set_option linter.unusedSimpArgs false
open Go.RowKit Hp
set_option maxHeartbeats 400000
theorem nothing_any (sv : Value) (b l : Int) (S : List UInt8) (w : World) (hS : L32 S) :
    Calls Tryz.prog 120 #[.agg (ptrCells sv b l S).toArray] w fun e w' => e = .returned (.bool (nothingB b l S)) ∧ St w [] w' [] := by
  go_enter Tryz.func120, Tryz.ntmps120
  have hst := St.refl w
  go_wp2_with (first | go_big_skip | go_big_guard | (refine wl_boxA hst rfl rfl rfl ?_; intro g w1 hst1; clear hst) | (refine wl_loadE rfl rfl rfl ?_; first | refine ⟨_, Loads.at [] hst1 rfl, ?_⟩ | refine ⟨_, Loads.atA (bytesV S) [] hst1 (hS.v) (ptr_sum _ _ _ _), ?_⟩) | (refine wl_build0 rfl rfl ?_) | (refine wl_eql_bytes rfl rfl rfl rfl (hS.two L32.nones) ?_))
  all_goals (go_ret; exact ⟨ret_bool (by simp [nothingB, *]), hst1.nil⟩)
theorem hole_any (ao : Option Addr) (n c : Nat) (b l : Int) (S : List UInt8) (w : World) (hS : L32 S) :
    Calls Tryz.prog 83 #[.agg (ptrCells (.slice ao n c) b l S).toArray] w fun e w' => e = .returned (.bool (holeB n b l S)) ∧ St w [] w' [] := by
  go_enter Tryz.func83, Tryz.ntmps83
  have hst := St.refl w
  go_wp2_with (first | go_big_skip | go_big_guard | (refine wl_boxA hst rfl rfl rfl ?_; intro g w1 hst1; clear hst) | (refine wl_loadE rfl rfl rfl ?_; first | refine ⟨_, Loads.at [] hst1 rfl, ?_⟩ | refine ⟨_, Loads.atA (ptrCells (.slice ao n c) b l S) [] hst1 (ptr_len hS _ _ _) (ptr_all _ _ _ _), ?_⟩) | (go_at_call 120; refine (nothing_any _ _ _ _ _ hS).mono ?_; rintro _ _ ⟨rfl, hcall⟩; replace hst1 := St.call0 hst1 hcall; clear hcall))
  all_goals (go_ret; exact ⟨ret_bool (by grind [holeB]), hst1.nil⟩)
theorem refHole_any (ao : Option Addr) (n c : Nat) (b l : Int) (S : List UInt8) (w : World) (hS : L32 S) :
    Calls Tryz.prog 100 #[.agg (ptrCells (.slice ao n c) b l S).toArray] w fun e w' => e = .returned (.bool (holeB n b l S)) ∧ St w [] w' [] := by
  go_enter Tryz.func100, Tryz.ntmps100
  have hst := St.refl w
  go_wp2_with (first | go_big_skip | go_big_guard | (refine wl_boxA hst rfl rfl rfl ?_; intro g w1 hst1; clear hst) | (refine wl_loadE rfl rfl rfl ?_; first | refine ⟨_, Loads.at [] hst1 rfl, ?_⟩ | refine ⟨_, Loads.atA (bytesV S) [] hst1 (hS.v) (ptr_sum _ _ _ _), ?_⟩) | (refine wl_build0 rfl rfl ?_) | (refine wl_eql_bytes rfl rfl rfl rfl (hS.two L32.nones) ?_))
  all_goals (go_ret; exact ⟨ret_bool (by grind [holeB, nothingB]), hst1.nil⟩)
end Go.Proofs.YtifajcblbedcoaaGreat
