import Derived.Test.YtkpkaoiafppimaaTy
namespace Go.Proofs.Ytkpkaoiafppimaa
set_option linter.unusedVariables false
set_option linter.unusedSimpArgs false
open Go.RowKit Hp
set_option maxHeartbeats 400000
theorem nothing_any (sv : Value) (b l : Int) (S : List UInt8) (w : World) (hS : L32 S) :
    Calls Try.prog 105 #[.agg (ptrCells sv b l S).toArray] w fun e w' => e = .returned (.bool (nothingB b l S)) ∧ St w [] w' [] := by
  go_enter Try.func105, Try.ntmps105
  have hst := St.refl w
  go_wp2_with (first | go_big_skip | go_big_guard | (refine wl_boxA hst rfl rfl rfl ?_; intro g w1 hst1; clear hst) | (refine wl_loadE rfl rfl rfl ?_; first | refine ⟨_, Loads.at [] hst1 rfl, ?_⟩ | refine ⟨_, Loads.atA (bytesV S) [] hst1 (hS.v) (ptr_sum _ _ _ _), ?_⟩) | (refine wl_build0 rfl rfl ?_) | (refine wl_eql_bytes rfl rfl rfl rfl (hS.two L32.nones) ?_))
  all_goals (go_ret; exact ⟨ret_bool (by simp [nothingB, *]), hst1.nil⟩)
theorem hole_any (ao : Option Addr) (n c : Nat) (b l : Int) (S : List UInt8) (w : World) (hS : L32 S) :
    Calls Try.prog 91 #[.agg (ptrCells (.slice ao n c) b l S).toArray] w fun e w' => e = .returned (.bool (holeB n b l S)) ∧ St w [] w' [] := by
  go_enter Try.func91, Try.ntmps91
  have hst := St.refl w
  go_wp2_with (first | go_big_skip | go_big_guard | (refine wl_boxA hst rfl rfl rfl ?_; intro g w1 hst1; clear hst) | (refine wl_loadE rfl rfl rfl ?_; first | refine ⟨_, Loads.at [] hst1 rfl, ?_⟩ | refine ⟨_, Loads.atA (ptrCells (.slice ao n c) b l S) [] hst1 (ptr_len hS _ _ _) (ptr_all _ _ _ _), ?_⟩) | (go_at_call 105; refine (nothing_any _ _ _ _ _ hS).mono ?_; rintro _ _ ⟨rfl, hcall⟩; replace hst1 := St.call0 hst1 hcall; clear hcall))
  all_goals (go_ret; exact ⟨ret_bool (by grind [holeB]), hst1.nil⟩)
theorem refHole_any (ao : Option Addr) (n c : Nat) (b l : Int) (S : List UInt8) (w : World) (hS : L32 S) :
    Calls Try.prog 96 #[.agg (ptrCells (.slice ao n c) b l S).toArray] w fun e w' => e = .returned (.bool (holeB n b l S)) ∧ St w [] w' [] := by
  go_enter Try.func96, Try.ntmps96
  have hst := St.refl w
  go_wp2_with (first | go_big_skip | go_big_guard | (refine wl_boxA hst rfl rfl rfl ?_; intro g w1 hst1; clear hst) | (refine wl_loadE rfl rfl rfl ?_; first | refine ⟨_, Loads.at [] hst1 rfl, ?_⟩ | refine ⟨_, Loads.atA (bytesV S) [] hst1 (hS.v) (ptr_sum _ _ _ _), ?_⟩) | (refine wl_build0 rfl rfl ?_) | (refine wl_eql_bytes rfl rfl rfl rfl (hS.two L32.nones) ?_))
  all_goals (go_ret; exact ⟨ret_bool (by grind [holeB, nothingB]), hst1.nil⟩)
theorem like_any (ao ao' : Option Addr) (n c n' c' : Nat) (b l b' l' : Int) (S S' : List UInt8) (w : World) (hS : L32 S) (hS' : L32 S') :
    Calls Try.prog 85 #[.agg (ptrCells (.slice ao n c) b l S).toArray, .agg (ptrCells (.slice ao' n' c') b' l' S').toArray] w fun e w' => e = .returned (.bool (likeB n n' b l b' l' S S')) ∧ St w [] w' [] := by
  go_enter Try.func85, Try.ntmps85
  have hst := St.refl w
  go_wp2_with (first | go_big_skip | go_big_guard | (refine wl_boxA hst rfl rfl rfl ?_; intro g w1 hst1; clear hst) | (refine wl_boxA hst1 rfl rfl rfl ?_; intro g2 w2 hst2; clear hst1) | (refine wl_loadE rfl rfl rfl ?_; first | refine ⟨_, Loads.at [] hst2 rfl, ?_⟩ | refine ⟨_, Loads.at [_] hst2 rfl, ?_⟩ | refine ⟨_, Loads.atA (bytesV S') [] hst2 (hS'.v) (ptr_sum _ _ _ _), ?_⟩ | refine ⟨_, Loads.atA (bytesV S) [_] hst2 (hS.v) (ptr_sum _ _ _ _), ?_⟩) | (refine wl_eql_bytes rfl rfl rfl rfl (hS.two hS') ?_))
  all_goals (go_ret; exact ⟨ret_bool (by grind [likeB]), hst2.nil⟩)
theorem refLike_any (ao ao' : Option Addr) (n c n' c' : Nat) (b l b' l' : Int) (S S' : List UInt8) (w : World) (hS : L32 S) (hS' : L32 S') :
    Calls Try.prog 102 #[.agg (ptrCells (.slice ao n c) b l S).toArray, .agg (ptrCells (.slice ao' n' c') b' l' S').toArray] w fun e w' => e = .returned (.bool (likeB n n' b l b' l' S S')) ∧ St w [] w' [] := by
  go_enter Try.func102, Try.ntmps102
  have hst := St.refl w
  go_wp2_with (first | go_big_skip | go_big_guard | (refine wl_boxA hst rfl rfl rfl ?_; intro g w1 hst1; clear hst) | (refine wl_boxA hst1 rfl rfl rfl ?_; intro g2 w2 hst2; clear hst1) | (refine wl_loadE rfl rfl rfl ?_; first | refine ⟨_, Loads.at [] hst2 rfl, ?_⟩ | refine ⟨_, Loads.at [_] hst2 rfl, ?_⟩ | refine ⟨_, Loads.atA (bytesV S') [] hst2 (hS'.v) (ptr_sum _ _ _ _), ?_⟩ | refine ⟨_, Loads.atA (bytesV S) [_] hst2 (hS.v) (ptr_sum _ _ _ _), ?_⟩) | (refine wl_eql_bytes rfl rfl rfl rfl (hS.two hS') ?_))
  all_goals (go_ret; exact ⟨ret_bool (by grind [likeB]), hst2.nil⟩)
end Go.Proofs.Ytkpkaoiafppimaa
