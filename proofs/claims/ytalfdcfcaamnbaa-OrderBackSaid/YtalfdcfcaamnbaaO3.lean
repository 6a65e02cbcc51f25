import Derived.Test.YtalfdcfcaamnbaaO1
namespace Go.Proofs.Ytalfdcfcaamnbaa
set_option linter.unusedVariables false
set_option linter.unusedSimpArgs false
open Go.RowKit Hp
attribute [local irreducible] Go.Calls
set_option maxRecDepth 100000
set_option maxHeartbeats 4000000
theorem Hp.Loads.whole {P : Program} {w0 w : World} {M : List Nat} {T T' : TypeId} {g n : Nat} {cs : List Value} (L1 : List HA) {L2 : List HA} (hst : St w0 M w (L1 ++ .blk g T' cs :: L2)) [ht : TyA P T n] (hn : cs.length = n) : Loads P w T ⟨g, 0, none⟩ (.agg cs.toArray) :=
  Loads.atA cs L1 hst hn (by simp)
theorem usesC_of {op : Int} {l : List Bool} (h : usesL op = l) : usesC op = [.bool (l.getD 0 false), .bool (l.getD 1 false), .bool (l.getD 2 false), .bool (l.getD 3 false), .bool (l.getD 4 false), .bool (l.getD 5 false)] := by
  subst h
  rfl
theorem quses_any (op : Int) (w : World) : Calls Try.prog 18 #[.int .i64 op] w fun e w' => e = .returned (.agg (usesC op).toArray) ∧ St w [] w' [] := by
  have hst := St.refl w
  go_enter Try.func18, Try.ntmps18
  go_wp2_with (first | go_big_skip | go_big_guard | (refine wl_alloc hst rfl rfl ?_; intro g2 _ hst1; clear hst) | (refine wl_buildX (T := 35) (cs := [.bool true, .bool false, .bool true, .bool false, .bool false, .bool false]) [(0, .bool true), (2, .bool true)] rfl rfl (by exact rfl) (by kernel_rfl) ?_) | (refine wl_buildX (T := 35) (cs := [.bool true, .bool false, .bool false, .bool false, .bool false, .bool false]) [(0, .bool true)] rfl rfl (by exact rfl) (by kernel_rfl) ?_) | (refine wl_buildX (T := 35) (cs := [.bool true, .bool true, .bool false, .bool false, .bool false, .bool false]) [(0, .bool true), (1, .bool true)] rfl rfl (by exact rfl) (by kernel_rfl) ?_) | (refine wl_buildX (T := 35) (cs := [.bool true, .bool false, .bool true, .bool true, .bool false, .bool false]) [(0, .bool true), (2, .bool true), (3, .bool true)] rfl rfl (by exact rfl) (by kernel_rfl) ?_) | (refine wl_buildX (T := 35) (cs := [.bool false, .bool false, .bool false, .bool false, .bool true, .bool false]) [(4, .bool true)] rfl rfl (by exact rfl) (by kernel_rfl) ?_) | (refine wl_buildX (T := 35) (cs := [.bool true, .bool false, .bool true, .bool false, .bool false, .bool true]) [(0, .bool true), (2, .bool true), (5, .bool true)] rfl rfl (by exact rfl) (by kernel_rfl) ?_) | (refine wl_buildX (T := 35) (cs := [.bool false, .bool false, .bool true, .bool false, .bool false, .bool false]) [(2, .bool true)] rfl rfl (by exact rfl) (by kernel_rfl) ?_) | (refine wl_build0 rfl rfl ?_) | (refine wl_storeA [] hst1 rfl rfl rfl rfl rfl rfl rfl ?_; intro w7 hst4; clear hst1))
  all_goals
    refine bodyPost_ret (results_cellL rfl rfl (Loads.whole (T := 35) [] hst4 rfl)) rfl ⟨?_, hst4.nil⟩
    refine congrArg (fun l : List Value => Ending.returned (.agg l.toArray)) ?_
    symm
    simp_all [usesC, us, usesL]
end Go.Proofs.Ytalfdcfcaamnbaa
