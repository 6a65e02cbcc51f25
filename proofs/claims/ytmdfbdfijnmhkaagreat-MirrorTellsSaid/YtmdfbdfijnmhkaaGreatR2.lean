import Derived.Test.YtmdfbdfijnmhkaaGreatR1
namespace Go.Proofs.YtmdfbdfijnmhkaaGreat
set_option linter.unusedVariables false
set_option linter.unusedSimpArgs false
open Go.RowKit Hp
attribute [local irreducible] Go.Calls Go.wpList
set_option maxRecDepth 100000
set_option maxHeartbeats 4000000
theorem nix0 (w : World) : (Instr.index 155 (.agg #[.int .i64 1, .int .i64 10, .int .i64 5, .int .i64 2, .int .i64 14, .int .i64 13]) (.int .i64 0)).run Tryz.prog w = .ok (.int .i64 1) w := by kernel_rfl
theorem nix1 (w : World) : (Instr.index 155 (.agg #[.int .i64 1, .int .i64 10, .int .i64 5, .int .i64 2, .int .i64 14, .int .i64 13]) (.int .i64 1)).run Tryz.prog w = .ok (.int .i64 10) w := by kernel_rfl
theorem nix2 (w : World) : (Instr.index 155 (.agg #[.int .i64 1, .int .i64 10, .int .i64 5, .int .i64 2, .int .i64 14, .int .i64 13]) (.int .i64 2)).run Tryz.prog w = .ok (.int .i64 5) w := by kernel_rfl
theorem nix3 (w : World) : (Instr.index 155 (.agg #[.int .i64 1, .int .i64 10, .int .i64 5, .int .i64 2, .int .i64 14, .int .i64 13]) (.int .i64 3)).run Tryz.prog w = .ok (.int .i64 2) w := by kernel_rfl
theorem nix4 (w : World) : (Instr.index 155 (.agg #[.int .i64 1, .int .i64 10, .int .i64 5, .int .i64 2, .int .i64 14, .int .i64 13]) (.int .i64 4)).run Tryz.prog w = .ok (.int .i64 14) w := by kernel_rfl
theorem nix5 (w : World) : (Instr.index 155 (.agg #[.int .i64 1, .int .i64 10, .int .i64 5, .int .i64 2, .int .i64 14, .int .i64 13]) (.int .i64 5)).run Tryz.prog w = .ok (.int .i64 13) w := by kernel_rfl
theorem number_1 (d : Int) (w : World) : Calls Tryz.prog 47 #[.iface 154 (.agg #[.int .i64 1, .int .i64 d])] w fun x w' => x = .returned (.int .i64 1) ∧ St w [] w' [] := by
  have hst0 := St.refl w
  go_enter Tryz.func47, Tryz.ntmps47
  have i0 := nix0
  go_wp2_with (first | go_big_skip | go_big_guard | (refine wl_buildX (cs := [.int .i64 1, .int .i64 10, .int .i64 5, .int .i64 2, .int .i64 14, .int .i64 13]) [(0, _), (1, _), (2, _), (3, _), (4, _), (5, _)] rfl rfl (by exact rfl) (by kernel_rfl) ?_))
  refine wp_loop_rounds 1 ?_
  rw [rounds_succ]
  go_wp2_with (first | go_big_skip | go_big_guard | (go_at_call 100; refine (is_any 1 d _ _).mono ?_; rintro _ w1 ⟨rfl, h4⟩; have hst1 := St.call0 hst0 h4; clear h4 hst0))
  go_ret
  exact ⟨rfl, hst1⟩
theorem number_10 (d : Int) (w : World) : Calls Tryz.prog 47 #[.iface 154 (.agg #[.int .i64 10, .int .i64 d])] w fun x w' => x = .returned (.int .i64 10) ∧ St w [] w' [] := by
  have hst0 := St.refl w
  go_enter Tryz.func47, Tryz.ntmps47
  have i0 := nix0
  have i1 := nix1
  go_wp2_with (first | go_big_skip | go_big_guard | (refine wl_buildX (cs := [.int .i64 1, .int .i64 10, .int .i64 5, .int .i64 2, .int .i64 14, .int .i64 13]) [(0, _), (1, _), (2, _), (3, _), (4, _), (5, _)] rfl rfl (by exact rfl) (by kernel_rfl) ?_))
  refine wp_loop_rounds 2 ?_
  rw [rounds_succ]
  go_wp2_with (first | go_big_skip | go_big_guard | (go_at_call 100; refine (is_any 10 d _ _).mono ?_; rintro _ w1 ⟨rfl, h4⟩; have hst1 := St.call0 hst0 h4; clear h4 hst0))
  rw [rounds_succ]
  go_wp2_with (first | go_big_skip | go_big_guard | (go_at_call 100; refine (is_any 10 d _ _).mono ?_; rintro _ w2 ⟨rfl, h4⟩; have hst2 := St.call0 hst1 h4; clear h4 hst1))
  go_ret
  exact ⟨rfl, hst2⟩
theorem number_5 (d : Int) (w : World) : Calls Tryz.prog 47 #[.iface 154 (.agg #[.int .i64 5, .int .i64 d])] w fun x w' => x = .returned (.int .i64 5) ∧ St w [] w' [] := by
  have hst0 := St.refl w
  go_enter Tryz.func47, Tryz.ntmps47
  have i0 := nix0
  have i1 := nix1
  have i2 := nix2
  go_wp2_with (first | go_big_skip | go_big_guard | (refine wl_buildX (cs := [.int .i64 1, .int .i64 10, .int .i64 5, .int .i64 2, .int .i64 14, .int .i64 13]) [(0, _), (1, _), (2, _), (3, _), (4, _), (5, _)] rfl rfl (by exact rfl) (by kernel_rfl) ?_))
  refine wp_loop_rounds 3 ?_
  rw [rounds_succ]
  go_wp2_with (first | go_big_skip | go_big_guard | (go_at_call 100; refine (is_any 5 d _ _).mono ?_; rintro _ w1 ⟨rfl, h4⟩; have hst1 := St.call0 hst0 h4; clear h4 hst0))
  rw [rounds_succ]
  go_wp2_with (first | go_big_skip | go_big_guard | (go_at_call 100; refine (is_any 5 d _ _).mono ?_; rintro _ w2 ⟨rfl, h4⟩; have hst2 := St.call0 hst1 h4; clear h4 hst1))
  rw [rounds_succ]
  go_wp2_with (first | go_big_skip | go_big_guard | (go_at_call 100; refine (is_any 5 d _ _).mono ?_; rintro _ w3 ⟨rfl, h4⟩; have hst3 := St.call0 hst2 h4; clear h4 hst2))
  go_ret
  exact ⟨rfl, hst3⟩
theorem number_2 (d : Int) (w : World) : Calls Tryz.prog 47 #[.iface 154 (.agg #[.int .i64 2, .int .i64 d])] w fun x w' => x = .returned (.int .i64 2) ∧ St w [] w' [] := by
  have hst0 := St.refl w
  go_enter Tryz.func47, Tryz.ntmps47
  have i0 := nix0
  have i1 := nix1
  have i2 := nix2
  have i3 := nix3
  go_wp2_with (first | go_big_skip | go_big_guard | (refine wl_buildX (cs := [.int .i64 1, .int .i64 10, .int .i64 5, .int .i64 2, .int .i64 14, .int .i64 13]) [(0, _), (1, _), (2, _), (3, _), (4, _), (5, _)] rfl rfl (by exact rfl) (by kernel_rfl) ?_))
  refine wp_loop_rounds 4 ?_
  rw [rounds_succ]
  go_wp2_with (first | go_big_skip | go_big_guard | (go_at_call 100; refine (is_any 2 d _ _).mono ?_; rintro _ w1 ⟨rfl, h4⟩; have hst1 := St.call0 hst0 h4; clear h4 hst0))
  rw [rounds_succ]
  go_wp2_with (first | go_big_skip | go_big_guard | (go_at_call 100; refine (is_any 2 d _ _).mono ?_; rintro _ w2 ⟨rfl, h4⟩; have hst2 := St.call0 hst1 h4; clear h4 hst1))
  rw [rounds_succ]
  go_wp2_with (first | go_big_skip | go_big_guard | (go_at_call 100; refine (is_any 2 d _ _).mono ?_; rintro _ w3 ⟨rfl, h4⟩; have hst3 := St.call0 hst2 h4; clear h4 hst2))
  rw [rounds_succ]
  go_wp2_with (first | go_big_skip | go_big_guard | (go_at_call 100; refine (is_any 2 d _ _).mono ?_; rintro _ w4 ⟨rfl, h4⟩; have hst4 := St.call0 hst3 h4; clear h4 hst3))
  go_ret
  exact ⟨rfl, hst4⟩
theorem number_14 (d : Int) (w : World) : Calls Tryz.prog 47 #[.iface 154 (.agg #[.int .i64 14, .int .i64 d])] w fun x w' => x = .returned (.int .i64 14) ∧ St w [] w' [] := by
  have hst0 := St.refl w
  go_enter Tryz.func47, Tryz.ntmps47
  have i0 := nix0
  have i1 := nix1
  have i2 := nix2
  have i3 := nix3
  have i4 := nix4
  go_wp2_with (first | go_big_skip | go_big_guard | (refine wl_buildX (cs := [.int .i64 1, .int .i64 10, .int .i64 5, .int .i64 2, .int .i64 14, .int .i64 13]) [(0, _), (1, _), (2, _), (3, _), (4, _), (5, _)] rfl rfl (by exact rfl) (by kernel_rfl) ?_))
  refine wp_loop_rounds 5 ?_
  rw [rounds_succ]
  go_wp2_with (first | go_big_skip | go_big_guard | (go_at_call 100; refine (is_any 14 d _ _).mono ?_; rintro _ w1 ⟨rfl, h4⟩; have hst1 := St.call0 hst0 h4; clear h4 hst0))
  rw [rounds_succ]
  go_wp2_with (first | go_big_skip | go_big_guard | (go_at_call 100; refine (is_any 14 d _ _).mono ?_; rintro _ w2 ⟨rfl, h4⟩; have hst2 := St.call0 hst1 h4; clear h4 hst1))
  rw [rounds_succ]
  go_wp2_with (first | go_big_skip | go_big_guard | (go_at_call 100; refine (is_any 14 d _ _).mono ?_; rintro _ w3 ⟨rfl, h4⟩; have hst3 := St.call0 hst2 h4; clear h4 hst2))
  rw [rounds_succ]
  go_wp2_with (first | go_big_skip | go_big_guard | (go_at_call 100; refine (is_any 14 d _ _).mono ?_; rintro _ w4 ⟨rfl, h4⟩; have hst4 := St.call0 hst3 h4; clear h4 hst3))
  rw [rounds_succ]
  go_wp2_with (first | go_big_skip | go_big_guard | (go_at_call 100; refine (is_any 14 d _ _).mono ?_; rintro _ w5 ⟨rfl, h4⟩; have hst5 := St.call0 hst4 h4; clear h4 hst4))
  go_ret
  exact ⟨rfl, hst5⟩
theorem number_13 (d : Int) (w : World) : Calls Tryz.prog 47 #[.iface 154 (.agg #[.int .i64 13, .int .i64 d])] w fun x w' => x = .returned (.int .i64 13) ∧ St w [] w' [] := by
  have hst0 := St.refl w
  go_enter Tryz.func47, Tryz.ntmps47
  have i0 := nix0
  have i1 := nix1
  have i2 := nix2
  have i3 := nix3
  have i4 := nix4
  have i5 := nix5
  go_wp2_with (first | go_big_skip | go_big_guard | (refine wl_buildX (cs := [.int .i64 1, .int .i64 10, .int .i64 5, .int .i64 2, .int .i64 14, .int .i64 13]) [(0, _), (1, _), (2, _), (3, _), (4, _), (5, _)] rfl rfl (by exact rfl) (by kernel_rfl) ?_))
  refine wp_loop_rounds 6 ?_
  rw [rounds_succ]
  go_wp2_with (first | go_big_skip | go_big_guard | (go_at_call 100; refine (is_any 13 d _ _).mono ?_; rintro _ w1 ⟨rfl, h4⟩; have hst1 := St.call0 hst0 h4; clear h4 hst0))
  rw [rounds_succ]
  go_wp2_with (first | go_big_skip | go_big_guard | (go_at_call 100; refine (is_any 13 d _ _).mono ?_; rintro _ w2 ⟨rfl, h4⟩; have hst2 := St.call0 hst1 h4; clear h4 hst1))
  rw [rounds_succ]
  go_wp2_with (first | go_big_skip | go_big_guard | (go_at_call 100; refine (is_any 13 d _ _).mono ?_; rintro _ w3 ⟨rfl, h4⟩; have hst3 := St.call0 hst2 h4; clear h4 hst2))
  rw [rounds_succ]
  go_wp2_with (first | go_big_skip | go_big_guard | (go_at_call 100; refine (is_any 13 d _ _).mono ?_; rintro _ w4 ⟨rfl, h4⟩; have hst4 := St.call0 hst3 h4; clear h4 hst3))
  rw [rounds_succ]
  go_wp2_with (first | go_big_skip | go_big_guard | (go_at_call 100; refine (is_any 13 d _ _).mono ?_; rintro _ w5 ⟨rfl, h4⟩; have hst5 := St.call0 hst4 h4; clear h4 hst4))
  rw [rounds_succ]
  go_wp2_with (first | go_big_skip | go_big_guard | (go_at_call 100; refine (is_any 13 d _ _).mono ?_; rintro _ w6 ⟨rfl, h4⟩; have hst6 := St.call0 hst5 h4; clear h4 hst5))
  go_ret
  exact ⟨rfl, hst6⟩
theorem number_any (e d : Int) (he : e = 1 ∨ e = 10 ∨ e = 5 ∨ e = 2 ∨ e = 14 ∨ e = 13) (w : World) : Calls Tryz.prog 47 #[errV d e] w fun x w' => x = .returned (.int .i64 e) ∧ St w [] w' [] := by
  rcases he with rfl | rfl | rfl | rfl | rfl | rfl
  · exact number_1 d w
  · exact number_10 d w
  · exact number_5 d w
  · exact number_2 d w
  · exact number_14 d w
  · exact number_13 d w
end Go.Proofs.YtmdfbdfijnmhkaaGreat
