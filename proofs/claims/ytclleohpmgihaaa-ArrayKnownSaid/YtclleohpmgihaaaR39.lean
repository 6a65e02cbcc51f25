/- ArrayKnown: the walk. -/
import Derived.Test.YtclleohpmgihaaaR38
import Derived.Test.YtclleohpmgihaaaSepF
namespace Go.Proofs.Ytclleohpmgihaaa
set_option linter.unusedVariables false
set_option linter.unusedSimpArgs false
open Go.RowKit Hp
attribute [local irreducible] Go.Calls Go.wpList
set_option maxRecDepth 100000
set_option maxHeartbeats 8000000
theorem newM_18 (w : World) : Calls Try.prog 31 #[.int .i64 1, .int .i64 8] w fun e w' => e = .returned (.tuple #[.pointer none, .int .i64 2]) ∧ St w [] w' [] := by
  have hst0 := St.refl w
  go_enter Try.func31, Try.ntmps31
  go_wp2_with (first | go_big_skip | go_big_guard | fail)
  go_ret2
  exact ⟨rfl, hst0⟩
theorem known15_any (w : World) : Calls Try.prog 6 #[] w fun e w' => e = .returned (.bool true) ∧ St w [] w' [] := by
  have hst := St.refl w
  go_enter Try.func6, Try.ntmps6
  go_wp2_with (first | go_big_skip | go_big_guard | (go_at_call 10; refine (made2_any _).mono ?_; rintro _ w0 ⟨ga, x0, gs, rfl, hg, h4⟩; obtain ⟨p, q, rfl⟩ : ∃ p q, gs = [p, q] := (match gs, hg with | [p, q], _ => ⟨p, q, rfl⟩); have hs0 : St w [] w0 (arP ga x0 (K0 p q) ++ []) := St.call hst h4; clear h4 hg hst) | (go_at_call 22; refine (strayM_any (St.arr hs0) (K0_ok p q) 1 6).mono ?_; rw [(N0_y p q)]; rintro _ w1 ⟨rfl, h4⟩; have hs1 : St w [] w1 (arP ga x0 (N1 p q) ++ _) := St.callF (arP ga x0 (K0 p q)) hs0 h4; clear h4 hs0) | (go_at_call 14; refine (of_any 1 _).mono ?_; rintro _ w2 ⟨g2, rfl, h4⟩; have hs2 := St.behind (A := arP ga x0 (N1 p q)) (St.call hs1 h4); clear h4 hs1) | (go_at_call 13; refine (writeM_any (St.arr hs2) (N1_ok p q) (by rw [(N1_st p q)]; decide) (by rw [(N1_ll p q)]; decide) 1 5 (some ⟨g2, 0, none⟩) 256 256 (BB 1) (Rd.blk hs2 (List.mem_append_right _ (.head _)) (Nat.le_refl _) (by decide) (by rw [length_bytesV]; exact BB_len 1) (by rw [List.drop_zero]; exact List.take_length)) (BB_len 1) (off_behind hs2 (.head _) 0 256 256)).mono ?_; rw [(N1_w p q)]; rintro _ w3 ⟨rfl, x3, h4⟩; have hs3 : St w [] w3 (arP ga x3 (N2 p q) ++ _) := St.callF (arP ga x0 (N1 p q)) hs2 h4; clear h4 hs2) | (go_at_call 14; refine (of_any 0 _).mono ?_; rintro _ w4 ⟨g4, rfl, h4⟩; have hs4 := St.behind (A := arP ga x3 (N2 p q)) (St.call hs3 h4); clear h4 hs3) | (go_at_call 25; refine (reads_any (St.arr hs4) (N2_ok p q) (by rw [(N2_ll p q)]; decide) 1 5 (.slice (some ⟨g4, 0, none⟩) 256 256) 256 (BB 0) (Rd.blk hs4 (List.mem_append_right _ (.head _)) (Nat.le_refl _) (by decide) (by rw [length_bytesV]; exact BB_len 0) (by rw [List.drop_zero]; exact List.take_length)) (BB_len 0) (off_behind hs4 (.head _) 0 256 256)).mono ?_; rw [(N2a_r p q), (N2a_s p q)]; rintro _ w5 ⟨rfl, h4⟩; have hs5 : St w [] w5 (arP ga x3 (N2 p q) ++ _) := St.callF (arP ga x3 (N2 p q)) hs4 h4; clear h4 hs4) | (go_at_call 14; refine (of_any 1 _).mono ?_; rintro _ w6 ⟨g6, rfl, h4⟩; have hs6 := St.behind (A := arP ga x3 (N2 p q)) (St.call hs5 h4); clear h4 hs5) | (go_at_call 25; refine (reads_any (St.arr hs6) (N2_ok p q) (by rw [(N2_ll p q)]; decide) 1 6 (.slice (some ⟨g6, 0, none⟩) 256 256) 256 (BB 1) (Rd.blk hs6 (List.mem_append_right _ (.head _)) (Nat.le_refl _) (by decide) (by rw [length_bytesV]; exact BB_len 1) (by rw [List.drop_zero]; exact List.take_length)) (BB_len 1) (off_behind hs6 (.head _) 0 256 256)).mono ?_; rw [(N2b_r p q), (N2b_s p q)]; rintro _ w7 ⟨rfl, h4⟩; have hs7 : St w [] w7 (arP ga x3 (N2 p q) ++ _) := St.callF (arP ga x3 (N2 p q)) hs6 h4; clear h4 hs6) | (go_at_call 23; refine (failsM_any (St.arr hs7) (N2_ok p q) 1 1).mono ?_; rw [(N2_f p q)]; rintro _ w8 ⟨rfl, h4⟩; have hs8 : St w [] w8 (arP ga x3 (N3 p q) ++ _) := St.callF (arP ga x3 (N2 p q)) hs7 h4; clear h4 hs7) | (go_at_call 24; refine (readM_any (St.arr hs8) (N3_ok p q) (by rw [(N3_ll p q)]; decide) 1 6).mono ?_; rw [(N3_e p q), (N3_b p q)]; rintro _ w9 ⟨u9, rfl, h4⟩; have hs9 : St w [] w9 (arP ga x3 (N4 p q) ++ _) := St.sub (St.callF (arP ga x3 (N3 p q)) hs8 h4) (.cons _ (List.Sublist.refl _)); clear h4 hs8) | (go_at_call 14; refine (of_any 1 _).mono ?_; rintro _ w10 ⟨g10, rfl, h4⟩; have hs10 := St.behind (A := arP ga x3 (N4 p q)) (St.call hs9 h4); clear h4 hs9) | (go_at_call 25; refine (reads_any (St.arr hs10) (N4_ok p q) (by rw [(N4_ll p q)]; decide) 1 6 (.slice (some ⟨g10, 0, none⟩) 256 256) 256 (BB 1) (Rd.blk hs10 (List.mem_append_right _ (.head _)) (Nat.le_refl _) (by decide) (by rw [length_bytesV]; exact BB_len 1) (by rw [List.drop_zero]; exact List.take_length)) (BB_len 1) (off_behind hs10 (.head _) 0 256 256)).mono ?_; rw [(N4a_r p q), (N4a_s p q)]; rintro _ w11 ⟨rfl, h4⟩; have hs11 : St w [] w11 (arP ga x3 (N4 p q) ++ _) := St.callF (arP ga x3 (N4 p q)) hs10 h4; clear h4 hs10) | (go_at_call 18; refine (crashM_any (St.arr hs11) (N4_ok p q) (by rw [(N4_ll p q)]; decide) none 0 0 [] (Rd.nil _ _) rfl (Off.nil _ _ _) 0).mono ?_; rw [(N4_c p q)]; rintro _ w12 ⟨rfl, x12, h4⟩; have hs12 : St w [] w12 (arP ga x12 (N5 p q) ++ _) := St.callF (arP ga x3 (N4 p q)) hs11 h4; clear h4 hs11) | (go_at_call 12; refine (fuseM_any (St.arr hs12) (N5_ok p q) 1).mono ?_; rw [(N5_u p q)]; rintro _ w13 ⟨rfl, h4⟩; have hs13 : St w [] w13 (arP ga x12 (N6 p q) ++ _) := St.callF (arP ga x12 (N5 p q)) hs12 h4; clear h4 hs12) | (go_at_call 14; refine (of_any 2 _).mono ?_; rintro _ w14 ⟨g14, rfl, h4⟩; have hs14 := St.behind (A := arP ga x12 (N6 p q)) (St.call hs13 h4); clear h4 hs13) | (go_at_call 13; refine (writeM_any (St.arr hs14) (N6_ok p q) (by rw [(N6_st p q)]; decide) (by rw [(N6_ll p q)]; decide) 0 7 (some ⟨g14, 0, none⟩) 256 256 (BB 2) (Rd.blk hs14 (List.mem_append_right _ (.head _)) (Nat.le_refl _) (by decide) (by rw [length_bytesV]; exact BB_len 2) (by rw [List.drop_zero]; exact List.take_length)) (BB_len 2) (off_behind hs14 (.head _) 0 256 256)).mono ?_; rw [(N6_w p q)]; rintro _ w15 ⟨rfl, x15, h4⟩; have hs15 : St w [] w15 (arP ga x15 (N7 p q) ++ _) := St.callF (arP ga x12 (N6 p q)) hs14 h4; clear h4 hs14) | (go_at_call 15; refine (flushM_any (St.arr hs15) (N7_ok p q) (by rw [(N7_st p q)]; decide) (by rw [(N7_ll p q)]; decide) 0).mono ?_; rw [(N7_f p q)]; rintro _ w16 ⟨rfl, x16, h4⟩; have hs16 : St w [] w16 (arP ga x16 (N8 p q) ++ _) := St.callF (arP ga x15 (N7 p q)) hs15 h4; clear h4 hs15) | (go_at_call 19; refine (up_any (ArrAt.of hs16 (fun p hp => List.mem_append_left _ hp) (N8_ok p q).d0) 0).mono ?_; rw [(N8_p p q)]; rintro _ w17 ⟨rfl, h4⟩; have hs17 := St.call0 hs16 h4; clear h4 hs16) | (apply wl_bsX ([.bool true]) ([.bool true]) hs17; rfl; rfl; exact rfl; exact rfl; infer_instance; infer_instance; rfl; rfl; rfl; intro g18 w18 h4; have hs18 := St.behind (A := arP ga x16 (N8 p q)) h4; clear h4 hs17) | (go_at_call 18; refine (crashM_any (St.arr hs18) (N8_ok p q) (by rw [(N8_ll p q)]; decide) (some ⟨g18, 0, none⟩) 1 1 [true] (Rd.blk hs18 (List.mem_append_right _ (.head _)) (Nat.le_refl _) (by decide) rfl rfl) rfl (off_behind hs18 (.head _) 0 1 1) 0).mono ?_; rw [(N8_c p q)]; rintro _ w19 ⟨rfl, x19, h4⟩; have hs19 : St w [] w19 (arP ga x19 (N9 p q) ++ _) := St.callF (arP ga x16 (N8 p q)) hs18 h4; clear h4 hs18) | (go_at_call 14; refine (of_any 2 _).mono ?_; rintro _ w20 ⟨g20, rfl, h4⟩; have hs20 := St.behind (A := arP ga x19 (N9 p q)) (St.call hs19 h4); clear h4 hs19) | (go_at_call 25; refine (reads_any (St.arr hs20) (N9_ok p q) (by rw [(N9_ll p q)]; decide) 0 7 (.slice (some ⟨g20, 0, none⟩) 256 256) 256 (BB 2) (Rd.blk hs20 (List.mem_append_right _ (.head _)) (Nat.le_refl _) (by decide) (by rw [length_bytesV]; exact BB_len 2) (by rw [List.drop_zero]; exact List.take_length)) (BB_len 2) (off_behind hs20 (.head _) 0 256 256)).mono ?_; rw [(N9a_r p q), (N9a_s p q)]; rintro _ w21 ⟨rfl, h4⟩; have hs21 : St w [] w21 (arP ga x19 (N9 p q) ++ _) := St.callF (arP ga x19 (N9 p q)) hs20 h4; clear h4 hs20) | (go_at_call 31; refine (newM_18 _).mono ?_; rintro _ w22 ⟨rfl, h4⟩; have hs22 := St.call0 hs21 h4; clear h4 hs21) | (go_at_call 14; refine (of_any 1 _).mono ?_; rintro _ w23 ⟨g23, rfl, h4⟩; have hs23 := St.behind (A := arP ga x19 (N9 p q)) (St.call hs22 h4); clear h4 hs22) | (go_at_call 13; refine (writeM_any (St.arr hs23) (N9_ok p q) (by rw [(N9_st p q)]; decide) (by rw [(N9_ll p q)]; decide) 1 8 (some ⟨g23, 0, none⟩) 256 256 (BB 1) (Rd.blk hs23 (List.mem_append_right _ (.head _)) (Nat.le_refl _) (by decide) (by rw [length_bytesV]; exact BB_len 1) (by rw [List.drop_zero]; exact List.take_length)) (BB_len 1) (off_behind hs23 (.head _) 0 256 256)).mono ?_; rw [(N9_w p q), (N9_ww p q)]; rintro _ w24 ⟨rfl, x24, h4⟩; have hs24 : St w [] w24 (arP ga x24 (N9 p q) ++ _) := St.callF (arP ga x19 (N9 p q)) hs23 h4; clear h4 hs23) | (go_at_call 13; refine (writeM_any (St.arr hs24) (N9_ok p q) (by rw [(N9_st p q)]; decide) (by rw [(N9_ll p q)]; decide) 1 7 none 0 0 [] (Rd.nil _ _) rfl (Off.nil _ _ _)).mono ?_; rw [(N9_x p q), (N9_xx p q)]; rintro _ w25 ⟨rfl, x25, h4⟩; have hs25 : St w [] w25 (arP ga x25 (N9 p q) ++ _) := St.callF (arP ga x24 (N9 p q)) hs24 h4; clear h4 hs24) | (go_at_call 29; refine (pullM_any (St.arr hs25) (N9_ok p q) (by rw [(N9_ll p q)]; decide) 0).mono ?_; rw [(N9_l p q)]; rintro _ w26 ⟨rfl, x26, h4⟩; have hs26 : St w [] w26 (arP ga x26 (N10 p q) ++ _) := St.callF (arP ga x25 (N9 p q)) hs25 h4; clear h4 hs25) | (go_at_call 24; refine (readM_any (St.arr hs26) (N10_ok p q) (by rw [(N10_ll p q)]; decide) 0 5).mono ?_; rw [(N10_e p q), (N10_b p q), (N10_r p q)]; rintro _ w27 ⟨u27, rfl, h4⟩; have hs27 : St w [] w27 (arP ga x26 (N10 p q) ++ _) := St.sub (St.callF (arP ga x26 (N10 p q)) hs26 h4) (.cons _ (List.Sublist.refl _)); clear h4 hs26) | (go_at_call 30; refine (fitM_any (St.arr hs27) (N10_ok p q) (by rw [(N10_ll p q)]; decide) 0).mono ?_; rw [(N10_f p q)]; rintro _ w28 ⟨rfl, x28, gF, h4⟩; have hs28 : St w [] w28 (arP ga x28 (N11 p q gF) ++ _) := St.callF (arP ga x26 (N10 p q)) hs27 h4; clear h4 hs27) | (go_at_call 14; refine (of_any 0 _).mono ?_; rintro _ w29 ⟨g29, rfl, h4⟩; have hs29 := St.behind (A := arP ga x28 (N11 p q gF)) (St.call hs28 h4); clear h4 hs28) | (go_at_call 25; refine (reads_any (St.arr hs29) (N11_ok p q gF) (by rw [(N11_ll p q gF)]; decide) 0 7 (.slice (some ⟨g29, 0, none⟩) 256 256) 256 (BB 0) (Rd.blk hs29 (List.mem_append_right _ (.head _)) (Nat.le_refl _) (by decide) (by rw [length_bytesV]; exact BB_len 0) (by rw [List.drop_zero]; exact List.take_length)) (BB_len 0) (off_behind hs29 (.head _) 0 256 256)).mono ?_; rw [(N11a_r p q gF), (N11a_s p q gF)]; rintro _ w30 ⟨rfl, h4⟩; have hs30 : St w [] w30 (arP ga x28 (N11 p q gF) ++ _) := St.callF (arP ga x28 (N11 p q gF)) hs29 h4; clear h4 hs29))
  have hX := hs30.drew
  clear hs30
  refine wp_region_held_drew (S := (fun w' => True)) (by kernel_rfl) (by exact trivial) (fun hHeld => ?_)
  refine wpAnyH_ready (rs := [0]) (by kernel_rfl) (by simp) ?_
  refine (AllReadyH.cons (o := ⟨some 130, _, _, _, _, _⟩) rfl (fun K hK => ?_) AllReadyH.nil)
  rw [if_pos (by rfl)]
  go_simp
  go_at_call 14
  refine (of_any 1 _).mono ?_
  rintro _ w71 ⟨gT, rfl, h4⟩
  have hA1 := St.call hX h4
  clear h4
  refine hK.out _ _ ?_ (fun hHeld => ?_)
  · exact trivial
  clear hK K
  (try simp only [Act.put, List.setIfInBounds_toArray, List.set_cons_zero, List.set_cons_succ])
  refine wpAnyH_take (i := 1) (oi := ⟨some 131, _, _, _, _, _⟩) (v := ?_) rfl (by kernel_rfl) (by kernel_rfl) (by kernel_rfl) (fun _ _ _ h => h) (Or.inl ⟨by rfl, ?_⟩) (by assumption) ?_
  rotate_left
  · intro w hSw; (try dsimp only at hSw); go_simp; try with_reducible rfl
  (try simp only [Act.put, List.setIfInBounds_toArray, List.set_cons_zero, List.set_cons_succ])
  refine wpAnyH_ready (rs := [2]) (by kernel_rfl) (by simp) ?_
  refine (AllReadyH.cons (o := ⟨some 132, _, _, _, _, _⟩) rfl (fun K hK => ?_) AllReadyH.nil)
  rw [if_pos (by rfl)]
  go_simp
  go_at_call 14
  refine (of_any 0 _).mono ?_
  rintro _ w72 ⟨gB, rfl, h4⟩
  have hA2 := St.call hA1 h4
  clear h4
  refine hK.out _ _ ?_ (fun hHeld => ?_)
  · exact trivial
  clear hK K
  (try simp only [Act.put, List.setIfInBounds_toArray, List.set_cons_zero, List.set_cons_succ])
  refine wpAnyH_take (i := 3) (oi := ⟨some 133, _, _, _, _, _⟩) (v := ?_) rfl (by kernel_rfl) (by kernel_rfl) (by kernel_rfl) (fun _ _ _ h => h) (Or.inl ⟨by rfl, ?_⟩) (by assumption) ?_
  rotate_left
  · intro w hSw; (try dsimp only at hSw); go_simp; try with_reducible rfl
  (try simp only [Act.put, List.setIfInBounds_toArray, List.set_cons_zero, List.set_cons_succ])
  refine wpAnyH_ready (rs := [4]) (by kernel_rfl) (by simp) ?_
  refine (AllReadyH.cons (o := ⟨some 134, _, _, _, _, _⟩) rfl (fun K hK => ?_) AllReadyH.nil)
  rw [if_pos (by rfl)]
  refine ow_of_wl (ops := #[]) (by rfl) ?_
  apply wl_appRoom (n := 3) (m := 253) (ys := bytesV ((BB 0).drop 3)) [_] hA2 rfl
  rfl
  rfl
  exact rfl
  exact rfl
  infer_instance
  infer_instance
  infer_instance
  exact Rd.blk hA2 (.head _) (by decide) (by decide) (by kernel_rfl) (by kernel_rfl)
  exact ones_bytesV _
  decide
  (rw [length_bytesV]; exact BB_len 1)
  decide
  rw [tornB_put]
  intro wT hA3
  refine q0_nil ?_
  refine hK.out _ _ ?_ (fun hHeld => ?_)
  · exact trivial
  clear hK K
  (try simp only [Act.put, List.setIfInBounds_toArray, List.set_cons_zero, List.set_cons_succ])
  refine wpAnyH_take (i := 5) (oi := ⟨some 9, _, _, _, _, _⟩) (v := ?_) rfl (by kernel_rfl) (by kernel_rfl) (by kernel_rfl) (fun _ _ _ h => h) (Or.inl ⟨by rfl, ?_⟩) (by assumption) ?_
  rotate_left
  · intro w hSw; (try dsimp only at hSw); go_simp; try with_reducible rfl
  (try simp only [Act.put, List.setIfInBounds_toArray, List.set_cons_zero, List.set_cons_succ])
  refine wpAnyH_done (by kernel_rfl) ?_ _
  clear hHeld
  have hs90 := St.behind (A := arP ga x28 (N11 p q gF)) (St.sub hA3 (.cons _ (List.Sublist.refl _)))
  clear hA3
  go_wp2_with (first | go_big_skip | go_big_guard | (go_at_call 14; refine (of_any 1 _).mono ?_; rintro _ w91 ⟨g91, rfl, h4⟩; have hs91 := St.behind (A := arP ga x28 (N11 p q gF)) (St.call hs90 h4); clear h4 hs90) | (go_at_call 13; refine (writeM_any (St.arr hs91) (N11_ok p q gF) (by rw [(N11_st p q gF)]; decide) (by rw [(N11_ll p q gF)]; decide) 1 5 (some ⟨g91, 0, none⟩) 256 256 (BB 1) (Rd.blk hs91 (List.mem_append_right _ (.head _)) (Nat.le_refl _) (by decide) (by rw [length_bytesV]; exact BB_len 1) (by rw [List.drop_zero]; exact List.take_length)) (BB_len 1) (off_behind hs91 (.head _) 0 256 256)).mono ?_; rw [(N11_w p q gF)]; rintro _ w92 ⟨rfl, x92, h4⟩; have hs92 : St w [] w92 (arP ga x92 (N12 p q gF) ++ _) := St.callF (arP ga x28 (N11 p q gF)) hs91 h4; clear h4 hs91) | (go_at_call 14; refine (of_any 1 _).mono ?_; rintro _ w93 ⟨g93, rfl, h4⟩; have hs93 := St.behind (A := arP ga x92 (N12 p q gF)) (St.call hs92 h4); clear h4 hs92) | (go_at_call 13; refine (writeM_any (St.arr hs93) (N12_ok p q gF) (by rw [(N12_st p q gF)]; decide) (by rw [(N12_ll p q gF)]; decide) 1 6 (some ⟨g93, 0, none⟩) 256 256 (BB 1) (Rd.blk hs93 (List.mem_append_right _ (.head _)) (Nat.le_refl _) (by decide) (by rw [length_bytesV]; exact BB_len 1) (by rw [List.drop_zero]; exact List.take_length)) (BB_len 1) (off_behind hs93 (.head _) 0 256 256)).mono ?_; rw [(N12_w p q gF)]; rintro _ w94 ⟨rfl, x94, h4⟩; have hs94 : St w [] w94 (arP ga x94 (N13 p q gF) ++ _) := St.callF (arP ga x92 (N12 p q gF)) hs93 h4; clear h4 hs93) | (apply wl_bsX ([.bool false, .bool true]) ([.bool false, .bool true]) hs94; rfl; rfl; exact rfl; exact rfl; infer_instance; infer_instance; rfl; rfl; rfl; intro g95 w95 h4; have hs95 := St.behind (A := arP ga x94 (N13 p q gF)) h4; clear h4 hs94) | (go_at_call 18; refine (crashM_any (St.arr hs95) (N13_ok p q gF) (by rw [(N13_ll p q gF)]; decide) (some ⟨g95, 0, none⟩) 2 2 [false, true] (Rd.blk hs95 (List.mem_append_right _ (.head _)) (Nat.le_refl _) (by decide) rfl rfl) rfl (off_behind hs95 (.head _) 0 2 2) 3).mono ?_; rw [(N13_c p q gF)]; rintro _ w96 ⟨rfl, x96, h4⟩; have hs96 : St w [] w96 (arP ga x96 (N14 p q gF) ++ _) := St.callF (arP ga x94 (N13 p q gF)) hs95 h4; clear h4 hs95) | (go_at_call 25; refine (reads_any (St.arr hs96) (N14_ok p q gF) (by rw [(N14_ll p q gF)]; decide) 1 5 (.slice (some ⟨gT, 0, none⟩) 256 256) 256 tornB (Rd.blk hs96 (List.mem_append_right _ (.tail _ (.tail _ (.tail _ (.head _))))) (Nat.le_refl _) (by decide) (by rw [length_bytesV]; exact tornB_len) (by rw [List.drop_zero]; exact List.take_length)) tornB_len (off_behind hs96 (.tail _ (.tail _ (.tail _ (.head _)))) 0 256 256)).mono ?_; rw [(N14a_r p q gF), (N14a_s p q gF)]; rintro _ w97 ⟨rfl, h4⟩; have hs97 : St w [] w97 (arP ga x96 (N14 p q gF) ++ _) := St.callF (arP ga x96 (N14 p q gF)) hs96 h4; clear h4 hs96) | (go_at_call 14; refine (of_any 1 _).mono ?_; rintro _ w98 ⟨g98, rfl, h4⟩; have hs98 := St.behind (A := arP ga x96 (N14 p q gF)) (St.call hs97 h4); clear h4 hs97) | (go_at_call 25; refine (reads_any (St.arr hs98) (N14_ok p q gF) (by rw [(N14_ll p q gF)]; decide) 1 6 (.slice (some ⟨g98, 0, none⟩) 256 256) 256 (BB 1) (Rd.blk hs98 (List.mem_append_right _ (.head _)) (Nat.le_refl _) (by decide) (by rw [length_bytesV]; exact BB_len 1) (by rw [List.drop_zero]; exact List.take_length)) (BB_len 1) (off_behind hs98 (.head _) 0 256 256)).mono ?_; rw [(N14b_r p q gF), (N14b_s p q gF)]; rintro _ w99 ⟨rfl, h4⟩; have hs99 : St w [] w99 (arP ga x96 (N14 p q gF) ++ _) := St.callF (arP ga x96 (N14 p q gF)) hs98 h4; clear h4 hs98) | (go_at_call 9; refine (awake_any _).mono ?_; rintro _ w100 ⟨rfl, h4⟩; have hs100 := St.call0 hs99 h4; clear h4 hs99))
  go_ret
  exact ⟨rfl, hs100.nil⟩
end Go.Proofs.Ytclleohpmgihaaa
