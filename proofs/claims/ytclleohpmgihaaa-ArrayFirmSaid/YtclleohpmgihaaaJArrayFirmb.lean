/- PROVED: the law ArrayFirm returns true at any input, and nothing that was there has turned. No condition. -/
import Derived.Test.YtclleohpmgihaaaJArrayFirma
import Derived.Test.YtclleohpmgihaaaSepF
import Derived.Test.YtclleohpmgihaaaPost
namespace Go.Proofs.Ytclleohpmgihaaa
set_option linter.unusedVariables false
set_option linter.unusedSimpArgs false
open Go.RowKit Hp
attribute [local irreducible] Go.Calls Go.wpList
set_option maxRecDepth 100000
set_option maxHeartbeats 8000000
theorem newM_18 (w : World) : Calls Try.prog 31 #[.int .i64 1, .int .i64 8] w fun e w' => e = .returned (.tuple #[.pointer none, .int .i64 2]) ∧ St w [] w' [] := by
  have hst0 := St.refl w
  go_enter Try.func31, Try.ntmps31
  go_wp2_with (first | go_big_skip | go_big_guard | fail)
  go_ret2
  exact ⟨rfl, hst0⟩
theorem known15_any (w : World) : Calls Try.prog 6 #[] w fun e w' => e = .returned (.bool true) ∧ St w [] w' [] := by
  have hst := St.refl w
  go_enter Try.func6, Try.ntmps6
  go_wp2_with (first | go_big_skip | go_big_guard | (go_at_call 10; refine (made2_any _).mono ?_; rintro _ w0 ⟨ga, x0, gs, rfl, hg, h4⟩; obtain ⟨p, q, rfl⟩ : ∃ p q, gs = [p, q] := (match gs, hg with | [p, q], _ => ⟨p, q, rfl⟩); have hs0 : St w [] w0 (arP ga x0 (K0 p q) ++ []) := St.call hst h4; clear h4 hg hst) | (go_at_call 22; refine (strayM_any (St.arr hs0) (K0_ok p q) 1 6).mono ?_; rw [(N0_y p q)]; rintro _ w1 ⟨rfl, h4⟩; have hs1 : St w [] w1 (arP ga x0 (N1 p q) ++ _) := St.callF (arP ga x0 (K0 p q)) hs0 h4; clear h4 hs0) | (go_at_call 14; refine (of_any 1 _).mono ?_; rintro _ w2 ⟨g2, rfl, h4⟩; have hs2 := St.behind (A := arP ga x0 (N1 p q)) (St.call hs1 h4); clear h4 hs1) | (go_at_call 13; refine (writeM_any (St.arr hs2) (N1_ok p q) (by rw [(N1_st p q)]; decide) (by rw [(N1_ll p q)]; decide) 1 5 (some ⟨g2, 0, none⟩) 256 256 (BB 1) (Rd.blk hs2 (List.mem_append_right _ (.head _)) (Nat.le_refl _) (by decide) (by rw [length_bytesV]; exact BB_len 1) (by rw [List.drop_zero]; exact List.take_length)) (BB_len 1) (off_behind hs2 (.head _) 0 256 256)).mono ?_; rw [(N1_w p q)]; rintro _ w3 ⟨rfl, x3, h4⟩; have hs3 : St w [] w3 (arP ga x3 (N2 p q) ++ _) := St.callF (arP ga x0 (N1 p q)) hs2 h4; clear h4 hs2) | (go_at_call 14; refine (of_any 0 _).mono ?_; rintro _ w4 ⟨g4, rfl, h4⟩; have hs4 := St.behind (A := arP ga x3 (N2 p q)) (St.call hs3 h4); clear h4 hs3) | (go_at_call 25; refine (reads_any (St.arr hs4) (N2_ok p q) (by rw [(N2_ll p q)]; decide) 1 5 (.slice (some ⟨g4, 0, none⟩) 256 256) 256 (BB 0) (Rd.blk hs4 (List.mem_append_right _ (.head _)) (Nat.le_refl _) (by decide) (by rw [length_bytesV]; exact BB_len 0) (by rw [List.drop_zero]; exact List.take_length)) (BB_len 0) (off_behind hs4 (.head _) 0 256 256)).mono ?_; rw [(N2a_r p q), (N2a_s p q)]; rintro _ w5 ⟨rfl, h4⟩; have hs5 : St w [] w5 (arP ga x3 (N2 p q) ++ _) := St.callF (arP ga x3 (N2 p q)) hs4 h4; clear h4 hs4) | (go_at_call 14; refine (of_any 1 _).mono ?_; rintro _ w6 ⟨g6, rfl, h4⟩; have hs6 := St.behind (A := arP ga x3 (N2 p q)) (St.call hs5 h4); clear h4 hs5) | (go_at_call 25; refine (reads_any (St.arr hs6) (N2_ok p q) (by rw [(N2_ll p q)]; decide) 1 6 (.slice (some ⟨g6, 0, none⟩) 256 256) 256 (BB 1) (Rd.blk hs6 (List.mem_append_right _ (.head _)) (Nat.le_refl _) (by decide) (by rw [length_bytesV]; exact BB_len 1) (by rw [List.drop_zero]; exact List.take_length)) (BB_len 1) (off_behind hs6 (.head _) 0 256 256)).mono ?_; rw [(N2b_r p q), (N2b_s p q)]; rintro _ w7 ⟨rfl, h4⟩; have hs7 : St w [] w7 (arP ga x3 (N2 p q) ++ _) := St.callF (arP ga x3 (N2 p q)) hs6 h4; clear h4 hs6) | (go_at_call 23; refine (failsM_any (St.arr hs7) (N2_ok p q) 1 1).mono ?_; rw [(N2_f p q)]; rintro _ w8 ⟨rfl, h4⟩; have hs8 : St w [] w8 (arP ga x3 (N3 p q) ++ _) := St.callF (arP ga x3 (N2 p q)) hs7 h4; clear h4 hs7) | (go_at_call 24; refine (readM_any (St.arr hs8) (N3_ok p q) (by rw [(N3_ll p q)]; decide) 1 6).mono ?_; rw [(N3_e p q), (N3_b p q)]; rintro _ w9 ⟨u9, rfl, h4⟩; have hs9 : St w [] w9 (arP ga x3 (N4 p q) ++ _) := St.sub (St.callF (arP ga x3 (N3 p q)) hs8 h4) (.cons _ (List.Sublist.refl _)); clear h4 hs8) | (go_at_call 14; refine (of_any 1 _).mono ?_; rintro _ w10 ⟨g10, rfl, h4⟩; have hs10 := St.behind (A := arP ga x3 (N4 p q)) (St.call hs9 h4); clear h4 hs9) | (go_at_call 25; refine (reads_any (St.arr hs10) (N4_ok p q) (by rw [(N4_ll p q)]; decide) 1 6 (.slice (some ⟨g10, 0, none⟩) 256 256) 256 (BB 1) (Rd.blk hs10 (List.mem_append_right _ (.head _)) (Nat.le_refl _) (by decide) (by rw [length_bytesV]; exact BB_len 1) (by rw [List.drop_zero]; exact List.take_length)) (BB_len 1) (off_behind hs10 (.head _) 0 256 256)).mono ?_; rw [(N4a_r p q), (N4a_s p q)]; rintro _ w11 ⟨rfl, h4⟩; have hs11 : St w [] w11 (arP ga x3 (N4 p q) ++ _) := St.callF (arP ga x3 (N4 p q)) hs10 h4; clear h4 hs10) | (go_at_call 18; refine (crashM_any (St.arr hs11) (N4_ok p q) (by rw [(N4_ll p q)]; decide) none 0 0 [] (Rd.nil _ _) rfl (Off.nil _ _ _) 0).mono ?_; rw [(N4_c p q)]; rintro _ w12 ⟨rfl, x12, h4⟩; have hs12 : St w [] w12 (arP ga x12 (N5 p q) ++ _) := St.callF (arP ga x3 (N4 p q)) hs11 h4; clear h4 hs11) | (go_at_call 12; refine (fuseM_any (St.arr hs12) (N5_ok p q) 1).mono ?_; rw [(N5_u p q)]; rintro _ w13 ⟨rfl, h4⟩; have hs13 : St w [] w13 (arP ga x12 (N6 p q) ++ _) := St.callF (arP ga x12 (N5 p q)) hs12 h4; clear h4 hs12) | (go_at_call 14; refine (of_any 2 _).mono ?_; rintro _ w14 ⟨g14, rfl, h4⟩; have hs14 := St.behind (A := arP ga x12 (N6 p q)) (St.call hs13 h4); clear h4 hs13) | (go_at_call 13; refine (writeM_any (St.arr hs14) (N6_ok p q) (by rw [(N6_st p q)]; decide) (by rw [(N6_ll p q)]; decide) 0 7 (some ⟨g14, 0, none⟩) 256 256 (BB 2) (Rd.blk hs14 (List.mem_append_right _ (.head _)) (Nat.le_refl _) (by decide) (by rw [length_bytesV]; exact BB_len 2) (by rw [List.drop_zero]; exact List.take_length)) (BB_len 2) (off_behind hs14 (.head _) 0 256 256)).mono ?_; rw [(N6_w p q)]; rintro _ w15 ⟨rfl, x15, h4⟩; have hs15 : St w [] w15 (arP ga x15 (N7 p q) ++ _) := St.callF (arP ga x12 (N6 p q)) hs14 h4; clear h4 hs14) | (go_at_call 15; refine (flushM_any (St.arr hs15) (N7_ok p q) (by rw [(N7_st p q)]; decide) (by rw [(N7_ll p q)]; decide) 0).mono ?_; rw [(N7_f p q)]; rintro _ w16 ⟨rfl, x16, h4⟩; have hs16 : St w [] w16 (arP ga x16 (N8 p q) ++ _) := St.callF (arP ga x15 (N7 p q)) hs15 h4; clear h4 hs15) | (go_at_call 19; refine (up_any (ArrAt.of hs16 (fun p hp => List.mem_append_left _ hp) (N8_ok p q).d0) 0).mono ?_; rw [(N8_p p q)]; rintro _ w17 ⟨rfl, h4⟩; have hs17 := St.call0 hs16 h4; clear h4 hs16) | (apply wl_bsX ([.bool true]) ([.bool true]) hs17; rfl; rfl; exact rfl; exact rfl; infer_instance; infer_instance; rfl; rfl; rfl; intro g18 w18 h4; have hs18 := St.behind (A := arP ga x16 (N8 p q)) h4; clear h4 hs17) | (go_at_call 18; refine (crashM_any (St.arr hs18) (N8_ok p q) (by rw [(N8_ll p q)]; decide) (some ⟨g18, 0, none⟩) 1 1 [true] (Rd.blk hs18 (List.mem_append_right _ (.head _)) (Nat.le_refl _) (by decide) rfl rfl) rfl (off_behind hs18 (.head _) 0 1 1) 0).mono ?_; rw [(N8_c p q)]; rintro _ w19 ⟨rfl, x19, h4⟩; have hs19 : St w [] w19 (arP ga x19 (N9 p q) ++ _) := St.callF (arP ga x16 (N8 p q)) hs18 h4; clear h4 hs18) | (go_at_call 14; refine (of_any 2 _).mono ?_; rintro _ w20 ⟨g20, rfl, h4⟩; have hs20 := St.behind (A := arP ga x19 (N9 p q)) (St.call hs19 h4); clear h4 hs19) | (go_at_call 25; refine (reads_any (St.arr hs20) (N9_ok p q) (by rw [(N9_ll p q)]; decide) 0 7 (.slice (some ⟨g20, 0, none⟩) 256 256) 256 (BB 2) (Rd.blk hs20 (List.mem_append_right _ (.head _)) (Nat.le_refl _) (by decide) (by rw [length_bytesV]; exact BB_len 2) (by rw [List.drop_zero]; exact List.take_length)) (BB_len 2) (off_behind hs20 (.head _) 0 256 256)).mono ?_; rw [(N9a_r p q), (N9a_s p q)]; rintro _ w21 ⟨rfl, h4⟩; have hs21 : St w [] w21 (arP ga x19 (N9 p q) ++ _) := St.callF (arP ga x19 (N9 p q)) hs20 h4; clear h4 hs20) | (go_at_call 31; refine (newM_18 _).mono ?_; rintro _ w22 ⟨rfl, h4⟩; have hs22 := St.call0 hs21 h4; clear h4 hs21) | (go_at_call 14; refine (of_any 1 _).mono ?_; rintro _ w23 ⟨g23, rfl, h4⟩; have hs23 := St.behind (A := arP ga x19 (N9 p q)) (St.call hs22 h4); clear h4 hs22) | (go_at_call 13; refine (writeM_any (St.arr hs23) (N9_ok p q) (by rw [(N9_st p q)]; decide) (by rw [(N9_ll p q)]; decide) 1 8 (some ⟨g23, 0, none⟩) 256 256 (BB 1) (Rd.blk hs23 (List.mem_append_right _ (.head _)) (Nat.le_refl _) (by decide) (by rw [length_bytesV]; exact BB_len 1) (by rw [List.drop_zero]; exact List.take_length)) (BB_len 1) (off_behind hs23 (.head _) 0 256 256)).mono ?_; rw [(N9_w p q), (N9_ww p q)]; rintro _ w24 ⟨rfl, x24, h4⟩; have hs24 : St w [] w24 (arP ga x24 (N9 p q) ++ _) := St.callF (arP ga x19 (N9 p q)) hs23 h4; clear h4 hs23) | (go_at_call 13; refine (writeM_any (St.arr hs24) (N9_ok p q) (by rw [(N9_st p q)]; decide) (by rw [(N9_ll p q)]; decide) 1 7 none 0 0 [] (Rd.nil _ _) rfl (Off.nil _ _ _)).mono ?_; rw [(N9_x p q), (N9_xx p q)]; rintro _ w25 ⟨rfl, x25, h4⟩; have hs25 : St w [] w25 (arP ga x25 (N9 p q) ++ _) := St.callF (arP ga x24 (N9 p q)) hs24 h4; clear h4 hs24) | (go_at_call 29; refine (pullM_any (St.arr hs25) (N9_ok p q) (by rw [(N9_ll p q)]; decide) 0).mono ?_; rw [(N9_l p q)]; rintro _ w26 ⟨rfl, x26, h4⟩; have hs26 : St w [] w26 (arP ga x26 (N10 p q) ++ _) := St.callF (arP ga x25 (N9 p q)) hs25 h4; clear h4 hs25) | (go_at_call 24; refine (readM_any (St.arr hs26) (N10_ok p q) (by rw [(N10_ll p q)]; decide) 0 5).mono ?_; rw [(N10_e p q), (N10_b p q), (N10_r p q)]; rintro _ w27 ⟨u27, rfl, h4⟩; have hs27 : St w [] w27 (arP ga x26 (N10 p q) ++ _) := St.sub (St.callF (arP ga x26 (N10 p q)) hs26 h4) (.cons _ (List.Sublist.refl _)); clear h4 hs26) | (go_at_call 30; refine (fitM_any (St.arr hs27) (N10_ok p q) (by rw [(N10_ll p q)]; decide) 0).mono ?_; rw [(N10_f p q)]; rintro _ w28 ⟨rfl, x28, gF, h4⟩; have hs28 : St w [] w28 (arP ga x28 (N11 p q gF) ++ _) := St.callF (arP ga x26 (N10 p q)) hs27 h4; clear h4 hs27) | (go_at_call 14; refine (of_any 0 _).mono ?_; rintro _ w29 ⟨g29, rfl, h4⟩; have hs29 := St.behind (A := arP ga x28 (N11 p q gF)) (St.call hs28 h4); clear h4 hs28) | (go_at_call 25; refine (reads_any (St.arr hs29) (N11_ok p q gF) (by rw [(N11_ll p q gF)]; decide) 0 7 (.slice (some ⟨g29, 0, none⟩) 256 256) 256 (BB 0) (Rd.blk hs29 (List.mem_append_right _ (.head _)) (Nat.le_refl _) (by decide) (by rw [length_bytesV]; exact BB_len 0) (by rw [List.drop_zero]; exact List.take_length)) (BB_len 0) (off_behind hs29 (.head _) 0 256 256)).mono ?_; rw [(N11a_r p q gF), (N11a_s p q gF)]; rintro _ w30 ⟨rfl, h4⟩; have hs30 : St w [] w30 (arP ga x28 (N11 p q gF) ++ _) := St.callF (arP ga x28 (N11 p q gF)) hs29 h4; clear h4 hs29))
  have hX := hs30.drew
  clear hs30
  refine wp_region_held_drew (S := (fun w' => True)) (by kernel_rfl) (by exact trivial) (fun hHeld => ?_)
  refine wpAnyH_ready (rs := [0]) (by kernel_rfl) (by simp) ?_
  refine (AllReadyH.cons (o := ⟨some 130, _, _, _, _, _⟩) rfl (fun K hK => ?_) AllReadyH.nil)
  rw [if_pos (by rfl)]
  go_simp
  go_at_call 14
  refine (of_any 1 _).mono ?_
  rintro _ w71 ⟨gT, rfl, h4⟩
  have hA1 := St.call hX h4
  clear h4
  refine hK.out _ _ ?_ (fun hHeld => ?_)
  · exact trivial
  clear hK K
  (try simp only [Act.put, List.setIfInBounds_toArray, List.set_cons_zero, List.set_cons_succ])
  refine wpAnyH_take (i := 1) (oi := ⟨some 131, _, _, _, _, _⟩) (v := ?_) rfl (by kernel_rfl) (by kernel_rfl) (by kernel_rfl) (fun _ _ _ h => h) (Or.inl ⟨by rfl, ?_⟩) (by assumption) ?_
  rotate_left
  · intro w hSw; (try dsimp only at hSw); go_simp; try with_reducible rfl
  (try simp only [Act.put, List.setIfInBounds_toArray, List.set_cons_zero, List.set_cons_succ])
  refine wpAnyH_ready (rs := [2]) (by kernel_rfl) (by simp) ?_
  refine (AllReadyH.cons (o := ⟨some 132, _, _, _, _, _⟩) rfl (fun K hK => ?_) AllReadyH.nil)
  rw [if_pos (by rfl)]
  go_simp
  go_at_call 14
  refine (of_any 0 _).mono ?_
  rintro _ w72 ⟨gB, rfl, h4⟩
  have hA2 := St.call hA1 h4
  clear h4
  refine hK.out _ _ ?_ (fun hHeld => ?_)
  · exact trivial
  clear hK K
  (try simp only [Act.put, List.setIfInBounds_toArray, List.set_cons_zero, List.set_cons_succ])
  refine wpAnyH_take (i := 3) (oi := ⟨some 133, _, _, _, _, _⟩) (v := ?_) rfl (by kernel_rfl) (by kernel_rfl) (by kernel_rfl) (fun _ _ _ h => h) (Or.inl ⟨by rfl, ?_⟩) (by assumption) ?_
  rotate_left
  · intro w hSw; (try dsimp only at hSw); go_simp; try with_reducible rfl
  (try simp only [Act.put, List.setIfInBounds_toArray, List.set_cons_zero, List.set_cons_succ])
  refine wpAnyH_ready (rs := [4]) (by kernel_rfl) (by simp) ?_
  refine (AllReadyH.cons (o := ⟨some 134, _, _, _, _, _⟩) rfl (fun K hK => ?_) AllReadyH.nil)
  rw [if_pos (by rfl)]
  refine ow_of_wl (ops := #[]) (by rfl) ?_
  apply wl_appRoom (n := 3) (m := 253) (ys := bytesV ((BB 0).drop 3)) [_] hA2 rfl
  rfl
  rfl
  exact rfl
  exact rfl
  infer_instance
  infer_instance
  infer_instance
  exact Rd.blk hA2 (.head _) (by decide) (by decide) (by kernel_rfl) (by kernel_rfl)
  exact ones_bytesV _
  decide
  (rw [length_bytesV]; exact BB_len 1)
  decide
  rw [tornB_put]
  intro wT hA3
  refine q0_nil ?_
  refine hK.out _ _ ?_ (fun hHeld => ?_)
  · exact trivial
  clear hK K
  (try simp only [Act.put, List.setIfInBounds_toArray, List.set_cons_zero, List.set_cons_succ])
  refine wpAnyH_take (i := 5) (oi := ⟨some 9, _, _, _, _, _⟩) (v := ?_) rfl (by kernel_rfl) (by kernel_rfl) (by kernel_rfl) (fun _ _ _ h => h) (Or.inl ⟨by rfl, ?_⟩) (by assumption) ?_
  rotate_left
  · intro w hSw; (try dsimp only at hSw); go_simp; try with_reducible rfl
  (try simp only [Act.put, List.setIfInBounds_toArray, List.set_cons_zero, List.set_cons_succ])
  refine wpAnyH_done (by kernel_rfl) ?_ _
  clear hHeld
  have hs90 := St.behind (A := arP ga x28 (N11 p q gF)) (St.sub hA3 (.cons _ (List.Sublist.refl _)))
  clear hA3
  go_wp2_with (first | go_big_skip | go_big_guard | (go_at_call 14; refine (of_any 1 _).mono ?_; rintro _ w91 ⟨g91, rfl, h4⟩; have hs91 := St.behind (A := arP ga x28 (N11 p q gF)) (St.call hs90 h4); clear h4 hs90) | (go_at_call 13; refine (writeM_any (St.arr hs91) (N11_ok p q gF) (by rw [(N11_st p q gF)]; decide) (by rw [(N11_ll p q gF)]; decide) 1 5 (some ⟨g91, 0, none⟩) 256 256 (BB 1) (Rd.blk hs91 (List.mem_append_right _ (.head _)) (Nat.le_refl _) (by decide) (by rw [length_bytesV]; exact BB_len 1) (by rw [List.drop_zero]; exact List.take_length)) (BB_len 1) (off_behind hs91 (.head _) 0 256 256)).mono ?_; rw [(N11_w p q gF)]; rintro _ w92 ⟨rfl, x92, h4⟩; have hs92 : St w [] w92 (arP ga x92 (N12 p q gF) ++ _) := St.callF (arP ga x28 (N11 p q gF)) hs91 h4; clear h4 hs91) | (go_at_call 14; refine (of_any 1 _).mono ?_; rintro _ w93 ⟨g93, rfl, h4⟩; have hs93 := St.behind (A := arP ga x92 (N12 p q gF)) (St.call hs92 h4); clear h4 hs92) | (go_at_call 13; refine (writeM_any (St.arr hs93) (N12_ok p q gF) (by rw [(N12_st p q gF)]; decide) (by rw [(N12_ll p q gF)]; decide) 1 6 (some ⟨g93, 0, none⟩) 256 256 (BB 1) (Rd.blk hs93 (List.mem_append_right _ (.head _)) (Nat.le_refl _) (by decide) (by rw [length_bytesV]; exact BB_len 1) (by rw [List.drop_zero]; exact List.take_length)) (BB_len 1) (off_behind hs93 (.head _) 0 256 256)).mono ?_; rw [(N12_w p q gF)]; rintro _ w94 ⟨rfl, x94, h4⟩; have hs94 : St w [] w94 (arP ga x94 (N13 p q gF) ++ _) := St.callF (arP ga x92 (N12 p q gF)) hs93 h4; clear h4 hs93) | (apply wl_bsX ([.bool false, .bool true]) ([.bool false, .bool true]) hs94; rfl; rfl; exact rfl; exact rfl; infer_instance; infer_instance; rfl; rfl; rfl; intro g95 w95 h4; have hs95 := St.behind (A := arP ga x94 (N13 p q gF)) h4; clear h4 hs94) | (go_at_call 18; refine (crashM_any (St.arr hs95) (N13_ok p q gF) (by rw [(N13_ll p q gF)]; decide) (some ⟨g95, 0, none⟩) 2 2 [false, true] (Rd.blk hs95 (List.mem_append_right _ (.head _)) (Nat.le_refl _) (by decide) rfl rfl) rfl (off_behind hs95 (.head _) 0 2 2) 3).mono ?_; rw [(N13_c p q gF)]; rintro _ w96 ⟨rfl, x96, h4⟩; have hs96 : St w [] w96 (arP ga x96 (N14 p q gF) ++ _) := St.callF (arP ga x94 (N13 p q gF)) hs95 h4; clear h4 hs95) | (go_at_call 25; refine (reads_any (St.arr hs96) (N14_ok p q gF) (by rw [(N14_ll p q gF)]; decide) 1 5 (.slice (some ⟨gT, 0, none⟩) 256 256) 256 tornB (Rd.blk hs96 (List.mem_append_right _ (.tail _ (.tail _ (.tail _ (.head _))))) (Nat.le_refl _) (by decide) (by rw [length_bytesV]; exact tornB_len) (by rw [List.drop_zero]; exact List.take_length)) tornB_len (off_behind hs96 (.tail _ (.tail _ (.tail _ (.head _)))) 0 256 256)).mono ?_; rw [(N14a_r p q gF), (N14a_s p q gF)]; rintro _ w97 ⟨rfl, h4⟩; have hs97 : St w [] w97 (arP ga x96 (N14 p q gF) ++ _) := St.callF (arP ga x96 (N14 p q gF)) hs96 h4; clear h4 hs96) | (go_at_call 14; refine (of_any 1 _).mono ?_; rintro _ w98 ⟨g98, rfl, h4⟩; have hs98 := St.behind (A := arP ga x96 (N14 p q gF)) (St.call hs97 h4); clear h4 hs97) | (go_at_call 25; refine (reads_any (St.arr hs98) (N14_ok p q gF) (by rw [(N14_ll p q gF)]; decide) 1 6 (.slice (some ⟨g98, 0, none⟩) 256 256) 256 (BB 1) (Rd.blk hs98 (List.mem_append_right _ (.head _)) (Nat.le_refl _) (by decide) (by rw [length_bytesV]; exact BB_len 1) (by rw [List.drop_zero]; exact List.take_length)) (BB_len 1) (off_behind hs98 (.head _) 0 256 256)).mono ?_; rw [(N14b_r p q gF), (N14b_s p q gF)]; rintro _ w99 ⟨rfl, h4⟩; have hs99 : St w [] w99 (arP ga x96 (N14 p q gF) ++ _) := St.callF (arP ga x96 (N14 p q gF)) hs98 h4; clear h4 hs98) | (go_at_call 9; refine (awake_any _).mono ?_; rintro _ w100 ⟨rfl, h4⟩; have hs100 := St.call0 hs99 h4; clear h4 hs99))
  go_ret
  exact ⟨rfl, hs100.nil⟩
end Go.Proofs.Ytclleohpmgihaaa
namespace Go.Proofs.Ytclleohpmgihaaa
set_option linter.unusedVariables false
set_option linter.unusedSimpArgs false
open Go.RowKit Hp
attribute [local irreducible] Go.Calls Go.wpList
set_option maxRecDepth 100000
set_option maxHeartbeats 8000000
theorem arF_new {w0 w : World} {X : List HA} {ga : Nat} {x : GA} {a : AR} (h : St w0 [] w (X ++ arP ga x a)) : ∀ k ∈ arF ga x a, w0.heap.size ≤ k := by
  intro k hk
  obtain ⟨y, hy, hf⟩ := List.mem_filterMap.1 hk
  rcases h.own y (List.mem_append_right _ hy) k hf with h1 | h1
  · exact h1
  · cases h1
theorem quo8 {m d : Nat} (h : m / 8 = d) (hm : m < 16) (T : TypeId) : binOp .quo T (.int .i64 (m : Int)) (.int .i64 8) = pure (.int .i64 (d : Int)) := by
  have hq : (m : Int).tdiv 8 = (d : Int) := by rw [Int.tdiv_eq_ediv_of_nonneg (by omega)]; omega
  have zd : IntKind.i64.wrap (d : Int) = (d : Int) := IntWalk.i64_in _ (by omega)
  simp only [binOp]
  simp [Op.intDiv, hq, zd]
theorem rem8 {m s : Nat} (h : m % 8 = s) (T : TypeId) : binOp .rem T (.int .i64 (m : Int)) (.int .i64 8) = pure (.int .i64 (s : Int)) := by
  have hq : (m : Int).tmod 8 = (s : Int) := by rw [Int.tmod_eq_emod_of_nonneg (by omega)]; omega
  have zd : IntKind.i64.wrap (s : Int) = (s : Int) := IntWalk.i64_in _ (by omega)
  simp only [binOp]
  simp [Op.intDiv, hq, zd]
theorem firm_long (ao : Option Addr) (N c : Nat) (ko : Option Addr) (kn kc : Nat) (zt : Int) (w : World) (h6 : 60 < N) :
    Calls Try.prog 7 #[.slice ao N c, .slice ko kn kc, .int .i64 zt] w fun e w' => e = .returned (.bool true) ∧ St w [] w' [] := by
  have hst := St.refl w
  have d1 : decide ((60 : Int) < (N : Int)) = true := decide_eq_true (by omega)
  go_enter Try.func7, Try.ntmps7
  go_wp2_with (first | go_big_skip | go_big_guard | (go_at_call 6; refine (known15_any _).mono ?_; rintro _ w80 ⟨rfl, h4⟩; have hst9 := St.call0 hst h4; clear h4 hst) | (go_at_call 10; refine (made2_any _).mono ?_; rintro _ w0 ⟨ga, x0, gs, rfl, hg, h4⟩; obtain ⟨p, q, rfl⟩ : ∃ p q, gs = [p, q] := (match gs, hg with | [p, q], _ => ⟨p, q, rfl⟩); have hm0 : St w [] w0 ([] ++ arP ga x0 (K0 p q)) := (by have := St.call hst9 h4; rw [List.append_nil] at this; exact this); clear h4 hg hst9))
  go_ret
  exact ⟨rfl, hm0.nil⟩
theorem firm_wide (ao : Option Addr) (N c : Nat) (ko : Option Addr) (kn kc : Nat) (zt : Int) (w : World) (h6 : N ≤ 60) (h7 : 200 < kn) :
    Calls Try.prog 7 #[.slice ao N c, .slice ko kn kc, .int .i64 zt] w fun e w' => e = .returned (.bool true) ∧ St w [] w' [] := by
  have hst := St.refl w
  have d1 : decide ((60 : Int) < (N : Int)) = false := decide_eq_false (by omega)
  have d2 : decide ((200 : Int) < (kn : Int)) = true := decide_eq_true (by omega)
  go_enter Try.func7, Try.ntmps7
  go_wp2_with (first | go_big_skip | go_big_guard | (go_at_call 6; refine (known15_any _).mono ?_; rintro _ w80 ⟨rfl, h4⟩; have hst9 := St.call0 hst h4; clear h4 hst) | (go_at_call 10; refine (made2_any _).mono ?_; rintro _ w0 ⟨ga, x0, gs, rfl, hg, h4⟩; obtain ⟨p, q, rfl⟩ : ∃ p q, gs = [p, q] := (match gs, hg with | [p, q], _ => ⟨p, q, rfl⟩); have hm0 : St w [] w0 ([] ++ arP ga x0 (K0 p q)) := (by have := St.call hst9 h4; rw [List.append_nil] at this; exact this); clear h4 hg hst9))
  go_ret
  exact ⟨rfl, hm0.nil⟩
section
theorem loadedU8f (A : Addr) : loadVar 5 A = loadVarH 5 A := rfl
attribute [local go_sem ↓] loadedU8f
theorem firm_fine (ao : Option Addr) (N c : Nat) (xs : List LY) (ko : Option Addr) (kn kc : Nat) (ks : List Bool) (zt : Int) (w : World) (hv : Rd w (.slice ao N c) 4 N (xs.flatMap LY.cells)) (hN : xs.length = N) (hx : ∀ y ∈ xs, y.Ok) (h6 : N ≤ 60) (hvk : Rd w (.slice ko kn kc) 1 kn (boolsV ks)) (hkn : ks.length = kn) (h7 : kn ≤ 200) (hzt : -9223372036854775808 ≤ zt ∧ zt ≤ 9223372036854775807) :
    Calls Try.prog 7 #[.slice ao N c, .slice ko kn kc, .int .i64 zt] w fun e w' => e = .returned (.bool true) ∧ St w [] w' [] := by
  have hst := St.refl w
  have d1 : decide ((60 : Int) < (N : Int)) = false := decide_eq_false (by omega)
  have d2 : decide ((200 : Int) < (kn : Int)) = false := decide_eq_false (by omega)
  have HXX := hid hx
  have HN := hid hN
  have HKN := hid hkn
  obtain ⟨t, ht, et⟩ := pickI_nat (x := zt) (n := 256) (by decide)
  have ET : Hid (pickI zt 256 = (t : Int)) := hid et
  clear hN hx hkn et
  go_enter Try.func7, Try.ntmps7
  go_wp2_with (first | go_big_skip | go_big_guard | (go_at_call 6; refine (known15_any _).mono ?_; rintro _ w80 ⟨rfl, h4⟩; have hst9 := St.call0 hst h4; clear h4 hst) | (go_at_call 10; refine (made2_any _).mono ?_; rintro _ w0 ⟨ga, x0, gs, rfl, hg, h4⟩; obtain ⟨p, q, rfl⟩ : ∃ p q, gs = [p, q] := (match gs, hg with | [p, q], _ => ⟨p, q, rfl⟩); have hm0 : St w [] w0 ([] ++ arP ga x0 (K0 p q)) := (by have := St.call hst9 h4; rw [List.append_nil] at this; exact this); clear h4 hg hst9) | (go_at_call 27; refine (lays_any (arr_in (X := []) hm0) ao N c xs (Rd.old hm0 hv) HN.out HXX.out h6 (Off.old hv (by decide) (arF_new (X := []) hm0))).mono ?_; rintro _ w1 ⟨x, a, F, L, rfl, hL, hz, h4⟩; have HL := hid hL; have HZ := hid hz; have HLF : Hid ((bytesV F).length = 16) := (hid (by rw [length_bytesV, hL.fl])); have HLL : Hid ((bytesV L).length = 16) := (hid (by rw [length_bytesV, hL.ll])); have hm1 : St w [] w1 (arP ga x a) := arr_out (X := []) hm0 h4; clear h4 hm0 hL hz) | (first | (refine wl_alloc hm1 rfl rfl ?_; intro g9 w2 hm2; clear hm1) | (refine wl_alloc hm2 rfl rfl ?_; intro g10 w3 hm3; clear hm2)) | (first | (refine wl_storeA [_] hm3 rfl rfl rfl rfl HLF.out (ones_bytesV _) rfl ?_; intro w4 hm4; clear hm3) | (refine wl_storeA [] hm4 rfl rfl rfl rfl HLL.out (ones_bytesV _) rfl ?_; intro w5 hm5; clear hm4)))
  go_loopw [12] (fun i wr => ∃ m : Nat, m ≤ 16 ∧ i = .int .i64 (m : Int) ∧ St w [] wr (.blk g10 30 (bytesV L) :: .blk g9 30 (bytesV F) :: arP ga x a)) (fun i _ => 16 - (intOf i).toNat)
  case atStart => exact ⟨0, by decide, rfl, hm5⟩
  case round =>
    clear hm5
    obtain ⟨m, hm, rfl, hs0⟩ := hrel
    by_cases hm16 : m < 16
    · obtain ⟨d, hdq⟩ : ∃ d, m / 8 = d := ⟨_, rfl⟩
      obtain ⟨s, hsq⟩ : ∃ s, m % 8 = s := ⟨_, rfl⟩
      have f1 := quo8 hdq hm16
      have f2 := rem8 hsq
      have d4 : decide ((m : Int) < 16) = true := decide_eq_true (by omega)
      have z4 : IntKind.i64.wrap ((m : Int) + 1) = (m : Int) + 1 := IntWalk.i64_in _ (by omega)
      have hd : d < 2 := by omega
      have hs : s < 8 := by omega
      have HLV := hid (bytesV_getD (L := L) (i := d * 8 + s) (by rw [HL.out.ll]; omega))
      have HPK := hid (HL.out.peek HZ.out.ou hd hs)
      obtain ⟨B, hB⟩ : ∃ B, B = L.getD (d * 8 + s) 0 := ⟨_, rfl⟩
      rw [← hB] at HLV HPK
      have hd2 : (d : Int) < 2 := by omega
      have hs2 : (s : Int) < 8 := by omega
      clear hB hdq hsq hd hs
      go_wp2_with (first | go_big_skip | go_big_guard | (refine wl_loadE rfl rfl rfl ?_; refine ⟨_, Loads.at [] hs0 HLV.out, ?_⟩) | (go_at_call 14; refine (of_any B _).mono ?_; rintro _ w6 ⟨g5, rfl, h4⟩; have hs1 := St.call hs0 h4; clear h4 hs0) | (go_at_call 20; refine (peeks_any (ArrAll.of hs1 (fun p hp => .tail _ (.tail _ (.tail _ hp))) HL.out.ok.d0) HL.out.ok (by have := HZ.out.ll; omega) (d : Int) (s : Int) (.slice (some ⟨g5, 0, none⟩) 256 256) 256 (BB B) (Rd.blk hs1 (.head _) (Nat.le_refl _) (by decide) (by rw [length_bytesV]; exact BB_len _) (by rw [List.drop_zero]; exact List.take_length)) (BB_len _)).mono ?_; rw [HPK.out]; rintro _ w7 ⟨rfl, h4⟩; have hs3 := St.call0 hs1 h4; clear h4 hs1))
      go_roundw
      case rel => exact ⟨m + 1, by omega, rfl, St.sub hs3 (List.sublist_cons_self _ _)⟩
      case measure => simp [intOf]; omega
    · have d4 : decide ((m : Int) < 16) = false := decide_eq_false (by omega)
      obtain ⟨nl, hnl⟩ : ∃ nl, nl = a.loose.length := ⟨_, rfl⟩
      have HNL := hid hnl
      have HEC := hid (HL.out.crashE ht)
      obtain ⟨b, hb⟩ : ∃ b, b = a.crash ks (t : Int) := ⟨_, rfl⟩
      have HA2 := hid hb
      have hC : Crashed a b (fun d s c => laidB xs (F.getD (d * 8 + s) 0) d s c = true) := by
        rw [hb]
        refine HL.out.crash_any (fun d s _ _ => ?_) (fun v hv => ?_) ks ht
        · unfold laidB
          rw [beq_self_eq_true]
          rfl
        · obtain ⟨y, hy, h1, h2, h3⟩ := HZ.out.fr v hv
          refine ⟨y.b, h3, ?_⟩
          have h4 : xs.any (laidY v.dev v.pl y.b) = true := List.any_eq_true.2 ⟨y, hy, by
            unfold laidY
            rw [h1, h2, beq_self_eq_true, beq_self_eq_true, beq_self_eq_true]
            rfl⟩
          show laidB _ _ _ _ _ = true
          unfold laidB
          rw [h4, Bool.or_true]
      have HC := hid hC
      have HBL : Hid (b.loose.length = 0) := hid (by rw [hC.loose]; rfl)
      clear hnl hb hC
      go_wp2_with (first | go_big_skip | go_big_guard | (go_at_call 16; first | (refine (loose_any (ArrAll.of hs0 (fun p hp => .tail _ (.tail _ hp)) HL.out.ok.d0)).mono ?_; rw [← HNL.out]; rintro _ w6 ⟨rfl, h4⟩; have hs1 := St.call0 hs0 h4; clear h4 hs0) | (refine (loose_any (ArrAll.of hs3 (fun p hp => .tail _ hp) HC.out.ok.d0)).mono ?_; rw [HBL.out]; rintro _ w9 ⟨rfl, h4⟩; have hs4 := St.call0 hs3 h4; clear h4 hs3)) | (go_at_call 11; refine (pick_spec zt 256 _ hzt (by decide)).mono ?_; rw [ET.out]; rintro _ w7 ⟨rfl, h4⟩; have hs2 := St.call0 hs1 h4; clear h4 hs1) | (go_at_call 18; refine (crashM_any (arr_in (X := [_, _]) hs2) HL.out.ok (by have := HZ.out.ll; omega) ko kn kc ks (Rd.old hs2 hvk) HKN.out (Off.old hvk (by decide) (arF_new (X := [_, _]) hs2)) (t : Int)).mono ?_; rw [HEC.out, ← HA2.out]; rintro _ w8 ⟨rfl, x2, h4⟩; have hs3 : St w [] w8 (.blk g9 30 (bytesV F) :: arP ga x2 b) := St.sub (arr_out (X := [_, _]) hs2 h4) (List.sublist_cons_self _ _); clear h4 hs2))
      go_loopw [14, 15] (fun o i wr => ∃ m : Nat, m ≤ 16 ∧ o = .int .i64 (oddN b.oddS m : Int) ∧ i = .int .i64 (m : Int) ∧ St w [] wr (.blk g9 30 (bytesV F) :: arP ga x2 b)) (fun _ i _ => 16 - (intOf i).toNat)
      case atStart => exact ⟨0, by decide, rfl, rfl, hs4⟩
      case round =>
        clear hs4 d4 hm16 hm
        obtain ⟨m9, hm, rfl, rfl, hs0⟩ := hrel
        by_cases hm16 : m9 < 16
        · obtain ⟨d, hdq⟩ : ∃ d, m9 / 8 = d := ⟨_, rfl⟩
          obtain ⟨s, hsq⟩ : ∃ s, m9 % 8 = s := ⟨_, rfl⟩
          have f1 := quo8 hdq hm16
          have f2 := rem8 hsq
          have d4 : decide ((m9 : Int) < 16) = true := decide_eq_true (by omega)
          have z4 : IntKind.i64.wrap ((m9 : Int) + 1) = (m9 : Int) + 1 := IntWalk.i64_in _ (by omega)
          have hd : d < 2 := by omega
          have hs : s < 8 := by omega
          have HFV := hid (bytesV_getD (L := F) (i := d * 8 + s) (by rw [HL.out.fl]; omega))
          have HPB := hid (HC.out.pk d s hd hs)
          have HLN := hid (HC.out.len d s hd hs)
          have HPL : Hid (laidB xs (F.getD (d * 8 + s) 0) d s ((b.peekL (d : Int) (s : Int)).getD 0 0) = true) := hid (HC.out.lo d s hd hs)
          have HPH : Hid (laidB xs (F.getD (d * 8 + s) 0) d s ((b.peekL (d : Int) (s : Int)).getD 255 0) = true) := hid (HC.out.hi d s hd hs)
          have HOD : Hid (b.oddS m9 = !((b.peekL (d : Int) (s : Int)) == BB ((b.peekL (d : Int) (s : Int)).getD 0 0))) := hid (by unfold AR.oddS; rw [hdq, hsq])
          have HON := hid (oddN_succ b.oddS m9)
          have HCP := hid (peek_any (ArrAll.of hs0 (fun p hp => .tail _ hp) HC.out.ok.d0) HC.out.ok (by rw [HBL.out]; decide) (d : Int) (s : Int))
          obtain ⟨V, hV⟩ : ∃ V, V = b.peekL (d : Int) (s : Int) := ⟨_, rfl⟩
          rw [← hV] at HLN HPL HPH HOD HCP
          rw [HPB.out, HLN.out] at HCP
          obtain ⟨FB, hFB⟩ : ∃ FB, FB = F.getD (d * 8 + s) 0 := ⟨_, rfl⟩
          rw [← hFB] at HFV HPL HPH
          obtain ⟨V0, hV0⟩ : ∃ V0, V0 = V.getD 0 0 := ⟨_, rfl⟩
          obtain ⟨V5, hV5⟩ : ∃ V5, V5 = V.getD 255 0 := ⟨_, rfl⟩
          have HV0 : Hid (∀ rest, (bytesV V ++ rest)[0]? = some (.int .u8 (V0.toNat : Int))) := hid (fun rest => by
            rw [List.getElem?_append_left (by rw [length_bytesV, HLN.out]; decide), bytesV_getD (by rw [HLN.out]; decide), hV0])
          have HV5 : Hid (∀ rest, (bytesV V ++ rest)[255]? = some (.int .u8 (V5.toNat : Int))) := hid (fun rest => by
            rw [List.getElem?_append_left (by rw [length_bytesV, HLN.out]; decide), bytesV_getD (by rw [HLN.out]; decide), hV5])
          have HBV : Hid (∀ rest, ((bytesV V ++ rest).drop 0).take (bytesV V).length = bytesV V) := hid (fun rest => by
            rw [List.drop_zero, List.take_left])
          rw [← hV0] at HPL HOD
          rw [← hV5] at HPH
          have hd2 : (d : Int) < 2 := by omega
          have hs2 : (s : Int) < 8 := by omega
          obtain ⟨o, ho⟩ : ∃ o, o = oddN b.oddS m9 := ⟨_, rfl⟩
          have HO := hid ho
          rw [← ho] at HON
          rw [← ho]
          have hon : o ≤ 16 := by
            rw [ho]
            unfold oddN
            exact Nat.le_trans (List.length_filter_le _ _) (by rw [List.length_range]; exact hm)
          have z5 : IntKind.i64.wrap ((o : Int) + 1) = (o : Int) + 1 := IntWalk.i64_in _ (by omega)
          clear hdq hsq hd hs hV hFB hV0 hV5 ho
          go_wp2_with (first | go_big_skip | go_big_guard | (go_at_call 32; refine HCP.out.mono ?_; rintro _ w6 ⟨u, rfl, h4⟩; have hs1 := St.call hs0 h4; clear h4 hs0; obtain ⟨gu, cu, rest, rfl, hc1, hc2, _, hs3⟩ := row_openL (L1 := []) hs1 (by decide); have HCU := hid hc1; have HCM := hid hc2; clear hs1 hc1 hc2))
          have hX := hs3.drew
          clear hs3
          refine wp_region_held_drew (S := (fun w' => (loadVarH 5 ⟨g9, d * 8 + s, none⟩).run Try.prog w' = .ok (.int .u8 (FB.toNat : Int)) w' ∧ (loadVarH 5 ⟨gu, 0, none⟩).run Try.prog w' = .ok (.int .u8 (V0.toNat : Int)) w' ∧ (loadVarH 5 ⟨gu, 255, none⟩).run Try.prog w' = .ok (.int .u8 (V5.toNat : Int)) w')) (by kernel_rfl) (by exact ⟨ldS [_] hX (HFV.out), ldS [] hX (HV0.out rest), ldS [] hX (HV5.out rest)⟩) (fun hHeld => ?_)
          refine wpAnyH_take (i := 0) (oi := ⟨some 100, _, _, _, _, _⟩) (v := ?_) rfl (by kernel_rfl) (by kernel_rfl) (by kernel_rfl) (fun _ _ _ h => h) (Or.inl ⟨by rfl, ?_⟩) (by assumption) ?_
          rotate_left
          · intro w hSw; (try dsimp only at hSw); go_simp; try with_reducible rfl
          (try simp only [Act.put, List.setIfInBounds_toArray, List.set_cons_zero, List.set_cons_succ])
          refine wpAnyH_take (i := 1) (oi := ⟨some 101, _, _, _, _, _⟩) (v := ?_) rfl (by kernel_rfl) (by kernel_rfl) (by kernel_rfl) (fun _ _ _ h => h) (Or.inl ⟨by rfl, ?_⟩) (by assumption) ?_
          rotate_left
          · intro w hSw; (try dsimp only at hSw); go_simp; try with_reducible rfl
          (try simp only [Act.put, List.setIfInBounds_toArray, List.set_cons_zero, List.set_cons_succ])
          refine wpAnyH_take (i := 3) (oi := ⟨some 103, _, _, _, _, _⟩) (v := ?_) rfl (by kernel_rfl) (by kernel_rfl) (by kernel_rfl) (fun _ _ _ h => h) (Or.inl ⟨by rfl, ?_⟩) (by assumption) ?_
          rotate_left
          · intro w hSw; (try dsimp only at hSw); go_simp; try with_reducible rfl
          (try simp only [Act.put, List.setIfInBounds_toArray, List.set_cons_zero, List.set_cons_succ])
          refine wpAnyH_take (i := 8) (oi := ⟨some 108, _, _, _, _, _⟩) (v := ?_) rfl (by kernel_rfl) (by kernel_rfl) (by kernel_rfl) (fun _ _ _ h => h) (Or.inl ⟨by rfl, ?_⟩) (by assumption) ?_
          rotate_left
          · intro w hSw; (try dsimp only at hSw); go_simp; try with_reducible rfl
          (try simp only [Act.put, List.setIfInBounds_toArray, List.set_cons_zero, List.set_cons_succ])
          refine wpAnyH_take (i := 10) (oi := ⟨some 110, _, _, _, _, _⟩) (v := ?_) rfl (by kernel_rfl) (by kernel_rfl) (by kernel_rfl) (fun _ _ _ h => h) (Or.inl ⟨by rfl, ?_⟩) (by assumption) ?_
          rotate_left
          · intro w hSw; (try dsimp only at hSw); go_simp; try with_reducible rfl
          (try simp only [Act.put, List.setIfInBounds_toArray, List.set_cons_zero, List.set_cons_succ])
          refine wpAnyH_take (i := 12) (oi := ⟨some 112, _, _, _, _, _⟩) (v := ?_) rfl (by kernel_rfl) (by kernel_rfl) (by kernel_rfl) (fun _ _ _ h => h) (Or.inl ⟨by rfl, ?_⟩) (by assumption) ?_
          rotate_left
          · intro w hSw; (try dsimp only at hSw); go_simp; try with_reducible rfl
          (try simp only [Act.put, List.setIfInBounds_toArray, List.set_cons_zero, List.set_cons_succ])
          refine wpAnyH_take (i := 2) (oi := ⟨some 102, _, _, _, _, _⟩) (v := ?_) rfl (by kernel_rfl) (by kernel_rfl) (by kernel_rfl) (fun _ _ _ h => h) (Or.inl ⟨by rfl, ?_⟩) (by assumption) ?_
          rotate_left
          · intro w hSw; (try dsimp only at hSw); go_simp; try with_reducible rfl
          (try simp only [Act.put, List.setIfInBounds_toArray, List.set_cons_zero, List.set_cons_succ])
          refine wpAnyH_take (i := 4) (oi := ⟨some 104, _, _, _, _, _⟩) (v := ?_) rfl (by kernel_rfl) (by kernel_rfl) (by kernel_rfl) (fun _ _ _ h => h) (Or.inl ⟨by rfl, ?_⟩) (by assumption) ?_
          rotate_left
          · intro w hSw; (try dsimp only at hSw); go_simp; try with_reducible rfl
          (try simp only [Act.put, List.setIfInBounds_toArray, List.set_cons_zero, List.set_cons_succ])
          refine wpAnyH_take (i := 9) (oi := ⟨some 109, _, _, _, _, _⟩) (v := ?_) rfl (by kernel_rfl) (by kernel_rfl) (by kernel_rfl) (fun _ _ _ h => h) (Or.inl ⟨by rfl, ?_⟩) (by assumption) ?_
          rotate_left
          · intro w hSw; (try dsimp only at hSw); go_simp; try with_reducible rfl
          (try simp only [Act.put, List.setIfInBounds_toArray, List.set_cons_zero, List.set_cons_succ])
          refine wpAnyH_take (i := 11) (oi := ⟨some 111, _, _, _, _, _⟩) (v := ?_) rfl (by kernel_rfl) (by kernel_rfl) (by kernel_rfl) (fun _ _ _ h => h) (Or.inl ⟨by rfl, ?_⟩) (by assumption) ?_
          rotate_left
          · intro w hSw; (try dsimp only at hSw); go_simp; try with_reducible rfl
          (try simp only [Act.put, List.setIfInBounds_toArray, List.set_cons_zero, List.set_cons_succ])
          refine wpAnyH_take (i := 13) (oi := ⟨some 113, _, _, _, _, _⟩) (v := ?_) rfl (by kernel_rfl) (by kernel_rfl) (by kernel_rfl) (fun _ _ _ h => h) (Or.inl ⟨by rfl, ?_⟩) (by assumption) ?_
          rotate_left
          · intro w hSw; (try dsimp only at hSw); go_simp; try with_reducible rfl
          (try simp only [Act.put, List.setIfInBounds_toArray, List.set_cons_zero, List.set_cons_succ])
          refine wpAnyH_take (i := 5) (oi := ⟨some 105, _, _, _, _, _⟩) (v := ?_) rfl (by kernel_rfl) (by kernel_rfl) (by kernel_rfl) (fun _ _ _ h => h) (Or.inl ⟨by rfl, ?_⟩) (by assumption) ?_
          rotate_left
          · intro w hSw; (try dsimp only at hSw); go_simp; try with_reducible rfl
          (try simp only [Act.put, List.setIfInBounds_toArray, List.set_cons_zero, List.set_cons_succ])
          refine wpAnyH_take (i := 14) (oi := ⟨some 114, _, _, _, _, _⟩) (v := ?_) rfl (by kernel_rfl) (by kernel_rfl) (by kernel_rfl) (fun _ _ _ h => h) (Or.inl ⟨by rfl, ?_⟩) (by assumption) ?_
          rotate_left
          · intro w hSw; (try dsimp only at hSw); go_simp; try with_reducible rfl
          (try simp only [Act.put, List.setIfInBounds_toArray, List.set_cons_zero, List.set_cons_succ])
          refine wpAnyH_take (i := 6) (oi := ⟨some 106, _, _, _, _, _⟩) (v := ?_) rfl (by kernel_rfl) (by kernel_rfl) (by kernel_rfl) (fun _ _ _ h => h) (Or.inl ⟨by rfl, ?_⟩) (by assumption) ?_
          rotate_left
          · intro w hSw; (try dsimp only at hSw); go_simp; try with_reducible rfl
          (try simp only [Act.put, List.setIfInBounds_toArray, List.set_cons_zero, List.set_cons_succ])
          refine wpAnyH_take (i := 7) (oi := ⟨some 107, _, _, _, _, _⟩) (v := ?_) rfl (by kernel_rfl) (by kernel_rfl) (by kernel_rfl) (fun _ _ _ h => h) (Or.inl ⟨by rfl, ?_⟩) (by assumption) ?_
          rotate_left
          · intro w hSw; (try dsimp only at hSw); go_simp; try with_reducible rfl
          (try simp only [Act.put, List.setIfInBounds_toArray, List.set_cons_zero, List.set_cons_succ])
          refine wpAnyH_ready (rs := [15]) (by kernel_rfl) (by simp) ?_
          refine (AllReadyH.cons (o := ⟨some 115, _, _, _, _, _⟩) rfl (fun K hK => ?_) AllReadyH.nil)
          rw [if_pos (by rfl)]
          go_simp
          go_at_call 33
          refine (laid_any ao N c xs FB V0 d s _ (Rd.old hX hv) HN.out HXX.out h6).mono ?_
          rw [HPL.out]
          rintro _ w11 ⟨rfl, h4⟩
          have hA1 := St.call0 hX h4
          clear h4
          refine hK.out _ _ ?_ (fun hHeld => ?_)
          · exact ⟨ldS [_] hA1 (HFV.out), ldS [] hA1 (HV0.out rest), ldS [] hA1 (HV5.out rest)⟩
          clear hK K
          (try simp only [Act.put, List.setIfInBounds_toArray, List.set_cons_zero, List.set_cons_succ])
          refine wpAnyH_take (i := 16) (oi := ⟨some 116, _, _, _, _, _⟩) (v := ?_) rfl (by kernel_rfl) (by kernel_rfl) (by kernel_rfl) (fun _ _ _ h => h) (Or.inl ⟨by rfl, ?_⟩) (by assumption) ?_
          rotate_left
          · intro w hSw; (try dsimp only at hSw); go_simp; try with_reducible rfl
          (try simp only [Act.put, List.setIfInBounds_toArray, List.set_cons_zero, List.set_cons_succ])
          refine wpAnyH_take (i := 17) (oi := ⟨some 117, _, _, _, _, _⟩) (v := ?_) rfl (by kernel_rfl) (by kernel_rfl) (by kernel_rfl) (fun _ _ _ h => h) (Or.inl ⟨by rfl, ?_⟩) (by assumption) ?_
          rotate_left
          · intro w hSw; (try dsimp only at hSw); go_simp; try with_reducible rfl
          (try simp only [Act.put, List.setIfInBounds_toArray, List.set_cons_zero, List.set_cons_succ])
          refine wpAnyH_take (i := 18) (oi := ⟨some 118, _, _, _, _, _⟩) (v := ?_) rfl (by kernel_rfl) (by kernel_rfl) (by kernel_rfl) (fun _ _ _ h => h) (Or.inl ⟨by rfl, ?_⟩) (by assumption) ?_
          rotate_left
          · intro w hSw; (try dsimp only at hSw); go_simp; try with_reducible rfl
          (try simp only [Act.put, List.setIfInBounds_toArray, List.set_cons_zero, List.set_cons_succ])
          refine wpAnyH_take (i := 19) (oi := ⟨some 119, _, _, _, _, _⟩) (v := ?_) rfl (by kernel_rfl) (by kernel_rfl) (by kernel_rfl) (fun _ _ _ h => h) (Or.inl ⟨by rfl, ?_⟩) (by assumption) ?_
          rotate_left
          · intro w hSw; (try dsimp only at hSw); go_simp; try with_reducible rfl
          (try simp only [Act.put, List.setIfInBounds_toArray, List.set_cons_zero, List.set_cons_succ])
          refine wpAnyH_take (i := 21) (oi := ⟨some 121, _, _, _, _, _⟩) (v := ?_) rfl (by kernel_rfl) (by kernel_rfl) (by kernel_rfl) (fun _ _ _ h => h) (Or.inl ⟨by rfl, ?_⟩) (by assumption) ?_
          rotate_left
          · intro w hSw; (try dsimp only at hSw); go_simp; try with_reducible rfl
          (try simp only [Act.put, List.setIfInBounds_toArray, List.set_cons_zero, List.set_cons_succ])
          refine wpAnyH_take (i := 26) (oi := ⟨some 126, _, _, _, _, _⟩) (v := ?_) rfl (by kernel_rfl) (by kernel_rfl) (by kernel_rfl) (fun _ _ _ h => h) (Or.inl ⟨by rfl, ?_⟩) (by assumption) ?_
          rotate_left
          · intro w hSw; (try dsimp only at hSw); go_simp; try with_reducible rfl
          (try simp only [Act.put, List.setIfInBounds_toArray, List.set_cons_zero, List.set_cons_succ])
          refine wpAnyH_take (i := 28) (oi := ⟨some 128, _, _, _, _, _⟩) (v := ?_) rfl (by kernel_rfl) (by kernel_rfl) (by kernel_rfl) (fun _ _ _ h => h) (Or.inl ⟨by rfl, ?_⟩) (by assumption) ?_
          rotate_left
          · intro w hSw; (try dsimp only at hSw); go_simp; try with_reducible rfl
          (try simp only [Act.put, List.setIfInBounds_toArray, List.set_cons_zero, List.set_cons_succ])
          refine wpAnyH_take (i := 30) (oi := ⟨some 130, _, _, _, _, _⟩) (v := ?_) rfl (by kernel_rfl) (by kernel_rfl) (by kernel_rfl) (fun _ _ _ h => h) (Or.inl ⟨by rfl, ?_⟩) (by assumption) ?_
          rotate_left
          · intro w hSw; (try dsimp only at hSw); go_simp; try with_reducible rfl
          (try simp only [Act.put, List.setIfInBounds_toArray, List.set_cons_zero, List.set_cons_succ])
          refine wpAnyH_take (i := 20) (oi := ⟨some 120, _, _, _, _, _⟩) (v := ?_) rfl (by kernel_rfl) (by kernel_rfl) (by kernel_rfl) (fun _ _ _ h => h) (Or.inl ⟨by rfl, ?_⟩) (by assumption) ?_
          rotate_left
          · intro w hSw; (try dsimp only at hSw); go_simp; try with_reducible rfl
          (try simp only [Act.put, List.setIfInBounds_toArray, List.set_cons_zero, List.set_cons_succ])
          refine wpAnyH_take (i := 22) (oi := ⟨some 122, _, _, _, _, _⟩) (v := ?_) rfl (by kernel_rfl) (by kernel_rfl) (by kernel_rfl) (fun _ _ _ h => h) (Or.inl ⟨by rfl, ?_⟩) (by assumption) ?_
          rotate_left
          · intro w hSw; (try dsimp only at hSw); go_simp; try with_reducible rfl
          (try simp only [Act.put, List.setIfInBounds_toArray, List.set_cons_zero, List.set_cons_succ])
          refine wpAnyH_take (i := 27) (oi := ⟨some 127, _, _, _, _, _⟩) (v := ?_) rfl (by kernel_rfl) (by kernel_rfl) (by kernel_rfl) (fun _ _ _ h => h) (Or.inl ⟨by rfl, ?_⟩) (by assumption) ?_
          rotate_left
          · intro w hSw; (try dsimp only at hSw); go_simp; try with_reducible rfl
          (try simp only [Act.put, List.setIfInBounds_toArray, List.set_cons_zero, List.set_cons_succ])
          refine wpAnyH_take (i := 29) (oi := ⟨some 129, _, _, _, _, _⟩) (v := ?_) rfl (by kernel_rfl) (by kernel_rfl) (by kernel_rfl) (fun _ _ _ h => h) (Or.inl ⟨by rfl, ?_⟩) (by assumption) ?_
          rotate_left
          · intro w hSw; (try dsimp only at hSw); go_simp; try with_reducible rfl
          (try simp only [Act.put, List.setIfInBounds_toArray, List.set_cons_zero, List.set_cons_succ])
          refine wpAnyH_take (i := 31) (oi := ⟨some 131, _, _, _, _, _⟩) (v := ?_) rfl (by kernel_rfl) (by kernel_rfl) (by kernel_rfl) (fun _ _ _ h => h) (Or.inl ⟨by rfl, ?_⟩) (by assumption) ?_
          rotate_left
          · intro w hSw; (try dsimp only at hSw); go_simp; try with_reducible rfl
          (try simp only [Act.put, List.setIfInBounds_toArray, List.set_cons_zero, List.set_cons_succ])
          refine wpAnyH_take (i := 23) (oi := ⟨some 123, _, _, _, _, _⟩) (v := ?_) rfl (by kernel_rfl) (by kernel_rfl) (by kernel_rfl) (fun _ _ _ h => h) (Or.inl ⟨by rfl, ?_⟩) (by assumption) ?_
          rotate_left
          · intro w hSw; (try dsimp only at hSw); go_simp; try with_reducible rfl
          (try simp only [Act.put, List.setIfInBounds_toArray, List.set_cons_zero, List.set_cons_succ])
          refine wpAnyH_take (i := 32) (oi := ⟨some 132, _, _, _, _, _⟩) (v := ?_) rfl (by kernel_rfl) (by kernel_rfl) (by kernel_rfl) (fun _ _ _ h => h) (Or.inl ⟨by rfl, ?_⟩) (by assumption) ?_
          rotate_left
          · intro w hSw; (try dsimp only at hSw); go_simp; try with_reducible rfl
          (try simp only [Act.put, List.setIfInBounds_toArray, List.set_cons_zero, List.set_cons_succ])
          refine wpAnyH_take (i := 24) (oi := ⟨some 124, _, _, _, _, _⟩) (v := ?_) rfl (by kernel_rfl) (by kernel_rfl) (by kernel_rfl) (fun _ _ _ h => h) (Or.inl ⟨by rfl, ?_⟩) (by assumption) ?_
          rotate_left
          · intro w hSw; (try dsimp only at hSw); go_simp; try with_reducible rfl
          (try simp only [Act.put, List.setIfInBounds_toArray, List.set_cons_zero, List.set_cons_succ])
          refine wpAnyH_take (i := 25) (oi := ⟨some 125, _, _, _, _, _⟩) (v := ?_) rfl (by kernel_rfl) (by kernel_rfl) (by kernel_rfl) (fun _ _ _ h => h) (Or.inl ⟨by rfl, ?_⟩) (by assumption) ?_
          rotate_left
          · intro w hSw; (try dsimp only at hSw); go_simp; try with_reducible rfl
          (try simp only [Act.put, List.setIfInBounds_toArray, List.set_cons_zero, List.set_cons_succ])
          refine wpAnyH_ready (rs := [33]) (by kernel_rfl) (by simp) ?_
          refine (AllReadyH.cons (o := ⟨some 133, _, _, _, _, _⟩) rfl (fun K hK => ?_) AllReadyH.nil)
          rw [if_pos (by rfl)]
          go_simp
          go_at_call 33
          refine (laid_any ao N c xs FB V5 d s _ (Rd.old hA1 hv) HN.out HXX.out h6).mono ?_
          rw [HPH.out]
          rintro _ w12 ⟨rfl, h4⟩
          have hA2 := St.call0 hA1 h4
          clear h4
          refine hK.out _ _ ?_ (fun hHeld => ?_)
          · exact ⟨ldS [_] hA2 (HFV.out), ldS [] hA2 (HV0.out rest), ldS [] hA2 (HV5.out rest)⟩
          clear hK K
          (try simp only [Act.put, List.setIfInBounds_toArray, List.set_cons_zero, List.set_cons_succ])
          refine wpAnyH_take (i := 34) (oi := ⟨some 134, _, _, _, _, _⟩) (v := ?_) rfl (by kernel_rfl) (by kernel_rfl) (by kernel_rfl) (fun _ _ _ h => h) (Or.inl ⟨by rfl, ?_⟩) (by assumption) ?_
          rotate_left
          · intro w hSw; (try dsimp only at hSw); go_simp; try with_reducible rfl
          (try simp only [Act.put, List.setIfInBounds_toArray, List.set_cons_zero, List.set_cons_succ])
          refine wpAnyH_take (i := 35) (oi := ⟨some 135, _, _, _, _, _⟩) (v := ?_) rfl (by kernel_rfl) (by kernel_rfl) (by kernel_rfl) (fun _ _ _ h => h) (Or.inl ⟨by rfl, ?_⟩) (by assumption) ?_
          rotate_left
          · intro w hSw; (try dsimp only at hSw); go_simp; try with_reducible rfl
          (try simp only [Act.put, List.setIfInBounds_toArray, List.set_cons_zero, List.set_cons_succ])
          refine wpAnyH_done (by kernel_rfl) ?_ _
          clear hHeld
          have hs4 := hA2
          clear hA2
          obtain ⟨E, hE⟩ : ∃ E, E = (V == BB V0) := ⟨_, rfl⟩
          have HE := hid hE
          clear hE
          cases hEE : E
          · rw [hEE] at HE
            rw [← HE.out] at HOD
            clear hEE
            go_wp2_with (first | go_big_skip | go_big_guard | (refine wl_loadE rfl rfl rfl ?_; refine ⟨_, Loads.at [] hs4 (HV0.out rest), ?_⟩) | (go_at_call 14; refine (of_any V0 _).mono ?_; rintro _ w20 ⟨g5, rfl, h4⟩; have hs5 := St.call hs4 h4; clear h4 hs4) | (go_at_call 34; refine (sameBytes_any _ _ 256 256 V (BB V0) _ (Rd.blk hs5 (.tail _ (.head _)) HCU.out HCM.out (by rw [length_bytesV]; exact HLN.out) (HBV.out rest)) (Rd.blk hs5 (.head _) (Nat.le_refl _) (by decide) (by rw [length_bytesV]; exact BB_len _) (by rw [List.drop_zero]; exact List.take_length))).mono ?_; rw [← HE.out]; rintro _ w21 ⟨rfl, h4⟩; have hs6 := St.call0 hs5 h4; clear h4 hs5))
            go_roundw
            case rel => exact ⟨m9 + 1, by omega, by rw [HON.out, HOD.out]; rfl, rfl, St.sub hs6 (.cons _ (.cons _ (List.Sublist.refl _)))⟩
            case measure => simp [intOf]; omega
          · rw [hEE] at HE
            rw [← HE.out] at HOD
            clear hEE
            go_wp2_with (first | go_big_skip | go_big_guard | (refine wl_loadE rfl rfl rfl ?_; refine ⟨_, Loads.at [] hs4 (HV0.out rest), ?_⟩) | (go_at_call 14; refine (of_any V0 _).mono ?_; rintro _ w20 ⟨g5, rfl, h4⟩; have hs5 := St.call hs4 h4; clear h4 hs4) | (go_at_call 34; refine (sameBytes_any _ _ 256 256 V (BB V0) _ (Rd.blk hs5 (.tail _ (.head _)) HCU.out HCM.out (by rw [length_bytesV]; exact HLN.out) (HBV.out rest)) (Rd.blk hs5 (.head _) (Nat.le_refl _) (by decide) (by rw [length_bytesV]; exact BB_len _) (by rw [List.drop_zero]; exact List.take_length))).mono ?_; rw [← HE.out]; rintro _ w21 ⟨rfl, h4⟩; have hs6 := St.call0 hs5 h4; clear h4 hs5))
            go_roundw
            case rel => exact ⟨m9 + 1, by omega, by rw [HON.out, HOD.out]; rfl, rfl, St.sub hs6 (.cons _ (.cons _ (List.Sublist.refl _)))⟩
            case measure => simp [intOf]; omega
        · obtain rfl : m9 = 16 := by omega
          have d4 : decide (((16 : Nat) : Int) < 16) = false := by decide
          have HON := hid HC.out.one
          have HZN := hid HC.out.none
          obtain ⟨o, ho⟩ : ∃ o, o = oddN b.oddS 16 := ⟨_, rfl⟩
          rw [← ho] at HON HZN
          rw [← ho]
          clear ho
          have d6 : decide ((1 : Int) < (o : Int)) = false := decide_eq_false (by have := HON.out; omega)
          by_cases h0 : nl = 0
          · have ho : o = 0 := HZN.out (List.eq_nil_of_length_eq_zero (by rw [← HNL.out]; exact h0))
            subst ho
            subst h0
            go_wp2_with (first | go_big_skip | go_big_guard | fail)
            go_ret
            exact ⟨rfl, hs0.nil⟩
          · have d7 : ((nl : Int) == 0) = false := by simpa using h0
            go_wp2_with (first | go_big_skip | go_big_guard | fail)
            go_ret
            exact ⟨rfl, hs0.nil⟩
end
theorem firm_law (ao : Option Addr) (N c : Nat) (xs : List LY) (ko : Option Addr) (kn kc : Nat) (ks : List Bool) (zt : Int) (w : World) (hv : Rd w (.slice ao N c) 4 N (xs.flatMap LY.cells)) (hN : xs.length = N) (hx : ∀ y ∈ xs, y.Ok) (hvk : Rd w (.slice ko kn kc) 1 kn (boolsV ks)) (hkn : ks.length = kn) (hzt : -9223372036854775808 ≤ zt ∧ zt ≤ 9223372036854775807) :
    Calls Try.prog 7 #[.slice ao N c, .slice ko kn kc, .int .i64 zt] w fun e w' => e = .returned (.bool true) ∧ St w [] w' [] := by
  by_cases h6 : N ≤ 60
  · by_cases h7 : kn ≤ 200
    · exact firm_fine ao N c xs ko kn kc ks zt w hv hN hx h6 hvk hkn h7 hzt
    · exact firm_wide ao N c ko kn kc zt w h6 (by omega)
  · exact firm_long ao N c ko kn kc zt w (by omega)
end Go.Proofs.Ytclleohpmgihaaa
namespace Go.Proofs.Ytclleohpmgihaaa
set_option linter.unusedVariables false
set_option linter.unusedSimpArgs false
open Go.ChangeShapes Go.WideShapes Go.ChangeAt Go.RowKit Hp
set_option maxRecDepth 100000 in
theorem arrayFirm_lifted (os : Os) (started : os.Started) (H : Type) (enc : TypeId × Value → H) :
    ReturnsInHanded {} Try.checked os 7 .any (Rows.arrayFirmSpec.pre6 enc Try.prog Try.f7 Rows.arrayFirmRow.domain false) (Rows.arrayFirmSpec.post enc Try.prog Try.f7 false true false false) := by
  refine returnsInHanded_of_change (C := Try.checked) own started (by kernel_rfl) Try.func7
    (ChangeSpec.witness6 (enc := enc) (C := Try.checked) false ⟨#[], #[.slice none 0 0, .slice none 0 0, .int .i64 0], []⟩ 8 (by kernel_rfl) (by kernel_rfl) (by kernel_rfl) (by kernel_rfl)) ?_
  intro W base args ds gs before hval0 hW hcnd _
  have hval : ∀ (j : Nat) t v, Try.f7.params[j]? = some t → args[j]? = some v → Value.okWide Try.prog W .any base t v := hval0
  have hW' := hW
  obtain ⟨p, q, hAA0, hV, rfl, hfz, hnd⟩ := hW
  have hA : DataW.TrodAll enc Try.prog W 0 (fun _ => true) true Try.f7.params.toList args.toList ds p := hAA0
  rw [Try.params7] at hA hval
  have hk := hA
  obtain ⟨v0, v1, v2, d0, d1, d2, p0, p1, p2, rfl, rfl, rfl, h0, h1, h2⟩ := trodAll_three hA
  obtain ⟨rfl, rfl⟩ := trodVars_none hV
  obtain ⟨n0, h0⟩ := h0
  obtain ⟨ao0, n0, c0, xs0, rfl, hA0, hn0, hk0⟩ := open_lays (hval 0 _ v0 rfl rfl) h0
  obtain ⟨n1, h1⟩ := h1
  obtain ⟨ao1, n1, c1, xs1, rfl, hA1, hn1⟩ := open_bools (hval 1 _ v1 rfl rfl) h1
  obtain ⟨n2, h2⟩ := h2
  obtain ⟨z2, rfl, hl2, hu2⟩ := open_int (hval 2 _ v2 rfl rfl) h2
  clear hAA0 hval0
  simp only [List.append_nil] at hW'
  refine (firm_law ao0 n0 c0 xs0 ao1 n1 c1 xs1 z2 W hA0 hn0 hk0 hA1 hn1 ⟨hl2, hu2⟩).mono fun e W' ⟨he, hg⟩ => ?_
  subst he
  exact ⟨_, rfl, post_of_kept (pv := []) hW' (fun _ _ _ => (trodAll_cons_mk (shut_bool Try.underlying4 _) trodAll_mk0)) (fun sp hsp => by
      rw [Try.params7]
      exact args_kept (by decide) hk hg.below (fun p hp => hW'.lt p hp) sp hsp) (fun _ _ => rfl) (by simp)
    (hg.below.frame _)⟩
theorem arrayFirm_over : Rows.arrayFirmRow.holds Try.pinned (OpenSpec.ofChange Rows.arrayFirmSpec) :=
  OpenClaim.holds_of_wide 7 Try.f7 rfl rfl rfl rfl rfl rfl rfl ⟨rfl, rfl, rfl, rfl, rfl⟩ rfl rfl rfl rfl rfl (by kernel_rfl) Try.func7 (by kernel_rfl)
    (of_decide_eq_true (by kernel_rfl)) (by unfold Func.isWrapper; first | (rw [if_pos (by decide +kernel)]; kernel_rfl) | (rw [if_neg (by decide +kernel)]; exact ⟨rfl, rfl⟩))
    (fun os started H enc _ => arrayFirm_lifted os started H enc)

theorem arrayFirm_proved : Rows.ArrayFirmSaid :=
  arrayFirm_over
end Go.Proofs.Ytclleohpmgihaaa
