/- PROVED: the law ArrayNone returns true at any input, and nothing that was there has turned. No condition. -/
import Derived.Test.YtclleohpmgihaaaJArrayNonea
import Derived.Test.YtclleohpmgihaaaR29
import Derived.Test.YtclleohpmgihaaaR26
import Derived.Test.YtclleohpmgihaaaSepF
import Derived.Test.YtclleohpmgihaaaPost
namespace Go.Proofs.Ytclleohpmgihaaa
set_option linter.unusedVariables false
set_option linter.unusedSimpArgs false
open Go.RowKit Hp
set_option maxRecDepth 100000
set_option maxHeartbeats 4000000
def tornB : List UInt8 := (BB 1).take 3 ++ (BB 0).drop 3
theorem tornB_len : tornB.length = 256 := by kernel_rfl
theorem tornB_put : putAt (bytesV (List.replicate 256 1)) (3 * 1) (bytesV ((BB 0).drop 3)) = bytesV tornB := by kernel_rfl
def N1 (p q : Nat) : AR := (K0 p q).stray 1 6
theorem N1_ok (p q : Nat) : (N1 p q).Ok := (K0_ok p q).stray _ _
theorem N1_ll (p q : Nat) : (N1 p q).loose.length = 0 := by kernel_rfl
theorem N1_st (p q : Nat) : (N1 p q).steps = 0 := by kernel_rfl
def N2 (p q : Nat) : AR := (N1 p q).write 1 5 (BB 1)
theorem N2_ok (p q : Nat) : (N2 p q).Ok := (N1_ok p q).write _ _ _
theorem N2_ll (p q : Nat) : (N2 p q).loose.length = 1 := by kernel_rfl
theorem N2_st (p q : Nat) : (N2 p q).steps = 1 := by kernel_rfl
def N3 (p q : Nat) : AR := (N2 p q).fails 1 1
theorem N3_ok (p q : Nat) : (N3 p q).Ok := (N2_ok p q).fails _ _ (by decide)
theorem N3_ll (p q : Nat) : (N3 p q).loose.length = 1 := by kernel_rfl
theorem N3_st (p q : Nat) : (N3 p q).steps = 1 := by kernel_rfl
def N4 (p q : Nat) : AR := (N3 p q).read 1 6
theorem N4_ok (p q : Nat) : (N4 p q).Ok := (N3_ok p q).read _ _
theorem N4_ll (p q : Nat) : (N4 p q).loose.length = 1 := by kernel_rfl
theorem N4_st (p q : Nat) : (N4 p q).steps = 1 := by kernel_rfl
def N5 (p q : Nat) : AR := (N4 p q).crash [] 0
theorem N5_ok (p q : Nat) : (N5 p q).Ok := (N4_ok p q).crash _ _
theorem N5_ll (p q : Nat) : (N5 p q).loose.length = 0 := by kernel_rfl
theorem N5_st (p q : Nat) : (N5 p q).steps = 1 := by kernel_rfl
def N6 (p q : Nat) : AR := (N5 p q).fused 1
theorem N6_ok (p q : Nat) : (N6 p q).Ok := (N5_ok p q).fused (by decide)
theorem N6_ll (p q : Nat) : (N6 p q).loose.length = 0 := by kernel_rfl
theorem N6_st (p q : Nat) : (N6 p q).steps = 1 := by kernel_rfl
def N7 (p q : Nat) : AR := (N6 p q).write 0 7 (BB 2)
theorem N7_ok (p q : Nat) : (N7 p q).Ok := (N6_ok p q).write _ _ _
theorem N7_ll (p q : Nat) : (N7 p q).loose.length = 1 := by kernel_rfl
theorem N7_st (p q : Nat) : (N7 p q).steps = 2 := by kernel_rfl
def N8 (p q : Nat) : AR := (N7 p q).flush 0
theorem N8_ok (p q : Nat) : (N8 p q).Ok := (N7_ok p q).flush _
theorem N8_ll (p q : Nat) : (N8 p q).loose.length = 1 := by kernel_rfl
theorem N8_st (p q : Nat) : (N8 p q).steps = 2 := by kernel_rfl
def N9 (p q : Nat) : AR := (N8 p q).crash [true] 0
theorem N9_ok (p q : Nat) : (N9 p q).Ok := (N8_ok p q).crash _ _
theorem N9_ll (p q : Nat) : (N9 p q).loose.length = 0 := by kernel_rfl
theorem N9_st (p q : Nat) : (N9 p q).steps = 2 := by kernel_rfl
def N10 (p q : Nat) : AR := (N9 p q).pull 0
theorem N10_ok (p q : Nat) : (N10 p q).Ok := (N9_ok p q).pull _
theorem N10_ll (p q : Nat) : (N10 p q).loose.length = 0 := by kernel_rfl
theorem N10_st (p q : Nat) : (N10 p q).steps = 2 := by kernel_rfl
def N11 (p q g : Nat) : AR := (N10 p q).fit 0 g
theorem N11_ok (p q g : Nat) : (N11 p q g).Ok := (N10_ok p q).fit _ _
theorem N11_ll (p q g : Nat) : (N11 p q g).loose.length = 0 := by kernel_rfl
theorem N11_st (p q g : Nat) : (N11 p q g).steps = 2 := by kernel_rfl
def N12 (p q g : Nat) : AR := (N11 p q g).write 1 5 (BB 1)
theorem N12_ok (p q g : Nat) : (N12 p q g).Ok := (N11_ok p q g).write _ _ _
theorem N12_ll (p q g : Nat) : (N12 p q g).loose.length = 1 := by kernel_rfl
theorem N12_st (p q g : Nat) : (N12 p q g).steps = 3 := by kernel_rfl
def N13 (p q g : Nat) : AR := (N12 p q g).write 1 6 (BB 1)
theorem N13_ok (p q g : Nat) : (N13 p q g).Ok := (N12_ok p q g).write _ _ _
theorem N13_ll (p q g : Nat) : (N13 p q g).loose.length = 2 := by kernel_rfl
theorem N13_st (p q g : Nat) : (N13 p q g).steps = 4 := by kernel_rfl
def N14 (p q g : Nat) : AR := (N13 p q g).crash [false, true] 3
theorem N14_ok (p q g : Nat) : (N14 p q g).Ok := (N13_ok p q g).crash _ _
theorem N14_ll (p q g : Nat) : (N14 p q g).loose.length = 0 := by kernel_rfl
theorem N14_st (p q g : Nat) : (N14 p q g).steps = 4 := by kernel_rfl
theorem N0_y (p q : Nat) : (K0 p q).strayE 1 6 = 0 := by kernel_rfl
theorem N1_w (p q : Nat) : (N1 p q).writeE 1 5 (BB 1) = 0 := by kernel_rfl
theorem N2_f (p q : Nat) : (N2 p q).failsE 1 1 = 0 := by kernel_rfl
theorem N3_e (p q : Nat) : (N3 p q).readE 1 6 = 13 := by kernel_rfl
theorem N3_b (p q : Nat) : (N3 p q).readB 1 6 = [] := by kernel_rfl
theorem N4_c (p q : Nat) : (N4 p q).crashE 0 = 0 := by kernel_rfl
theorem N5_u (p q : Nat) : (N5 p q).fuseE 1 = 0 := by kernel_rfl
theorem N6_w (p q : Nat) : (N6 p q).writeE 0 7 (BB 2) = 0 := by kernel_rfl
theorem N7_f (p q : Nat) : (N7 p q).flushE 0 = 10 := by kernel_rfl
theorem N8_p (p q : Nat) : (N8 p q).up 0 = false := by kernel_rfl
theorem N8_c (p q : Nat) : (N8 p q).crashE 0 = 0 := by kernel_rfl
theorem N9_w (p q : Nat) : (N9 p q).writeE 1 8 (BB 1) = 5 := by kernel_rfl
theorem N9_ww (p q : Nat) : (N9 p q).write 1 8 (BB 1) = (N9 p q) := by kernel_rfl
theorem N9_x (p q : Nat) : (N9 p q).writeE 1 7 [] = 2 := by kernel_rfl
theorem N9_xx (p q : Nat) : (N9 p q).write 1 7 [] = (N9 p q) := by kernel_rfl
theorem N9_l (p q : Nat) : (N9 p q).pullE 0 = 0 := by kernel_rfl
theorem N10_e (p q : Nat) : (N10 p q).readE 0 5 = 14 := by kernel_rfl
theorem N10_b (p q : Nat) : (N10 p q).readB 0 5 = [] := by kernel_rfl
theorem N10_r (p q : Nat) : (N10 p q).read 0 5 = (N10 p q) := by kernel_rfl
theorem N10_f (p q : Nat) : (N10 p q).fitE 0 = 0 := by kernel_rfl
theorem N11_w (p q g : Nat) : (N11 p q g).writeE 1 5 (BB 1) = 0 := by kernel_rfl
theorem N12_w (p q g : Nat) : (N12 p q g).writeE 1 6 (BB 1) = 0 := by kernel_rfl
theorem N13_c (p q g : Nat) : (N13 p q g).crashE 3 = 0 := by kernel_rfl
theorem N2a_r (p q : Nat) : ((N2 p q).readE 1 5 == 0 && (N2 p q).readB 1 5 == BB 0) = true := by kernel_rfl
theorem N2a_s (p q : Nat) : (N2 p q).read 1 5 = (N2 p q) := by kernel_rfl
theorem N2b_r (p q : Nat) : ((N2 p q).readE 1 6 == 0 && (N2 p q).readB 1 6 == BB 1) = true := by kernel_rfl
theorem N2b_s (p q : Nat) : (N2 p q).read 1 6 = (N2 p q) := by kernel_rfl
theorem N4a_r (p q : Nat) : ((N4 p q).readE 1 6 == 0 && (N4 p q).readB 1 6 == BB 1) = true := by kernel_rfl
theorem N4a_s (p q : Nat) : (N4 p q).read 1 6 = (N4 p q) := by kernel_rfl
theorem N9a_r (p q : Nat) : ((N9 p q).readE 0 7 == 0 && (N9 p q).readB 0 7 == BB 2) = true := by kernel_rfl
theorem N9a_s (p q : Nat) : (N9 p q).read 0 7 = (N9 p q) := by kernel_rfl
theorem N11a_r (p q g : Nat) : ((N11 p q g).readE 0 7 == 0 && (N11 p q g).readB 0 7 == BB 0) = true := by kernel_rfl
theorem N11a_s (p q g : Nat) : (N11 p q g).read 0 7 = (N11 p q g) := by kernel_rfl
theorem N14a_r (p q g : Nat) : ((N14 p q g).readE 1 5 == 0 && (N14 p q g).readB 1 5 == tornB) = true := by kernel_rfl
theorem N14a_s (p q g : Nat) : (N14 p q g).read 1 5 = (N14 p q g) := by kernel_rfl
theorem N14b_r (p q g : Nat) : ((N14 p q g).readE 1 6 == 0 && (N14 p q g).readB 1 6 == BB 1) = true := by kernel_rfl
theorem N14b_s (p q g : Nat) : (N14 p q g).read 1 6 = (N14 p q g) := by kernel_rfl
end Go.Proofs.Ytclleohpmgihaaa
namespace Go.Proofs.Ytclleohpmgihaaa
set_option linter.unusedVariables false
set_option linter.unusedSimpArgs false
open Go.RowKit Hp
attribute [local irreducible] Go.Calls Go.wpList
set_option maxRecDepth 100000
set_option maxHeartbeats 8000000
theorem newM_18 (w : World) : Calls Try.prog 31 #[.int .i64 1, .int .i64 8] w fun e w' => e = .returned (.tuple #[.pointer none, .int .i64 2]) ∧ St w [] w' [] := by
  have hst0 := St.refl w
  go_enter Try.func31, Try.ntmps31
  go_wp2_with (first | go_big_skip | go_big_guard | fail)
  go_ret2
  exact ⟨rfl, hst0⟩
theorem known15_any (w : World) : Calls Try.prog 6 #[] w fun e w' => e = .returned (.bool true) ∧ St w [] w' [] := by
  have hst := St.refl w
  go_enter Try.func6, Try.ntmps6
  go_wp2_with (first | go_big_skip | go_big_guard | (go_at_call 10; refine (made2_any _).mono ?_; rintro _ w0 ⟨ga, x0, gs, rfl, hg, h4⟩; obtain ⟨p, q, rfl⟩ : ∃ p q, gs = [p, q] := (match gs, hg with | [p, q], _ => ⟨p, q, rfl⟩); have hs0 : St w [] w0 (arP ga x0 (K0 p q) ++ []) := St.call hst h4; clear h4 hg hst) | (go_at_call 22; refine (strayM_any (St.arr hs0) (K0_ok p q) 1 6).mono ?_; rw [(N0_y p q)]; rintro _ w1 ⟨rfl, h4⟩; have hs1 : St w [] w1 (arP ga x0 (N1 p q) ++ _) := St.callF (arP ga x0 (K0 p q)) hs0 h4; clear h4 hs0) | (go_at_call 14; refine (of_any 1 _).mono ?_; rintro _ w2 ⟨g2, rfl, h4⟩; have hs2 := St.behind (A := arP ga x0 (N1 p q)) (St.call hs1 h4); clear h4 hs1) | (go_at_call 13; refine (writeM_any (St.arr hs2) (N1_ok p q) (by rw [(N1_st p q)]; decide) (by rw [(N1_ll p q)]; decide) 1 5 (some ⟨g2, 0, none⟩) 256 256 (BB 1) (Rd.blk hs2 (List.mem_append_right _ (.head _)) (Nat.le_refl _) (by decide) (by rw [length_bytesV]; exact BB_len 1) (by rw [List.drop_zero]; exact List.take_length)) (BB_len 1) (off_behind hs2 (.head _) 0 256 256)).mono ?_; rw [(N1_w p q)]; rintro _ w3 ⟨rfl, x3, h4⟩; have hs3 : St w [] w3 (arP ga x3 (N2 p q) ++ _) := St.callF (arP ga x0 (N1 p q)) hs2 h4; clear h4 hs2) | (go_at_call 14; refine (of_any 0 _).mono ?_; rintro _ w4 ⟨g4, rfl, h4⟩; have hs4 := St.behind (A := arP ga x3 (N2 p q)) (St.call hs3 h4); clear h4 hs3) | (go_at_call 25; refine (reads_any (St.arr hs4) (N2_ok p q) (by rw [(N2_ll p q)]; decide) 1 5 (.slice (some ⟨g4, 0, none⟩) 256 256) 256 (BB 0) (Rd.blk hs4 (List.mem_append_right _ (.head _)) (Nat.le_refl _) (by decide) (by rw [length_bytesV]; exact BB_len 0) (by rw [List.drop_zero]; exact List.take_length)) (BB_len 0) (off_behind hs4 (.head _) 0 256 256)).mono ?_; rw [(N2a_r p q), (N2a_s p q)]; rintro _ w5 ⟨rfl, h4⟩; have hs5 : St w [] w5 (arP ga x3 (N2 p q) ++ _) := St.callF (arP ga x3 (N2 p q)) hs4 h4; clear h4 hs4) | (go_at_call 14; refine (of_any 1 _).mono ?_; rintro _ w6 ⟨g6, rfl, h4⟩; have hs6 := St.behind (A := arP ga x3 (N2 p q)) (St.call hs5 h4); clear h4 hs5) | (go_at_call 25; refine (reads_any (St.arr hs6) (N2_ok p q) (by rw [(N2_ll p q)]; decide) 1 6 (.slice (some ⟨g6, 0, none⟩) 256 256) 256 (BB 1) (Rd.blk hs6 (List.mem_append_right _ (.head _)) (Nat.le_refl _) (by decide) (by rw [length_bytesV]; exact BB_len 1) (by rw [List.drop_zero]; exact List.take_length)) (BB_len 1) (off_behind hs6 (.head _) 0 256 256)).mono ?_; rw [(N2b_r p q), (N2b_s p q)]; rintro _ w7 ⟨rfl, h4⟩; have hs7 : St w [] w7 (arP ga x3 (N2 p q) ++ _) := St.callF (arP ga x3 (N2 p q)) hs6 h4; clear h4 hs6) | (go_at_call 23; refine (failsM_any (St.arr hs7) (N2_ok p q) 1 1).mono ?_; rw [(N2_f p q)]; rintro _ w8 ⟨rfl, h4⟩; have hs8 : St w [] w8 (arP ga x3 (N3 p q) ++ _) := St.callF (arP ga x3 (N2 p q)) hs7 h4; clear h4 hs7) | (go_at_call 24; refine (readM_any (St.arr hs8) (N3_ok p q) (by rw [(N3_ll p q)]; decide) 1 6).mono ?_; rw [(N3_e p q), (N3_b p q)]; rintro _ w9 ⟨u9, rfl, h4⟩; have hs9 : St w [] w9 (arP ga x3 (N4 p q) ++ _) := St.sub (St.callF (arP ga x3 (N3 p q)) hs8 h4) (.cons _ (List.Sublist.refl _)); clear h4 hs8) | (go_at_call 14; refine (of_any 1 _).mono ?_; rintro _ w10 ⟨g10, rfl, h4⟩; have hs10 := St.behind (A := arP ga x3 (N4 p q)) (St.call hs9 h4); clear h4 hs9) | (go_at_call 25; refine (reads_any (St.arr hs10) (N4_ok p q) (by rw [(N4_ll p q)]; decide) 1 6 (.slice (some ⟨g10, 0, none⟩) 256 256) 256 (BB 1) (Rd.blk hs10 (List.mem_append_right _ (.head _)) (Nat.le_refl _) (by decide) (by rw [length_bytesV]; exact BB_len 1) (by rw [List.drop_zero]; exact List.take_length)) (BB_len 1) (off_behind hs10 (.head _) 0 256 256)).mono ?_; rw [(N4a_r p q), (N4a_s p q)]; rintro _ w11 ⟨rfl, h4⟩; have hs11 : St w [] w11 (arP ga x3 (N4 p q) ++ _) := St.callF (arP ga x3 (N4 p q)) hs10 h4; clear h4 hs10) | (go_at_call 18; refine (crashM_any (St.arr hs11) (N4_ok p q) (by rw [(N4_ll p q)]; decide) none 0 0 [] (Rd.nil _ _) rfl (Off.nil _ _ _) 0).mono ?_; rw [(N4_c p q)]; rintro _ w12 ⟨rfl, x12, h4⟩; have hs12 : St w [] w12 (arP ga x12 (N5 p q) ++ _) := St.callF (arP ga x3 (N4 p q)) hs11 h4; clear h4 hs11) | (go_at_call 12; refine (fuseM_any (St.arr hs12) (N5_ok p q) 1).mono ?_; rw [(N5_u p q)]; rintro _ w13 ⟨rfl, h4⟩; have hs13 : St w [] w13 (arP ga x12 (N6 p q) ++ _) := St.callF (arP ga x12 (N5 p q)) hs12 h4; clear h4 hs12) | (go_at_call 14; refine (of_any 2 _).mono ?_; rintro _ w14 ⟨g14, rfl, h4⟩; have hs14 := St.behind (A := arP ga x12 (N6 p q)) (St.call hs13 h4); clear h4 hs13) | (go_at_call 13; refine (writeM_any (St.arr hs14) (N6_ok p q) (by rw [(N6_st p q)]; decide) (by rw [(N6_ll p q)]; decide) 0 7 (some ⟨g14, 0, none⟩) 256 256 (BB 2) (Rd.blk hs14 (List.mem_append_right _ (.head _)) (Nat.le_refl _) (by decide) (by rw [length_bytesV]; exact BB_len 2) (by rw [List.drop_zero]; exact List.take_length)) (BB_len 2) (off_behind hs14 (.head _) 0 256 256)).mono ?_; rw [(N6_w p q)]; rintro _ w15 ⟨rfl, x15, h4⟩; have hs15 : St w [] w15 (arP ga x15 (N7 p q) ++ _) := St.callF (arP ga x12 (N6 p q)) hs14 h4; clear h4 hs14) | (go_at_call 15; refine (flushM_any (St.arr hs15) (N7_ok p q) (by rw [(N7_st p q)]; decide) (by rw [(N7_ll p q)]; decide) 0).mono ?_; rw [(N7_f p q)]; rintro _ w16 ⟨rfl, x16, h4⟩; have hs16 : St w [] w16 (arP ga x16 (N8 p q) ++ _) := St.callF (arP ga x15 (N7 p q)) hs15 h4; clear h4 hs15) | (go_at_call 19; refine (up_any (ArrAt.of hs16 (fun p hp => List.mem_append_left _ hp) (N8_ok p q).d0) 0).mono ?_; rw [(N8_p p q)]; rintro _ w17 ⟨rfl, h4⟩; have hs17 := St.call0 hs16 h4; clear h4 hs16) | (apply wl_bsX ([.bool true]) ([.bool true]) hs17; rfl; rfl; exact rfl; exact rfl; infer_instance; infer_instance; rfl; rfl; rfl; intro g18 w18 h4; have hs18 := St.behind (A := arP ga x16 (N8 p q)) h4; clear h4 hs17) | (go_at_call 18; refine (crashM_any (St.arr hs18) (N8_ok p q) (by rw [(N8_ll p q)]; decide) (some ⟨g18, 0, none⟩) 1 1 [true] (Rd.blk hs18 (List.mem_append_right _ (.head _)) (Nat.le_refl _) (by decide) rfl rfl) rfl (off_behind hs18 (.head _) 0 1 1) 0).mono ?_; rw [(N8_c p q)]; rintro _ w19 ⟨rfl, x19, h4⟩; have hs19 : St w [] w19 (arP ga x19 (N9 p q) ++ _) := St.callF (arP ga x16 (N8 p q)) hs18 h4; clear h4 hs18) | (go_at_call 14; refine (of_any 2 _).mono ?_; rintro _ w20 ⟨g20, rfl, h4⟩; have hs20 := St.behind (A := arP ga x19 (N9 p q)) (St.call hs19 h4); clear h4 hs19) | (go_at_call 25; refine (reads_any (St.arr hs20) (N9_ok p q) (by rw [(N9_ll p q)]; decide) 0 7 (.slice (some ⟨g20, 0, none⟩) 256 256) 256 (BB 2) (Rd.blk hs20 (List.mem_append_right _ (.head _)) (Nat.le_refl _) (by decide) (by rw [length_bytesV]; exact BB_len 2) (by rw [List.drop_zero]; exact List.take_length)) (BB_len 2) (off_behind hs20 (.head _) 0 256 256)).mono ?_; rw [(N9a_r p q), (N9a_s p q)]; rintro _ w21 ⟨rfl, h4⟩; have hs21 : St w [] w21 (arP ga x19 (N9 p q) ++ _) := St.callF (arP ga x19 (N9 p q)) hs20 h4; clear h4 hs20) | (go_at_call 31; refine (newM_18 _).mono ?_; rintro _ w22 ⟨rfl, h4⟩; have hs22 := St.call0 hs21 h4; clear h4 hs21) | (go_at_call 14; refine (of_any 1 _).mono ?_; rintro _ w23 ⟨g23, rfl, h4⟩; have hs23 := St.behind (A := arP ga x19 (N9 p q)) (St.call hs22 h4); clear h4 hs22) | (go_at_call 13; refine (writeM_any (St.arr hs23) (N9_ok p q) (by rw [(N9_st p q)]; decide) (by rw [(N9_ll p q)]; decide) 1 8 (some ⟨g23, 0, none⟩) 256 256 (BB 1) (Rd.blk hs23 (List.mem_append_right _ (.head _)) (Nat.le_refl _) (by decide) (by rw [length_bytesV]; exact BB_len 1) (by rw [List.drop_zero]; exact List.take_length)) (BB_len 1) (off_behind hs23 (.head _) 0 256 256)).mono ?_; rw [(N9_w p q), (N9_ww p q)]; rintro _ w24 ⟨rfl, x24, h4⟩; have hs24 : St w [] w24 (arP ga x24 (N9 p q) ++ _) := St.callF (arP ga x19 (N9 p q)) hs23 h4; clear h4 hs23) | (go_at_call 13; refine (writeM_any (St.arr hs24) (N9_ok p q) (by rw [(N9_st p q)]; decide) (by rw [(N9_ll p q)]; decide) 1 7 none 0 0 [] (Rd.nil _ _) rfl (Off.nil _ _ _)).mono ?_; rw [(N9_x p q), (N9_xx p q)]; rintro _ w25 ⟨rfl, x25, h4⟩; have hs25 : St w [] w25 (arP ga x25 (N9 p q) ++ _) := St.callF (arP ga x24 (N9 p q)) hs24 h4; clear h4 hs24) | (go_at_call 29; refine (pullM_any (St.arr hs25) (N9_ok p q) (by rw [(N9_ll p q)]; decide) 0).mono ?_; rw [(N9_l p q)]; rintro _ w26 ⟨rfl, x26, h4⟩; have hs26 : St w [] w26 (arP ga x26 (N10 p q) ++ _) := St.callF (arP ga x25 (N9 p q)) hs25 h4; clear h4 hs25) | (go_at_call 24; refine (readM_any (St.arr hs26) (N10_ok p q) (by rw [(N10_ll p q)]; decide) 0 5).mono ?_; rw [(N10_e p q), (N10_b p q), (N10_r p q)]; rintro _ w27 ⟨u27, rfl, h4⟩; have hs27 : St w [] w27 (arP ga x26 (N10 p q) ++ _) := St.sub (St.callF (arP ga x26 (N10 p q)) hs26 h4) (.cons _ (List.Sublist.refl _)); clear h4 hs26) | (go_at_call 30; refine (fitM_any (St.arr hs27) (N10_ok p q) (by rw [(N10_ll p q)]; decide) 0).mono ?_; rw [(N10_f p q)]; rintro _ w28 ⟨rfl, x28, gF, h4⟩; have hs28 : St w [] w28 (arP ga x28 (N11 p q gF) ++ _) := St.callF (arP ga x26 (N10 p q)) hs27 h4; clear h4 hs27) | (go_at_call 14; refine (of_any 0 _).mono ?_; rintro _ w29 ⟨g29, rfl, h4⟩; have hs29 := St.behind (A := arP ga x28 (N11 p q gF)) (St.call hs28 h4); clear h4 hs28) | (go_at_call 25; refine (reads_any (St.arr hs29) (N11_ok p q gF) (by rw [(N11_ll p q gF)]; decide) 0 7 (.slice (some ⟨g29, 0, none⟩) 256 256) 256 (BB 0) (Rd.blk hs29 (List.mem_append_right _ (.head _)) (Nat.le_refl _) (by decide) (by rw [length_bytesV]; exact BB_len 0) (by rw [List.drop_zero]; exact List.take_length)) (BB_len 0) (off_behind hs29 (.head _) 0 256 256)).mono ?_; rw [(N11a_r p q gF), (N11a_s p q gF)]; rintro _ w30 ⟨rfl, h4⟩; have hs30 : St w [] w30 (arP ga x28 (N11 p q gF) ++ _) := St.callF (arP ga x28 (N11 p q gF)) hs29 h4; clear h4 hs29))
  have hX := hs30.drew
  clear hs30
  refine wp_region_held_drew (S := (fun w' => True)) (by kernel_rfl) (by exact trivial) (fun hHeld => ?_)
  refine wpAnyH_ready (rs := [0]) (by kernel_rfl) (by simp) ?_
  refine (AllReadyH.cons (o := ⟨some 130, _, _, _, _, _⟩) rfl (fun K hK => ?_) AllReadyH.nil)
  rw [if_pos (by rfl)]
  go_simp
  go_at_call 14
  refine (of_any 1 _).mono ?_
  rintro _ w71 ⟨gT, rfl, h4⟩
  have hA1 := St.call hX h4
  clear h4
  refine hK.out _ _ ?_ (fun hHeld => ?_)
  · exact trivial
  clear hK K
  (try simp only [Act.put, List.setIfInBounds_toArray, List.set_cons_zero, List.set_cons_succ])
  refine wpAnyH_take (i := 1) (oi := ⟨some 131, _, _, _, _, _⟩) (v := ?_) rfl (by kernel_rfl) (by kernel_rfl) (by kernel_rfl) (fun _ _ _ h => h) (Or.inl ⟨by rfl, ?_⟩) (by assumption) ?_
  rotate_left
  · intro w hSw; (try dsimp only at hSw); go_simp; try with_reducible rfl
  (try simp only [Act.put, List.setIfInBounds_toArray, List.set_cons_zero, List.set_cons_succ])
  refine wpAnyH_ready (rs := [2]) (by kernel_rfl) (by simp) ?_
  refine (AllReadyH.cons (o := ⟨some 132, _, _, _, _, _⟩) rfl (fun K hK => ?_) AllReadyH.nil)
  rw [if_pos (by rfl)]
  go_simp
  go_at_call 14
  refine (of_any 0 _).mono ?_
  rintro _ w72 ⟨gB, rfl, h4⟩
  have hA2 := St.call hA1 h4
  clear h4
  refine hK.out _ _ ?_ (fun hHeld => ?_)
  · exact trivial
  clear hK K
  (try simp only [Act.put, List.setIfInBounds_toArray, List.set_cons_zero, List.set_cons_succ])
  refine wpAnyH_take (i := 3) (oi := ⟨some 133, _, _, _, _, _⟩) (v := ?_) rfl (by kernel_rfl) (by kernel_rfl) (by kernel_rfl) (fun _ _ _ h => h) (Or.inl ⟨by rfl, ?_⟩) (by assumption) ?_
  rotate_left
  · intro w hSw; (try dsimp only at hSw); go_simp; try with_reducible rfl
  (try simp only [Act.put, List.setIfInBounds_toArray, List.set_cons_zero, List.set_cons_succ])
  refine wpAnyH_ready (rs := [4]) (by kernel_rfl) (by simp) ?_
  refine (AllReadyH.cons (o := ⟨some 134, _, _, _, _, _⟩) rfl (fun K hK => ?_) AllReadyH.nil)
  rw [if_pos (by rfl)]
  refine ow_of_wl (ops := #[]) (by rfl) ?_
  apply wl_appRoom (n := 3) (m := 253) (ys := bytesV ((BB 0).drop 3)) [_] hA2 rfl
  rfl
  rfl
  exact rfl
  exact rfl
  infer_instance
  infer_instance
  infer_instance
  exact Rd.blk hA2 (.head _) (by decide) (by decide) (by kernel_rfl) (by kernel_rfl)
  exact ones_bytesV _
  decide
  (rw [length_bytesV]; exact BB_len 1)
  decide
  rw [tornB_put]
  intro wT hA3
  refine q0_nil ?_
  refine hK.out _ _ ?_ (fun hHeld => ?_)
  · exact trivial
  clear hK K
  (try simp only [Act.put, List.setIfInBounds_toArray, List.set_cons_zero, List.set_cons_succ])
  refine wpAnyH_take (i := 5) (oi := ⟨some 9, _, _, _, _, _⟩) (v := ?_) rfl (by kernel_rfl) (by kernel_rfl) (by kernel_rfl) (fun _ _ _ h => h) (Or.inl ⟨by rfl, ?_⟩) (by assumption) ?_
  rotate_left
  · intro w hSw; (try dsimp only at hSw); go_simp; try with_reducible rfl
  (try simp only [Act.put, List.setIfInBounds_toArray, List.set_cons_zero, List.set_cons_succ])
  refine wpAnyH_done (by kernel_rfl) ?_ _
  clear hHeld
  have hs90 := St.behind (A := arP ga x28 (N11 p q gF)) (St.sub hA3 (.cons _ (List.Sublist.refl _)))
  clear hA3
  go_wp2_with (first | go_big_skip | go_big_guard | (go_at_call 14; refine (of_any 1 _).mono ?_; rintro _ w91 ⟨g91, rfl, h4⟩; have hs91 := St.behind (A := arP ga x28 (N11 p q gF)) (St.call hs90 h4); clear h4 hs90) | (go_at_call 13; refine (writeM_any (St.arr hs91) (N11_ok p q gF) (by rw [(N11_st p q gF)]; decide) (by rw [(N11_ll p q gF)]; decide) 1 5 (some ⟨g91, 0, none⟩) 256 256 (BB 1) (Rd.blk hs91 (List.mem_append_right _ (.head _)) (Nat.le_refl _) (by decide) (by rw [length_bytesV]; exact BB_len 1) (by rw [List.drop_zero]; exact List.take_length)) (BB_len 1) (off_behind hs91 (.head _) 0 256 256)).mono ?_; rw [(N11_w p q gF)]; rintro _ w92 ⟨rfl, x92, h4⟩; have hs92 : St w [] w92 (arP ga x92 (N12 p q gF) ++ _) := St.callF (arP ga x28 (N11 p q gF)) hs91 h4; clear h4 hs91) | (go_at_call 14; refine (of_any 1 _).mono ?_; rintro _ w93 ⟨g93, rfl, h4⟩; have hs93 := St.behind (A := arP ga x92 (N12 p q gF)) (St.call hs92 h4); clear h4 hs92) | (go_at_call 13; refine (writeM_any (St.arr hs93) (N12_ok p q gF) (by rw [(N12_st p q gF)]; decide) (by rw [(N12_ll p q gF)]; decide) 1 6 (some ⟨g93, 0, none⟩) 256 256 (BB 1) (Rd.blk hs93 (List.mem_append_right _ (.head _)) (Nat.le_refl _) (by decide) (by rw [length_bytesV]; exact BB_len 1) (by rw [List.drop_zero]; exact List.take_length)) (BB_len 1) (off_behind hs93 (.head _) 0 256 256)).mono ?_; rw [(N12_w p q gF)]; rintro _ w94 ⟨rfl, x94, h4⟩; have hs94 : St w [] w94 (arP ga x94 (N13 p q gF) ++ _) := St.callF (arP ga x92 (N12 p q gF)) hs93 h4; clear h4 hs93) | (apply wl_bsX ([.bool false, .bool true]) ([.bool false, .bool true]) hs94; rfl; rfl; exact rfl; exact rfl; infer_instance; infer_instance; rfl; rfl; rfl; intro g95 w95 h4; have hs95 := St.behind (A := arP ga x94 (N13 p q gF)) h4; clear h4 hs94) | (go_at_call 18; refine (crashM_any (St.arr hs95) (N13_ok p q gF) (by rw [(N13_ll p q gF)]; decide) (some ⟨g95, 0, none⟩) 2 2 [false, true] (Rd.blk hs95 (List.mem_append_right _ (.head _)) (Nat.le_refl _) (by decide) rfl rfl) rfl (off_behind hs95 (.head _) 0 2 2) 3).mono ?_; rw [(N13_c p q gF)]; rintro _ w96 ⟨rfl, x96, h4⟩; have hs96 : St w [] w96 (arP ga x96 (N14 p q gF) ++ _) := St.callF (arP ga x94 (N13 p q gF)) hs95 h4; clear h4 hs95) | (go_at_call 25; refine (reads_any (St.arr hs96) (N14_ok p q gF) (by rw [(N14_ll p q gF)]; decide) 1 5 (.slice (some ⟨gT, 0, none⟩) 256 256) 256 tornB (Rd.blk hs96 (List.mem_append_right _ (.tail _ (.tail _ (.tail _ (.head _))))) (Nat.le_refl _) (by decide) (by rw [length_bytesV]; exact tornB_len) (by rw [List.drop_zero]; exact List.take_length)) tornB_len (off_behind hs96 (.tail _ (.tail _ (.tail _ (.head _)))) 0 256 256)).mono ?_; rw [(N14a_r p q gF), (N14a_s p q gF)]; rintro _ w97 ⟨rfl, h4⟩; have hs97 : St w [] w97 (arP ga x96 (N14 p q gF) ++ _) := St.callF (arP ga x96 (N14 p q gF)) hs96 h4; clear h4 hs96) | (go_at_call 14; refine (of_any 1 _).mono ?_; rintro _ w98 ⟨g98, rfl, h4⟩; have hs98 := St.behind (A := arP ga x96 (N14 p q gF)) (St.call hs97 h4); clear h4 hs97) | (go_at_call 25; refine (reads_any (St.arr hs98) (N14_ok p q gF) (by rw [(N14_ll p q gF)]; decide) 1 6 (.slice (some ⟨g98, 0, none⟩) 256 256) 256 (BB 1) (Rd.blk hs98 (List.mem_append_right _ (.head _)) (Nat.le_refl _) (by decide) (by rw [length_bytesV]; exact BB_len 1) (by rw [List.drop_zero]; exact List.take_length)) (BB_len 1) (off_behind hs98 (.head _) 0 256 256)).mono ?_; rw [(N14b_r p q gF), (N14b_s p q gF)]; rintro _ w99 ⟨rfl, h4⟩; have hs99 : St w [] w99 (arP ga x96 (N14 p q gF) ++ _) := St.callF (arP ga x96 (N14 p q gF)) hs98 h4; clear h4 hs98) | (go_at_call 9; refine (awake_any _).mono ?_; rintro _ w100 ⟨rfl, h4⟩; have hs100 := St.call0 hs99 h4; clear h4 hs99))
  go_ret
  exact ⟨rfl, hs100.nil⟩
end Go.Proofs.Ytclleohpmgihaaa
namespace Go.Proofs.Ytclleohpmgihaaa
set_option linter.unusedVariables false
set_option linter.unusedSimpArgs false
open Go.RowKit Hp
attribute [local irreducible] Go.Calls Go.wpList
set_option maxRecDepth 100000
set_option maxHeartbeats 8000000
theorem arF_new {w0 w : World} {X : List HA} {ga : Nat} {x : GA} {a : AR} (h : St w0 [] w (X ++ arP ga x a)) : ∀ k ∈ arF ga x a, w0.heap.size ≤ k := by
  intro k hk
  obtain ⟨y, hy, hf⟩ := List.mem_filterMap.1 hk
  rcases h.own y (List.mem_append_right _ hy) k hf with h1 | h1
  · exact h1
  · cases h1
theorem quo8 {m d : Nat} (h : m / 8 = d) (hm : m < 16) (T : TypeId) : binOp .quo T (.int .i64 (m : Int)) (.int .i64 8) = pure (.int .i64 (d : Int)) := by
  have hq : (m : Int).tdiv 8 = (d : Int) := by rw [Int.tdiv_eq_ediv_of_nonneg (by omega)]; omega
  have zd : IntKind.i64.wrap (d : Int) = (d : Int) := IntWalk.i64_in _ (by omega)
  simp only [binOp]
  simp [Op.intDiv, hq, zd]
theorem rem8 {m s : Nat} (h : m % 8 = s) (T : TypeId) : binOp .rem T (.int .i64 (m : Int)) (.int .i64 8) = pure (.int .i64 (s : Int)) := by
  have hq : (m : Int).tmod 8 = (s : Int) := by rw [Int.tmod_eq_emod_of_nonneg (by omega)]; omega
  have zd : IntKind.i64.wrap (s : Int) = (s : Int) := IntWalk.i64_in _ (by omega)
  simp only [binOp]
  simp [Op.intDiv, hq, zd]
theorem firm_long (ao : Option Addr) (N c : Nat) (ko : Option Addr) (kn kc : Nat) (zt : Int) (w : World) (h6 : 60 < N) :
    Calls Try.prog 7 #[.slice ao N c, .slice ko kn kc, .int .i64 zt] w fun e w' => e = .returned (.bool true) ∧ St w [] w' [] := by
  have hst := St.refl w
  have d1 : decide ((60 : Int) < (N : Int)) = true := decide_eq_true (by omega)
  go_enter Try.func7, Try.ntmps7
  go_wp2_with (first | go_big_skip | go_big_guard | (go_at_call 6; refine (known15_any _).mono ?_; rintro _ w80 ⟨rfl, h4⟩; have hst9 := St.call0 hst h4; clear h4 hst) | (go_at_call 10; refine (made2_any _).mono ?_; rintro _ w0 ⟨ga, x0, gs, rfl, hg, h4⟩; obtain ⟨p, q, rfl⟩ : ∃ p q, gs = [p, q] := (match gs, hg with | [p, q], _ => ⟨p, q, rfl⟩); have hm0 : St w [] w0 ([] ++ arP ga x0 (K0 p q)) := (by have := St.call hst9 h4; rw [List.append_nil] at this; exact this); clear h4 hg hst9))
  go_ret
  exact ⟨rfl, hm0.nil⟩
theorem firm_wide (ao : Option Addr) (N c : Nat) (ko : Option Addr) (kn kc : Nat) (zt : Int) (w : World) (h6 : N ≤ 60) (h7 : 200 < kn) :
    Calls Try.prog 7 #[.slice ao N c, .slice ko kn kc, .int .i64 zt] w fun e w' => e = .returned (.bool true) ∧ St w [] w' [] := by
  have hst := St.refl w
  have d1 : decide ((60 : Int) < (N : Int)) = false := decide_eq_false (by omega)
  have d2 : decide ((200 : Int) < (kn : Int)) = true := decide_eq_true (by omega)
  go_enter Try.func7, Try.ntmps7
  go_wp2_with (first | go_big_skip | go_big_guard | (go_at_call 6; refine (known15_any _).mono ?_; rintro _ w80 ⟨rfl, h4⟩; have hst9 := St.call0 hst h4; clear h4 hst) | (go_at_call 10; refine (made2_any _).mono ?_; rintro _ w0 ⟨ga, x0, gs, rfl, hg, h4⟩; obtain ⟨p, q, rfl⟩ : ∃ p q, gs = [p, q] := (match gs, hg with | [p, q], _ => ⟨p, q, rfl⟩); have hm0 : St w [] w0 ([] ++ arP ga x0 (K0 p q)) := (by have := St.call hst9 h4; rw [List.append_nil] at this; exact this); clear h4 hg hst9))
  go_ret
  exact ⟨rfl, hm0.nil⟩
section
theorem loadedU8f (A : Addr) : loadVar 5 A = loadVarH 5 A := rfl
attribute [local go_sem ↓] loadedU8f
theorem firm_fine (ao : Option Addr) (N c : Nat) (xs : List LY) (ko : Option Addr) (kn kc : Nat) (ks : List Bool) (zt : Int) (w : World) (hv : Rd w (.slice ao N c) 4 N (xs.flatMap LY.cells)) (hN : xs.length = N) (hx : ∀ y ∈ xs, y.Ok) (h6 : N ≤ 60) (hvk : Rd w (.slice ko kn kc) 1 kn (boolsV ks)) (hkn : ks.length = kn) (h7 : kn ≤ 200) (hzt : -9223372036854775808 ≤ zt ∧ zt ≤ 9223372036854775807) :
    Calls Try.prog 7 #[.slice ao N c, .slice ko kn kc, .int .i64 zt] w fun e w' => e = .returned (.bool true) ∧ St w [] w' [] := by
  have hst := St.refl w
  have d1 : decide ((60 : Int) < (N : Int)) = false := decide_eq_false (by omega)
  have d2 : decide ((200 : Int) < (kn : Int)) = false := decide_eq_false (by omega)
  have HXX := hid hx
  have HN := hid hN
  have HKN := hid hkn
  obtain ⟨t, ht, et⟩ := pickI_nat (x := zt) (n := 256) (by decide)
  have ET : Hid (pickI zt 256 = (t : Int)) := hid et
  clear hN hx hkn et
  go_enter Try.func7, Try.ntmps7
  go_wp2_with (first | go_big_skip | go_big_guard | (go_at_call 6; refine (known15_any _).mono ?_; rintro _ w80 ⟨rfl, h4⟩; have hst9 := St.call0 hst h4; clear h4 hst) | (go_at_call 10; refine (made2_any _).mono ?_; rintro _ w0 ⟨ga, x0, gs, rfl, hg, h4⟩; obtain ⟨p, q, rfl⟩ : ∃ p q, gs = [p, q] := (match gs, hg with | [p, q], _ => ⟨p, q, rfl⟩); have hm0 : St w [] w0 ([] ++ arP ga x0 (K0 p q)) := (by have := St.call hst9 h4; rw [List.append_nil] at this; exact this); clear h4 hg hst9) | (go_at_call 27; refine (lays_any (arr_in (X := []) hm0) ao N c xs (Rd.old hm0 hv) HN.out HXX.out h6 (Off.old hv (by decide) (arF_new (X := []) hm0))).mono ?_; rintro _ w1 ⟨x, a, F, L, rfl, hL, hz, h4⟩; have HL := hid hL; have HZ := hid hz; have HLF : Hid ((bytesV F).length = 16) := (hid (by rw [length_bytesV, hL.fl])); have HLL : Hid ((bytesV L).length = 16) := (hid (by rw [length_bytesV, hL.ll])); have hm1 : St w [] w1 (arP ga x a) := arr_out (X := []) hm0 h4; clear h4 hm0 hL hz) | (first | (refine wl_alloc hm1 rfl rfl ?_; intro g9 w2 hm2; clear hm1) | (refine wl_alloc hm2 rfl rfl ?_; intro g10 w3 hm3; clear hm2)) | (first | (refine wl_storeA [_] hm3 rfl rfl rfl rfl HLF.out (ones_bytesV _) rfl ?_; intro w4 hm4; clear hm3) | (refine wl_storeA [] hm4 rfl rfl rfl rfl HLL.out (ones_bytesV _) rfl ?_; intro w5 hm5; clear hm4)))
  go_loopw [12] (fun i wr => ∃ m : Nat, m ≤ 16 ∧ i = .int .i64 (m : Int) ∧ St w [] wr (.blk g10 30 (bytesV L) :: .blk g9 30 (bytesV F) :: arP ga x a)) (fun i _ => 16 - (intOf i).toNat)
  case atStart => exact ⟨0, by decide, rfl, hm5⟩
  case round =>
    clear hm5
    obtain ⟨m, hm, rfl, hs0⟩ := hrel
    by_cases hm16 : m < 16
    · obtain ⟨d, hdq⟩ : ∃ d, m / 8 = d := ⟨_, rfl⟩
      obtain ⟨s, hsq⟩ : ∃ s, m % 8 = s := ⟨_, rfl⟩
      have f1 := quo8 hdq hm16
      have f2 := rem8 hsq
      have d4 : decide ((m : Int) < 16) = true := decide_eq_true (by omega)
      have z4 : IntKind.i64.wrap ((m : Int) + 1) = (m : Int) + 1 := IntWalk.i64_in _ (by omega)
      have hd : d < 2 := by omega
      have hs : s < 8 := by omega
      have HLV := hid (bytesV_getD (L := L) (i := d * 8 + s) (by rw [HL.out.ll]; omega))
      have HPK := hid (HL.out.peek HZ.out.ou hd hs)
      obtain ⟨B, hB⟩ : ∃ B, B = L.getD (d * 8 + s) 0 := ⟨_, rfl⟩
      rw [← hB] at HLV HPK
      have hd2 : (d : Int) < 2 := by omega
      have hs2 : (s : Int) < 8 := by omega
      clear hB hdq hsq hd hs
      go_wp2_with (first | go_big_skip | go_big_guard | (refine wl_loadE rfl rfl rfl ?_; refine ⟨_, Loads.at [] hs0 HLV.out, ?_⟩) | (go_at_call 14; refine (of_any B _).mono ?_; rintro _ w6 ⟨g5, rfl, h4⟩; have hs1 := St.call hs0 h4; clear h4 hs0) | (go_at_call 20; refine (peeks_any (ArrAll.of hs1 (fun p hp => .tail _ (.tail _ (.tail _ hp))) HL.out.ok.d0) HL.out.ok (by have := HZ.out.ll; omega) (d : Int) (s : Int) (.slice (some ⟨g5, 0, none⟩) 256 256) 256 (BB B) (Rd.blk hs1 (.head _) (Nat.le_refl _) (by decide) (by rw [length_bytesV]; exact BB_len _) (by rw [List.drop_zero]; exact List.take_length)) (BB_len _)).mono ?_; rw [HPK.out]; rintro _ w7 ⟨rfl, h4⟩; have hs3 := St.call0 hs1 h4; clear h4 hs1))
      go_roundw
      case rel => exact ⟨m + 1, by omega, rfl, St.sub hs3 (List.sublist_cons_self _ _)⟩
      case measure => simp [intOf]; omega
    · have d4 : decide ((m : Int) < 16) = false := decide_eq_false (by omega)
      obtain ⟨nl, hnl⟩ : ∃ nl, nl = a.loose.length := ⟨_, rfl⟩
      have HNL := hid hnl
      have HEC := hid (HL.out.crashE ht)
      obtain ⟨b, hb⟩ : ∃ b, b = a.crash ks (t : Int) := ⟨_, rfl⟩
      have HA2 := hid hb
      have hC : Crashed a b (fun d s c => laidB xs (F.getD (d * 8 + s) 0) d s c = true) := by
        rw [hb]
        refine HL.out.crash_any (fun d s _ _ => ?_) (fun v hv => ?_) ks ht
        · unfold laidB
          rw [beq_self_eq_true]
          rfl
        · obtain ⟨y, hy, h1, h2, h3⟩ := HZ.out.fr v hv
          refine ⟨y.b, h3, ?_⟩
          have h4 : xs.any (laidY v.dev v.pl y.b) = true := List.any_eq_true.2 ⟨y, hy, by
            unfold laidY
            rw [h1, h2, beq_self_eq_true, beq_self_eq_true, beq_self_eq_true]
            rfl⟩
          show laidB _ _ _ _ _ = true
          unfold laidB
          rw [h4, Bool.or_true]
      have HC := hid hC
      have HBL : Hid (b.loose.length = 0) := hid (by rw [hC.loose]; rfl)
      clear hnl hb hC
      go_wp2_with (first | go_big_skip | go_big_guard | (go_at_call 16; first | (refine (loose_any (ArrAll.of hs0 (fun p hp => .tail _ (.tail _ hp)) HL.out.ok.d0)).mono ?_; rw [← HNL.out]; rintro _ w6 ⟨rfl, h4⟩; have hs1 := St.call0 hs0 h4; clear h4 hs0) | (refine (loose_any (ArrAll.of hs3 (fun p hp => .tail _ hp) HC.out.ok.d0)).mono ?_; rw [HBL.out]; rintro _ w9 ⟨rfl, h4⟩; have hs4 := St.call0 hs3 h4; clear h4 hs3)) | (go_at_call 11; refine (pick_spec zt 256 _ hzt (by decide)).mono ?_; rw [ET.out]; rintro _ w7 ⟨rfl, h4⟩; have hs2 := St.call0 hs1 h4; clear h4 hs1) | (go_at_call 18; refine (crashM_any (arr_in (X := [_, _]) hs2) HL.out.ok (by have := HZ.out.ll; omega) ko kn kc ks (Rd.old hs2 hvk) HKN.out (Off.old hvk (by decide) (arF_new (X := [_, _]) hs2)) (t : Int)).mono ?_; rw [HEC.out, ← HA2.out]; rintro _ w8 ⟨rfl, x2, h4⟩; have hs3 : St w [] w8 (.blk g9 30 (bytesV F) :: arP ga x2 b) := St.sub (arr_out (X := [_, _]) hs2 h4) (List.sublist_cons_self _ _); clear h4 hs2))
      go_loopw [14, 15] (fun o i wr => ∃ m : Nat, m ≤ 16 ∧ o = .int .i64 (oddN b.oddS m : Int) ∧ i = .int .i64 (m : Int) ∧ St w [] wr (.blk g9 30 (bytesV F) :: arP ga x2 b)) (fun _ i _ => 16 - (intOf i).toNat)
      case atStart => exact ⟨0, by decide, rfl, rfl, hs4⟩
      case round =>
        clear hs4 d4 hm16 hm
        obtain ⟨m9, hm, rfl, rfl, hs0⟩ := hrel
        by_cases hm16 : m9 < 16
        · obtain ⟨d, hdq⟩ : ∃ d, m9 / 8 = d := ⟨_, rfl⟩
          obtain ⟨s, hsq⟩ : ∃ s, m9 % 8 = s := ⟨_, rfl⟩
          have f1 := quo8 hdq hm16
          have f2 := rem8 hsq
          have d4 : decide ((m9 : Int) < 16) = true := decide_eq_true (by omega)
          have z4 : IntKind.i64.wrap ((m9 : Int) + 1) = (m9 : Int) + 1 := IntWalk.i64_in _ (by omega)
          have hd : d < 2 := by omega
          have hs : s < 8 := by omega
          have HFV := hid (bytesV_getD (L := F) (i := d * 8 + s) (by rw [HL.out.fl]; omega))
          have HPB := hid (HC.out.pk d s hd hs)
          have HLN := hid (HC.out.len d s hd hs)
          have HPL : Hid (laidB xs (F.getD (d * 8 + s) 0) d s ((b.peekL (d : Int) (s : Int)).getD 0 0) = true) := hid (HC.out.lo d s hd hs)
          have HPH : Hid (laidB xs (F.getD (d * 8 + s) 0) d s ((b.peekL (d : Int) (s : Int)).getD 255 0) = true) := hid (HC.out.hi d s hd hs)
          have HOD : Hid (b.oddS m9 = !((b.peekL (d : Int) (s : Int)) == BB ((b.peekL (d : Int) (s : Int)).getD 0 0))) := hid (by unfold AR.oddS; rw [hdq, hsq])
          have HON := hid (oddN_succ b.oddS m9)
          have HCP := hid (peek_any (ArrAll.of hs0 (fun p hp => .tail _ hp) HC.out.ok.d0) HC.out.ok (by rw [HBL.out]; decide) (d : Int) (s : Int))
          obtain ⟨V, hV⟩ : ∃ V, V = b.peekL (d : Int) (s : Int) := ⟨_, rfl⟩
          rw [← hV] at HLN HPL HPH HOD HCP
          rw [HPB.out, HLN.out] at HCP
          obtain ⟨FB, hFB⟩ : ∃ FB, FB = F.getD (d * 8 + s) 0 := ⟨_, rfl⟩
          rw [← hFB] at HFV HPL HPH
          obtain ⟨V0, hV0⟩ : ∃ V0, V0 = V.getD 0 0 := ⟨_, rfl⟩
          obtain ⟨V5, hV5⟩ : ∃ V5, V5 = V.getD 255 0 := ⟨_, rfl⟩
          have HV0 : Hid (∀ rest, (bytesV V ++ rest)[0]? = some (.int .u8 (V0.toNat : Int))) := hid (fun rest => by
            rw [List.getElem?_append_left (by rw [length_bytesV, HLN.out]; decide), bytesV_getD (by rw [HLN.out]; decide), hV0])
          have HV5 : Hid (∀ rest, (bytesV V ++ rest)[255]? = some (.int .u8 (V5.toNat : Int))) := hid (fun rest => by
            rw [List.getElem?_append_left (by rw [length_bytesV, HLN.out]; decide), bytesV_getD (by rw [HLN.out]; decide), hV5])
          have HBV : Hid (∀ rest, ((bytesV V ++ rest).drop 0).take (bytesV V).length = bytesV V) := hid (fun rest => by
            rw [List.drop_zero, List.take_left])
          rw [← hV0] at HPL HOD
          rw [← hV5] at HPH
          have hd2 : (d : Int) < 2 := by omega
          have hs2 : (s : Int) < 8 := by omega
          obtain ⟨o, ho⟩ : ∃ o, o = oddN b.oddS m9 := ⟨_, rfl⟩
          have HO := hid ho
          rw [← ho] at HON
          rw [← ho]
          have hon : o ≤ 16 := by
            rw [ho]
            unfold oddN
            exact Nat.le_trans (List.length_filter_le _ _) (by rw [List.length_range]; exact hm)
          have z5 : IntKind.i64.wrap ((o : Int) + 1) = (o : Int) + 1 := IntWalk.i64_in _ (by omega)
          clear hdq hsq hd hs hV hFB hV0 hV5 ho
          go_wp2_with (first | go_big_skip | go_big_guard | (go_at_call 32; refine HCP.out.mono ?_; rintro _ w6 ⟨u, rfl, h4⟩; have hs1 := St.call hs0 h4; clear h4 hs0; obtain ⟨gu, cu, rest, rfl, hc1, hc2, _, hs3⟩ := row_openL (L1 := []) hs1 (by decide); have HCU := hid hc1; have HCM := hid hc2; clear hs1 hc1 hc2))
          have hX := hs3.drew
          clear hs3
          refine wp_region_held_drew (S := (fun w' => (loadVarH 5 ⟨g9, d * 8 + s, none⟩).run Try.prog w' = .ok (.int .u8 (FB.toNat : Int)) w' ∧ (loadVarH 5 ⟨gu, 0, none⟩).run Try.prog w' = .ok (.int .u8 (V0.toNat : Int)) w' ∧ (loadVarH 5 ⟨gu, 255, none⟩).run Try.prog w' = .ok (.int .u8 (V5.toNat : Int)) w')) (by kernel_rfl) (by exact ⟨ldS [_] hX (HFV.out), ldS [] hX (HV0.out rest), ldS [] hX (HV5.out rest)⟩) (fun hHeld => ?_)
          refine wpAnyH_take (i := 0) (oi := ⟨some 100, _, _, _, _, _⟩) (v := ?_) rfl (by kernel_rfl) (by kernel_rfl) (by kernel_rfl) (fun _ _ _ h => h) (Or.inl ⟨by rfl, ?_⟩) (by assumption) ?_
          rotate_left
          · intro w hSw; (try dsimp only at hSw); go_simp; try with_reducible rfl
          (try simp only [Act.put, List.setIfInBounds_toArray, List.set_cons_zero, List.set_cons_succ])
          refine wpAnyH_take (i := 1) (oi := ⟨some 101, _, _, _, _, _⟩) (v := ?_) rfl (by kernel_rfl) (by kernel_rfl) (by kernel_rfl) (fun _ _ _ h => h) (Or.inl ⟨by rfl, ?_⟩) (by assumption) ?_
          rotate_left
          · intro w hSw; (try dsimp only at hSw); go_simp; try with_reducible rfl
          (try simp only [Act.put, List.setIfInBounds_toArray, List.set_cons_zero, List.set_cons_succ])
          refine wpAnyH_take (i := 3) (oi := ⟨some 103, _, _, _, _, _⟩) (v := ?_) rfl (by kernel_rfl) (by kernel_rfl) (by kernel_rfl) (fun _ _ _ h => h) (Or.inl ⟨by rfl, ?_⟩) (by assumption) ?_
          rotate_left
          · intro w hSw; (try dsimp only at hSw); go_simp; try with_reducible rfl
          (try simp only [Act.put, List.setIfInBounds_toArray, List.set_cons_zero, List.set_cons_succ])
          refine wpAnyH_take (i := 8) (oi := ⟨some 108, _, _, _, _, _⟩) (v := ?_) rfl (by kernel_rfl) (by kernel_rfl) (by kernel_rfl) (fun _ _ _ h => h) (Or.inl ⟨by rfl, ?_⟩) (by assumption) ?_
          rotate_left
          · intro w hSw; (try dsimp only at hSw); go_simp; try with_reducible rfl
          (try simp only [Act.put, List.setIfInBounds_toArray, List.set_cons_zero, List.set_cons_succ])
          refine wpAnyH_take (i := 10) (oi := ⟨some 110, _, _, _, _, _⟩) (v := ?_) rfl (by kernel_rfl) (by kernel_rfl) (by kernel_rfl) (fun _ _ _ h => h) (Or.inl ⟨by rfl, ?_⟩) (by assumption) ?_
          rotate_left
          · intro w hSw; (try dsimp only at hSw); go_simp; try with_reducible rfl
          (try simp only [Act.put, List.setIfInBounds_toArray, List.set_cons_zero, List.set_cons_succ])
          refine wpAnyH_take (i := 12) (oi := ⟨some 112, _, _, _, _, _⟩) (v := ?_) rfl (by kernel_rfl) (by kernel_rfl) (by kernel_rfl) (fun _ _ _ h => h) (Or.inl ⟨by rfl, ?_⟩) (by assumption) ?_
          rotate_left
          · intro w hSw; (try dsimp only at hSw); go_simp; try with_reducible rfl
          (try simp only [Act.put, List.setIfInBounds_toArray, List.set_cons_zero, List.set_cons_succ])
          refine wpAnyH_take (i := 2) (oi := ⟨some 102, _, _, _, _, _⟩) (v := ?_) rfl (by kernel_rfl) (by kernel_rfl) (by kernel_rfl) (fun _ _ _ h => h) (Or.inl ⟨by rfl, ?_⟩) (by assumption) ?_
          rotate_left
          · intro w hSw; (try dsimp only at hSw); go_simp; try with_reducible rfl
          (try simp only [Act.put, List.setIfInBounds_toArray, List.set_cons_zero, List.set_cons_succ])
          refine wpAnyH_take (i := 4) (oi := ⟨some 104, _, _, _, _, _⟩) (v := ?_) rfl (by kernel_rfl) (by kernel_rfl) (by kernel_rfl) (fun _ _ _ h => h) (Or.inl ⟨by rfl, ?_⟩) (by assumption) ?_
          rotate_left
          · intro w hSw; (try dsimp only at hSw); go_simp; try with_reducible rfl
          (try simp only [Act.put, List.setIfInBounds_toArray, List.set_cons_zero, List.set_cons_succ])
          refine wpAnyH_take (i := 9) (oi := ⟨some 109, _, _, _, _, _⟩) (v := ?_) rfl (by kernel_rfl) (by kernel_rfl) (by kernel_rfl) (fun _ _ _ h => h) (Or.inl ⟨by rfl, ?_⟩) (by assumption) ?_
          rotate_left
          · intro w hSw; (try dsimp only at hSw); go_simp; try with_reducible rfl
          (try simp only [Act.put, List.setIfInBounds_toArray, List.set_cons_zero, List.set_cons_succ])
          refine wpAnyH_take (i := 11) (oi := ⟨some 111, _, _, _, _, _⟩) (v := ?_) rfl (by kernel_rfl) (by kernel_rfl) (by kernel_rfl) (fun _ _ _ h => h) (Or.inl ⟨by rfl, ?_⟩) (by assumption) ?_
          rotate_left
          · intro w hSw; (try dsimp only at hSw); go_simp; try with_reducible rfl
          (try simp only [Act.put, List.setIfInBounds_toArray, List.set_cons_zero, List.set_cons_succ])
          refine wpAnyH_take (i := 13) (oi := ⟨some 113, _, _, _, _, _⟩) (v := ?_) rfl (by kernel_rfl) (by kernel_rfl) (by kernel_rfl) (fun _ _ _ h => h) (Or.inl ⟨by rfl, ?_⟩) (by assumption) ?_
          rotate_left
          · intro w hSw; (try dsimp only at hSw); go_simp; try with_reducible rfl
          (try simp only [Act.put, List.setIfInBounds_toArray, List.set_cons_zero, List.set_cons_succ])
          refine wpAnyH_take (i := 5) (oi := ⟨some 105, _, _, _, _, _⟩) (v := ?_) rfl (by kernel_rfl) (by kernel_rfl) (by kernel_rfl) (fun _ _ _ h => h) (Or.inl ⟨by rfl, ?_⟩) (by assumption) ?_
          rotate_left
          · intro w hSw; (try dsimp only at hSw); go_simp; try with_reducible rfl
          (try simp only [Act.put, List.setIfInBounds_toArray, List.set_cons_zero, List.set_cons_succ])
          refine wpAnyH_take (i := 14) (oi := ⟨some 114, _, _, _, _, _⟩) (v := ?_) rfl (by kernel_rfl) (by kernel_rfl) (by kernel_rfl) (fun _ _ _ h => h) (Or.inl ⟨by rfl, ?_⟩) (by assumption) ?_
          rotate_left
          · intro w hSw; (try dsimp only at hSw); go_simp; try with_reducible rfl
          (try simp only [Act.put, List.setIfInBounds_toArray, List.set_cons_zero, List.set_cons_succ])
          refine wpAnyH_take (i := 6) (oi := ⟨some 106, _, _, _, _, _⟩) (v := ?_) rfl (by kernel_rfl) (by kernel_rfl) (by kernel_rfl) (fun _ _ _ h => h) (Or.inl ⟨by rfl, ?_⟩) (by assumption) ?_
          rotate_left
          · intro w hSw; (try dsimp only at hSw); go_simp; try with_reducible rfl
          (try simp only [Act.put, List.setIfInBounds_toArray, List.set_cons_zero, List.set_cons_succ])
          refine wpAnyH_take (i := 7) (oi := ⟨some 107, _, _, _, _, _⟩) (v := ?_) rfl (by kernel_rfl) (by kernel_rfl) (by kernel_rfl) (fun _ _ _ h => h) (Or.inl ⟨by rfl, ?_⟩) (by assumption) ?_
          rotate_left
          · intro w hSw; (try dsimp only at hSw); go_simp; try with_reducible rfl
          (try simp only [Act.put, List.setIfInBounds_toArray, List.set_cons_zero, List.set_cons_succ])
          refine wpAnyH_ready (rs := [15]) (by kernel_rfl) (by simp) ?_
          refine (AllReadyH.cons (o := ⟨some 115, _, _, _, _, _⟩) rfl (fun K hK => ?_) AllReadyH.nil)
          rw [if_pos (by rfl)]
          go_simp
          go_at_call 33
          refine (laid_any ao N c xs FB V0 d s _ (Rd.old hX hv) HN.out HXX.out h6).mono ?_
          rw [HPL.out]
          rintro _ w11 ⟨rfl, h4⟩
          have hA1 := St.call0 hX h4
          clear h4
          refine hK.out _ _ ?_ (fun hHeld => ?_)
          · exact ⟨ldS [_] hA1 (HFV.out), ldS [] hA1 (HV0.out rest), ldS [] hA1 (HV5.out rest)⟩
          clear hK K
          (try simp only [Act.put, List.setIfInBounds_toArray, List.set_cons_zero, List.set_cons_succ])
          refine wpAnyH_take (i := 16) (oi := ⟨some 116, _, _, _, _, _⟩) (v := ?_) rfl (by kernel_rfl) (by kernel_rfl) (by kernel_rfl) (fun _ _ _ h => h) (Or.inl ⟨by rfl, ?_⟩) (by assumption) ?_
          rotate_left
          · intro w hSw; (try dsimp only at hSw); go_simp; try with_reducible rfl
          (try simp only [Act.put, List.setIfInBounds_toArray, List.set_cons_zero, List.set_cons_succ])
          refine wpAnyH_take (i := 17) (oi := ⟨some 117, _, _, _, _, _⟩) (v := ?_) rfl (by kernel_rfl) (by kernel_rfl) (by kernel_rfl) (fun _ _ _ h => h) (Or.inl ⟨by rfl, ?_⟩) (by assumption) ?_
          rotate_left
          · intro w hSw; (try dsimp only at hSw); go_simp; try with_reducible rfl
          (try simp only [Act.put, List.setIfInBounds_toArray, List.set_cons_zero, List.set_cons_succ])
          refine wpAnyH_take (i := 18) (oi := ⟨some 118, _, _, _, _, _⟩) (v := ?_) rfl (by kernel_rfl) (by kernel_rfl) (by kernel_rfl) (fun _ _ _ h => h) (Or.inl ⟨by rfl, ?_⟩) (by assumption) ?_
          rotate_left
          · intro w hSw; (try dsimp only at hSw); go_simp; try with_reducible rfl
          (try simp only [Act.put, List.setIfInBounds_toArray, List.set_cons_zero, List.set_cons_succ])
          refine wpAnyH_take (i := 19) (oi := ⟨some 119, _, _, _, _, _⟩) (v := ?_) rfl (by kernel_rfl) (by kernel_rfl) (by kernel_rfl) (fun _ _ _ h => h) (Or.inl ⟨by rfl, ?_⟩) (by assumption) ?_
          rotate_left
          · intro w hSw; (try dsimp only at hSw); go_simp; try with_reducible rfl
          (try simp only [Act.put, List.setIfInBounds_toArray, List.set_cons_zero, List.set_cons_succ])
          refine wpAnyH_take (i := 21) (oi := ⟨some 121, _, _, _, _, _⟩) (v := ?_) rfl (by kernel_rfl) (by kernel_rfl) (by kernel_rfl) (fun _ _ _ h => h) (Or.inl ⟨by rfl, ?_⟩) (by assumption) ?_
          rotate_left
          · intro w hSw; (try dsimp only at hSw); go_simp; try with_reducible rfl
          (try simp only [Act.put, List.setIfInBounds_toArray, List.set_cons_zero, List.set_cons_succ])
          refine wpAnyH_take (i := 26) (oi := ⟨some 126, _, _, _, _, _⟩) (v := ?_) rfl (by kernel_rfl) (by kernel_rfl) (by kernel_rfl) (fun _ _ _ h => h) (Or.inl ⟨by rfl, ?_⟩) (by assumption) ?_
          rotate_left
          · intro w hSw; (try dsimp only at hSw); go_simp; try with_reducible rfl
          (try simp only [Act.put, List.setIfInBounds_toArray, List.set_cons_zero, List.set_cons_succ])
          refine wpAnyH_take (i := 28) (oi := ⟨some 128, _, _, _, _, _⟩) (v := ?_) rfl (by kernel_rfl) (by kernel_rfl) (by kernel_rfl) (fun _ _ _ h => h) (Or.inl ⟨by rfl, ?_⟩) (by assumption) ?_
          rotate_left
          · intro w hSw; (try dsimp only at hSw); go_simp; try with_reducible rfl
          (try simp only [Act.put, List.setIfInBounds_toArray, List.set_cons_zero, List.set_cons_succ])
          refine wpAnyH_take (i := 30) (oi := ⟨some 130, _, _, _, _, _⟩) (v := ?_) rfl (by kernel_rfl) (by kernel_rfl) (by kernel_rfl) (fun _ _ _ h => h) (Or.inl ⟨by rfl, ?_⟩) (by assumption) ?_
          rotate_left
          · intro w hSw; (try dsimp only at hSw); go_simp; try with_reducible rfl
          (try simp only [Act.put, List.setIfInBounds_toArray, List.set_cons_zero, List.set_cons_succ])
          refine wpAnyH_take (i := 20) (oi := ⟨some 120, _, _, _, _, _⟩) (v := ?_) rfl (by kernel_rfl) (by kernel_rfl) (by kernel_rfl) (fun _ _ _ h => h) (Or.inl ⟨by rfl, ?_⟩) (by assumption) ?_
          rotate_left
          · intro w hSw; (try dsimp only at hSw); go_simp; try with_reducible rfl
          (try simp only [Act.put, List.setIfInBounds_toArray, List.set_cons_zero, List.set_cons_succ])
          refine wpAnyH_take (i := 22) (oi := ⟨some 122, _, _, _, _, _⟩) (v := ?_) rfl (by kernel_rfl) (by kernel_rfl) (by kernel_rfl) (fun _ _ _ h => h) (Or.inl ⟨by rfl, ?_⟩) (by assumption) ?_
          rotate_left
          · intro w hSw; (try dsimp only at hSw); go_simp; try with_reducible rfl
          (try simp only [Act.put, List.setIfInBounds_toArray, List.set_cons_zero, List.set_cons_succ])
          refine wpAnyH_take (i := 27) (oi := ⟨some 127, _, _, _, _, _⟩) (v := ?_) rfl (by kernel_rfl) (by kernel_rfl) (by kernel_rfl) (fun _ _ _ h => h) (Or.inl ⟨by rfl, ?_⟩) (by assumption) ?_
          rotate_left
          · intro w hSw; (try dsimp only at hSw); go_simp; try with_reducible rfl
          (try simp only [Act.put, List.setIfInBounds_toArray, List.set_cons_zero, List.set_cons_succ])
          refine wpAnyH_take (i := 29) (oi := ⟨some 129, _, _, _, _, _⟩) (v := ?_) rfl (by kernel_rfl) (by kernel_rfl) (by kernel_rfl) (fun _ _ _ h => h) (Or.inl ⟨by rfl, ?_⟩) (by assumption) ?_
          rotate_left
          · intro w hSw; (try dsimp only at hSw); go_simp; try with_reducible rfl
          (try simp only [Act.put, List.setIfInBounds_toArray, List.set_cons_zero, List.set_cons_succ])
          refine wpAnyH_take (i := 31) (oi := ⟨some 131, _, _, _, _, _⟩) (v := ?_) rfl (by kernel_rfl) (by kernel_rfl) (by kernel_rfl) (fun _ _ _ h => h) (Or.inl ⟨by rfl, ?_⟩) (by assumption) ?_
          rotate_left
          · intro w hSw; (try dsimp only at hSw); go_simp; try with_reducible rfl
          (try simp only [Act.put, List.setIfInBounds_toArray, List.set_cons_zero, List.set_cons_succ])
          refine wpAnyH_take (i := 23) (oi := ⟨some 123, _, _, _, _, _⟩) (v := ?_) rfl (by kernel_rfl) (by kernel_rfl) (by kernel_rfl) (fun _ _ _ h => h) (Or.inl ⟨by rfl, ?_⟩) (by assumption) ?_
          rotate_left
          · intro w hSw; (try dsimp only at hSw); go_simp; try with_reducible rfl
          (try simp only [Act.put, List.setIfInBounds_toArray, List.set_cons_zero, List.set_cons_succ])
          refine wpAnyH_take (i := 32) (oi := ⟨some 132, _, _, _, _, _⟩) (v := ?_) rfl (by kernel_rfl) (by kernel_rfl) (by kernel_rfl) (fun _ _ _ h => h) (Or.inl ⟨by rfl, ?_⟩) (by assumption) ?_
          rotate_left
          · intro w hSw; (try dsimp only at hSw); go_simp; try with_reducible rfl
          (try simp only [Act.put, List.setIfInBounds_toArray, List.set_cons_zero, List.set_cons_succ])
          refine wpAnyH_take (i := 24) (oi := ⟨some 124, _, _, _, _, _⟩) (v := ?_) rfl (by kernel_rfl) (by kernel_rfl) (by kernel_rfl) (fun _ _ _ h => h) (Or.inl ⟨by rfl, ?_⟩) (by assumption) ?_
          rotate_left
          · intro w hSw; (try dsimp only at hSw); go_simp; try with_reducible rfl
          (try simp only [Act.put, List.setIfInBounds_toArray, List.set_cons_zero, List.set_cons_succ])
          refine wpAnyH_take (i := 25) (oi := ⟨some 125, _, _, _, _, _⟩) (v := ?_) rfl (by kernel_rfl) (by kernel_rfl) (by kernel_rfl) (fun _ _ _ h => h) (Or.inl ⟨by rfl, ?_⟩) (by assumption) ?_
          rotate_left
          · intro w hSw; (try dsimp only at hSw); go_simp; try with_reducible rfl
          (try simp only [Act.put, List.setIfInBounds_toArray, List.set_cons_zero, List.set_cons_succ])
          refine wpAnyH_ready (rs := [33]) (by kernel_rfl) (by simp) ?_
          refine (AllReadyH.cons (o := ⟨some 133, _, _, _, _, _⟩) rfl (fun K hK => ?_) AllReadyH.nil)
          rw [if_pos (by rfl)]
          go_simp
          go_at_call 33
          refine (laid_any ao N c xs FB V5 d s _ (Rd.old hA1 hv) HN.out HXX.out h6).mono ?_
          rw [HPH.out]
          rintro _ w12 ⟨rfl, h4⟩
          have hA2 := St.call0 hA1 h4
          clear h4
          refine hK.out _ _ ?_ (fun hHeld => ?_)
          · exact ⟨ldS [_] hA2 (HFV.out), ldS [] hA2 (HV0.out rest), ldS [] hA2 (HV5.out rest)⟩
          clear hK K
          (try simp only [Act.put, List.setIfInBounds_toArray, List.set_cons_zero, List.set_cons_succ])
          refine wpAnyH_take (i := 34) (oi := ⟨some 134, _, _, _, _, _⟩) (v := ?_) rfl (by kernel_rfl) (by kernel_rfl) (by kernel_rfl) (fun _ _ _ h => h) (Or.inl ⟨by rfl, ?_⟩) (by assumption) ?_
          rotate_left
          · intro w hSw; (try dsimp only at hSw); go_simp; try with_reducible rfl
          (try simp only [Act.put, List.setIfInBounds_toArray, List.set_cons_zero, List.set_cons_succ])
          refine wpAnyH_take (i := 35) (oi := ⟨some 135, _, _, _, _, _⟩) (v := ?_) rfl (by kernel_rfl) (by kernel_rfl) (by kernel_rfl) (fun _ _ _ h => h) (Or.inl ⟨by rfl, ?_⟩) (by assumption) ?_
          rotate_left
          · intro w hSw; (try dsimp only at hSw); go_simp; try with_reducible rfl
          (try simp only [Act.put, List.setIfInBounds_toArray, List.set_cons_zero, List.set_cons_succ])
          refine wpAnyH_done (by kernel_rfl) ?_ _
          clear hHeld
          have hs4 := hA2
          clear hA2
          obtain ⟨E, hE⟩ : ∃ E, E = (V == BB V0) := ⟨_, rfl⟩
          have HE := hid hE
          clear hE
          cases hEE : E
          · rw [hEE] at HE
            rw [← HE.out] at HOD
            clear hEE
            go_wp2_with (first | go_big_skip | go_big_guard | (refine wl_loadE rfl rfl rfl ?_; refine ⟨_, Loads.at [] hs4 (HV0.out rest), ?_⟩) | (go_at_call 14; refine (of_any V0 _).mono ?_; rintro _ w20 ⟨g5, rfl, h4⟩; have hs5 := St.call hs4 h4; clear h4 hs4) | (go_at_call 34; refine (sameBytes_any _ _ 256 256 V (BB V0) _ (Rd.blk hs5 (.tail _ (.head _)) HCU.out HCM.out (by rw [length_bytesV]; exact HLN.out) (HBV.out rest)) (Rd.blk hs5 (.head _) (Nat.le_refl _) (by decide) (by rw [length_bytesV]; exact BB_len _) (by rw [List.drop_zero]; exact List.take_length))).mono ?_; rw [← HE.out]; rintro _ w21 ⟨rfl, h4⟩; have hs6 := St.call0 hs5 h4; clear h4 hs5))
            go_roundw
            case rel => exact ⟨m9 + 1, by omega, by rw [HON.out, HOD.out]; rfl, rfl, St.sub hs6 (.cons _ (.cons _ (List.Sublist.refl _)))⟩
            case measure => simp [intOf]; omega
          · rw [hEE] at HE
            rw [← HE.out] at HOD
            clear hEE
            go_wp2_with (first | go_big_skip | go_big_guard | (refine wl_loadE rfl rfl rfl ?_; refine ⟨_, Loads.at [] hs4 (HV0.out rest), ?_⟩) | (go_at_call 14; refine (of_any V0 _).mono ?_; rintro _ w20 ⟨g5, rfl, h4⟩; have hs5 := St.call hs4 h4; clear h4 hs4) | (go_at_call 34; refine (sameBytes_any _ _ 256 256 V (BB V0) _ (Rd.blk hs5 (.tail _ (.head _)) HCU.out HCM.out (by rw [length_bytesV]; exact HLN.out) (HBV.out rest)) (Rd.blk hs5 (.head _) (Nat.le_refl _) (by decide) (by rw [length_bytesV]; exact BB_len _) (by rw [List.drop_zero]; exact List.take_length))).mono ?_; rw [← HE.out]; rintro _ w21 ⟨rfl, h4⟩; have hs6 := St.call0 hs5 h4; clear h4 hs5))
            go_roundw
            case rel => exact ⟨m9 + 1, by omega, by rw [HON.out, HOD.out]; rfl, rfl, St.sub hs6 (.cons _ (.cons _ (List.Sublist.refl _)))⟩
            case measure => simp [intOf]; omega
        · obtain rfl : m9 = 16 := by omega
          have d4 : decide (((16 : Nat) : Int) < 16) = false := by decide
          have HON := hid HC.out.one
          have HZN := hid HC.out.none
          obtain ⟨o, ho⟩ : ∃ o, o = oddN b.oddS 16 := ⟨_, rfl⟩
          rw [← ho] at HON HZN
          rw [← ho]
          clear ho
          have d6 : decide ((1 : Int) < (o : Int)) = false := decide_eq_false (by have := HON.out; omega)
          by_cases h0 : nl = 0
          · have ho : o = 0 := HZN.out (List.eq_nil_of_length_eq_zero (by rw [← HNL.out]; exact h0))
            subst ho
            subst h0
            go_wp2_with (first | go_big_skip | go_big_guard | fail)
            go_ret
            exact ⟨rfl, hs0.nil⟩
          · have d7 : ((nl : Int) == 0) = false := by simpa using h0
            go_wp2_with (first | go_big_skip | go_big_guard | fail)
            go_ret
            exact ⟨rfl, hs0.nil⟩
end
theorem firm_law (ao : Option Addr) (N c : Nat) (xs : List LY) (ko : Option Addr) (kn kc : Nat) (ks : List Bool) (zt : Int) (w : World) (hv : Rd w (.slice ao N c) 4 N (xs.flatMap LY.cells)) (hN : xs.length = N) (hx : ∀ y ∈ xs, y.Ok) (hvk : Rd w (.slice ko kn kc) 1 kn (boolsV ks)) (hkn : ks.length = kn) (hzt : -9223372036854775808 ≤ zt ∧ zt ≤ 9223372036854775807) :
    Calls Try.prog 7 #[.slice ao N c, .slice ko kn kc, .int .i64 zt] w fun e w' => e = .returned (.bool true) ∧ St w [] w' [] := by
  by_cases h6 : N ≤ 60
  · by_cases h7 : kn ≤ 200
    · exact firm_fine ao N c xs ko kn kc ks zt w hv hN hx h6 hvk hkn h7 hzt
    · exact firm_wide ao N c ko kn kc zt w h6 (by omega)
  · exact firm_long ao N c ko kn kc zt w (by omega)
end Go.Proofs.Ytclleohpmgihaaa
namespace Go.Proofs.Ytclleohpmgihaaa
set_option linter.unusedVariables false
set_option linter.unusedSimpArgs false
open Go.RowKit Hp
attribute [local irreducible] Go.Calls Go.wpList
set_option maxRecDepth 100000
set_option maxHeartbeats 8000000
structure AC where
  k : Int
  dev : Int
  pl : Int
  n : Int
  mask : UInt8
  bo : Option Addr
  bn : Nat
  bc : Nat
  B : List UInt8
  ko : Option Addr
  kn : Nat
  kc : Nat
  K : List Bool
instance : Inhabited AC := ⟨⟨0, 0, 0, 0, 0, none, 0, 0, [], none, 0, 0, []⟩⟩
def AC.cells (y : AC) : List Value := [.int .i64 y.k, .int .i64 y.dev, .int .i64 y.pl, .int .i64 y.n, .int .u8 y.mask.toNat, .slice y.bo y.bn y.bc, .slice y.ko y.kn y.kc]
def in64 (z : Int) : Prop := -9223372036854775808 ≤ z ∧ z ≤ 9223372036854775807
/-- What is known of an act that was handed in. -/
structure AC.Ok (y : AC) (w : World) : Prop where
  k : in64 y.k
  dev : in64 y.dev
  pl : in64 y.pl
  n : in64 y.n
  rb : Rd w (.slice y.bo y.bn y.bc) 1 y.bn (bytesV y.B)
  lb : y.B.length = y.bn
  rk : Rd w (.slice y.ko y.kn y.kc) 1 y.kn (boolsV y.K)
  lk : y.K.length = y.kn
instance acA : TyA Try.prog 51 7 := ⟨by kernel_rfl⟩
instance acN : TyN Try.prog 51 7 := ⟨by kernel_rfl⟩
instance acZ : TyZ Try.prog 51 [.int .i64 0, .int .i64 0, .int .i64 0, .int .i64 0, .int .u8 0, .slice none 0 0, .slice none 0 0] := ⟨by kernel_rfl⟩
instance acSl : TySl Try.prog 46 51 := ⟨by kernel_rfl⟩
instance acSb : TyS Try.prog 36 := ⟨by kernel_rfl⟩
theorem acs_at : ∀ {xs : List AC} {k : Nat} {x : AC}, xs[k]? = some x → ∀ j v, x.cells[j]? = some v → (xs.flatMap AC.cells)[k * 7 + j]? = some v
  | y :: xs, 0, x, h, j, v, hj => by
    cases h
    rw [List.flatMap_cons, Nat.zero_mul, Nat.zero_add, List.getElem?_append_left (List.getElem?_eq_some_iff.1 hj).1]
    exact hj
  | y :: xs, k + 1, x, h, j, v, hj => by
    have hl : y.cells.length = 7 := rfl
    rw [List.flatMap_cons, List.getElem?_append_right (by rw [hl]; omega), hl, show (k + 1) * 7 + j - 7 = k * 7 + j by omega]
    exact acs_at (by simpa using h) j v hj
  | [], _, _, h, _, _, _ => by cases h
theorem acs_range {w : World} {b off n c k : Nat} {xs : List AC} {x : AC} (h : Rd w (.slice (some ⟨b, off, none⟩) n c) 7 n (xs.flatMap AC.cells)) (hk : xs[k]? = some x) : w.rangeAt b (off + k * 7) x.cells := by
  intro j v hj
  have := h.range (k * 7 + j) v (acs_at hk j v hj)
  rwa [← Nat.add_assoc] at this
/-- Acts of at most 300 bytes and 200 bools each, at most 100. -/
def shortC (xs : List AC) (N : Nat) : Prop := N ≤ 100 ∧ ∀ x ∈ xs, x.bn ≤ 300 ∧ x.kn ≤ 200
def longC (xs : List AC) (N : Nat) (e : Ending) : Prop := ∃ b, e = .returned (.bool b) ∧ (b = false ↔ shortC xs N)
theorem longC_any (ao : Option Addr) (N c : Nat) (xs : List AC) (w : World) (hv : Rd w (.slice ao N c) 7 N (xs.flatMap AC.cells)) (hN : xs.length = N) (hx : ∀ x ∈ xs, x.Ok w) :
    Calls Try.prog 26 #[.slice ao N c] w fun e w' => longC xs N e ∧ St w [] w' [] := by
  have hst := St.refl w
  have HN := hid hN
  have HXX := hid hx
  have hb1 := hv.bd.1
  have hb2 := hv.bd.2.1
  clear hN hx
  go_enter Try.func26, Try.ntmps26
  go_wp2_with (first | go_big_skip | go_big_guard | fail)
  go_loop [3] (fun q => ∃ k : Nat, k ≤ N ∧ k ≤ 101 ∧ q = .int .i64 k ∧ Hid (∀ j x, j < k → xs[j]? = some x → x.bn ≤ 300 ∧ x.kn ≤ 200)) (fun q => 101 - (intOf q).toNat)
  case atStart => exact ⟨0, by omega, by omega, rfl, hid (fun j x hj => absurd hj (Nat.not_lt_zero _))⟩
  case round =>
    obtain ⟨k, hk, hk1, rfl, hall⟩ := hrel
    by_cases hkN : k < N
    · by_cases hk2 : k < 101
      · obtain ⟨x, hxk⟩ : ∃ x, xs[k]? = some x := ⟨_, List.getElem?_eq_getElem (by rw [HN.out]; exact hkN)⟩
        obtain ⟨b, off, rfl, _⟩ := hv.at hkN
        have hok := HXX.out x (List.mem_of_getElem? hxk)
        have hra := acs_range hv hxk
        have h3 := hid (show w.cell? ⟨b, off + k * 7 + 5, none⟩ = some (.slice x.bo x.bn x.bc) from hra 5 _ rfl)
        have h4 := hid (show w.cell? ⟨b, off + k * 7 + 6, none⟩ = some (.slice x.ko x.kn x.kc) from hra 6 _ rfl)
        have HXK := hid hxk
        have hm1 := hok.rb.bd.1
        have hm2 := hok.rb.bd.2.1
        have hm3 := hok.rk.bd.1
        have hm4 := hok.rk.bd.2.1
        have d1 : decide ((k : Int) < (N : Int)) = true := decide_eq_true (by omega)
        have d0 : decide ((k : Int) < 101) = true := decide_eq_true (by omega)
        clear hra hxk hok
        by_cases g1 : 300 < x.bn
        · have d2 : decide (300 < (x.bn : Int)) = true := decide_eq_true (by omega)
          go_wp2_with (first | go_big_skip | go_big_guard | (refine wl_loadE rfl rfl rfl ?_; first | refine ⟨_, Loads.old hst (h3.out), ?_⟩ | refine ⟨_, Loads.old hst (h4.out), ?_⟩))
          go_ret
          exact ⟨⟨true, rfl, ⟨fun h => (by cases h), fun h => by have := (h.2 x (List.mem_of_getElem? HXK.out)); omega⟩⟩, hst⟩
        · have d2 : decide (300 < (x.bn : Int)) = false := decide_eq_false (by omega)
          by_cases g2 : 200 < x.kn
          · have d3 : decide (200 < (x.kn : Int)) = true := decide_eq_true (by omega)
            go_wp2_with (first | go_big_skip | go_big_guard | (refine wl_loadE rfl rfl rfl ?_; first | refine ⟨_, Loads.old hst (h3.out), ?_⟩ | refine ⟨_, Loads.old hst (h4.out), ?_⟩))
            go_ret
            exact ⟨⟨true, rfl, ⟨fun h => (by cases h), fun h => by have := (h.2 x (List.mem_of_getElem? HXK.out)); omega⟩⟩, hst⟩
          · have d3 : decide (200 < (x.kn : Int)) = false := decide_eq_false (by omega)
            have z1 : IntKind.i64.wrap ((k : Int) + 1) = (k : Int) + 1 := IntWalk.i64_in _ (by omega)
            go_wp2_with (first | go_big_skip | go_big_guard | (refine wl_loadE rfl rfl rfl ?_; first | refine ⟨_, Loads.old hst (h3.out), ?_⟩ | refine ⟨_, Loads.old hst (h4.out), ?_⟩))
            go_round
            case rel =>
              refine ⟨k + 1, by omega, by omega, rfl, hid (fun j y hj hy => ?_)⟩
              rcases Nat.lt_or_ge j k with h9 | h9
              · exact hall.out j y h9 hy
              · obtain rfl : j = k := by omega
                rw [HXK.out] at hy
                cases hy
                omega
            case measure => simp [intOf]; omega
      · have d1 : decide ((k : Int) < (N : Int)) = true := decide_eq_true (by omega)
        have d0 : decide ((k : Int) < 101) = false := decide_eq_false (by omega)
        have d2 : decide (100 < (N : Int)) = true := decide_eq_true (by omega)
        go_wp2_with (first | go_big_skip | go_big_guard | fail)
        go_ret
        exact ⟨⟨true, rfl, ⟨fun h => (by cases h), fun h => by have := h.1; omega⟩⟩, hst⟩
    · have e : k = N := by omega
      subst e
      have d1 : decide ((k : Int) < (k : Int)) = false := by simp
      by_cases h100 : 100 < k
      · have d2 : decide (100 < (k : Int)) = true := decide_eq_true (by omega)
        go_wp2_with (first | go_big_skip | go_big_guard | fail)
        go_ret
        exact ⟨⟨true, rfl, ⟨fun h => (by cases h), fun h => by have := h.1; omega⟩⟩, hst⟩
      · have d2 : decide (100 < (k : Int)) = false := decide_eq_false (by omega)
        go_wp2_with (first | go_big_skip | go_big_guard | fail)
        go_ret
        refine ⟨⟨false, rfl, ⟨fun _ => ⟨by omega, fun x hx => ?_⟩, fun _ => rfl⟩⟩, hst⟩
        obtain ⟨j, hj, rfl⟩ := List.getElem_of_mem hx
        exact hall.out j _ (by rw [HN.out] at hj; exact hj) (List.getElem?_eq_getElem hj)
theorem longC_no (ao : Option Addr) (N c : Nat) (xs : List AC) (w : World) (hv : Rd w (.slice ao N c) 7 N (xs.flatMap AC.cells)) (hN : xs.length = N) (hx : ∀ x ∈ xs, x.Ok w) (h : shortC xs N) :
    Calls Try.prog 26 #[.slice ao N c] w fun e w' => e = .returned (.bool false) ∧ St w [] w' [] :=
  (longC_any ao N c xs w hv hN hx).mono fun e w' ⟨⟨b, he, hb⟩, hst⟩ => ⟨by rw [he, hb.2 h], hst⟩
theorem longC_yes (ao : Option Addr) (N c : Nat) (xs : List AC) (w : World) (hv : Rd w (.slice ao N c) 7 N (xs.flatMap AC.cells)) (hN : xs.length = N) (hx : ∀ x ∈ xs, x.Ok w) (h : ¬ shortC xs N) :
    Calls Try.prog 26 #[.slice ao N c] w fun e w' => e = .returned (.bool true) ∧ St w [] w' [] :=
  (longC_any ao N c xs w hv hN hx).mono fun e w' ⟨⟨b, he, hb⟩, hst⟩ => ⟨by
    cases b with
    | true => exact he
    | false => exact absurd (hb.1 rfl) h, hst⟩
theorem AC.Ok.old {x : AC} {w w' : World} {L : List HA} (h : x.Ok w) (hst : St w [] w' L) : x.Ok w' := ⟨h.k, h.dev, h.pl, h.n, Rd.old hst h.rb, h.lb, Rd.old hst h.rk, h.lk⟩
end Go.Proofs.Ytclleohpmgihaaa
namespace Go.Proofs.Ytclleohpmgihaaa
set_option linter.unusedVariables false
set_option linter.unusedSimpArgs false
open Go.ChangeShapes Go.WideShapes Go.ChangeAt Go.RowKit Go.Deep Go.Lib Go.Joins Hp
set_option maxRecDepth 100000
/-- Bytes that lie within a handed value: where there is no room, the address says nothing. -/
theorem open_bytesN {H : Type} {enc : TypeId × Value → H} {W : World} {fuel : Nat} {cs : List Value} {x : DataW H × List MemPlace}
    (h : DataW.trod enc Try.prog W 0 (fun _ => true) true fuel 34 cs = some x) : ∃ ao n c bs, cs = [.slice ao n c] ∧ Rd W (.slice ao n c) 1 n (bytesV bs) ∧ bs.length = n := by
  rcases open_ints Try.underlying34 Try.underlying5 (by kernel_rfl) h with ⟨hc, _⟩ | ⟨a', len', cap', zs, hc, _, hl, hm, hz, _, hcell, hw⟩
  · exact ⟨none, 0, 0, [], hc, Rd.nil _ _, rfl⟩
  · by_cases h0 : cap' = 0
    · subst h0
      obtain rfl : len' = 0 := by omega
      exact ⟨some a', 0, 0, [], hc, Rd.empty _ _ _, rfl⟩
    · simp only [if_true] at hz
      have hspot : a'.spot = none := by
        have h1 := hcell 0 (by omega)
        unfold World.cell? at h1
        split at h1
        · by_cases hs : a'.spot = none
          · exact hs
          · have : ((a'.add 0).spot).isSome = true := by
              cases hq : a'.spot with
              | none => exact absurd hq hs
              | some q => simp [Addr.add, hq]
            rw [if_pos this] at h1
            cases h1
        · cases h1
      obtain ⟨b, off, rfl⟩ : ∃ b off, a' = ⟨b, off, none⟩ := ⟨a'.block, a'.off, by cases a'; simp_all⟩
      refine ⟨_, len', cap', (List.range len').map fun i => UInt8.ofNat (zs.getD i 0).toNat, hc, rd_ints _ hl hm fun i hi => ?_, by simp⟩
      have h1 := hcell i (by omega)
      rw [Addr.add_mid] at h1
      rw [h1]
      have h2 := hw (zs.getD i 0) (by rw [List.getD_eq_getElem?_getD, List.getElem?_eq_getElem (by omega)]; exact List.getElem_mem _)
      simp only [Lit.wf, Bool.and_eq_true, decide_eq_true_eq] at h2
      have h3 : IntKind.u8.min = 0 := rfl
      have h4 : IntKind.u8.max = 255 := rfl
      have h5 : ((UInt8.ofNat (zs.getD i 0).toNat).toNat : Int) = zs.getD i 0 := by rw [UInt8.toNat_ofNat']; omega
      rw [h5]
theorem spot_none {w : World} {a : Addr} {v : Value} (h : w.cell? (a.add 0) = some v) : a.spot = none := by
  unfold World.cell? at h
  split at h
  · by_cases hs : a.spot = none
    · exact hs
    · have : ((a.add 0).spot).isSome = true := by
        cases hq : a.spot with
        | none => exact absurd hq hs
        | some q => simp [Addr.add, hq]
      rw [if_pos this] at h
      cases h
  · cases h
theorem open_boolsN {H : Type} {enc : TypeId × Value → H} {W : World} {fuel : Nat} {cs : List Value} {x : DataW H × List MemPlace}
    (h : DataW.trod enc Try.prog W 0 (fun _ => true) true fuel 36 cs = some x) : ∃ ao n c bs, cs = [.slice ao n c] ∧ Rd W (.slice ao n c) 1 n (boolsV bs) ∧ bs.length = n := by
  rcases open_slice Try.underlying36 h with ⟨hc, _⟩ | ⟨a', len', cap', m, n, D, Pl, hc, _, hl, hm, hmm, _, hx⟩
  · exact ⟨none, 0, 0, [], hc, Rd.nil _ _, rfl⟩
  · simp only [if_true] at hmm
    rw [cellsLb] at hx
    have hb : ∀ i, i < cap' → ∃ b, W.cell? (a'.add (i * 1)) = some (.bool b) := by
      intro i hi
      obtain ⟨cs', h1, h2⟩ := hx i (by omega)
      obtain ⟨b, rfl, _⟩ := DataW.trod_bool Try.underlying4 h2
      obtain ⟨_, _, hcell⟩ := World.cells?_some h1
      have h3 := hcell 0 (by decide)
      refine ⟨b, ?_⟩
      have e : (a'.add (i * 1)).add 0 = a'.add (i * 1) := by simp [Addr.add]
      rw [e] at h3
      exact h3
    by_cases h0 : cap' = 0
    · subst h0
      obtain rfl : len' = 0 := by omega
      exact ⟨some a', 0, 0, [], hc, Rd.empty _ _ _, rfl⟩
    · obtain ⟨b0, h1⟩ := hb 0 (by omega)
      have hspot : a'.spot = none := spot_none h1
      obtain ⟨b, off, rfl⟩ : ∃ b off, a' = ⟨b, off, none⟩ := ⟨a'.block, a'.off, by cases a'; simp_all⟩
      obtain ⟨K, hK⟩ := choose_lt (α := Bool) (p := fun i k => W.cell? ⟨b, off + i, none⟩ = some (.bool k)) (fun i (hi : i < cap') => by
        obtain ⟨k, hk⟩ := hb i hi
        rw [Addr.add_mid, Nat.mul_one] at hk
        exact ⟨k, hk⟩)
      refine ⟨_, len', cap', (List.range len').map K, hc, Rd.mk hl hm (by simp [boolsV]) (fun k v hk => ?_), by simp⟩
      have hk2 : k < len' := by
        have := (List.getElem?_eq_some_iff.1 hk).1
        simpa [boolsV] using this
      have : (boolsV ((List.range len').map K))[k]? = some (.bool (K k)) := by
        unfold boolsV
        rw [List.getElem?_map, List.getElem?_map, List.getElem?_range hk2]
        rfl
      rw [this] at hk
      cases hk
      exact hK k (by omega)
theorem trod_struct7 {H : Type} {enc : TypeId × Value → H} {P : Program} {w : World} {base : Nat} {spare : Nat → Bool} {held : Bool} {t : TypeId} {f0 f1 f2 f3 f4 f5 f6 : Field} {fuel : Nat} {cs : List Value} {x : DataW H × List MemPlace} (ht : P.underlying t = some (.struct #[f0, f1, f2, f3, f4, f5, f6])) (h : DataW.trod enc P w base spare held fuel t cs = some x) :
    ∃ y0 y1 y2 y3 y4 y5 y6 n, DataW.trod enc P w base spare held n f0.type ((cs.drop f0.offset).take (P.cellsOf f0.type)) = some y0 ∧
      DataW.trod enc P w base spare held n f1.type ((cs.drop f1.offset).take (P.cellsOf f1.type)) = some y1 ∧ DataW.trod enc P w base spare held n f2.type ((cs.drop f2.offset).take (P.cellsOf f2.type)) = some y2 ∧
      DataW.trod enc P w base spare held n f3.type ((cs.drop f3.offset).take (P.cellsOf f3.type)) = some y3 ∧ DataW.trod enc P w base spare held n f4.type ((cs.drop f4.offset).take (P.cellsOf f4.type)) = some y4 ∧
      DataW.trod enc P w base spare held n f5.type ((cs.drop f5.offset).take (P.cellsOf f5.type)) = some y5 ∧ DataW.trod enc P w base spare held n f6.type ((cs.drop f6.offset).take (P.cellsOf f6.type)) = some y6 := by
  obtain ⟨xs, n, _, rfl, hl, hlen, hf⟩ := DataW.trod_struct ht h
  match xs, hlen with
  | [y0, y1, y2, y3, y4, y5, y6], _ => exact ⟨y0, y1, y2, y3, y4, y5, y6, n, by simpa using hf 0 f0 rfl, by simpa using hf 1 f1 rfl, by simpa using hf 2 f2 rfl, by simpa using hf 3 f3 rfl, by simpa using hf 4 f4 rfl, by simpa using hf 5 f5 rfl, by simpa using hf 6 f6 rfl⟩
theorem cellsLub : Try.prog.cellsOf 34 = 1 := by kernel_rfl
theorem cellsLbb : Try.prog.cellsOf 36 = 1 := by kernel_rfl
theorem cellsAct : Try.prog.cellsOf 51 = 7 := by kernel_rfl
theorem open_act {H : Type} {enc : TypeId × Value → H} {W : World} (fuel : Nat) (cs : List Value) (x : DataW H × List MemPlace) (hl : cs.length = 7)
    (h : DataW.trod enc Try.prog W 0 (fun _ => true) true fuel 51 cs = some x) : ∃ k : AC, cs = k.cells ∧ k.Ok W := by
  match cs, hl with
  | [a, b, c, d, e, f, g], _ =>
    obtain ⟨y0, y1, y2, y3, y4, y5, y6, n, h0, h1, h2, h3, h4, h5, h6⟩ := trod_struct7 Try.underlying51 h
    simp only [cellsLi, cellsLu, cellsLub, cellsLbb, List.drop_zero, List.drop_succ_cons, List.take_succ_cons, List.take_zero] at h0 h1 h2 h3 h4 h5 h6
    obtain ⟨z0, e0, _, w0⟩ := DataW.trod_int Try.underlying3 h0
    obtain ⟨z1, e1, _, w1⟩ := DataW.trod_int Try.underlying3 h1
    obtain ⟨z2, e2, _, w2⟩ := DataW.trod_int Try.underlying3 h2
    obtain ⟨z3, e3, _, w3⟩ := DataW.trod_int Try.underlying3 h3
    obtain ⟨z4, e4, _, w4⟩ := DataW.trod_int Try.underlying5 h4
    obtain ⟨bo, bn, bc, B, e5, r5, l5⟩ := open_bytesN h5
    obtain ⟨ko, kn, kc, K, e6, r6, l6⟩ := open_boolsN h6
    cases e0; cases e1; cases e2; cases e3; cases e4; cases e5; cases e6
    obtain ⟨u, rfl⟩ := u8_wfL w4
    exact ⟨⟨z0, z1, z2, z3, u, bo, bn, bc, B, ko, kn, kc, K⟩, rfl, ⟨i64_wfL w0, i64_wfL w1, i64_wfL w2, i64_wfL w3, r5, l5, r6, l6⟩⟩
theorem open_acts {H : Type} {enc : TypeId × Value → H} {W : World} {base fuel : Nat} {v : Value} {x : DataW H × List MemPlace} (hv : Value.okWide Try.prog W .any base 46 v)
    (h : DataW.trod enc Try.prog W 0 (fun _ => true) true fuel 46 v.cells.toList = some x) : ∃ ao n c, ∃ ks : List AC, v = .slice ao n c ∧ Rd W (.slice ao n c) 7 n (ks.flatMap AC.cells) ∧ ks.length = n ∧ ∀ x ∈ ks, x.Ok W :=
  open_structs (f := AC.cells) (fun _ => rfl) (fun k W => k.Ok W) Try.underlying46 cellsAct open_act hv h
end Go.Proofs.Ytclleohpmgihaaa
namespace Go.Proofs.Ytclleohpmgihaaa
set_option linter.unusedVariables false
set_option linter.unusedSimpArgs false
open Go.ChangeShapes Go.WideShapes Go.ChangeAt Go.RowKit Go.Deep Go.Lib Go.Joins Hp
set_option maxRecDepth 100000
theorem open_actV {H : Type} {enc : TypeId × Value → H} {W : World} {base fuel : Nat} {v : Value} {x : DataW H × List MemPlace} (hv : Value.okWide Try.prog W .any base 51 v)
    (h : DataW.trod enc Try.prog W 0 (fun _ => true) true fuel 51 v.cells.toList = some x) : ∃ a : AC, v = .agg (List.toArray a.cells) ∧ a.Ok W := by
  unfold Value.okWide at hv
  rw [Try.underlying51] at hv
  obtain ⟨cs, rfl, hsz, _⟩ := hv
  rw [cellsAct] at hsz
  obtain ⟨L, rfl⟩ : ∃ L : List Value, cs = L.toArray := ⟨cs.toList, rfl⟩
  have hL : L.length = 7 := by simpa using hsz
  obtain ⟨a, rfl, ha⟩ := open_act _ _ _ hL h
  exact ⟨a, rfl, ha⟩
end Go.Proofs.Ytclleohpmgihaaa
namespace Go.Proofs.Ytclleohpmgihaaa
set_option linter.unusedVariables false
set_option linter.unusedSimpArgs false
open Go.RowKit Hp
attribute [local irreducible] Go.Calls Go.wpList
set_option maxRecDepth 100000
set_option maxHeartbeats 4000000
/-- No array: nil, or one without devices. -/
def NoneAt (w : World) (p : Option Addr) : Prop := p = none ∨ ∃ g, p = some ⟨g, 0, none⟩ ∧ w.cell? ⟨g, 0, none⟩ = some (.slice none 0 0)
theorem NoneAt.later {w w' : World} {L : List HA} {p : Option Addr} (h : NoneAt w p) (hst : St w [] w' L) : NoneAt w' p := by
  rcases h with h | ⟨g, hp, hc⟩
  · exact .inl h
  · exact .inr ⟨g, hp, hst.old_cell hc (by simp)⟩
theorem none_n {w : World} {p : Option Addr} (h : NoneAt w p) : Calls Try.prog 51 #[.pointer p] w fun e w' => e = .returned (.bool true) ∧ St w [] w' [] := by
  have hst := St.refl w
  rcases h with rfl | ⟨g, rfl, hc⟩
  · go_enter Try.func51, Try.ntmps51
    go_wp2_with (first | go_big_skip | go_big_guard | fail)
    go_ret
    exact ⟨rfl, hst⟩
  · have HC := hid hc
    clear hc
    go_enter Try.func51, Try.ntmps51
    go_wp2_with (first | go_big_skip | go_big_guard | (refine wl_loadE rfl rfl rfl ?_; refine ⟨_, Loads.old hst HC.out, ?_⟩))
    go_ret
    exact ⟨rfl, hst⟩
theorem made_n {w : World} {p : Option Addr} (hN : NoneAt w p) : Calls Try.prog 38 #[.pointer p] w fun e w' => e = .returned (.int .i64 1) ∧ St w [] w' [] := by
  have hst := St.refl w
  have HN := hid hN
  have hmf := rmf
  clear hN
  go_enter Try.func38, Try.ntmps38
  go_wp2_with (first | go_big_skip | go_big_guard | (go_at_call 51; refine (none_n (HN.out.later hst)).mono ?_; rintro _ w9 ⟨rfl, h4⟩; have hst1 := St.call0 hst h4; clear h4 hst) | (go_at_call 41; refine (unless_any _ _ _).mono ?_; rintro _ w3 ⟨rfl, h4⟩; have hst2 := St.call0 hst1 h4; clear h4 hst1))
  go_ret
  exact ⟨rfl, hst2⟩
theorem devs_n {w : World} {p : Option Addr} (hN : NoneAt w p) : Calls Try.prog 35 #[.pointer p] w fun e w' => e = .returned (.int .i64 0) ∧ St w [] w' [] := by
  have hst := St.refl w
  have HN := hid hN
  have hmf := rmf
  clear hN
  go_enter Try.func35, Try.ntmps35
  go_wp2_with (first | go_big_skip | go_big_guard | (go_at_call 51; refine (none_n (HN.out.later hst)).mono ?_; rintro _ w9 ⟨rfl, h4⟩; have hst1 := St.call0 hst h4; clear h4 hst))
  go_ret
  exact ⟨rfl, hst1⟩
theorem sectors_n {w : World} {p : Option Addr} (hN : NoneAt w p) : Calls Try.prog 36 #[.pointer p] w fun e w' => e = .returned (.int .i64 0) ∧ St w [] w' [] := by
  have hst := St.refl w
  have HN := hid hN
  have hmf := rmf
  clear hN
  go_enter Try.func36, Try.ntmps36
  go_wp2_with (first | go_big_skip | go_big_guard | (go_at_call 51; refine (none_n (HN.out.later hst)).mono ?_; rintro _ w9 ⟨rfl, h4⟩; have hst1 := St.call0 hst h4; clear h4 hst))
  go_ret
  exact ⟨rfl, hst1⟩
theorem loose_n {w : World} {p : Option Addr} (hN : NoneAt w p) : Calls Try.prog 16 #[.pointer p] w fun e w' => e = .returned (.int .i64 0) ∧ St w [] w' [] := by
  have hst := St.refl w
  have HN := hid hN
  have hmf := rmf
  clear hN
  go_enter Try.func16, Try.ntmps16
  go_wp2_with (first | go_big_skip | go_big_guard | (go_at_call 51; refine (none_n (HN.out.later hst)).mono ?_; rintro _ w9 ⟨rfl, h4⟩; have hst1 := St.call0 hst h4; clear h4 hst))
  go_ret
  exact ⟨rfl, hst1⟩
theorem steps_n {w : World} {p : Option Addr} (hN : NoneAt w p) : Calls Try.prog 17 #[.pointer p] w fun e w' => e = .returned (.int .i64 0) ∧ St w [] w' [] := by
  have hst := St.refl w
  have HN := hid hN
  have hmf := rmf
  clear hN
  go_enter Try.func17, Try.ntmps17
  go_wp2_with (first | go_big_skip | go_big_guard | (go_at_call 51; refine (none_n (HN.out.later hst)).mono ?_; rintro _ w9 ⟨rfl, h4⟩; have hst1 := St.call0 hst h4; clear h4 hst))
  go_ret
  exact ⟨rfl, hst1⟩
theorem up_n {w : World} {p : Option Addr} (hN : NoneAt w p) (dev : Int) : Calls Try.prog 19 #[.pointer p, .int .i64 dev] w fun e w' => e = .returned (.bool false) ∧ St w [] w' [] := by
  have hst := St.refl w
  have HN := hid hN
  have hmf := rmf
  clear hN
  go_enter Try.func19, Try.ntmps19
  go_wp2_with (first | go_big_skip | go_big_guard | (go_at_call 51; refine (none_n (HN.out.later hst)).mono ?_; rintro _ w9 ⟨rfl, h4⟩; have hst1 := St.call0 hst h4; clear h4 hst))
  go_ret
  exact ⟨rfl, hst1⟩
theorem peek_n {w : World} {p : Option Addr} (hN : NoneAt w p) (dev pl : Int) : Calls Try.prog 32 #[.pointer p, .int .i64 dev, .int .i64 pl] w fun e w' => e = .returned (.tuple #[.slice none 0 0, .bool false]) ∧ St w [] w' [] := by
  have hst := St.refl w
  have HN := hid hN
  have hmf := rmf
  clear hN
  go_enter Try.func32, Try.ntmps32
  go_wp2_with (first | go_big_skip | go_big_guard | (go_at_call 19; refine (up_n (HN.out.later hst) dev).mono ?_; rintro _ w9 ⟨rfl, h4⟩; have hst1 := St.call0 hst h4; clear h4 hst))
  go_ret2
  exact ⟨rfl, hst1⟩
theorem isDevice_n (p : Option Addr) (dev : Int) (w : World) : Calls Try.prog 48 #[.pointer p, .int .i64 dev] w fun e w' => ∃ g0 g1, e = .returned (cloV 71 [ptrV g0, ptrV g1]) ∧ St w [] w' [.blk g1 3 [.int .i64 dev], .blk g0 24 [.pointer p]] := by
  have hmf := rmf
  have hst := St.refl w
  go_enter Try.func48, Try.ntmps48
  go_wp2_with (first | go_big_skip | go_big_guard | (refine wl_box hst rfl rfl rfl ?_; intro g0 w1 hst1; clear hst) | (refine wl_box hst1 rfl rfl rfl ?_; intro g1 w2 hst2; clear hst1))
  go_ret
  exact ⟨g0, g1, rfl, hst2⟩
theorem isHere_n (p : Option Addr) (dev : Int) (w : World) : Calls Try.prog 45 #[.pointer p, .int .i64 dev] w fun e w' => ∃ g0 g1, e = .returned (cloV 69 [ptrV g0, ptrV g1]) ∧ St w [] w' [.blk g1 3 [.int .i64 dev], .blk g0 24 [.pointer p]] := by
  have hmf := rmf
  have hst := St.refl w
  go_enter Try.func45, Try.ntmps45
  go_wp2_with (first | go_big_skip | go_big_guard | (refine wl_box hst rfl rfl rfl ?_; intro g0 w1 hst1; clear hst) | (refine wl_box hst1 rfl rfl rfl ?_; intro g1 w2 hst2; clear hst1))
  go_ret
  exact ⟨g0, g1, rfl, hst2⟩
theorem isSector_n (p : Option Addr) (dev pl : Int) (w : World) : Calls Try.prog 44 #[.pointer p, .int .i64 dev, .int .i64 pl] w fun e w' => ∃ g0 g1 g2, e = .returned (cloV 68 [ptrV g0, ptrV g1, ptrV g2]) ∧ St w [] w' [.blk g2 3 [.int .i64 pl], .blk g1 3 [.int .i64 dev], .blk g0 24 [.pointer p]] := by
  have hmf := rmf
  have hst := St.refl w
  go_enter Try.func44, Try.ntmps44
  go_wp2_with (first | go_big_skip | go_big_guard | (refine wl_box hst rfl rfl rfl ?_; intro g0 w1 hst1; clear hst) | (refine wl_box hst1 rfl rfl rfl ?_; intro g1 w2 hst2; clear hst1) | (refine wl_box hst2 rfl rfl rfl ?_; intro g2 w3 hst3; clear hst2))
  go_ret
  exact ⟨g0, g1, g2, rfl, hst3⟩
theorem checks_n {w : World} {p : Option Addr} (hN : NoneAt w p) (dev : Int) {v : Value} {n : Nat} (l : List Value) (f9 : Value) (hr : Rd w v 1 n ((methV 38 (.pointer p) :: l) ++ [f9])) (hn : n = l.length + 2) (hb : n ≤ 1000) :
    Calls Try.prog 37 #[.int .i64 dev, v] w fun x w' => x = .returned (.iface 97 (.agg #[.int .i64 1, .int .i64 dev])) ∧ St w [] w' [] := by
  have hC := checks_any dev (v := v) (n := n) (fs := methV 38 (.pointer p) :: l) (f9 := f9) (es := 1 :: List.replicate l.length 0) (e9 := 0) (A := fun w' => St w [] w' []) (B := fun w' => St w [] w' []) w (fun _ h => Rd.old h hr) (by simp) (by rw [List.length_cons]; omega) hb
    (fun j f e hf he hz => (match j, hf, he, hz with
      | 0, hf, he, _ => (by cases hf; cases he; exact probe_meth (fun _ _ => rfl) fun w1 h => (made_n (hN.later h)).mono fun _ _ ⟨e, h4⟩ => ⟨e, St.call0 h h4⟩)
      | j + 1, _, _, hz => absurd (hz 0 (by omega)) (by simp)))
    (fun hz => absurd (hz 0 (by simp)) (by simp)) (St.refl w)
  refine hC.mono ?_
  intro x w' hh
  have h1 : firstE (1 :: List.replicate l.length 0) = 1 := by simp [firstE]
  have := checks_bad (by rw [h1]; decide) hh
  rw [h1] at this
  exact this
theorem fuse_n {w : World} {p : Option Addr} (hN : NoneAt w p) (n : Int) : Calls Try.prog 12 #[.pointer p, .int .i64 n] w fun e w' => e = .returned (.int .i64 1) ∧ St w [] w' [] := by
  have hst := St.refl w
  have HN := hid hN
  have hmf := rmf
  clear hN
  go_enter Try.func12, Try.ntmps12
  go_wp2_with (first | go_big_skip | go_big_guard | (refine wl_box hst rfl rfl rfl ?_; intro g3 w_g3 hst1; clear hst) | (apply wl_bsX ([methV 38 (.pointer p), methV 39 (.pointer p), cloV 40 [ptrV g3]]) ([methV 38 (.pointer p), methV 39 (.pointer p), cloV 40 [ptrV g3]]) hst1; rfl; rfl; exact rfl; exact rfl; infer_instance; infer_instance; rfl; rfl; rfl; intro gs ws hst2; clear hst1) | (go_at_call 37; refine (checks_n (HN.out.later hst2) (-1) (v := .slice (some ⟨gs, 0, none⟩) 3 3) (n := 3) ([methV 39 (.pointer p)]) (cloV 40 [ptrV g3]) (Rd.blk hst2 (.head _) (Nat.le_refl _) (by decide) rfl rfl) rfl (by decide)).mono ?_; rintro _ w7 ⟨rfl, h4⟩; have hst3 := St.call0 hst2 h4; clear h4 hst2) | (go_at_call 42; refine (number_isE 1 (-1) (by unfold isE; decide) (by decide) _).mono ?_; rintro _ w8 ⟨rfl, h4⟩; have hst4 := St.call0 hst3 h4; clear h4 hst3))
  go_ret
  exact ⟨rfl, hst4.nil⟩
theorem crash_n {w : World} {p : Option Addr} (hN : NoneAt w p) (v : Value) (torn : Int) : Calls Try.prog 18 #[.pointer p, v, .int .i64 torn] w fun e w' => e = .returned (.int .i64 1) ∧ St w [] w' [] := by
  have hst := St.refl w
  have HN := hid hN
  have hmf := rmf
  clear hN
  go_enter Try.func18, Try.ntmps18
  go_wp2_with (first | go_big_skip | go_big_guard | (refine wl_box hst rfl rfl rfl ?_; intro g5 w_g5 hst1; clear hst) | (apply wl_bsX ([methV 38 (.pointer p), cloV 52 [ptrV g5]]) ([methV 38 (.pointer p), cloV 52 [ptrV g5]]) hst1; rfl; rfl; exact rfl; exact rfl; infer_instance; infer_instance; rfl; rfl; rfl; intro gs ws hst2; clear hst1) | (go_at_call 37; refine (checks_n (HN.out.later hst2) (-1) (v := .slice (some ⟨gs, 0, none⟩) 2 2) (n := 2) ([]) (cloV 52 [ptrV g5]) (Rd.blk hst2 (.head _) (Nat.le_refl _) (by decide) rfl rfl) rfl (by decide)).mono ?_; rintro _ w7 ⟨rfl, h4⟩; have hst3 := St.call0 hst2 h4; clear h4 hst2) | (go_at_call 42; refine (number_isE 1 (-1) (by unfold isE; decide) (by decide) _).mono ?_; rintro _ w8 ⟨rfl, h4⟩; have hst4 := St.call0 hst3 h4; clear h4 hst3))
  go_ret
  exact ⟨rfl, hst4.nil⟩
theorem write_n {w : World} {p : Option Addr} (hN : NoneAt w p) (dev pl : Int) (ao : Option Addr) (n c : Nat) : Calls Try.prog 13 #[.pointer p, .int .i64 dev, .int .i64 pl, .slice ao n c] w fun e w' => e = .returned (.int .i64 1) ∧ St w [] w' [] := by
  have hst := St.refl w
  have HN := hid hN
  have hmf := rmf
  clear hN
  go_enter Try.func13, Try.ntmps13
  go_wp2_with (first | go_big_skip | go_big_guard | (refine wl_box hst rfl rfl rfl ?_; intro g7 w_g7 hst1; clear hst) | (go_at_call 44; refine (isSector_n p dev pl _).mono ?_; rintro _ w_g0 ⟨g0, g1, g2, rfl, h4⟩; have hst2 := St.call hst1 h4; clear h4 hst1) | (go_at_call 45; refine (isHere_n p dev _).mono ?_; rintro _ w_k0 ⟨k0, k1, rfl, h4⟩; have hst3 := St.call hst2 h4; clear h4 hst2) | (apply wl_bsX ([methV 38 (.pointer p), methV 39 (.pointer p), cloV 68 [ptrV g0, ptrV g1, ptrV g2], cloV 43 [ptrV g7], cloV 69 [ptrV k0, ptrV k1], methV 46 (.pointer p)]) ([methV 38 (.pointer p), methV 39 (.pointer p), cloV 68 [ptrV g0, ptrV g1, ptrV g2], cloV 43 [ptrV g7], cloV 69 [ptrV k0, ptrV k1], methV 46 (.pointer p)]) hst3; rfl; rfl; exact rfl; exact rfl; infer_instance; infer_instance; rfl; rfl; rfl; intro gs ws hst4; clear hst3) | (go_at_call 37; refine (checks_n (HN.out.later hst4) dev (v := .slice (some ⟨gs, 0, none⟩) 6 6) (n := 6) ([methV 39 (.pointer p), cloV 68 [ptrV g0, ptrV g1, ptrV g2], cloV 43 [ptrV g7], cloV 69 [ptrV k0, ptrV k1]]) (methV 46 (.pointer p)) (Rd.blk hst4 (.head _) (Nat.le_refl _) (by decide) rfl rfl) rfl (by decide)).mono ?_; rintro _ w7 ⟨rfl, h4⟩; have hst5 := St.call0 hst4 h4; clear h4 hst4) | (go_at_call 42; refine (number_isE 1 dev (by unfold isE; decide) (by decide) _).mono ?_; rintro _ w8 ⟨rfl, h4⟩; have hst6 := St.call0 hst5 h4; clear h4 hst5))
  go_ret
  exact ⟨rfl, hst6.nil⟩
theorem fit_n {w : World} {p : Option Addr} (hN : NoneAt w p) (dev : Int) : Calls Try.prog 30 #[.pointer p, .int .i64 dev] w fun e w' => e = .returned (.int .i64 1) ∧ St w [] w' [] := by
  have hst := St.refl w
  have HN := hid hN
  have hmf := rmf
  clear hN
  go_enter Try.func30, Try.ntmps30
  go_wp2_with (first | go_big_skip | go_big_guard | (go_at_call 48; refine (isDevice_n p dev _).mono ?_; rintro _ w_g0 ⟨g0, g1, rfl, h4⟩; have hst2 := St.call hst h4; clear h4 hst) | (apply wl_bsX ([methV 38 (.pointer p), cloV 71 [ptrV g0, ptrV g1]]) ([methV 38 (.pointer p), cloV 71 [ptrV g0, ptrV g1]]) hst2; rfl; rfl; exact rfl; exact rfl; infer_instance; infer_instance; rfl; rfl; rfl; intro gs ws hst3; clear hst2) | (go_at_call 37; refine (checks_n (HN.out.later hst3) dev (v := .slice (some ⟨gs, 0, none⟩) 2 2) (n := 2) ([]) (cloV 71 [ptrV g0, ptrV g1]) (Rd.blk hst3 (.head _) (Nat.le_refl _) (by decide) rfl rfl) rfl (by decide)).mono ?_; rintro _ w7 ⟨rfl, h4⟩; have hst4 := St.call0 hst3 h4; clear h4 hst3) | (go_at_call 42; refine (number_isE 1 dev (by unfold isE; decide) (by decide) _).mono ?_; rintro _ w8 ⟨rfl, h4⟩; have hst5 := St.call0 hst4 h4; clear h4 hst4))
  go_ret
  exact ⟨rfl, hst5.nil⟩
theorem befalls_n {w : World} {p : Option Addr} (hN : NoneAt w p) (dev : Int) (fv v : Value) (m : Nat) (ws : List Value) (hr : Rd w v 1 m ws) (hw : ws.length = m) (hm : m ≤ 10) (h1c : ws.all (·.oneCell') = true) :
    Calls Try.prog 54 #[.pointer p, .int .i64 dev, fv, v] w fun e w' => e = .returned (.int .i64 1) ∧ St w [] w' [] := by
  have hst := St.refl w
  have HN := hid hN
  have HR := hid hr
  have HW := hid hw
  have H1C := hid h1c
  have hmf := rmf
  clear hN hr hw h1c
  go_enter Try.func54, Try.ntmps54
  go_wp2_with (first | go_big_skip | go_big_guard | (apply wl_bsX ([methV 38 (.pointer p)]) ([methV 38 (.pointer p)]) hst; rfl; rfl; exact rfl; exact rfl; infer_instance; infer_instance; rfl; rfl; rfl; intro g1 w1 hst1; clear hst; have hst2 : St w [] w1 (.row (.slice (some ⟨g1, 0, none⟩) 1 1) 70 1 1 [methV 38 (.pointer p)] :: []) := St.toRow (n := 1) (cap := 1) (sz := 1) hst1 rfl (Nat.le_refl _) (by decide); clear hst1) | (apply wl_appX (m := m) (ys := ws) [] hst2; rfl; rfl; exact rfl; exact rfl; infer_instance; infer_instance; infer_instance; exact Rd.old hst2 HR.out; exact H1C.out; (refine ⟨by decide, by unfold maxLen; omega, by omega⟩); intro v1 w2 hst3 _; clear hst2) | (go_at_call 45; refine (isHere_n p dev _).mono ?_; rintro _ w_k0 ⟨k0, k1, rfl, h4⟩; have hst4 := St.call hst3 h4; clear h4 hst3) | (apply wl_bsX ([cloV 69 [ptrV k0, ptrV k1]]) ([cloV 69 [ptrV k0, ptrV k1]]) hst4; rfl; rfl; exact rfl; exact rfl; infer_instance; infer_instance; rfl; rfl; rfl; intro gb w5 hst5; clear hst4) | (apply wl_appX (m := 1) (ys := [cloV 69 [ptrV k0, ptrV k1]]) [_, _, _] hst5; rfl; rfl; exact rfl; exact rfl; infer_instance; infer_instance; infer_instance; exact Rd.blk (n := 1) hst5 (.head _) (Nat.le_refl _) (by decide) rfl rfl; rfl; (refine ⟨by decide, by unfold maxLen; omega, by omega⟩); intro v2 w6 hst6 _; clear hst5) | (go_at_call 37; refine (checks_n (HN.out.later hst6) dev (v := v2) (n := 1 + m + 1) ws (cloV 69 [ptrV k0, ptrV k1]) (Rd.row hst6 (.tail _ (.tail _ (.tail _ (.head _))))) (by rw [HW.out]; omega) (by omega)).mono ?_; rintro _ w7 ⟨rfl, h4⟩; have hst7 := St.call0 hst6 h4; clear h4 hst6) | (go_at_call 42; refine (number_isE 1 dev (by unfold isE; decide) (by decide) _).mono ?_; rintro _ w8 ⟨rfl, h4⟩; have hst8 := St.call0 hst7 h4; clear h4 hst7))
  go_ret
  exact ⟨rfl, hst8.nil⟩
theorem lose_n {w : World} {p : Option Addr} (hN : NoneAt w p) (dev : Int) : Calls Try.prog 21 #[.pointer p, .int .i64 dev] w fun e w' => e = .returned (.int .i64 1) ∧ St w [] w' [] := by
  have hst := St.refl w
  have HN := hid hN
  have hmf := rmf
  clear hN
  go_enter Try.func21, Try.ntmps21
  go_wp2_with (first | go_big_skip | go_big_guard | (go_at_call 48; refine (isDevice_n p dev _).mono ?_; rintro _ w_g0 ⟨g0, g1, rfl, h4⟩; have hst2 := St.call hst h4; clear h4 hst) | (apply wl_bsX ([cloV 71 [ptrV g0, ptrV g1]]) ([cloV 71 [ptrV g0, ptrV g1]]) hst2; rfl; rfl; exact rfl; exact rfl; infer_instance; infer_instance; rfl; rfl; rfl; intro gs ws hst3; clear hst2) | (go_at_call 54; refine (befalls_n (HN.out.later hst3) dev _ (.slice (some ⟨gs, 0, none⟩) 1 1) 1 ([cloV 71 [ptrV g0, ptrV g1]]) (Rd.blk hst3 (.head _) (Nat.le_refl _) (by decide) rfl rfl) rfl (by decide) rfl).mono ?_; rintro _ w8 ⟨rfl, h4⟩; have hst4 := St.call0 hst3 h4; clear h4 hst3))
  go_ret
  exact ⟨rfl, hst4.nil⟩
theorem stray_n {w : World} {p : Option Addr} (hN : NoneAt w p) (dev pl : Int) : Calls Try.prog 22 #[.pointer p, .int .i64 dev, .int .i64 pl] w fun e w' => e = .returned (.int .i64 1) ∧ St w [] w' [] := by
  have hst := St.refl w
  have HN := hid hN
  have hmf := rmf
  clear hN
  go_enter Try.func22, Try.ntmps22
  go_wp2_with (first | go_big_skip | go_big_guard | (refine wl_box hst rfl rfl rfl ?_; intro g5 w_g5 hst1; clear hst) | (refine wl_loadE rfl rfl rfl ?_; first | refine ⟨_, Loads.at [] hst1 rfl, ?_⟩) | (go_at_call 44; refine (isSector_n p dev pl _).mono ?_; rintro _ w_g0 ⟨g0, g1, g2, rfl, h4⟩; have hst2 := St.call hst1 h4; clear h4 hst1) | (apply wl_bsX ([cloV 68 [ptrV g0, ptrV g1, ptrV g2]]) ([cloV 68 [ptrV g0, ptrV g1, ptrV g2]]) hst2; rfl; rfl; exact rfl; exact rfl; infer_instance; infer_instance; rfl; rfl; rfl; intro gs ws hst3; clear hst2) | (go_at_call 54; refine (befalls_n (HN.out.later hst3) dev _ (.slice (some ⟨gs, 0, none⟩) 1 1) 1 ([cloV 68 [ptrV g0, ptrV g1, ptrV g2]]) (Rd.blk hst3 (.head _) (Nat.le_refl _) (by decide) rfl rfl) rfl (by decide) rfl).mono ?_; rintro _ w8 ⟨rfl, h4⟩; have hst4 := St.call0 hst3 h4; clear h4 hst3))
  go_ret
  exact ⟨rfl, hst4.nil⟩
theorem fail_n {w : World} {p : Option Addr} (hN : NoneAt w p) (dev n : Int) : Calls Try.prog 23 #[.pointer p, .int .i64 dev, .int .i64 n] w fun e w' => e = .returned (.int .i64 1) ∧ St w [] w' [] := by
  have hst := St.refl w
  have HN := hid hN
  have hmf := rmf
  clear hN
  go_enter Try.func23, Try.ntmps23
  go_wp2_with (first | go_big_skip | go_big_guard | (refine wl_box hst rfl rfl rfl ?_; intro g5 w_g5 hst1; clear hst) | (go_at_call 48; refine (isDevice_n p dev _).mono ?_; rintro _ w_g0 ⟨g0, g1, rfl, h4⟩; have hst2 := St.call hst1 h4; clear h4 hst1) | (apply wl_bsX ([cloV 71 [ptrV g0, ptrV g1], cloV 58 [ptrV g5]]) ([cloV 71 [ptrV g0, ptrV g1], cloV 58 [ptrV g5]]) hst2; rfl; rfl; exact rfl; exact rfl; infer_instance; infer_instance; rfl; rfl; rfl; intro gs ws hst3; clear hst2) | (go_at_call 54; refine (befalls_n (HN.out.later hst3) dev _ (.slice (some ⟨gs, 0, none⟩) 2 2) 2 ([cloV 71 [ptrV g0, ptrV g1], cloV 58 [ptrV g5]]) (Rd.blk hst3 (.head _) (Nat.le_refl _) (by decide) rfl rfl) rfl (by decide) rfl).mono ?_; rintro _ w8 ⟨rfl, h4⟩; have hst4 := St.call0 hst3 h4; clear h4 hst3))
  go_ret
  exact ⟨rfl, hst4.nil⟩
theorem spoil_n {w : World} {p : Option Addr} (hN : NoneAt w p) (dev pl place : Int) (m : UInt8) : Calls Try.prog 28 #[.pointer p, .int .i64 dev, .int .i64 pl, .int .i64 place, .int .u8 m.toNat] w fun e w' => e = .returned (.int .i64 1) ∧ St w [] w' [] := by
  have hst := St.refl w
  have HN := hid hN
  have hmf := rmf
  clear hN
  go_enter Try.func28, Try.ntmps28
  go_wp2_with (first | go_big_skip | go_big_guard | (first | (refine wl_box hst rfl rfl rfl ?_; intro g7 w_g7 hst1; clear hst) | (refine wl_box hst1 rfl rfl rfl ?_; intro g8 w_g8 hst2; clear hst1) | (refine wl_box hst2 rfl rfl rfl ?_; intro g9 w_g9 hst3; clear hst2)) | (refine wl_loadE rfl rfl rfl ?_; first | refine ⟨_, Loads.at [_, _] hst3 rfl, ?_⟩) | (go_at_call 44; refine (isSector_n p dev pl _).mono ?_; rintro _ w_g0 ⟨g0, g1, g2, rfl, h4⟩; have hst4 := St.call hst3 h4; clear h4 hst3) | (apply wl_bsX ([cloV 68 [ptrV g0, ptrV g1, ptrV g2], cloV 62 [ptrV g8]]) ([cloV 68 [ptrV g0, ptrV g1, ptrV g2], cloV 62 [ptrV g8]]) hst4; rfl; rfl; exact rfl; exact rfl; infer_instance; infer_instance; rfl; rfl; rfl; intro gs ws hst5; clear hst4) | (go_at_call 54; refine (befalls_n (HN.out.later hst5) dev _ (.slice (some ⟨gs, 0, none⟩) 2 2) 2 ([cloV 68 [ptrV g0, ptrV g1, ptrV g2], cloV 62 [ptrV g8]]) (Rd.blk hst5 (.head _) (Nat.le_refl _) (by decide) rfl rfl) rfl (by decide) rfl).mono ?_; rintro _ w8 ⟨rfl, h4⟩; have hst6 := St.call0 hst5 h4; clear h4 hst5))
  go_ret
  exact ⟨rfl, hst6.nil⟩
section
attribute [local go_sem ↓] loadedPA loadedIn
theorem read_n {w : World} {p : Option Addr} (hN : NoneAt w p) (dev pl : Int) : Calls Try.prog 24 #[.pointer p, .int .i64 dev, .int .i64 pl] w fun e w' => e = .returned (.tuple #[.slice none 0 0, .int .i64 1]) ∧ St w [] w' [] := by
  have hst := St.refl w
  have HN := hid hN
  have hmf := rmf
  clear hN
  go_enter Try.func24, Try.ntmps24
  go_wp2_with (first | go_big_skip | go_big_guard | (refine wl_box hst rfl rfl rfl ?_; intro g3 w1 hst1; clear hst) | (refine wl_box hst1 rfl rfl rfl ?_; intro g4 w2 hst2; clear hst1))
  have hX := hst2.drew
  clear hst2
  refine wp_region_held_drew (S := (fun w' => (loadVarH 3 ⟨g4, 0, none⟩).run Try.prog w' = .ok (.int .i64 dev) w' ∧ (loadVarH 24 ⟨g3, 0, none⟩).run Try.prog w' = .ok (.pointer p) w')) (by kernel_rfl) (by exact ⟨ldS [] hX (rfl), ldS [_] hX (rfl)⟩) (fun hHeld => ?_)
  refine wpAnyH_take (i := 0) (oi := ⟨some 9, _, _, _, _, _⟩) (v := ?_) rfl (by kernel_rfl) (by kernel_rfl) (by kernel_rfl) (fun _ _ _ h => h) (Or.inl ⟨by rfl, ?_⟩) (by assumption) ?_
  rotate_left
  · intro w hSw; (try dsimp only at hSw); go_simp; try with_reducible rfl
  (try simp only [Act.put, List.setIfInBounds_toArray, List.set_cons_zero, List.set_cons_succ])
  refine wpAnyH_take (i := 1) (oi := ⟨some 10, _, _, _, _, _⟩) (v := ?_) rfl (by kernel_rfl) (by kernel_rfl) (by kernel_rfl) (fun _ _ _ h => h) (Or.inl ⟨by rfl, ?_⟩) (by assumption) ?_
  rotate_left
  · intro w hSw; (try dsimp only at hSw); go_simp; try with_reducible rfl
  (try simp only [Act.put, List.setIfInBounds_toArray, List.set_cons_zero, List.set_cons_succ])
  refine wpAnyH_take (i := 3) (oi := ⟨some 12, _, _, _, _, _⟩) (v := ?_) rfl (by kernel_rfl) (by kernel_rfl) (by kernel_rfl) (fun _ _ _ h => h) (Or.inl ⟨by rfl, ?_⟩) (by assumption) ?_
  rotate_left
  · intro w hSw; (try dsimp only at hSw); go_simp; try with_reducible rfl
  (try simp only [Act.put, List.setIfInBounds_toArray, List.set_cons_zero, List.set_cons_succ])
  refine wpAnyH_take (i := 5) (oi := ⟨some 14, _, _, _, _, _⟩) (v := ?_) rfl (by kernel_rfl) (by kernel_rfl) (by kernel_rfl) (fun _ _ _ h => h) (Or.inl ⟨by rfl, ?_⟩) (by assumption) ?_
  rotate_left
  · intro w hSw; (try dsimp only at hSw); go_simp; try with_reducible rfl
  (try simp only [Act.put, List.setIfInBounds_toArray, List.set_cons_zero, List.set_cons_succ])
  refine wpAnyH_take (i := 6) (oi := ⟨some 15, _, _, _, _, _⟩) (v := ?_) rfl (by kernel_rfl) (by kernel_rfl) (by kernel_rfl) (fun _ _ _ h => h) (Or.inl ⟨by rfl, ?_⟩) (by assumption) ?_
  rotate_left
  · intro w hSw; (try dsimp only at hSw); go_simp; try with_reducible rfl
  (try simp only [Act.put, List.setIfInBounds_toArray, List.set_cons_zero, List.set_cons_succ])
  refine wpAnyH_take (i := 7) (oi := ⟨some 16, _, _, _, _, _⟩) (v := ?_) rfl (by kernel_rfl) (by kernel_rfl) (by kernel_rfl) (fun _ _ _ h => h) (Or.inl ⟨by rfl, ?_⟩) (by assumption) ?_
  rotate_left
  · intro w hSw; (try dsimp only at hSw); go_simp; try with_reducible rfl
  (try simp only [Act.put, List.setIfInBounds_toArray, List.set_cons_zero, List.set_cons_succ])
  refine wpAnyH_take (i := 9) (oi := ⟨some 18, _, _, _, _, _⟩) (v := ?_) rfl (by kernel_rfl) (by kernel_rfl) (by kernel_rfl) (fun _ _ _ h => h) (Or.inl ⟨by rfl, ?_⟩) (by assumption) ?_
  rotate_left
  · intro w hSw; (try dsimp only at hSw); go_simp; try with_reducible rfl
  (try simp only [Act.put, List.setIfInBounds_toArray, List.set_cons_zero, List.set_cons_succ])
  refine wpAnyH_take (i := 10) (oi := ⟨some 19, _, _, _, _, _⟩) (v := ?_) rfl (by kernel_rfl) (by kernel_rfl) (by kernel_rfl) (fun _ _ _ h => h) (Or.inl ⟨by rfl, ?_⟩) (by assumption) ?_
  rotate_left
  · intro w hSw; (try dsimp only at hSw); go_simp; try with_reducible rfl
  (try simp only [Act.put, List.setIfInBounds_toArray, List.set_cons_zero, List.set_cons_succ])
  refine wpAnyH_take (i := 12) (oi := ⟨some 21, _, _, _, _, _⟩) (v := ?_) rfl (by kernel_rfl) (by kernel_rfl) (by kernel_rfl) (fun _ _ _ h => h) (Or.inl ⟨by rfl, ?_⟩) (by assumption) ?_
  rotate_left
  · intro w hSw; (try dsimp only at hSw); go_simp; try with_reducible rfl
  (try simp only [Act.put, List.setIfInBounds_toArray, List.set_cons_zero, List.set_cons_succ])
  refine wpAnyH_take (i := 2) (oi := ⟨some 11, _, _, _, _, _⟩) (v := ?_) rfl (by kernel_rfl) (by kernel_rfl) (by kernel_rfl) (fun _ _ _ h => h) (Or.inl ⟨by rfl, ?_⟩) (by assumption) ?_
  rotate_left
  · intro w hSw; (try dsimp only at hSw); go_simp; try with_reducible rfl
  (try simp only [Act.put, List.setIfInBounds_toArray, List.set_cons_zero, List.set_cons_succ])
  refine wpAnyH_take (i := 4) (oi := ⟨some 13, _, _, _, _, _⟩) (v := ?_) rfl (by kernel_rfl) (by kernel_rfl) (by kernel_rfl) (fun _ _ _ h => h) (Or.inl ⟨by rfl, ?_⟩) (by assumption) ?_
  rotate_left
  · intro w hSw; (try dsimp only at hSw); go_simp; try with_reducible rfl
  (try simp only [Act.put, List.setIfInBounds_toArray, List.set_cons_zero, List.set_cons_succ])
  refine wpAnyH_ready (rs := [8]) (by kernel_rfl) (by simp) ?_
  refine (AllReadyH.cons (o := ⟨some 17, _, _, _, _, _⟩) rfl (fun K hK => ?_) AllReadyH.nil)
  rw [if_pos (by rfl)]
  go_simp
  go_at_call 44
  refine (isSector_n p dev pl _).mono ?_
  rintro _ w_hA1 ⟨g0, g1, g2, rfl, h4⟩
  have hA1 := St.call hX h4
  clear h4
  refine hK.out _ _ ?_ (fun hHeld => ?_)
  · exact ⟨ldS [_, _, _] hA1 (rfl), ldS [_, _, _, _] hA1 (rfl)⟩
  clear hK K
  (try simp only [Act.put, List.setIfInBounds_toArray, List.set_cons_zero, List.set_cons_succ])
  refine wpAnyH_ready (rs := [11]) (by kernel_rfl) (by simp) ?_
  refine (AllReadyH.cons (o := ⟨some 20, _, _, _, _, _⟩) rfl (fun K hK => ?_) AllReadyH.nil)
  rw [if_pos (by rfl)]
  go_simp
  go_at_call 45
  refine (isHere_n p dev _).mono ?_
  rintro _ w_hA2 ⟨k0, k1, rfl, h4⟩
  have hA2 := St.call hA1 h4
  clear h4
  refine hK.out _ _ ?_ (fun hHeld => ?_)
  · exact ⟨ldS [_, _, _, _, _] hA2 (rfl), ldS [_, _, _, _, _, _] hA2 (rfl)⟩
  clear hK K
  (try simp only [Act.put, List.setIfInBounds_toArray, List.set_cons_zero, List.set_cons_succ])
  refine wpAnyH_ready (rs := [13]) (by kernel_rfl) (by simp) ?_
  refine (AllReadyH.cons (o := ⟨some 22, _, _, _, _, _⟩) rfl (fun K hK => ?_) AllReadyH.nil)
  rw [if_pos (by rfl)]
  refine ow_of_wl (ops := #[]) (by rfl) ?_
  apply wl_bsX ([methV 38 (.pointer p), methV 39 (.pointer p), cloV 68 [ptrV g0, ptrV g1, ptrV g2], cloV 69 [ptrV k0, ptrV k1], cloV 60 [ptrV g3, ptrV g4]]) ([methV 38 (.pointer p), methV 39 (.pointer p), cloV 68 [ptrV g0, ptrV g1, ptrV g2], cloV 69 [ptrV k0, ptrV k1], cloV 60 [ptrV g3, ptrV g4]]) hA2
  rfl
  rfl
  exact rfl
  exact rfl
  infer_instance
  infer_instance
  rfl
  rfl
  rfl
  intro gs ws hA3
  refine q0_nil ?_
  refine hK.out _ _ ?_ (fun hHeld => ?_)
  · exact ⟨ldS [_, _, _, _, _, _] hA3 (rfl), ldS [_, _, _, _, _, _, _] hA3 (rfl)⟩
  clear hK K
  (try simp only [Act.put, List.setIfInBounds_toArray, List.set_cons_zero, List.set_cons_succ])
  refine wpAnyH_ready (rs := [14]) (by kernel_rfl) (by simp) ?_
  refine (AllReadyH.cons (o := ⟨some 23, _, _, _, _, _⟩) rfl (fun K hK => ?_) AllReadyH.nil)
  rw [if_pos (by rfl)]
  go_simp
  go_at_call 37; refine (checks_n (HN.out.later hA3) dev (v := .slice (some ⟨gs, 0, none⟩) 5 5) (n := 5) ([methV 39 (.pointer p), cloV 68 [ptrV g0, ptrV g1, ptrV g2], cloV 69 [ptrV k0, ptrV k1]]) (cloV 60 [ptrV g3, ptrV g4]) (Rd.blk hA3 (.head _) (Nat.le_refl _) (by decide) rfl rfl) rfl (by decide)).mono ?_; rintro _ w7 ⟨rfl, h4⟩; have hA4 := St.call0 hA3 h4; clear h4
  refine hK.out _ _ ?_ (fun hHeld => ?_)
  · exact ⟨ldS [_, _, _, _, _, _] hA4 (rfl), ldS [_, _, _, _, _, _, _] hA4 (rfl)⟩
  clear hK K
  (try simp only [Act.put, List.setIfInBounds_toArray, List.set_cons_zero, List.set_cons_succ])
  refine wpAnyH_take (i := 15) (oi := ⟨some 8, _, _, _, _, _⟩) (v := ?_) rfl (by kernel_rfl) (by kernel_rfl) (by kernel_rfl) (fun _ _ _ h => h) (Or.inl ⟨by rfl, ?_⟩) (by assumption) ?_
  rotate_left
  · intro w hSw; (try dsimp only at hSw); go_simp; try with_reducible rfl
  (try simp only [Act.put, List.setIfInBounds_toArray, List.set_cons_zero, List.set_cons_succ])
  refine wpAnyH_done (by kernel_rfl) ?_ _
  clear hHeld
  go_wp2_with (first | go_big_skip | go_big_guard | (go_at_call 42; refine (number_isE 1 dev (by unfold isE; decide) (by decide) _).mono ?_; rintro _ w8 ⟨rfl, h4⟩; have hst9 := St.call0 hA4 h4; clear h4 hA4))
  go_ret2
  exact ⟨rfl, hst9.nil⟩
theorem flush_n {w : World} {p : Option Addr} (hN : NoneAt w p) (dev : Int) : Calls Try.prog 15 #[.pointer p, .int .i64 dev] w fun e w' => e = .returned (.int .i64 1) ∧ St w [] w' [] := by
  have hst := St.refl w
  have HN := hid hN
  have hmf := rmf
  clear hN
  go_enter Try.func15, Try.ntmps15
  go_wp2_with (first | go_big_skip | go_big_guard | (refine wl_box hst rfl rfl rfl ?_; intro g4 w1 hst1; clear hst))
  have hX := hst1.drew
  clear hst1
  refine wp_region_held_drew (S := (fun w' => (loadVarH 3 ⟨g4, 0, none⟩).run Try.prog w' = .ok (.int .i64 dev) w')) (by kernel_rfl) (by exact ldS [] hX (rfl)) (fun hHeld => ?_)
  refine wpAnyH_take (i := 0) (oi := ⟨some 10, _, _, _, _, _⟩) (v := ?_) rfl (by kernel_rfl) (by kernel_rfl) (by kernel_rfl) (fun _ _ _ h => h) (Or.inl ⟨by rfl, ?_⟩) (by assumption) ?_
  rotate_left
  · intro w hSw; (try dsimp only at hSw); go_simp; try with_reducible rfl
  (try simp only [Act.put, List.setIfInBounds_toArray, List.set_cons_zero, List.set_cons_succ])
  refine wpAnyH_take (i := 1) (oi := ⟨some 11, _, _, _, _, _⟩) (v := ?_) rfl (by kernel_rfl) (by kernel_rfl) (by kernel_rfl) (fun _ _ _ h => h) (Or.inl ⟨by rfl, ?_⟩) (by assumption) ?_
  rotate_left
  · intro w hSw; (try dsimp only at hSw); go_simp; try with_reducible rfl
  (try simp only [Act.put, List.setIfInBounds_toArray, List.set_cons_zero, List.set_cons_succ])
  refine wpAnyH_take (i := 3) (oi := ⟨some 13, _, _, _, _, _⟩) (v := ?_) rfl (by kernel_rfl) (by kernel_rfl) (by kernel_rfl) (fun _ _ _ h => h) (Or.inl ⟨by rfl, ?_⟩) (by assumption) ?_
  rotate_left
  · intro w hSw; (try dsimp only at hSw); go_simp; try with_reducible rfl
  (try simp only [Act.put, List.setIfInBounds_toArray, List.set_cons_zero, List.set_cons_succ])
  refine wpAnyH_take (i := 5) (oi := ⟨some 15, _, _, _, _, _⟩) (v := ?_) rfl (by kernel_rfl) (by kernel_rfl) (by kernel_rfl) (fun _ _ _ h => h) (Or.inl ⟨by rfl, ?_⟩) (by assumption) ?_
  rotate_left
  · intro w hSw; (try dsimp only at hSw); go_simp; try with_reducible rfl
  (try simp only [Act.put, List.setIfInBounds_toArray, List.set_cons_zero, List.set_cons_succ])
  refine wpAnyH_take (i := 6) (oi := ⟨some 16, _, _, _, _, _⟩) (v := ?_) rfl (by kernel_rfl) (by kernel_rfl) (by kernel_rfl) (fun _ _ _ h => h) (Or.inl ⟨by rfl, ?_⟩) (by assumption) ?_
  rotate_left
  · intro w hSw; (try dsimp only at hSw); go_simp; try with_reducible rfl
  (try simp only [Act.put, List.setIfInBounds_toArray, List.set_cons_zero, List.set_cons_succ])
  refine wpAnyH_take (i := 8) (oi := ⟨some 18, _, _, _, _, _⟩) (v := ?_) rfl (by kernel_rfl) (by kernel_rfl) (by kernel_rfl) (fun _ _ _ h => h) (Or.inl ⟨by rfl, ?_⟩) (by assumption) ?_
  rotate_left
  · intro w hSw; (try dsimp only at hSw); go_simp; try with_reducible rfl
  (try simp only [Act.put, List.setIfInBounds_toArray, List.set_cons_zero, List.set_cons_succ])
  refine wpAnyH_take (i := 9) (oi := ⟨some 19, _, _, _, _, _⟩) (v := ?_) rfl (by kernel_rfl) (by kernel_rfl) (by kernel_rfl) (fun _ _ _ h => h) (Or.inl ⟨by rfl, ?_⟩) (by assumption) ?_
  rotate_left
  · intro w hSw; (try dsimp only at hSw); go_simp; try with_reducible rfl
  (try simp only [Act.put, List.setIfInBounds_toArray, List.set_cons_zero, List.set_cons_succ])
  refine wpAnyH_take (i := 11) (oi := ⟨some 21, _, _, _, _, _⟩) (v := ?_) rfl (by kernel_rfl) (by kernel_rfl) (by kernel_rfl) (fun _ _ _ h => h) (Or.inl ⟨by rfl, ?_⟩) (by assumption) ?_
  rotate_left
  · intro w hSw; (try dsimp only at hSw); go_simp; try with_reducible rfl
  (try simp only [Act.put, List.setIfInBounds_toArray, List.set_cons_zero, List.set_cons_succ])
  refine wpAnyH_take (i := 2) (oi := ⟨some 12, _, _, _, _, _⟩) (v := ?_) rfl (by kernel_rfl) (by kernel_rfl) (by kernel_rfl) (fun _ _ _ h => h) (Or.inl ⟨by rfl, ?_⟩) (by assumption) ?_
  rotate_left
  · intro w hSw; (try dsimp only at hSw); go_simp; try with_reducible rfl
  (try simp only [Act.put, List.setIfInBounds_toArray, List.set_cons_zero, List.set_cons_succ])
  refine wpAnyH_take (i := 4) (oi := ⟨some 14, _, _, _, _, _⟩) (v := ?_) rfl (by kernel_rfl) (by kernel_rfl) (by kernel_rfl) (fun _ _ _ h => h) (Or.inl ⟨by rfl, ?_⟩) (by assumption) ?_
  rotate_left
  · intro w hSw; (try dsimp only at hSw); go_simp; try with_reducible rfl
  (try simp only [Act.put, List.setIfInBounds_toArray, List.set_cons_zero, List.set_cons_succ])
  refine wpAnyH_take (i := 12) (oi := ⟨some 22, _, _, _, _, _⟩) (v := ?_) rfl (by kernel_rfl) (by kernel_rfl) (by kernel_rfl) (fun _ _ _ h => h) (Or.inl ⟨by rfl, ?_⟩) (by assumption) ?_
  rotate_left
  · intro w hSw; (try dsimp only at hSw); go_simp; try with_reducible rfl
  (try simp only [Act.put, List.setIfInBounds_toArray, List.set_cons_zero, List.set_cons_succ])
  refine wpAnyH_ready (rs := [7]) (by kernel_rfl) (by simp) ?_
  refine (AllReadyH.cons (o := ⟨some 17, _, _, _, _, _⟩) rfl (fun K hK => ?_) AllReadyH.nil)
  rw [if_pos (by rfl)]
  go_simp
  go_at_call 48
  refine (isDevice_n p dev _).mono ?_
  rintro _ w_hA1 ⟨g0, g1, rfl, h4⟩
  have hA1 := St.call hX h4
  clear h4
  refine hK.out _ _ ?_ (fun hHeld => ?_)
  · exact ldS [_, _] hA1 (rfl)
  clear hK K
  (try simp only [Act.put, List.setIfInBounds_toArray, List.set_cons_zero, List.set_cons_succ])
  refine wpAnyH_ready (rs := [10]) (by kernel_rfl) (by simp) ?_
  refine (AllReadyH.cons (o := ⟨some 20, _, _, _, _, _⟩) rfl (fun K hK => ?_) AllReadyH.nil)
  rw [if_pos (by rfl)]
  go_simp
  go_at_call 45
  refine (isHere_n p dev _).mono ?_
  rintro _ w_hA2 ⟨k0, k1, rfl, h4⟩
  have hA2 := St.call hA1 h4
  clear h4
  refine hK.out _ _ ?_ (fun hHeld => ?_)
  · exact ldS [_, _, _, _] hA2 (rfl)
  clear hK K
  (try simp only [Act.put, List.setIfInBounds_toArray, List.set_cons_zero, List.set_cons_succ])
  refine wpAnyH_ready (rs := [13]) (by kernel_rfl) (by simp) ?_
  refine (AllReadyH.cons (o := ⟨some 23, _, _, _, _, _⟩) rfl (fun K hK => ?_) AllReadyH.nil)
  rw [if_pos (by rfl)]
  refine ow_of_wl (ops := #[]) (by rfl) ?_
  apply wl_bsX ([methV 38 (.pointer p), methV 39 (.pointer p), cloV 71 [ptrV g0, ptrV g1], cloV 69 [ptrV k0, ptrV k1], methV 46 (.pointer p)]) ([methV 38 (.pointer p), methV 39 (.pointer p), cloV 71 [ptrV g0, ptrV g1], cloV 69 [ptrV k0, ptrV k1], methV 46 (.pointer p)]) hA2
  rfl
  rfl
  exact rfl
  exact rfl
  infer_instance
  infer_instance
  rfl
  rfl
  rfl
  intro gs ws hA3
  refine q0_nil ?_
  refine hK.out _ _ ?_ (fun hHeld => ?_)
  · exact ldS [_, _, _, _, _] hA3 (rfl)
  clear hK K
  (try simp only [Act.put, List.setIfInBounds_toArray, List.set_cons_zero, List.set_cons_succ])
  refine wpAnyH_ready (rs := [14]) (by kernel_rfl) (by simp) ?_
  refine (AllReadyH.cons (o := ⟨some 24, _, _, _, _, _⟩) rfl (fun K hK => ?_) AllReadyH.nil)
  rw [if_pos (by rfl)]
  go_simp
  go_at_call 37; refine (checks_n (HN.out.later hA3) dev (v := .slice (some ⟨gs, 0, none⟩) 5 5) (n := 5) ([methV 39 (.pointer p), cloV 71 [ptrV g0, ptrV g1], cloV 69 [ptrV k0, ptrV k1]]) (methV 46 (.pointer p)) (Rd.blk hA3 (.head _) (Nat.le_refl _) (by decide) rfl rfl) rfl (by decide)).mono ?_; rintro _ w7 ⟨rfl, h4⟩; have hA4 := St.call0 hA3 h4; clear h4
  refine hK.out _ _ ?_ (fun hHeld => ?_)
  · exact ldS [_, _, _, _, _] hA4 (rfl)
  clear hK K
  (try simp only [Act.put, List.setIfInBounds_toArray, List.set_cons_zero, List.set_cons_succ])
  refine wpAnyH_take (i := 15) (oi := ⟨some 5, _, _, _, _, _⟩) (v := ?_) rfl (by kernel_rfl) (by kernel_rfl) (by kernel_rfl) (fun _ _ _ h => h) (Or.inl ⟨by rfl, ?_⟩) (by assumption) ?_
  rotate_left
  · intro w hSw; (try dsimp only at hSw); go_simp; try with_reducible rfl
  (try simp only [Act.put, List.setIfInBounds_toArray, List.set_cons_zero, List.set_cons_succ])
  refine wpAnyH_done (by kernel_rfl) ?_ _
  clear hHeld
  go_wp2_with (first | go_big_skip | go_big_guard | (go_at_call 42; refine (number_isE 1 dev (by unfold isE; decide) (by decide) _).mono ?_; rintro _ w8 ⟨rfl, h4⟩; have hst9 := St.call0 hA4 h4; clear h4 hA4))
  go_ret
  exact ⟨rfl, hst9.nil⟩
theorem pull_n {w : World} {p : Option Addr} (hN : NoneAt w p) (dev : Int) : Calls Try.prog 29 #[.pointer p, .int .i64 dev] w fun e w' => e = .returned (.int .i64 1) ∧ St w [] w' [] := by
  have hst := St.refl w
  have HN := hid hN
  have hmf := rmf
  clear hN
  go_enter Try.func29, Try.ntmps29
  go_wp2_with (first | go_big_skip | go_big_guard | (refine wl_box hst rfl rfl rfl ?_; intro g3 w1 hst1; clear hst) | (refine wl_box hst1 rfl rfl rfl ?_; intro g4 w2 hst2; clear hst1))
  have hX := hst2.drew
  clear hst2
  refine wp_region_held_drew (S := (fun w' => (loadVarH 3 ⟨g4, 0, none⟩).run Try.prog w' = .ok (.int .i64 dev) w' ∧ (loadVarH 24 ⟨g3, 0, none⟩).run Try.prog w' = .ok (.pointer p) w')) (by kernel_rfl) (by exact ⟨ldS [] hX (rfl), ldS [_] hX (rfl)⟩) (fun hHeld => ?_)
  refine wpAnyH_take (i := 0) (oi := ⟨some 5, _, _, _, _, _⟩) (v := ?_) rfl (by kernel_rfl) (by kernel_rfl) (by kernel_rfl) (fun _ _ _ h => h) (Or.inl ⟨by rfl, ?_⟩) (by assumption) ?_
  rotate_left
  · intro w hSw; (try dsimp only at hSw); go_simp; try with_reducible rfl
  (try simp only [Act.put, List.setIfInBounds_toArray, List.set_cons_zero, List.set_cons_succ])
  refine wpAnyH_take (i := 1) (oi := ⟨some 6, _, _, _, _, _⟩) (v := ?_) rfl (by kernel_rfl) (by kernel_rfl) (by kernel_rfl) (fun _ _ _ h => h) (Or.inl ⟨by rfl, ?_⟩) (by assumption) ?_
  rotate_left
  · intro w hSw; (try dsimp only at hSw); go_simp; try with_reducible rfl
  (try simp only [Act.put, List.setIfInBounds_toArray, List.set_cons_zero, List.set_cons_succ])
  refine wpAnyH_take (i := 2) (oi := ⟨some 7, _, _, _, _, _⟩) (v := ?_) rfl (by kernel_rfl) (by kernel_rfl) (by kernel_rfl) (fun _ _ _ h => h) (Or.inl ⟨by rfl, ?_⟩) (by assumption) ?_
  rotate_left
  · intro w hSw; (try dsimp only at hSw); go_simp; try with_reducible rfl
  (try simp only [Act.put, List.setIfInBounds_toArray, List.set_cons_zero, List.set_cons_succ])
  refine wpAnyH_take (i := 3) (oi := ⟨some 8, _, _, _, _, _⟩) (v := ?_) rfl (by kernel_rfl) (by kernel_rfl) (by kernel_rfl) (fun _ _ _ h => h) (Or.inl ⟨by rfl, ?_⟩) (by assumption) ?_
  rotate_left
  · intro w hSw; (try dsimp only at hSw); go_simp; try with_reducible rfl
  (try simp only [Act.put, List.setIfInBounds_toArray, List.set_cons_zero, List.set_cons_succ])
  refine wpAnyH_take (i := 4) (oi := ⟨some 9, _, _, _, _, _⟩) (v := ?_) rfl (by kernel_rfl) (by kernel_rfl) (by kernel_rfl) (fun _ _ _ h => h) (Or.inl ⟨by rfl, ?_⟩) (by assumption) ?_
  rotate_left
  · intro w hSw; (try dsimp only at hSw); go_simp; try with_reducible rfl
  (try simp only [Act.put, List.setIfInBounds_toArray, List.set_cons_zero, List.set_cons_succ])
  refine wpAnyH_ready (rs := [5]) (by kernel_rfl) (by simp) ?_
  refine (AllReadyH.cons (o := ⟨some 10, _, _, _, _, _⟩) rfl (fun K hK => ?_) AllReadyH.nil)
  rw [if_pos (by rfl)]
  go_simp
  go_at_call 48
  refine (isDevice_n p dev _).mono ?_
  rintro _ w_hA1 ⟨g0, g1, rfl, h4⟩
  have hA1 := St.call hX h4
  clear h4
  refine hK.out _ _ ?_ (fun hHeld => ?_)
  · exact ⟨ldS [_, _] hA1 (rfl), ldS [_, _, _] hA1 (rfl)⟩
  clear hK K
  (try simp only [Act.put, List.setIfInBounds_toArray, List.set_cons_zero, List.set_cons_succ])
  refine wpAnyH_ready (rs := [6]) (by kernel_rfl) (by simp) ?_
  refine (AllReadyH.cons (o := ⟨some 11, _, _, _, _, _⟩) rfl (fun K hK => ?_) AllReadyH.nil)
  rw [if_pos (by rfl)]
  refine ow_of_wl (ops := #[]) (by rfl) ?_
  apply wl_bsX ([cloV 71 [ptrV g0, ptrV g1]]) ([cloV 71 [ptrV g0, ptrV g1]]) hA1
  rfl
  rfl
  exact rfl
  exact rfl
  infer_instance
  infer_instance
  rfl
  rfl
  rfl
  intro gs ws hA2
  refine q0_nil ?_
  refine hK.out _ _ ?_ (fun hHeld => ?_)
  · exact ⟨ldS [_, _, _] hA2 (rfl), ldS [_, _, _, _] hA2 (rfl)⟩
  clear hK K
  (try simp only [Act.put, List.setIfInBounds_toArray, List.set_cons_zero, List.set_cons_succ])
  refine wpAnyH_ready (rs := [7]) (by kernel_rfl) (by simp) ?_
  refine (AllReadyH.cons (o := ⟨some 12, _, _, _, _, _⟩) rfl (fun K hK => ?_) AllReadyH.nil)
  rw [if_pos (by rfl)]
  go_simp
  go_at_call 54; refine (befalls_n (HN.out.later hA2) dev _ (.slice (some ⟨gs, 0, none⟩) 1 1) 1 ([cloV 71 [ptrV g0, ptrV g1]]) (Rd.blk hA2 (.head _) (Nat.le_refl _) (by decide) rfl rfl) rfl (by decide) rfl).mono ?_; rintro _ w8 ⟨rfl, h4⟩; have hA3 := St.call0 hA2 h4; clear h4
  refine hK.out _ _ ?_ (fun hHeld => ?_)
  · exact ⟨ldS [_, _, _] hA3 (rfl), ldS [_, _, _, _] hA3 (rfl)⟩
  clear hK K
  (try simp only [Act.put, List.setIfInBounds_toArray, List.set_cons_zero, List.set_cons_succ])
  refine wpAnyH_take (i := 8) (oi := ⟨some 4, _, _, _, _, _⟩) (v := ?_) rfl (by kernel_rfl) (by kernel_rfl) (by kernel_rfl) (fun _ _ _ h => h) (Or.inl ⟨by rfl, ?_⟩) (by assumption) ?_
  rotate_left
  · intro w hSw; (try dsimp only at hSw); go_simp; try with_reducible rfl
  (try simp only [Act.put, List.setIfInBounds_toArray, List.set_cons_zero, List.set_cons_succ])
  refine wpAnyH_done (by kernel_rfl) ?_ _
  clear hHeld
  go_wp2_with (first | go_big_skip | go_big_guard | fail)
  go_ret
  exact ⟨rfl, hA3.nil⟩
end
end Go.Proofs.Ytclleohpmgihaaa
namespace Go.Proofs.Ytclleohpmgihaaa
set_option linter.unusedVariables false
set_option linter.unusedSimpArgs false
open Go.RowKit Hp
attribute [local irreducible] Go.Calls Go.wpList
set_option maxRecDepth 100000
set_option maxHeartbeats 8000000
instance acSlA : TySl Try.prog 65 24 := ⟨by kernel_rfl⟩
instance acE : TyE Try.prog 51 7 88 := ⟨by kernel_rfl⟩
instance acEA : TyE Try.prog 24 1 8 := ⟨by kernel_rfl⟩
theorem acs_one (y : AC) : [y].flatMap AC.cells = y.cells := by rw [List.flatMap_cons, List.flatMap_nil, List.append_nil]
theorem narr_long (y : AC) (w : World) (hy : y.Ok w) (hs : ¬ shortC [y] 1) : Calls Try.prog 8 #[.agg (List.toArray y.cells)] w fun e w' => e = .returned (.bool true) ∧ St w [] w' [] := by
  have hst := St.refl w
  have HY := hid hy
  have HSH := hid hs
  clear hy hs
  go_enter Try.func8, Try.ntmps8
  go_wp2_with (first | go_big_skip | go_big_guard | (refine wl_boxA hst rfl rfl rfl ?_; intro g1 w1 hst1; clear hst) | (refine wl_loadE rfl rfl rfl ?_; refine ⟨_, Loads.atA (P := Try.prog) (T := 51) y.cells [] hst1 rfl rfl, ?_⟩) | (apply wl_bsX [.agg (List.toArray y.cells)] (y.cells) hst1; rfl; rfl; exact rfl; exact rfl; infer_instance; infer_instance; rfl; rfl; rfl; intro g2 w2 hst2; clear hst1) | (go_at_call 26; refine (longC_yes (some ⟨g2, 0, none⟩) 1 1 [y] _ (by rw [acs_one]; exact Rd.blk hst2 (.head _) (Nat.le_refl _) (by decide) rfl rfl) rfl (fun z hz => by rw [List.mem_singleton] at hz; rw [hz]; exact HY.out.old hst2) HSH.out).mono ?_; rintro _ w3 ⟨rfl, h4⟩; have hst3 := St.call0 hst2 h4; clear h4 hst2) | (go_at_call 9; refine (awake_any _).mono ?_; rintro _ w80 ⟨rfl, h4⟩; have hst9 := St.call0 hst3 h4; clear h4 hst3))
  go_ret
  exact ⟨rfl, hst9.nil⟩
theorem narr_short (y : AC) (w : World) (hy : y.Ok w) (hs : shortC [y] 1) : Calls Try.prog 8 #[.agg (List.toArray y.cells)] w fun e w' => e = .returned (.bool true) ∧ St w [] w' [] := by
  have hst := St.refl w
  have HY := hid hy
  have HSH := hid hs
  clear hy hs
  go_enter Try.func8, Try.ntmps8
  go_wp2_with (first | go_big_skip | go_big_guard | (refine wl_boxA hst rfl rfl rfl ?_; intro g1 w1 hst1; clear hst) | (refine wl_loadE rfl rfl rfl ?_; refine ⟨_, Loads.atA (P := Try.prog) (T := 51) y.cells [] hst1 rfl rfl, ?_⟩) | (apply wl_bsX [.agg (List.toArray y.cells)] (y.cells) hst1; rfl; rfl; exact rfl; exact rfl; infer_instance; infer_instance; rfl; rfl; rfl; intro g2 w2 hst2; clear hst1) | (go_at_call 26; refine (longC_no (some ⟨g2, 0, none⟩) 1 1 [y] _ (by rw [acs_one]; exact Rd.blk hst2 (.head _) (Nat.le_refl _) (by decide) rfl rfl) rfl (fun z hz => by rw [List.mem_singleton] at hz; rw [hz]; exact HY.out.old hst2) HSH.out).mono ?_; rintro _ w3 ⟨rfl, h4⟩; have hst3 := St.call0 hst2 h4; clear h4 hst2) | (refine wl_build0 rfl rfl ?_) | (refine wl_boxA hst3 rfl rfl rfl ?_; intro g4 w4 hst4; clear hst3) | (apply wl_bsX ([.pointer none, .pointer (some ⟨g4, 0, none⟩)]) ([.pointer none, .pointer (some ⟨g4, 0, none⟩)]) hst4; rfl; rfl; exact rfl; exact rfl; infer_instance; infer_instance; rfl; rfl; rfl; intro g5 w5 hst5; clear hst4))
  go_loopw [4] (fun i wr => ∃ m : Nat, m ≤ 2 ∧ i = .int .i64 (m : Int) ∧ St w [] wr (.blk g5 24 [.pointer none, .pointer (some ⟨g4, 0, none⟩)] :: .blk g4 64 [.slice none 0 0, .slice none 0 0, .int .i64 0, .bool false, .int .i64 0] :: .blk g2 51 y.cells :: .blk g1 51 y.cells :: [])) (fun i _ => 2 - (intOf i).toNat)
  case atStart => exact ⟨0, by decide, rfl, hst5⟩
  case round =>
    clear hst5
    obtain ⟨m, hm, rfl, hst⟩ := hrel
    by_cases hm2 : m = 2
    · subst hm2
      go_wp2_with (first | go_big_skip | go_big_guard | (go_at_call 9; refine (awake_any _).mono ?_; rintro _ w80 ⟨rfl, h4⟩; have hst9 := St.call0 hst h4; clear h4 hst))
      go_ret
      exact ⟨rfl, hst9.nil⟩
    · by_cases hm0 : m = 0
      · subst hm0
        go_wp2_with (first | go_big_skip | go_big_guard | (refine wl_loadE rfl rfl rfl ?_; first | refine ⟨_, Loads.at [] hst rfl, ?_⟩ | refine ⟨_, Loads.at [_, _, _] hst rfl, ?_⟩) | (go_at_call 24; refine (read_n (.inl rfl) y.dev y.pl).mono ?_; rintro _ w9 ⟨rfl, h4⟩; replace hst := St.call0 hst h4; clear h4) | (go_at_call 32; refine (peek_n (.inl rfl) y.dev y.pl).mono ?_; rintro _ w9 ⟨rfl, h4⟩; replace hst := St.call0 hst h4; clear h4) | (go_at_call 13; refine (write_n (.inl rfl) y.dev y.pl y.bo y.bn y.bc).mono ?_; rintro _ w9 ⟨rfl, h4⟩; replace hst := St.call0 hst h4; clear h4) | (go_at_call 15; refine (flush_n (.inl rfl) y.dev).mono ?_; rintro _ w9 ⟨rfl, h4⟩; replace hst := St.call0 hst h4; clear h4) | (go_at_call 12; refine (fuse_n (.inl rfl) y.n).mono ?_; rintro _ w9 ⟨rfl, h4⟩; replace hst := St.call0 hst h4; clear h4) | (go_at_call 18; refine (crash_n (.inl rfl) _ y.n).mono ?_; rintro _ w9 ⟨rfl, h4⟩; replace hst := St.call0 hst h4; clear h4) | (go_at_call 28; refine (spoil_n (.inl rfl) y.dev y.pl y.n y.mask).mono ?_; rintro _ w9 ⟨rfl, h4⟩; replace hst := St.call0 hst h4; clear h4) | (go_at_call 21; refine (lose_n (.inl rfl) y.dev).mono ?_; rintro _ w9 ⟨rfl, h4⟩; replace hst := St.call0 hst h4; clear h4) | (go_at_call 22; refine (stray_n (.inl rfl) y.dev y.pl).mono ?_; rintro _ w9 ⟨rfl, h4⟩; replace hst := St.call0 hst h4; clear h4) | (go_at_call 23; refine (fail_n (.inl rfl) y.dev y.n).mono ?_; rintro _ w9 ⟨rfl, h4⟩; replace hst := St.call0 hst h4; clear h4) | (go_at_call 29; refine (pull_n (.inl rfl) y.dev).mono ?_; rintro _ w9 ⟨rfl, h4⟩; replace hst := St.call0 hst h4; clear h4) | (go_at_call 30; refine (fit_n (.inl rfl) y.dev).mono ?_; rintro _ w9 ⟨rfl, h4⟩; replace hst := St.call0 hst h4; clear h4) | (go_at_call 35; refine (devs_n (.inl rfl) ).mono ?_; rintro _ w9 ⟨rfl, h4⟩; replace hst := St.call0 hst h4; clear h4) | (go_at_call 36; refine (sectors_n (.inl rfl) ).mono ?_; rintro _ w9 ⟨rfl, h4⟩; replace hst := St.call0 hst h4; clear h4) | (go_at_call 16; refine (loose_n (.inl rfl) ).mono ?_; rintro _ w9 ⟨rfl, h4⟩; replace hst := St.call0 hst h4; clear h4) | (go_at_call 17; refine (steps_n (.inl rfl) ).mono ?_; rintro _ w9 ⟨rfl, h4⟩; replace hst := St.call0 hst h4; clear h4) | (go_at_call 19; refine (up_n (.inl rfl) y.dev).mono ?_; rintro _ w9 ⟨rfl, h4⟩; replace hst := St.call0 hst h4; clear h4))
        go_roundw
        case rel => exact ⟨1, by decide, rfl, hst⟩
        case measure => simp [intOf]
      · obtain rfl : m = 1 := by omega
        go_wp2_with (first | go_big_skip | go_big_guard | (refine wl_loadE rfl rfl rfl ?_; first | refine ⟨_, Loads.at [] hst rfl, ?_⟩ | refine ⟨_, Loads.at [_, _, _] hst rfl, ?_⟩) | (go_at_call 24; refine (read_n (.inr ⟨g4, rfl, St.cell hst (off := 0) (.tail _ (.head _)) rfl⟩) y.dev y.pl).mono ?_; rintro _ w9 ⟨rfl, h4⟩; replace hst := St.call0 hst h4; clear h4) | (go_at_call 32; refine (peek_n (.inr ⟨g4, rfl, St.cell hst (off := 0) (.tail _ (.head _)) rfl⟩) y.dev y.pl).mono ?_; rintro _ w9 ⟨rfl, h4⟩; replace hst := St.call0 hst h4; clear h4) | (go_at_call 13; refine (write_n (.inr ⟨g4, rfl, St.cell hst (off := 0) (.tail _ (.head _)) rfl⟩) y.dev y.pl y.bo y.bn y.bc).mono ?_; rintro _ w9 ⟨rfl, h4⟩; replace hst := St.call0 hst h4; clear h4) | (go_at_call 15; refine (flush_n (.inr ⟨g4, rfl, St.cell hst (off := 0) (.tail _ (.head _)) rfl⟩) y.dev).mono ?_; rintro _ w9 ⟨rfl, h4⟩; replace hst := St.call0 hst h4; clear h4) | (go_at_call 12; refine (fuse_n (.inr ⟨g4, rfl, St.cell hst (off := 0) (.tail _ (.head _)) rfl⟩) y.n).mono ?_; rintro _ w9 ⟨rfl, h4⟩; replace hst := St.call0 hst h4; clear h4) | (go_at_call 18; refine (crash_n (.inr ⟨g4, rfl, St.cell hst (off := 0) (.tail _ (.head _)) rfl⟩) _ y.n).mono ?_; rintro _ w9 ⟨rfl, h4⟩; replace hst := St.call0 hst h4; clear h4) | (go_at_call 28; refine (spoil_n (.inr ⟨g4, rfl, St.cell hst (off := 0) (.tail _ (.head _)) rfl⟩) y.dev y.pl y.n y.mask).mono ?_; rintro _ w9 ⟨rfl, h4⟩; replace hst := St.call0 hst h4; clear h4) | (go_at_call 21; refine (lose_n (.inr ⟨g4, rfl, St.cell hst (off := 0) (.tail _ (.head _)) rfl⟩) y.dev).mono ?_; rintro _ w9 ⟨rfl, h4⟩; replace hst := St.call0 hst h4; clear h4) | (go_at_call 22; refine (stray_n (.inr ⟨g4, rfl, St.cell hst (off := 0) (.tail _ (.head _)) rfl⟩) y.dev y.pl).mono ?_; rintro _ w9 ⟨rfl, h4⟩; replace hst := St.call0 hst h4; clear h4) | (go_at_call 23; refine (fail_n (.inr ⟨g4, rfl, St.cell hst (off := 0) (.tail _ (.head _)) rfl⟩) y.dev y.n).mono ?_; rintro _ w9 ⟨rfl, h4⟩; replace hst := St.call0 hst h4; clear h4) | (go_at_call 29; refine (pull_n (.inr ⟨g4, rfl, St.cell hst (off := 0) (.tail _ (.head _)) rfl⟩) y.dev).mono ?_; rintro _ w9 ⟨rfl, h4⟩; replace hst := St.call0 hst h4; clear h4) | (go_at_call 30; refine (fit_n (.inr ⟨g4, rfl, St.cell hst (off := 0) (.tail _ (.head _)) rfl⟩) y.dev).mono ?_; rintro _ w9 ⟨rfl, h4⟩; replace hst := St.call0 hst h4; clear h4) | (go_at_call 35; refine (devs_n (.inr ⟨g4, rfl, St.cell hst (off := 0) (.tail _ (.head _)) rfl⟩) ).mono ?_; rintro _ w9 ⟨rfl, h4⟩; replace hst := St.call0 hst h4; clear h4) | (go_at_call 36; refine (sectors_n (.inr ⟨g4, rfl, St.cell hst (off := 0) (.tail _ (.head _)) rfl⟩) ).mono ?_; rintro _ w9 ⟨rfl, h4⟩; replace hst := St.call0 hst h4; clear h4) | (go_at_call 16; refine (loose_n (.inr ⟨g4, rfl, St.cell hst (off := 0) (.tail _ (.head _)) rfl⟩) ).mono ?_; rintro _ w9 ⟨rfl, h4⟩; replace hst := St.call0 hst h4; clear h4) | (go_at_call 17; refine (steps_n (.inr ⟨g4, rfl, St.cell hst (off := 0) (.tail _ (.head _)) rfl⟩) ).mono ?_; rintro _ w9 ⟨rfl, h4⟩; replace hst := St.call0 hst h4; clear h4) | (go_at_call 19; refine (up_n (.inr ⟨g4, rfl, St.cell hst (off := 0) (.tail _ (.head _)) rfl⟩) y.dev).mono ?_; rintro _ w9 ⟨rfl, h4⟩; replace hst := St.call0 hst h4; clear h4))
        go_roundw
        case rel => exact ⟨2, by decide, rfl, hst⟩
        case measure => simp [intOf]
theorem none_law (y : AC) (w : World) (hy : y.Ok w) : Calls Try.prog 8 #[.agg (List.toArray y.cells)] w fun e w' => e = .returned (.bool true) ∧ St w [] w' [] := by
  by_cases hs : shortC [y] 1
  · exact narr_short y w hy hs
  · exact narr_long y w hy hs
end Go.Proofs.Ytclleohpmgihaaa
namespace Go.Proofs.Ytclleohpmgihaaa
set_option linter.unusedVariables false
set_option linter.unusedSimpArgs false
open Go.ChangeShapes Go.WideShapes Go.ChangeAt Go.RowKit Hp
set_option maxRecDepth 100000 in
theorem arrayNone_lifted (os : Os) (started : os.Started) (H : Type) (enc : TypeId × Value → H) :
    ReturnsInHanded {} Try.checked os 8 .any (Rows.arrayNoneSpec.pre6 enc Try.prog Try.f8 Rows.arrayNoneRow.domain false) (Rows.arrayNoneSpec.post enc Try.prog Try.f8 false true false false) := by
  refine returnsInHanded_of_change (C := Try.checked) own started (by kernel_rfl) Try.func8
    (ChangeSpec.witness6 (enc := enc) (C := Try.checked) false ⟨#[], #[.agg #[.int .i64 0, .int .i64 0, .int .i64 0, .int .i64 0, .int .u8 0, .slice none 0 0, .slice none 0 0]], []⟩ 8 (by kernel_rfl) (by kernel_rfl) (by kernel_rfl) (by kernel_rfl)) ?_
  intro W base args ds gs before hval0 hW hcnd _
  have hval : ∀ (j : Nat) t v, Try.f8.params[j]? = some t → args[j]? = some v → Value.okWide Try.prog W .any base t v := hval0
  have hW' := hW
  obtain ⟨p, q, hAA0, hV, rfl, hfz, hnd⟩ := hW
  have hA : DataW.TrodAll enc Try.prog W 0 (fun _ => true) true Try.f8.params.toList args.toList ds p := hAA0
  rw [Try.params8] at hA hval
  have hk := hA
  obtain ⟨v0, d0, rfl, rfl, h0⟩ := trodAll_one hA
  obtain ⟨rfl, rfl⟩ := trodVars_none hV
  obtain ⟨n0, h0⟩ := h0
  obtain ⟨x0, rfl, hx0⟩ := open_actV (hval 0 _ v0 rfl rfl) h0
  clear hAA0 hval0
  simp only [List.append_nil] at hW'
  refine (none_law x0 W hx0).mono fun e W' ⟨he, hg⟩ => ?_
  subst he
  exact ⟨_, rfl, post_of_kept (pv := []) hW' (fun _ _ _ => (trodAll_cons_mk (shut_bool Try.underlying4 _) trodAll_mk0)) (fun sp hsp => by
      rw [Try.params8]
      exact args_kept (by decide) hk hg.below (fun p hp => hW'.lt p hp) sp hsp) (fun _ _ => rfl) (by simp)
    (hg.below.frame _)⟩
theorem arrayNone_over : Rows.arrayNoneRow.holds Try.pinned (OpenSpec.ofChange Rows.arrayNoneSpec) :=
  OpenClaim.holds_of_wide 8 Try.f8 rfl rfl rfl rfl rfl rfl rfl ⟨rfl, rfl, rfl, rfl, rfl⟩ rfl rfl rfl rfl rfl (by kernel_rfl) Try.func8 (by kernel_rfl)
    (of_decide_eq_true (by kernel_rfl)) (by unfold Func.isWrapper; first | (rw [if_pos (by decide +kernel)]; kernel_rfl) | (rw [if_neg (by decide +kernel)]; exact ⟨rfl, rfl⟩))
    (fun os started H enc _ => arrayNone_lifted os started H enc)

theorem arrayNone_proved : Rows.ArrayNoneSaid :=
  arrayNone_over
end Go.Proofs.Ytclleohpmgihaaa
