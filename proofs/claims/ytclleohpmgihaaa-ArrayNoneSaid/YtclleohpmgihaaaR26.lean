/- The chapter's examples that every statement asks first. -/
import Derived.Test.YtclleohpmgihaaaR25
namespace Go.Proofs.Ytclleohpmgihaaa
set_option linter.unusedVariables false
set_option linter.unusedSimpArgs false
open Go.RowKit Hp
attribute [local irreducible] Go.Calls Go.wpList
set_option maxRecDepth 100000
set_option maxHeartbeats 4000000
def BB (b : UInt8) : List UInt8 := List.replicate 256 b
theorem BB_len (b : UInt8) : (BB b).length = 256 := List.length_replicate
def K0 (p q : Nat) : AR := newA 8 [p, q]
def K1 (p q : Nat) : AR := (K0 p q).write 0 5 (BB 1)
def K2 (p q : Nat) : AR := (K1 p q).crash [] 0
def K3 (p q : Nat) : AR := (K2 p q).write 0 5 (BB 1)
def K4 (p q : Nat) : AR := (K3 p q).flush 0
def K5 (p q : Nat) : AR := (K4 p q).lose 0
def K6 (p q : Nat) : AR := (K5 p q).write 0 5 (BB 2)
theorem K0_ok (p q : Nat) : (K0 p q).Ok := newA_ok ⟨by show 1 ≤ 2; decide, by show 2 ≤ 8; decide⟩ (by decide)
theorem K1_ok (p q : Nat) : (K1 p q).Ok := (K0_ok p q).write _ _ _
theorem K2_ok (p q : Nat) : (K2 p q).Ok := (K1_ok p q).crash _ _
theorem K3_ok (p q : Nat) : (K3 p q).Ok := (K2_ok p q).write _ _ _
theorem K4_ok (p q : Nat) : (K4 p q).Ok := (K3_ok p q).flush _
theorem K5_ok (p q : Nat) : (K5 p q).Ok := (K4_ok p q).lose _
theorem K6_ok (p q : Nat) : (K6 p q).Ok := (K5_ok p q).write _ _ _
theorem K0_ll (p q : Nat) : (K0 p q).loose.length = 0 := by kernel_rfl
theorem K0_st (p q : Nat) : (K0 p q).steps = 0 := by kernel_rfl
theorem K1_ll (p q : Nat) : (K1 p q).loose.length = 1 := by kernel_rfl
theorem K1_st (p q : Nat) : (K1 p q).steps = 1 := by kernel_rfl
theorem K2_ll (p q : Nat) : (K2 p q).loose.length = 0 := by kernel_rfl
theorem K2_st (p q : Nat) : (K2 p q).steps = 1 := by kernel_rfl
theorem K3_ll (p q : Nat) : (K3 p q).loose.length = 1 := by kernel_rfl
theorem K3_st (p q : Nat) : (K3 p q).steps = 2 := by kernel_rfl
theorem K4_ll (p q : Nat) : (K4 p q).loose.length = 0 := by kernel_rfl
theorem K4_st (p q : Nat) : (K4 p q).steps = 3 := by kernel_rfl
theorem K5_ll (p q : Nat) : (K5 p q).loose.length = 0 := by kernel_rfl
theorem K5_st (p q : Nat) : (K5 p q).steps = 3 := by kernel_rfl
theorem K6_ll (p q : Nat) : (K6 p q).loose.length = 0 := by kernel_rfl
theorem K6_st (p q : Nat) : (K6 p q).steps = 4 := by kernel_rfl
theorem K0_w (p q : Nat) : (K0 p q).writeE 0 5 (BB 1) = 0 := by kernel_rfl
theorem K2_w (p q : Nat) : (K2 p q).writeE 0 5 (BB 1) = 0 := by kernel_rfl
theorem K5_w (p q : Nat) : (K5 p q).writeE 0 5 (BB 2) = 0 := by kernel_rfl
theorem K1_r (p q : Nat) : ((K1 p q).readE 0 5 == 0 && (K1 p q).readB 0 5 == BB 1) = true := by kernel_rfl
theorem K1_rr (p q : Nat) : (K1 p q).read 0 5 = K1 p q := by kernel_rfl
theorem K2_r (p q : Nat) : ((K2 p q).readE 0 5 == 0 && (K2 p q).readB 0 5 == BB 0) = true := by kernel_rfl
theorem K2_rr (p q : Nat) : (K2 p q).read 0 5 = K2 p q := by kernel_rfl
theorem K6_r (p q : Nat) : ((K6 p q).readE 0 5 == 0 && (K6 p q).readB 0 5 == BB 1) = true := by kernel_rfl
theorem K6_rr (p q : Nat) : (K6 p q).read 0 5 = K6 p q := by kernel_rfl
theorem K1_c (p q : Nat) : (K1 p q).crashE 0 = 0 := by kernel_rfl
theorem K3_f (p q : Nat) : (K3 p q).flushE 0 = 0 := by kernel_rfl
theorem K4_l (p q : Nat) : (K4 p q).loseE 0 = 0 := by kernel_rfl
theorem awake_any (w : World) : Calls Try.prog 9 #[] w fun e w' => e = .returned (.bool true) ∧ St w [] w' [] := by
  have hst := St.refl w
  go_enter Try.func9, Try.ntmps9
  go_wp2_with (first | go_big_skip | go_big_guard | (go_at_call 10; refine (made2_any _).mono ?_; rintro _ w0 ⟨ga, x0, gs, rfl, hg, h4⟩; obtain ⟨p, q, rfl⟩ : ∃ p q, gs = [p, q] := (match gs, hg with | [p, q], _ => ⟨p, q, rfl⟩); have hs0 : St w [] w0 (arP ga x0 (K0 p q) ++ []) := St.call hst h4; clear h4 hg hst) | (go_at_call 14; refine (of_any 1 _).mono ?_; rintro _ w1 ⟨g1, rfl, h4⟩; have hs1 := St.behind (A := arP ga x0 (K0 p q)) (St.call hs0 h4); clear h4 hs0) | (go_at_call 13; refine (writeM_any (St.arr hs1) (K0_ok p q) (by rw [K0_st]; decide) (by rw [K0_ll]; decide) 0 5 (some ⟨g1, 0, none⟩) 256 256 (BB 1) (Rd.blk hs1 (List.mem_append_right _ (.head _)) (Nat.le_refl _) (by decide) (by rw [length_bytesV]; exact BB_len 1) (by rw [List.drop_zero]; exact List.take_length)) (BB_len 1) (off_behind hs1 (.head _) 0 256 256)).mono ?_; rw [K0_w]; rintro _ w2 ⟨rfl, x2, h4⟩; have hs2 : St w [] w2 (arP ga x2 (K1 p q) ++ _) := St.callF (arP ga x0 (K0 p q)) hs1 h4; clear h4 hs1) | (go_at_call 14; refine (of_any 1 _).mono ?_; rintro _ w3 ⟨g3, rfl, h4⟩; have hs3 := St.behind (A := arP ga x2 (K1 p q)) (St.call hs2 h4); clear h4 hs2) | (go_at_call 25; refine (reads_any (St.arr hs3) (K1_ok p q) (by rw [K1_ll]; decide) 0 5 (.slice (some ⟨g3, 0, none⟩) 256 256) 256 (BB 1) (Rd.blk hs3 (List.mem_append_right _ (.head _)) (Nat.le_refl _) (by decide) (by rw [length_bytesV]; exact BB_len 1) (by rw [List.drop_zero]; exact List.take_length)) (BB_len 1) (off_behind hs3 (.head _) 0 256 256)).mono ?_; rw [K1_r, K1_rr]; rintro _ w4 ⟨rfl, h4⟩; have hs4 : St w [] w4 (arP ga x2 (K1 p q) ++ _) := St.callF (arP ga x2 (K1 p q)) hs3 h4; clear h4 hs3) | (go_at_call 16; refine (loose_any (ArrAll.of hs4 (fun p hp => List.mem_append_left _ hp) (K1_ok p q).d0)).mono ?_; rw [K1_ll]; rintro _ w5 ⟨rfl, h4⟩; have hs5 := St.call0 hs4 h4; clear h4 hs4) | (go_at_call 18; refine (crashM_any (St.arr hs5) (K1_ok p q) (by rw [K1_ll]; decide) none 0 0 [] (Rd.nil _ _) rfl (Off.nil _ _ _) 0).mono ?_; rw [K1_c]; rintro _ w6 ⟨rfl, x6, h4⟩; have hs6 : St w [] w6 (arP ga x6 (K2 p q) ++ _) := St.callF (arP ga x2 (K1 p q)) hs5 h4; clear h4 hs5) | (go_at_call 14; refine (of_any 0 _).mono ?_; rintro _ w7 ⟨g7, rfl, h4⟩; have hs7 := St.behind (A := arP ga x6 (K2 p q)) (St.call hs6 h4); clear h4 hs6) | (go_at_call 25; refine (reads_any (St.arr hs7) (K2_ok p q) (by rw [K2_ll]; decide) 0 5 (.slice (some ⟨g7, 0, none⟩) 256 256) 256 (BB 0) (Rd.blk hs7 (List.mem_append_right _ (.head _)) (Nat.le_refl _) (by decide) (by rw [length_bytesV]; exact BB_len 0) (by rw [List.drop_zero]; exact List.take_length)) (BB_len 0) (off_behind hs7 (.head _) 0 256 256)).mono ?_; rw [K2_r, K2_rr]; rintro _ w8 ⟨rfl, h4⟩; have hs8 : St w [] w8 (arP ga x6 (K2 p q) ++ _) := St.callF (arP ga x6 (K2 p q)) hs7 h4; clear h4 hs7) | (go_at_call 14; refine (of_any 1 _).mono ?_; rintro _ w9 ⟨g9, rfl, h4⟩; have hs9 := St.behind (A := arP ga x6 (K2 p q)) (St.call hs8 h4); clear h4 hs8) | (go_at_call 13; refine (writeM_any (St.arr hs9) (K2_ok p q) (by rw [K2_st]; decide) (by rw [K2_ll]; decide) 0 5 (some ⟨g9, 0, none⟩) 256 256 (BB 1) (Rd.blk hs9 (List.mem_append_right _ (.head _)) (Nat.le_refl _) (by decide) (by rw [length_bytesV]; exact BB_len 1) (by rw [List.drop_zero]; exact List.take_length)) (BB_len 1) (off_behind hs9 (.head _) 0 256 256)).mono ?_; rw [K2_w]; rintro _ w10 ⟨rfl, x10, h4⟩; have hs10 : St w [] w10 (arP ga x10 (K3 p q) ++ _) := St.callF (arP ga x6 (K2 p q)) hs9 h4; clear h4 hs9) | (go_at_call 15; refine (flushM_any (St.arr hs10) (K3_ok p q) (by rw [K3_st]; decide) (by rw [K3_ll]; decide) 0).mono ?_; rw [K3_f]; rintro _ w11 ⟨rfl, x11, h4⟩; have hs11 : St w [] w11 (arP ga x11 (K4 p q) ++ _) := St.callF (arP ga x10 (K3 p q)) hs10 h4; clear h4 hs10) | (go_at_call 21; refine (loseM_any (St.arr hs11) (K4_ok p q) 0).mono ?_; rw [K4_l]; rintro _ w12 ⟨rfl, h4⟩; have hs12 : St w [] w12 (arP ga x11 (K5 p q) ++ _) := St.callF (arP ga x11 (K4 p q)) hs11 h4; clear h4 hs11) | (go_at_call 14; refine (of_any 2 _).mono ?_; rintro _ w13 ⟨g13, rfl, h4⟩; have hs13 := St.behind (A := arP ga x11 (K5 p q)) (St.call hs12 h4); clear h4 hs12) | (go_at_call 13; refine (writeM_any (St.arr hs13) (K5_ok p q) (by rw [K5_st]; decide) (by rw [K5_ll]; decide) 0 5 (some ⟨g13, 0, none⟩) 256 256 (BB 2) (Rd.blk hs13 (List.mem_append_right _ (.head _)) (Nat.le_refl _) (by decide) (by rw [length_bytesV]; exact BB_len 2) (by rw [List.drop_zero]; exact List.take_length)) (BB_len 2) (off_behind hs13 (.head _) 0 256 256)).mono ?_; rw [K5_w]; rintro _ w14 ⟨rfl, x14, h4⟩; have hs14 : St w [] w14 (arP ga x14 (K6 p q) ++ _) := St.callF (arP ga x11 (K5 p q)) hs13 h4; clear h4 hs13) | (go_at_call 14; refine (of_any 1 _).mono ?_; rintro _ w15 ⟨g15, rfl, h4⟩; have hs15 := St.behind (A := arP ga x14 (K6 p q)) (St.call hs14 h4); clear h4 hs14) | (go_at_call 25; refine (reads_any (St.arr hs15) (K6_ok p q) (by rw [K6_ll]; decide) 0 5 (.slice (some ⟨g15, 0, none⟩) 256 256) 256 (BB 1) (Rd.blk hs15 (List.mem_append_right _ (.head _)) (Nat.le_refl _) (by decide) (by rw [length_bytesV]; exact BB_len 1) (by rw [List.drop_zero]; exact List.take_length)) (BB_len 1) (off_behind hs15 (.head _) 0 256 256)).mono ?_; rw [K6_r, K6_rr]; rintro _ w16 ⟨rfl, h4⟩; have hs16 : St w [] w16 (arP ga x14 (K6 p q) ++ _) := St.callF (arP ga x14 (K6 p q)) hs15 h4; clear h4 hs15) | (go_at_call 17; refine (steps_any (ArrAt.of hs16 (fun p hp => List.mem_append_left _ hp) (K6_ok p q).d0)).mono ?_; rw [K6_st]; rintro _ w17 ⟨rfl, h4⟩; have hs17 := St.call0 hs16 h4; clear h4 hs16))
  go_ret
  exact ⟨rfl, hs17.nil⟩
end Go.Proofs.Ytclleohpmgihaaa
