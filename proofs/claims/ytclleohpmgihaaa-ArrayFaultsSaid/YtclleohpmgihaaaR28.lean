/- ArrayFaults: the walk. -/
import Derived.Test.YtclleohpmgihaaaR27
import Derived.Test.YtclleohpmgihaaaKP
namespace Go.Proofs.Ytclleohpmgihaaa
set_option linter.unusedVariables false
set_option linter.unusedSimpArgs false
open Go.RowKit Hp
attribute [local irreducible] Go.Calls Go.wpList
set_option maxRecDepth 100000
set_option maxHeartbeats 4000000
theorem dv_upd_firm (a : AR) (dev e : Int) {f : DV → DV} (hf : ∀ d, (f d).firm = d.firm) : ((a.upd dev f).dv e).firm = (a.dv e).firm := by
  unfold AR.dv AR.upd
  rw [List.getD_eq_getElem?_getD, List.getD_eq_getElem?_getD, modify_get]
  split
  · cases a.devs[e.toNat]? with
    | none => rfl
    | some d => exact hf d
  · rfl
theorem upd_tells (a : AR) (dev : Int) {f : DV → DV} (hf : ∀ d, (f d).firm = d.firm) (e pl : Int) : (a.upd dev f).tells e pl = a.tells e pl := by
  unfold AR.tells
  rw [dv_upd_firm a dev e hf]
  rfl
section
variable {p q i j : Nat} {b c : UInt8} (hi : i < 8) (hj : j < 8)
include hi hj
theorem Q7_d (n : Int) : (Q7 p q i j b c n).inD 0 = true := by unfold Q7; rw [upd_inD]; exact Q6_d p q i j b c hi hj
theorem Q7_S (n pl : Int) : (Q7 p q i j b c n).inS 0 pl = (Q6 p q i j b c).inS 0 pl := by
  unfold AR.inS
  rw [Q7_d hi hj, Q6_d p q i j b c hi hj]
  unfold Q7
  rw [upd_secs (Q6_d p q i j b c hi hj) rfl]
theorem Q7_dv (n : Int) : (Q7 p q i j b c n).dv 0 = fFail n ((Q6 p q i j b c).dv 0) := upd_dv (Q6_d p q i j b c hi hj)
theorem Q7_ok {n : Int} (hn : 0 ≤ n ∧ n ≤ 9223372036854775807) : (Q7 p q i j b c n).Ok := by
  have h := (Q6_ok p q i j b c).dv (Q6_d p q i j b c hi hj)
  exact (Q6_ok p q i j b c).upd (Q6_d p q i j b c hi hj) ⟨h.1, h.2.1, h.2.2.1, hn.1, hn.2⟩
theorem Q7_n (n : Int) : (Q7 p q i j b c n).loose.length = 3 := Q6_n p q i j b c hi hj
theorem Q7_up (n : Int) : (Q7 p q i j b c n).up 0 = true := by
  unfold AR.up
  rw [Q7_d hi hj, Q7_dv hi hj]
  show ((!(Q6 p q i j b c).out && true) && !((Q6 p q i j b c).dv 0).gone) = true
  rw [Q6_o p q i j b c hi hj, Q6_g p q i j b c hi hj]
  rfl
theorem Q7_E {n : Int} {pl : Int} (hs : (Q6 p q i j b c).inS 0 pl = true) : (Q7 p q i j b c n).readE 0 pl = if 0 < n then 13 else 0 := by
  have h0 : (Q7 p q i j b c n).devs ≠ [] := by
    intro h
    have := (inD_dev (Q7_d (p := p) (q := q) (b := b) (c := c) hi hj n)).2
    rw [h] at this
    simp at this
  unfold AR.readE
  rw [if_neg h0, Q7_S hi hj, hs, Q7_dv hi hj]
  show (if (Q6 p q i j b c).out then (10 : Int) else if true = false then 5 else if ((Q6 p q i j b c).dv 0).gone then 14 else if 0 < n then 13 else 0) = _
  rw [Q6_o p q i j b c hi hj, Q6_g p q i j b c hi hj]
  rfl
theorem Q7_R {n : Int} {pl : Int} (hs : (Q6 p q i j b c).inS 0 pl = true) (hn : 0 < n) : (Q7 p q i j b c n).read 0 pl = Q7 p q i j b c (n - 1) := by
  unfold AR.read
  rw [Q7_E hi hj hs, if_pos hn, if_pos rfl]
  unfold Q7
  rw [upd_upd]
  rfl
theorem Q7_R0 {pl : Int} (hs : (Q6 p q i j b c).inS 0 pl = true) : (Q7 p q i j b c 0).read 0 pl = Q7 p q i j b c 0 := by
  unfold AR.read
  rw [Q7_E hi hj hs]
  rfl
theorem Q7_B {n : Int} {pl : Int} (hs : (Q6 p q i j b c).inS 0 pl = true) (hn : 0 < n) : (Q7 p q i j b c n).readB 0 pl = [] := by
  unfold AR.readB
  rw [Q7_E hi hj hs, if_pos hn]
  rfl
theorem Q7_t (n pl : Int) : (Q7 p q i j b c n).tells 0 pl = (Q6 p q i j b c).tells 0 pl := by
  have _ := hi
  have _ := hj
  unfold Q7
  exact upd_tells (Q6 p q i j b c) 0 (f := fFail n) (fun d => by unfold fFail; rfl) 0 pl
theorem Q7_rd {pl : Int} {l : List UInt8} (hs : (Q6 p q i j b c).inS 0 pl = true) (hl : (Q6 p q i j b c).tells 0 pl = l) : ((Q7 p q i j b c 0).readE 0 pl == 0 && (Q7 p q i j b c 0).readB 0 pl == l) = true := by
  have hE : (Q7 p q i j b c 0).readE 0 pl = 0 := Q7_E hi hj hs
  unfold AR.readB
  rw [hE, if_pos rfl, Q7_t hi hj, hl, beq_self_eq_true, beq_self_eq_true]
  rfl
theorem Q7_pk (n : Int) : ((Q7 p q i j b c n).peekB 0 (i : Int) && (Q7 p q i j b c n).peekL 0 (i : Int) == BB b) = true := by
  have hB : (Q7 p q i j b c n).peekB 0 (i : Int) = true := by
    unfold AR.peekB
    rw [Q7_up hi hj, Q7_S hi hj, Q6_i p q i j b c hi hj]
    rfl
  unfold AR.peekL
  rw [hB, if_pos rfl, Q7_t hi hj, Q6_ti p q i j b c hi hj, beq_self_eq_true]
  rfl
theorem Q6_f {n : Int} (hn : 0 ≤ n) : (Q6 p q i j b c).failsE 0 n = 0 ∧ (Q6 p q i j b c).fails 0 n = Q7 p q i j b c n := by
  unfold AR.failsE AR.fails AR.fellE AR.fell
  rw [Q6_d p q i j b c hi hj, Q6_g p q i j b c hi hj, decide_eq_true hn]
  exact ⟨rfl, rfl⟩
end
theorem pk_eq {B : Bool} {L l : List UInt8} (h1 : B = true) (h2 : L = l) : (B && L == l) = true := by rw [h1, h2, beq_self_eq_true]; rfl
theorem faults_same (zi zj zn : Int) (b c : UInt8) (w : World) (h1 : -9223372036854775808 ≤ zi ∧ zi ≤ 9223372036854775807) (h2 : -9223372036854775808 ≤ zj ∧ zj ≤ 9223372036854775807) (h3 : -9223372036854775808 ≤ zn ∧ zn ≤ 9223372036854775807) (i j n : Nat) (hi : i < 8) (hj : j < 8) (hn : n < 21) (ei : pickI zi 8 = i) (ej : pickI zj 8 = j) (en : pickI zn 21 = n) (hij : i = j) :
    Calls Try.prog 4 #[.int .i64 zi, .int .i64 zj, .int .u8 b.toNat, .int .u8 c.toNat, .int .i64 zn] w fun e w' => e = .returned (.bool true) ∧ St w [] w' [] := by
  have hst := St.refl w
  have HI := hid hi
  have HJ := hid hj
  have HIJ := hid hij
  have HE1 := hid ei
  have HE2 := hid ej
  have HE3 := hid en
  have d1 : ((i : Int) != (j : Int)) = false := by simp; omega
  have d2 : ((i : Int) == (j : Int)) = true := by simp; omega
  clear hi hj hij ei ej en
  go_enter Try.func4, Try.ntmps4
  go_wp2_with (first | go_big_skip | go_big_guard | (go_at_call 9; refine (awake_any _).mono ?_; rintro _ w80 ⟨rfl, h4⟩; have hst9 := St.call0 hst h4; clear h4 hst) | (go_at_call 10; refine (made2_any _).mono ?_; rintro _ w0 ⟨ga, x0, gs, rfl, hg, h4⟩; obtain ⟨p, q, rfl⟩ : ∃ p q, gs = [p, q] := (match gs, hg with | [p, q], _ => ⟨p, q, rfl⟩); have hm0 : St w [] w0 (arP ga x0 (K0 p q) ++ []) := St.call hst9 h4; clear h4 hg hst9) | (go_at_call 11; refine (pick_spec zi 8 _ h1 (by decide)).mono ?_; rw [HE1.out]; rintro _ w90 ⟨rfl, h4⟩; have hp1 := St.call0 hm0 h4; clear h4 hm0) | (go_at_call 11; refine (pick_spec zj 8 _ h2 (by decide)).mono ?_; rw [HE2.out]; rintro _ w91 ⟨rfl, h4⟩; have hp2 := St.call0 hp1 h4; clear h4 hp1) | (go_at_call 11; refine (pick_spec zn 21 _ h3 (by decide)).mono ?_; rw [HE3.out]; rintro _ w92 ⟨rfl, h4⟩; have hs0 := St.call0 hp2 h4; have HFL := hid (Q6_f (p := p) (q := q) (i := i) (j := j) (b := b) (c := c) HI.out HJ.out (n := (n : Int)) (by omega)); clear h4 hp2) | (go_at_call 14; refine (of_any b _).mono ?_; rintro _ w1 ⟨g1, rfl, h4⟩; have hs1 := St.behind (A := arP ga x0 (K0 p q)) (St.call hs0 h4); clear h4 hs0) | (go_at_call 13; refine (writeM_any (St.arr hs1) (K0_ok p q) (by rw [K0_st]; decide) (by rw [K0_ll]; decide) 0 (i : Int) (some ⟨g1, 0, none⟩) 256 256 (BB b) (Rd.blk hs1 (List.mem_append_right _ (.head _)) (Nat.le_refl _) (by decide) (by rw [length_bytesV]; exact BB_len b) (by rw [List.drop_zero]; exact List.take_length)) (BB_len b) (off_behind hs1 (.head _) 0 256 256)).mono ?_; rw [Q0_w p q i b HI.out]; rintro _ w2 ⟨rfl, x2, h4⟩; have hs2 : St w [] w2 (arP ga x2 (Q1 p q i b) ++ _) := St.callF (arP ga x0 (K0 p q)) hs1 h4; clear h4 hs1) | (go_at_call 21; refine (loseM_any (St.arr hs2) (Q1_ok p q i b) 0).mono ?_; rw [Q1_l p q i b HI.out]; rintro _ w3 ⟨rfl, h4⟩; have hs3 : St w [] w3 (arP ga x2 (Q2 p q i b) ++ _) := St.callF (arP ga x2 (Q1 p q i b)) hs2 h4; clear h4 hs2) | (go_at_call 14; refine (of_any c _).mono ?_; rintro _ w4 ⟨g4, rfl, h4⟩; have hs4 := St.behind (A := arP ga x2 (Q2 p q i b)) (St.call hs3 h4); clear h4 hs3) | (go_at_call 13; refine (writeM_any (St.arr hs4) (Q2_ok p q i b) (by rw [Q2_s p q i b HI.out]; decide) (by rw [Q2_n p q i b HI.out]; decide) 0 (i : Int) (some ⟨g4, 0, none⟩) 256 256 (BB c) (Rd.blk hs4 (List.mem_append_right _ (.head _)) (Nat.le_refl _) (by decide) (by rw [length_bytesV]; exact BB_len c) (by rw [List.drop_zero]; exact List.take_length)) (BB_len c) (off_behind hs4 (.head _) 0 256 256)).mono ?_; rw [Q2_w p q i b c HI.out]; rintro _ w5 ⟨rfl, x5, h4⟩; have hs5 : St w [] w5 (arP ga x5 (Q3 p q i b c) ++ _) := St.callF (arP ga x2 (Q2 p q i b)) hs4 h4; clear h4 hs4) | (go_at_call 14; refine (of_any b _).mono ?_; rintro _ w6 ⟨g6, rfl, h4⟩; have hs6 := St.behind (A := arP ga x5 (Q3 p q i b c)) (St.call hs5 h4); clear h4 hs5) | (go_at_call 20; refine (peeks_any (ArrAll.of hs6 (fun p hp => List.mem_append_left _ hp) (Q3_ok p q i b c).d0) (Q3_ok p q i b c) (by rw [Q3_n p q i b c HI.out]; decide) 0 (i : Int) (.slice (some ⟨g6, 0, none⟩) 256 256) 256 (BB b) (Rd.blk hs6 (List.mem_append_right _ (.head _)) (Nat.le_refl _) (by decide) (by rw [length_bytesV]; exact BB_len b) (by rw [List.drop_zero]; exact List.take_length)) (BB_len b)).mono ?_; rw [pk_eq (Q3_p p q i b c HI.out) (Q3_t p q i b c HI.out)]; rintro _ w7 ⟨rfl, h4⟩; have hs7 := St.call0 hs6 h4; clear h4 hs6) | (go_at_call 16; refine (loose_any (ArrAll.of hs7 (fun p hp => List.mem_append_left _ hp) (Q3_ok p q i b c).d0)).mono ?_; rw [Q3_n p q i b c HI.out]; rintro _ w8 ⟨rfl, h4⟩; have hs8 := St.call0 hs7 h4; clear h4 hs7) | (go_at_call 22; refine (strayM_any (St.arr hs8) (Q3_ok p q i b c) 0 (j : Int)).mono ?_; rw [Q3_y p q i j b c HI.out HJ.out]; rintro _ w9 ⟨rfl, h4⟩; have hs9 : St w [] w9 (arP ga x5 (Q4 p q i j b c) ++ _) := St.callF (arP ga x5 (Q3 p q i b c)) hs8 h4; clear h4 hs8) | (go_at_call 14; refine (of_any c _).mono ?_; rintro _ w10 ⟨g10, rfl, h4⟩; have hs10 := St.behind (A := arP ga x5 (Q4 p q i j b c)) (St.call hs9 h4); clear h4 hs9) | (go_at_call 13; refine (writeM_any (St.arr hs10) (Q4_ok p q i j b c) (by rw [Q4_s p q i j b c HI.out HJ.out]; decide) (by rw [Q4_n p q i j b c HI.out HJ.out]; decide) 0 (i : Int) (some ⟨g10, 0, none⟩) 256 256 (BB c) (Rd.blk hs10 (List.mem_append_right _ (.head _)) (Nat.le_refl _) (by decide) (by rw [length_bytesV]; exact BB_len c) (by rw [List.drop_zero]; exact List.take_length)) (BB_len c) (off_behind hs10 (.head _) 0 256 256)).mono ?_; rw [Q4_w p q i j b c HI.out HJ.out]; rintro _ w11 ⟨rfl, x11, h4⟩; have hs11 : St w [] w11 (arP ga x11 (Q5 p q i j b c) ++ _) := St.callF (arP ga x5 (Q4 p q i j b c)) hs10 h4; clear h4 hs10) | (go_at_call 14; refine (of_any c _).mono ?_; rintro _ w12 ⟨g12, rfl, h4⟩; have hs12 := St.behind (A := arP ga x11 (Q5 p q i j b c)) (St.call hs11 h4); clear h4 hs11) | (go_at_call 20; refine (peeks_any (ArrAll.of hs12 (fun p hp => List.mem_append_left _ hp) (Q5_ok p q i j b c).d0) (Q5_ok p q i j b c) (by rw [Q5_n p q i j b c HI.out HJ.out]; decide) 0 (j : Int) (.slice (some ⟨g12, 0, none⟩) 256 256) 256 (BB c) (Rd.blk hs12 (List.mem_append_right _ (.head _)) (Nat.le_refl _) (by decide) (by rw [length_bytesV]; exact BB_len c) (by rw [List.drop_zero]; exact List.take_length)) (BB_len c)).mono ?_; rw [pk_eq (Q5_p p q i j b c HI.out HJ.out) (Q5_t p q i j b c HI.out HJ.out)]; rintro _ w13 ⟨rfl, h4⟩; have hs13 := St.call0 hs12 h4; clear h4 hs12) | (go_at_call 14; refine (of_any b _).mono ?_; rintro _ w14 ⟨g14, rfl, h4⟩; have hs14 := St.behind (A := arP ga x11 (Q5 p q i j b c)) (St.call hs13 h4); clear h4 hs13) | (go_at_call 13; refine (writeM_any (St.arr hs14) (Q5_ok p q i j b c) (by rw [Q5_s p q i j b c HI.out HJ.out]; decide) (by rw [Q5_n p q i j b c HI.out HJ.out]; decide) 0 (i : Int) (some ⟨g14, 0, none⟩) 256 256 (BB b) (Rd.blk hs14 (List.mem_append_right _ (.head _)) (Nat.le_refl _) (by decide) (by rw [length_bytesV]; exact BB_len b) (by rw [List.drop_zero]; exact List.take_length)) (BB_len b) (off_behind hs14 (.head _) 0 256 256)).mono ?_; rw [Q5_w p q i j b c HI.out HJ.out]; rintro _ w15 ⟨rfl, x15, h4⟩; have hs15 : St w [] w15 (arP ga x15 (Q6 p q i j b c) ++ _) := St.callF (arP ga x11 (Q5 p q i j b c)) hs14 h4; clear h4 hs14) | (go_at_call 14; refine (of_any b _).mono ?_; rintro _ w16 ⟨g16, rfl, h4⟩; have hs16 := St.behind (A := arP ga x15 (Q6 p q i j b c)) (St.call hs15 h4); clear h4 hs15) | (go_at_call 20; refine (peeks_any (ArrAll.of hs16 (fun p hp => List.mem_append_left _ hp) (Q6_ok p q i j b c).d0) (Q6_ok p q i j b c) (by rw [Q6_n p q i j b c HI.out HJ.out]; decide) 0 (i : Int) (.slice (some ⟨g16, 0, none⟩) 256 256) 256 (BB b) (Rd.blk hs16 (List.mem_append_right _ (.head _)) (Nat.le_refl _) (by decide) (by rw [length_bytesV]; exact BB_len b) (by rw [List.drop_zero]; exact List.take_length)) (BB_len b)).mono ?_; rw [pk_eq (Q6_p p q i j b c HI.out HJ.out) (Q6_t p q i j b c HI.out HJ.out)]; rintro _ w17 ⟨rfl, h4⟩; have hs17 := St.call0 hs16 h4; clear h4 hs16) | (go_at_call 23; refine (failsM_any (St.arr hs17) (Q6_ok p q i j b c) 0 (n : Int)).mono ?_; rw [HFL.out.1, HFL.out.2]; rintro _ w18 ⟨rfl, h4⟩; have hs18 := St.sub (St.callF (arP ga x15 (Q6 p q i j b c)) hs17 h4) (List.sublist_append_left _ _); clear h4 hs17))
  go_loopw [13] (fun v wr => ∃ m : Nat, m ≤ n ∧ v = .int .i64 (m : Int) ∧ St w [] wr (arP ga x15 (Q7 p q i j b c ((n : Int) - (m : Int))))) (fun v _ => n - (intOf v).toNat)
  case atStart => exact ⟨0, Nat.zero_le _, rfl, by rw [show ((n : Int) - ((0 : Nat) : Int)) = (n : Int) by omega]; exact hs18⟩
  case round =>
    clear hs18
    obtain ⟨m, hm, rfl, hl⟩ := hrel
    have HS1 := hid (Q6_i p q i j b c HI.out HJ.out)
    have HS2 := hid (Q6_j p q i j b c HI.out HJ.out)
    by_cases hlm : m < n
    · have d5 : decide ((m : Int) < (n : Int)) = true := decide_eq_true (by omega)
      have z1 : IntKind.i64.wrap ((m : Int) + 1) = (m : Int) + 1 := IntWalk.i64_in _ (by omega)
      have HOK := hid (Q7_ok (p := p) (q := q) (b := b) (c := c) HI.out HJ.out (n := (n : Int) - (m : Int)) (by omega))
      have HOK1 := hid (Q7_ok (p := p) (q := q) (b := b) (c := c) HI.out HJ.out (n := (n : Int) - (m : Int) - 1) (by omega))
      have HEE : Hid ((Q7 p q i j b c ((n : Int) - (m : Int))).readE 0 (i : Int) = 13) := hid (by rw [Q7_E HI.out HJ.out HS1.out, if_pos (by omega)])
      have HRR := hid (Q7_R (p := p) (q := q) (b := b) (c := c) HI.out HJ.out (n := (n : Int) - (m : Int)) HS1.out (by omega))
      have HBB := hid (Q7_B (p := p) (q := q) (b := b) (c := c) HI.out HJ.out (n := (n : Int) - (m : Int)) HS1.out (by omega))
      have hl0 : St w [] wr (arP ga x15 (Q7 p q i j b c ((n : Int) - (m : Int))) ++ []) := by rw [List.append_nil]; exact hl
      clear hl
      go_wp2_with (first | go_big_skip | go_big_guard | (go_at_call 24; refine (readM_any (St.arr hl0) HOK.out (by rw [Q7_n HI.out HJ.out]; decide) 0 (i : Int)).mono ?_; rw [HEE.out, HRR.out, HBB.out]; rintro _ w81 ⟨u, rfl, h4⟩; obtain ⟨ua, uc, rfl, _, _, _⟩ := row_form h4 (.head _); have hl1 : St w [] w81 (arP ga x15 (Q7 p q i j b c ((n : Int) - (m : Int) - 1)) ++ []) := St.sub (St.callF (arP ga x15 (Q7 p q i j b c ((n : Int) - (m : Int)))) hl0 h4) (.cons _ (List.Sublist.refl _)); clear h4 hl0) | (go_at_call 14; refine (of_any b _).mono ?_; rintro _ w82 ⟨g81, rfl, h4⟩; have hl2 := St.behind (A := arP ga x15 (Q7 p q i j b c ((n : Int) - (m : Int) - 1))) (St.call hl1 h4); clear h4 hl1) | (go_at_call 20; refine (peeks_any (ArrAll.of hl2 (fun p hp => List.mem_append_left _ hp) HOK1.out.d0) HOK1.out (by rw [Q7_n HI.out HJ.out]; decide) 0 (i : Int) (.slice (some ⟨g81, 0, none⟩) 256 256) 256 (BB b) (Rd.blk hl2 (List.mem_append_right _ (.head _)) (Nat.le_refl _) (by decide) (by rw [length_bytesV]; exact BB_len b) (by rw [List.drop_zero]; exact List.take_length)) (BB_len b)).mono ?_; rw [Q7_pk HI.out HJ.out]; rintro _ w83 ⟨rfl, h4⟩; have hl3 := St.call0 hl2 h4; clear h4 hl2))
      go_roundw
      case rel =>
        refine ⟨m + 1, by omega, rfl, ?_⟩
        rw [show (n : Int) - ((m + 1 : Nat) : Int) = (n : Int) - (m : Int) - 1 by omega]
        exact St.sub hl3 (List.sublist_append_left _ _)
      case measure => simp [intOf]; omega
    · have d5 : decide ((m : Int) < (n : Int)) = false := decide_eq_false (by omega)
      have HOK := hid (Q7_ok (p := p) (q := q) (b := b) (c := c) HI.out HJ.out (n := 0) (by omega))
      have hl0 : St w [] wr (arP ga x15 (Q7 p q i j b c 0) ++ []) := by
        rw [List.append_nil]
        rw [show (n : Int) - (m : Int) = 0 by omega] at hl
        exact hl
      clear hl
      go_wp2_with (first | go_big_skip | go_big_guard | (go_at_call 14; refine (of_any b _).mono ?_; rintro _ w82 ⟨g81, rfl, h4⟩; have hl1 := St.behind (A := arP ga x15 (Q7 p q i j b c 0)) (St.call hl0 h4); clear h4 hl0) | (go_at_call 25; refine (reads_any (St.arr hl1) HOK.out (by rw [Q7_n HI.out HJ.out]; decide) 0 (i : Int) (.slice (some ⟨g81, 0, none⟩) 256 256) 256 (BB b) (Rd.blk hl1 (List.mem_append_right _ (.head _)) (Nat.le_refl _) (by decide) (by rw [length_bytesV]; exact BB_len b) (by rw [List.drop_zero]; exact List.take_length)) (BB_len b) (off_behind hl1 (.head _) 0 256 256)).mono ?_; rw [Q7_rd HI.out HJ.out HS1.out (Q6_ti p q i j b c HI.out HJ.out), Q7_R0 HI.out HJ.out HS1.out]; rintro _ w83 ⟨rfl, h4⟩; have hl2 : St w [] w83 (arP ga x15 (Q7 p q i j b c 0) ++ _) := St.callF (arP ga x15 (Q7 p q i j b c 0)) hl1 h4; clear h4 hl1))
      go_ret
      exact ⟨rfl, hl2.nil⟩
theorem faults_apart (zi zj zn : Int) (b c : UInt8) (w : World) (h1 : -9223372036854775808 ≤ zi ∧ zi ≤ 9223372036854775807) (h2 : -9223372036854775808 ≤ zj ∧ zj ≤ 9223372036854775807) (h3 : -9223372036854775808 ≤ zn ∧ zn ≤ 9223372036854775807) (i j n : Nat) (hi : i < 8) (hj : j < 8) (hn : n < 21) (ei : pickI zi 8 = i) (ej : pickI zj 8 = j) (en : pickI zn 21 = n) (hij : i ≠ j) :
    Calls Try.prog 4 #[.int .i64 zi, .int .i64 zj, .int .u8 b.toNat, .int .u8 c.toNat, .int .i64 zn] w fun e w' => e = .returned (.bool true) ∧ St w [] w' [] := by
  have hst := St.refl w
  have HI := hid hi
  have HJ := hid hj
  have HIJ := hid hij
  have HE1 := hid ei
  have HE2 := hid ej
  have HE3 := hid en
  have d1 : ((i : Int) != (j : Int)) = true := by simp; omega
  have d2 : ((i : Int) == (j : Int)) = false := by simp; omega
  clear hi hj hij ei ej en
  go_enter Try.func4, Try.ntmps4
  go_wp2_with (first | go_big_skip | go_big_guard | (go_at_call 9; refine (awake_any _).mono ?_; rintro _ w80 ⟨rfl, h4⟩; have hst9 := St.call0 hst h4; clear h4 hst) | (go_at_call 10; refine (made2_any _).mono ?_; rintro _ w0 ⟨ga, x0, gs, rfl, hg, h4⟩; obtain ⟨p, q, rfl⟩ : ∃ p q, gs = [p, q] := (match gs, hg with | [p, q], _ => ⟨p, q, rfl⟩); have hm0 : St w [] w0 (arP ga x0 (K0 p q) ++ []) := St.call hst9 h4; clear h4 hg hst9) | (go_at_call 11; refine (pick_spec zi 8 _ h1 (by decide)).mono ?_; rw [HE1.out]; rintro _ w90 ⟨rfl, h4⟩; have hp1 := St.call0 hm0 h4; clear h4 hm0) | (go_at_call 11; refine (pick_spec zj 8 _ h2 (by decide)).mono ?_; rw [HE2.out]; rintro _ w91 ⟨rfl, h4⟩; have hp2 := St.call0 hp1 h4; clear h4 hp1) | (go_at_call 11; refine (pick_spec zn 21 _ h3 (by decide)).mono ?_; rw [HE3.out]; rintro _ w92 ⟨rfl, h4⟩; have hs0 := St.call0 hp2 h4; have HFL := hid (Q6_f (p := p) (q := q) (i := i) (j := j) (b := b) (c := c) HI.out HJ.out (n := (n : Int)) (by omega)); clear h4 hp2) | (go_at_call 14; refine (of_any b _).mono ?_; rintro _ w1 ⟨g1, rfl, h4⟩; have hs1 := St.behind (A := arP ga x0 (K0 p q)) (St.call hs0 h4); clear h4 hs0) | (go_at_call 13; refine (writeM_any (St.arr hs1) (K0_ok p q) (by rw [K0_st]; decide) (by rw [K0_ll]; decide) 0 (i : Int) (some ⟨g1, 0, none⟩) 256 256 (BB b) (Rd.blk hs1 (List.mem_append_right _ (.head _)) (Nat.le_refl _) (by decide) (by rw [length_bytesV]; exact BB_len b) (by rw [List.drop_zero]; exact List.take_length)) (BB_len b) (off_behind hs1 (.head _) 0 256 256)).mono ?_; rw [Q0_w p q i b HI.out]; rintro _ w2 ⟨rfl, x2, h4⟩; have hs2 : St w [] w2 (arP ga x2 (Q1 p q i b) ++ _) := St.callF (arP ga x0 (K0 p q)) hs1 h4; clear h4 hs1) | (go_at_call 21; refine (loseM_any (St.arr hs2) (Q1_ok p q i b) 0).mono ?_; rw [Q1_l p q i b HI.out]; rintro _ w3 ⟨rfl, h4⟩; have hs3 : St w [] w3 (arP ga x2 (Q2 p q i b) ++ _) := St.callF (arP ga x2 (Q1 p q i b)) hs2 h4; clear h4 hs2) | (go_at_call 14; refine (of_any c _).mono ?_; rintro _ w4 ⟨g4, rfl, h4⟩; have hs4 := St.behind (A := arP ga x2 (Q2 p q i b)) (St.call hs3 h4); clear h4 hs3) | (go_at_call 13; refine (writeM_any (St.arr hs4) (Q2_ok p q i b) (by rw [Q2_s p q i b HI.out]; decide) (by rw [Q2_n p q i b HI.out]; decide) 0 (i : Int) (some ⟨g4, 0, none⟩) 256 256 (BB c) (Rd.blk hs4 (List.mem_append_right _ (.head _)) (Nat.le_refl _) (by decide) (by rw [length_bytesV]; exact BB_len c) (by rw [List.drop_zero]; exact List.take_length)) (BB_len c) (off_behind hs4 (.head _) 0 256 256)).mono ?_; rw [Q2_w p q i b c HI.out]; rintro _ w5 ⟨rfl, x5, h4⟩; have hs5 : St w [] w5 (arP ga x5 (Q3 p q i b c) ++ _) := St.callF (arP ga x2 (Q2 p q i b)) hs4 h4; clear h4 hs4) | (go_at_call 14; refine (of_any b _).mono ?_; rintro _ w6 ⟨g6, rfl, h4⟩; have hs6 := St.behind (A := arP ga x5 (Q3 p q i b c)) (St.call hs5 h4); clear h4 hs5) | (go_at_call 20; refine (peeks_any (ArrAll.of hs6 (fun p hp => List.mem_append_left _ hp) (Q3_ok p q i b c).d0) (Q3_ok p q i b c) (by rw [Q3_n p q i b c HI.out]; decide) 0 (i : Int) (.slice (some ⟨g6, 0, none⟩) 256 256) 256 (BB b) (Rd.blk hs6 (List.mem_append_right _ (.head _)) (Nat.le_refl _) (by decide) (by rw [length_bytesV]; exact BB_len b) (by rw [List.drop_zero]; exact List.take_length)) (BB_len b)).mono ?_; rw [pk_eq (Q3_p p q i b c HI.out) (Q3_t p q i b c HI.out)]; rintro _ w7 ⟨rfl, h4⟩; have hs7 := St.call0 hs6 h4; clear h4 hs6) | (go_at_call 16; refine (loose_any (ArrAll.of hs7 (fun p hp => List.mem_append_left _ hp) (Q3_ok p q i b c).d0)).mono ?_; rw [Q3_n p q i b c HI.out]; rintro _ w8 ⟨rfl, h4⟩; have hs8 := St.call0 hs7 h4; clear h4 hs7) | (go_at_call 22; refine (strayM_any (St.arr hs8) (Q3_ok p q i b c) 0 (j : Int)).mono ?_; rw [Q3_y p q i j b c HI.out HJ.out]; rintro _ w9 ⟨rfl, h4⟩; have hs9 : St w [] w9 (arP ga x5 (Q4 p q i j b c) ++ _) := St.callF (arP ga x5 (Q3 p q i b c)) hs8 h4; clear h4 hs8) | (go_at_call 14; refine (of_any c _).mono ?_; rintro _ w10 ⟨g10, rfl, h4⟩; have hs10 := St.behind (A := arP ga x5 (Q4 p q i j b c)) (St.call hs9 h4); clear h4 hs9) | (go_at_call 13; refine (writeM_any (St.arr hs10) (Q4_ok p q i j b c) (by rw [Q4_s p q i j b c HI.out HJ.out]; decide) (by rw [Q4_n p q i j b c HI.out HJ.out]; decide) 0 (i : Int) (some ⟨g10, 0, none⟩) 256 256 (BB c) (Rd.blk hs10 (List.mem_append_right _ (.head _)) (Nat.le_refl _) (by decide) (by rw [length_bytesV]; exact BB_len c) (by rw [List.drop_zero]; exact List.take_length)) (BB_len c) (off_behind hs10 (.head _) 0 256 256)).mono ?_; rw [Q4_w p q i j b c HI.out HJ.out]; rintro _ w11 ⟨rfl, x11, h4⟩; have hs11 : St w [] w11 (arP ga x11 (Q5 p q i j b c) ++ _) := St.callF (arP ga x5 (Q4 p q i j b c)) hs10 h4; clear h4 hs10) | (go_at_call 14; refine (of_any c _).mono ?_; rintro _ w12 ⟨g12, rfl, h4⟩; have hs12 := St.behind (A := arP ga x11 (Q5 p q i j b c)) (St.call hs11 h4); clear h4 hs11) | (go_at_call 20; refine (peeks_any (ArrAll.of hs12 (fun p hp => List.mem_append_left _ hp) (Q5_ok p q i j b c).d0) (Q5_ok p q i j b c) (by rw [Q5_n p q i j b c HI.out HJ.out]; decide) 0 (j : Int) (.slice (some ⟨g12, 0, none⟩) 256 256) 256 (BB c) (Rd.blk hs12 (List.mem_append_right _ (.head _)) (Nat.le_refl _) (by decide) (by rw [length_bytesV]; exact BB_len c) (by rw [List.drop_zero]; exact List.take_length)) (BB_len c)).mono ?_; rw [pk_eq (Q5_p p q i j b c HI.out HJ.out) (Q5_t p q i j b c HI.out HJ.out)]; rintro _ w13 ⟨rfl, h4⟩; have hs13 := St.call0 hs12 h4; clear h4 hs12) | (go_at_call 14; refine (of_any b _).mono ?_; rintro _ w14 ⟨g14, rfl, h4⟩; have hs14 := St.behind (A := arP ga x11 (Q5 p q i j b c)) (St.call hs13 h4); clear h4 hs13) | (go_at_call 20; refine (peeks_any (ArrAll.of hs14 (fun p hp => List.mem_append_left _ hp) (Q5_ok p q i j b c).d0) (Q5_ok p q i j b c) (by rw [Q5_n p q i j b c HI.out HJ.out]; decide) 0 (i : Int) (.slice (some ⟨g14, 0, none⟩) 256 256) 256 (BB b) (Rd.blk hs14 (List.mem_append_right _ (.head _)) (Nat.le_refl _) (by decide) (by rw [length_bytesV]; exact BB_len b) (by rw [List.drop_zero]; exact List.take_length)) (BB_len b)).mono ?_; rw [pk_eq (Q5_p2 p q i j b c HI.out HJ.out) (Q5_t2 p q i j b c HI.out HJ.out HIJ.out)]; rintro _ w15 ⟨rfl, h4⟩; have hs15 := St.call0 hs14 h4; clear h4 hs14) | (go_at_call 14; refine (of_any b _).mono ?_; rintro _ w16 ⟨g16, rfl, h4⟩; have hs16 := St.behind (A := arP ga x11 (Q5 p q i j b c)) (St.call hs15 h4); clear h4 hs15) | (go_at_call 13; refine (writeM_any (St.arr hs16) (Q5_ok p q i j b c) (by rw [Q5_s p q i j b c HI.out HJ.out]; decide) (by rw [Q5_n p q i j b c HI.out HJ.out]; decide) 0 (i : Int) (some ⟨g16, 0, none⟩) 256 256 (BB b) (Rd.blk hs16 (List.mem_append_right _ (.head _)) (Nat.le_refl _) (by decide) (by rw [length_bytesV]; exact BB_len b) (by rw [List.drop_zero]; exact List.take_length)) (BB_len b) (off_behind hs16 (.head _) 0 256 256)).mono ?_; rw [Q5_w p q i j b c HI.out HJ.out]; rintro _ w17 ⟨rfl, x17, h4⟩; have hs17 : St w [] w17 (arP ga x17 (Q6 p q i j b c) ++ _) := St.callF (arP ga x11 (Q5 p q i j b c)) hs16 h4; clear h4 hs16) | (go_at_call 14; refine (of_any b _).mono ?_; rintro _ w18 ⟨g18, rfl, h4⟩; have hs18 := St.behind (A := arP ga x17 (Q6 p q i j b c)) (St.call hs17 h4); clear h4 hs17) | (go_at_call 20; refine (peeks_any (ArrAll.of hs18 (fun p hp => List.mem_append_left _ hp) (Q6_ok p q i j b c).d0) (Q6_ok p q i j b c) (by rw [Q6_n p q i j b c HI.out HJ.out]; decide) 0 (i : Int) (.slice (some ⟨g18, 0, none⟩) 256 256) 256 (BB b) (Rd.blk hs18 (List.mem_append_right _ (.head _)) (Nat.le_refl _) (by decide) (by rw [length_bytesV]; exact BB_len b) (by rw [List.drop_zero]; exact List.take_length)) (BB_len b)).mono ?_; rw [pk_eq (Q6_p p q i j b c HI.out HJ.out) (Q6_t p q i j b c HI.out HJ.out)]; rintro _ w19 ⟨rfl, h4⟩; have hs19 := St.call0 hs18 h4; clear h4 hs18) | (go_at_call 23; refine (failsM_any (St.arr hs19) (Q6_ok p q i j b c) 0 (n : Int)).mono ?_; rw [HFL.out.1, HFL.out.2]; rintro _ w20 ⟨rfl, h4⟩; have hs20 := St.sub (St.callF (arP ga x17 (Q6 p q i j b c)) hs19 h4) (List.sublist_append_left _ _); clear h4 hs19))
  go_loopw [13] (fun v wr => ∃ m : Nat, m ≤ n ∧ v = .int .i64 (m : Int) ∧ St w [] wr (arP ga x17 (Q7 p q i j b c ((n : Int) - (m : Int))))) (fun v _ => n - (intOf v).toNat)
  case atStart => exact ⟨0, Nat.zero_le _, rfl, by rw [show ((n : Int) - ((0 : Nat) : Int)) = (n : Int) by omega]; exact hs20⟩
  case round =>
    clear hs20
    obtain ⟨m, hm, rfl, hl⟩ := hrel
    have HS1 := hid (Q6_i p q i j b c HI.out HJ.out)
    have HS2 := hid (Q6_j p q i j b c HI.out HJ.out)
    by_cases hlm : m < n
    · have d5 : decide ((m : Int) < (n : Int)) = true := decide_eq_true (by omega)
      have z1 : IntKind.i64.wrap ((m : Int) + 1) = (m : Int) + 1 := IntWalk.i64_in _ (by omega)
      have HOK := hid (Q7_ok (p := p) (q := q) (b := b) (c := c) HI.out HJ.out (n := (n : Int) - (m : Int)) (by omega))
      have HOK1 := hid (Q7_ok (p := p) (q := q) (b := b) (c := c) HI.out HJ.out (n := (n : Int) - (m : Int) - 1) (by omega))
      have HEE : Hid ((Q7 p q i j b c ((n : Int) - (m : Int))).readE 0 (i : Int) = 13) := hid (by rw [Q7_E HI.out HJ.out HS1.out, if_pos (by omega)])
      have HRR := hid (Q7_R (p := p) (q := q) (b := b) (c := c) HI.out HJ.out (n := (n : Int) - (m : Int)) HS1.out (by omega))
      have HBB := hid (Q7_B (p := p) (q := q) (b := b) (c := c) HI.out HJ.out (n := (n : Int) - (m : Int)) HS1.out (by omega))
      have hl0 : St w [] wr (arP ga x17 (Q7 p q i j b c ((n : Int) - (m : Int))) ++ []) := by rw [List.append_nil]; exact hl
      clear hl
      go_wp2_with (first | go_big_skip | go_big_guard | (go_at_call 24; refine (readM_any (St.arr hl0) HOK.out (by rw [Q7_n HI.out HJ.out]; decide) 0 (i : Int)).mono ?_; rw [HEE.out, HRR.out, HBB.out]; rintro _ w81 ⟨u, rfl, h4⟩; obtain ⟨ua, uc, rfl, _, _, _⟩ := row_form h4 (.head _); have hl1 : St w [] w81 (arP ga x17 (Q7 p q i j b c ((n : Int) - (m : Int) - 1)) ++ []) := St.sub (St.callF (arP ga x17 (Q7 p q i j b c ((n : Int) - (m : Int)))) hl0 h4) (.cons _ (List.Sublist.refl _)); clear h4 hl0) | (go_at_call 14; refine (of_any b _).mono ?_; rintro _ w82 ⟨g81, rfl, h4⟩; have hl2 := St.behind (A := arP ga x17 (Q7 p q i j b c ((n : Int) - (m : Int) - 1))) (St.call hl1 h4); clear h4 hl1) | (go_at_call 20; refine (peeks_any (ArrAll.of hl2 (fun p hp => List.mem_append_left _ hp) HOK1.out.d0) HOK1.out (by rw [Q7_n HI.out HJ.out]; decide) 0 (i : Int) (.slice (some ⟨g81, 0, none⟩) 256 256) 256 (BB b) (Rd.blk hl2 (List.mem_append_right _ (.head _)) (Nat.le_refl _) (by decide) (by rw [length_bytesV]; exact BB_len b) (by rw [List.drop_zero]; exact List.take_length)) (BB_len b)).mono ?_; rw [Q7_pk HI.out HJ.out]; rintro _ w83 ⟨rfl, h4⟩; have hl3 := St.call0 hl2 h4; clear h4 hl2))
      go_roundw
      case rel =>
        refine ⟨m + 1, by omega, rfl, ?_⟩
        rw [show (n : Int) - ((m + 1 : Nat) : Int) = (n : Int) - (m : Int) - 1 by omega]
        exact St.sub hl3 (List.sublist_append_left _ _)
      case measure => simp [intOf]; omega
    · have d5 : decide ((m : Int) < (n : Int)) = false := decide_eq_false (by omega)
      have HOK := hid (Q7_ok (p := p) (q := q) (b := b) (c := c) HI.out HJ.out (n := 0) (by omega))
      have hl0 : St w [] wr (arP ga x17 (Q7 p q i j b c 0) ++ []) := by
        rw [List.append_nil]
        rw [show (n : Int) - (m : Int) = 0 by omega] at hl
        exact hl
      clear hl
      go_wp2_with (first | go_big_skip | go_big_guard | (go_at_call 14; refine (of_any b _).mono ?_; rintro _ w82 ⟨g81, rfl, h4⟩; have hl1 := St.behind (A := arP ga x17 (Q7 p q i j b c 0)) (St.call hl0 h4); clear h4 hl0) | (go_at_call 25; refine (reads_any (St.arr hl1) HOK.out (by rw [Q7_n HI.out HJ.out]; decide) 0 (i : Int) (.slice (some ⟨g81, 0, none⟩) 256 256) 256 (BB b) (Rd.blk hl1 (List.mem_append_right _ (.head _)) (Nat.le_refl _) (by decide) (by rw [length_bytesV]; exact BB_len b) (by rw [List.drop_zero]; exact List.take_length)) (BB_len b) (off_behind hl1 (.head _) 0 256 256)).mono ?_; rw [Q7_rd HI.out HJ.out HS1.out (Q6_ti p q i j b c HI.out HJ.out), Q7_R0 HI.out HJ.out HS1.out]; rintro _ w83 ⟨rfl, h4⟩; have hl2 : St w [] w83 (arP ga x17 (Q7 p q i j b c 0) ++ _) := St.callF (arP ga x17 (Q7 p q i j b c 0)) hl1 h4; clear h4 hl1) | (go_at_call 14; refine (of_any c _).mono ?_; rintro _ w84 ⟨g82, rfl, h4⟩; have hl3 := St.behind (A := arP ga x17 (Q7 p q i j b c 0)) (St.call hl2 h4); clear h4 hl2) | (go_at_call 25; refine (reads_any (St.arr hl3) HOK.out (by rw [Q7_n HI.out HJ.out]; decide) 0 (j : Int) (.slice (some ⟨g82, 0, none⟩) 256 256) 256 (BB c) (Rd.blk hl3 (List.mem_append_right _ (.head _)) (Nat.le_refl _) (by decide) (by rw [length_bytesV]; exact BB_len c) (by rw [List.drop_zero]; exact List.take_length)) (BB_len c) (off_behind hl3 (.head _) 0 256 256)).mono ?_; rw [Q7_rd HI.out HJ.out HS2.out (Q6_tj p q i j b c HI.out HJ.out HIJ.out), Q7_R0 HI.out HJ.out HS2.out]; rintro _ w85 ⟨rfl, h4⟩; have hl4 : St w [] w85 (arP ga x17 (Q7 p q i j b c 0) ++ _) := St.callF (arP ga x17 (Q7 p q i j b c 0)) hl3 h4; clear h4 hl3))
      go_ret
      exact ⟨rfl, hl4.nil⟩
theorem faults_law (zi zj zn : Int) (b c : UInt8) (w : World) (h1 : -9223372036854775808 ≤ zi ∧ zi ≤ 9223372036854775807) (h2 : -9223372036854775808 ≤ zj ∧ zj ≤ 9223372036854775807) (h3 : -9223372036854775808 ≤ zn ∧ zn ≤ 9223372036854775807) :
    Calls Try.prog 4 #[.int .i64 zi, .int .i64 zj, .int .u8 b.toNat, .int .u8 c.toNat, .int .i64 zn] w fun e w' => e = .returned (.bool true) ∧ St w [] w' [] := by
  obtain ⟨i, hi, ei⟩ := pickI_nat (x := zi) (n := 8) (by decide)
  obtain ⟨j, hj, ej⟩ := pickI_nat (x := zj) (n := 8) (by decide)
  obtain ⟨n, hn, en⟩ := pickI_nat (x := zn) (n := 21) (by decide)
  by_cases hij : i = j
  · exact faults_same zi zj zn b c w h1 h2 h3 i j n hi hj hn ei ej en hij
  · exact faults_apart zi zj zn b c w h1 h2 h3 i j n hi hj hn ei ej en hij
end Go.Proofs.Ytclleohpmgihaaa
