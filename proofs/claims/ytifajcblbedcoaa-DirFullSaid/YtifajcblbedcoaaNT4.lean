import Derived.Test.YtifajcblbedcoaaNT3
namespace Go.Proofs.Ytifajcblbedcoaa
set_option linter.unusedVariables false
set_option linter.unusedSimpArgs false
open Go.RowKit Hp
attribute [local irreducible] Go.Calls
set_option maxRecDepth 100000
set_option maxHeartbeats 1000000
instance tyS3 : TyS Try.prog 3 := ⟨by kernel_rfl⟩
instance tyE3 : TyE Try.prog 3 1 8 := ⟨by kernel_rfl⟩
instance tySl37 : TySl Try.prog 25 3 := ⟨by kernel_rfl⟩
theorem order_any (f : Bool) (w : World) : Calls Try.prog 83 #[.bool f] w fun e w' => e = .returned (str (ordL f)) ∧ w' = w := by
  cases f
  all_goals
    go_enter Try.func83, Try.ntmps83
    go_wp2_with (first | go_big_skip | go_big_guard | fail)
    go_ret
    exact ⟨rfl, rfl⟩
theorem or_any (v : Value) (a b : Int) (w : World) (hA : Rd w v 1 2 [.int .i64 a, .int .i64 b]) :
    Calls Try.prog 85 #[v] w fun e w' => e = .returned (.int .i64 (orI a b)) ∧ St w [] w' [] := by
  rcases hA.cases with ⟨_, h, _⟩ | ⟨_, _, h, _⟩ | ⟨bb, off, c, rfl, hn, hc, _, hr⟩
  · cases h
  · cases h
  have h0 : w.cell? ⟨bb, off, none⟩ = some (.int .i64 a) := hr 0 _ rfl
  have h1 : w.cell? ⟨bb, off + 1, none⟩ = some (.int .i64 b) := hr 1 _ rfl
  clear hr hA
  go_enter Try.func85, Try.ntmps85
  go_wp2_with (first | go_big_skip | go_big_guard | fail)
  go_loop [8] (fun i => ∃ k : Nat, k ≤ 2 ∧ i = .int .i64 k ∧ Hid (0 < k → a = 0) ∧ Hid (1 < k → b = 0)) (fun i => 2 - (intOf i).toNat)
  case atStart => exact ⟨0, by omega, rfl, hid (by first | trivial | (intro _; rfl) | (intro h; exact absurd h (by decide)) | simp), hid (by first | trivial | (intro _; rfl) | (intro h; exact absurd h (by decide)) | simp)⟩
  case round =>
    obtain ⟨k, hk, rfl, ha, hb⟩ := hrel
    obtain rfl | rfl | rfl : k = 0 ∨ k = 1 ∨ k = 2 := by omega
    · by_cases e : a = 0
      · subst e
        go_wp2_with (first | go_big_skip | go_big_guard | fail)
        go_round
        case rel => exact ⟨1, by omega, by go_num, hid (by first | trivial | (intro _; rfl) | (intro h; exact absurd h (by decide)) | simp), hid (by first | trivial | (intro _; rfl) | (intro h; exact absurd h (by decide)) | simp)⟩
        case measure => simp [intOf]
      · have e1 : (a != 0) = true := by simpa using e
        have e2 := hid e; clear e
        go_wp2_with (first | go_big_skip | go_big_guard | fail)
        go_ret
        exact ⟨ret_intv (by rw [orI, if_pos e2.out]), St.refl _⟩
    · have e := ha.out (by omega)
      subst e
      by_cases e : b = 0
      · subst e
        go_wp2_with (first | go_big_skip | go_big_guard | fail)
        go_round
        case rel => exact ⟨2, by omega, by go_num, hid (by first | trivial | (intro _; rfl) | (intro h; exact absurd h (by decide)) | simp), hid (by first | trivial | (intro _; rfl) | (intro h; exact absurd h (by decide)) | simp)⟩
        case measure => simp [intOf]
      · have e1 : (b != 0) = true := by simpa using e
        go_wp2_with (first | go_big_skip | go_big_guard | fail)
        go_ret
        exact ⟨ret_intv (by simp [orI]), St.refl _⟩
    · have e := ha.out (by omega)
      subst e
      have e := hb.out (by omega)
      subst e
      go_wp2_with (first | go_big_skip | go_big_guard | fail)
      go_ret
      exact ⟨ret_intv (by simp [orI]), St.refl _⟩
theorem compare_to {a b : List UInt8} {c : Int} (h : c = Lib.compareBytes a b) (w : World) : Calls Try.prog 84 #[str a, str b] w fun e w' => e = .returned (.int .i64 c) ∧ w' = w := by
  rw [h]; exact Try.strings_Compare _ _ w
theorem ix0 (a b c : Int) (w : World) : (Instr.index 103 (.agg #[.int .i64 a, .int .i64 b, .int .i64 c]) (.int .i64 0)).run Try.prog w = .ok (.int .i64 a) w := by kernel_rfl
theorem ix1 (a b c : Int) (w : World) : (Instr.index 103 (.agg #[.int .i64 a, .int .i64 b, .int .i64 c]) (.int .i64 1)).run Try.prog w = .ok (.int .i64 b) w := by kernel_rfl
theorem ix2 (a b c : Int) (w : World) : (Instr.index 103 (.agg #[.int .i64 a, .int .i64 b, .int .i64 c]) (.int .i64 2)).run Try.prog w = .ok (.int .i64 c) w := by kernel_rfl
attribute [local go_sem ↓] ix0 ix1 ix2
theorem or0 (c : Int) : orI 0 c = c := by simp [orI]
theorem less_any (p q : List UInt8) (w : World) (hp : p.length ≤ 9223372036854775807) (hq : q.length ≤ 9223372036854775807) :
    Calls Try.prog 69 #[str p, str q] w fun e w' => e = .returned (.bool (lessL p q)) ∧ St w [] w' [] := by
  have hst := St.refl w
  have Hp := hid hp; clear hp
  have Hq := hid hq; clear hq
  rcases hx : cutL p with ⟨a, b, f⟩
  rcases hy : cutL q with ⟨a', b', f'⟩
  obtain ⟨c1, h1⟩ : ∃ c, c = Lib.compareBytes a a' := ⟨_, rfl⟩
  obtain ⟨c2, h2⟩ : ∃ c, c = Lib.compareBytes (ordL f) (ordL f') := ⟨_, rfl⟩
  obtain ⟨c3, h3⟩ : ∃ c, c = Lib.compareBytes b b' := ⟨_, rfl⟩
  have HL := hid (show lessL p q = decide (orI c1 (orI c2 c3) < 0) by rw [lessL, cmp3, hx, hy, h1, h2, h3])
  have Hx := hid hx; clear hx
  have Hy := hid hy; clear hy
  have H1 := hid h1; clear h1
  have H2 := hid h2; clear h2
  have H3 := hid h3; clear h3
  go_enter Try.func69, Try.ntmps69
  go_wp2_with (first | go_big_skip | go_big_guard | fail)
  go_step3
  go_wp2_with (first | go_big_skip | go_big_guard | (go_at_call 66; first | (refine (cut_to Hx.out _ Hp.out).mono ?_; rintro _ _ ⟨rfl, h4⟩; replace hst := St.call0 hst h4; clear h4) | (refine (cut_to Hy.out _ Hq.out).mono ?_; rintro _ _ ⟨rfl, h4⟩; replace hst := St.call0 hst h4; clear h4)) | (go_at_call 83; refine (order_any _ _).mono ?_; rintro _ _ ⟨rfl, rfl⟩) | (go_at_call 84; first | (refine (compare_to H1.out _).mono ?_; rintro _ _ ⟨rfl, rfl⟩) | (refine (compare_to H2.out _).mono ?_; rintro _ _ ⟨rfl, rfl⟩) | (refine (compare_to H3.out _).mono ?_; rintro _ _ ⟨rfl, rfl⟩)))
  go_step3
  go_wp2_with (first | go_big_skip | go_big_guard | (go_at_call 83; refine (order_any _ _).mono ?_; rintro _ _ ⟨rfl, rfl⟩) | (go_at_call 84; first | (refine (compare_to H1.out _).mono ?_; rintro _ _ ⟨rfl, rfl⟩) | (refine (compare_to H2.out _).mono ?_; rintro _ _ ⟨rfl, rfl⟩) | (refine (compare_to H3.out _).mono ?_; rintro _ _ ⟨rfl, rfl⟩)))
  go_loopw [12, 41] (fun f i wr => ∃ k : Nat, k ≤ 3 ∧ i = .int .i64 k ∧ f = .int .i64 0 ∧ Hid (0 < k → c1 = 0) ∧ Hid (1 < k → c2 = 0) ∧ Hid (2 < k → c3 = 0) ∧ St w [] wr []) (fun _ i _ => 3 - (intOf i).toNat)
  case atStart => exact ⟨0, by omega, rfl, rfl, hid (by simp), hid (by simp), hid (by simp), hst⟩
  case round =>
    clear hst
    obtain ⟨k, hk, rfl, rfl, ha, hb, hc, hst⟩ := hrel
    obtain rfl | rfl | rfl | rfl : k = 0 ∨ k = 1 ∨ k = 2 ∨ k = 3 := by omega
    · skip
      by_cases e : c1 = 0
      · subst e
        go_wp2_with (first | go_big_skip | go_big_guard | (apply wl_bsX ([.int .i64 0, .int .i64 0]) ([.int .i64 0, .int .i64 0]) hst; rfl; rfl; exact rfl; exact rfl; infer_instance; infer_instance; rfl; rfl; rfl; intro g _ hst1) | (go_at_call 85; refine (or_any _ 0 0 _ (Rd.blk0 hst1 rfl (by decide))).mono ?_; rintro _ _ ⟨rfl, h4⟩; have hst2 := (St.call0 hst1 h4).nil; clear h4 hst1 hst; rw [or0]))
        go_roundw
        case rel => exact ⟨1, by omega, by go_num, rfl, hid (by first | trivial | (intro _; rfl) | exact HA | (intro h; exact absurd h (by decide)) | simp), hid (by first | trivial | (intro _; rfl) | (intro h; exact absurd h (by decide)) | simp), hid (by first | trivial | (intro _; rfl) | (intro h; exact absurd h (by decide)) | simp), hst2⟩
        case measure => simp [intOf]
      · have e1 : (c1 != 0) = true := by simpa using e
        have e2 := hid e; clear e
        go_wp2_with (first | go_big_skip | go_big_guard | (apply wl_bsX ([.int .i64 0, .int .i64 c1]) ([.int .i64 0, .int .i64 c1]) hst; rfl; rfl; exact rfl; exact rfl; infer_instance; infer_instance; rfl; rfl; rfl; intro g _ hst1) | (go_at_call 85; refine (or_any _ 0 c1 _ (Rd.blk0 hst1 rfl (by decide))).mono ?_; rintro _ _ ⟨rfl, h4⟩; have hst2 := (St.call0 hst1 h4).nil; clear h4 hst1 hst; rw [or0]))
        go_goals
        try rw [Exit.noGoto_ret]
        go_ret
        exact ⟨(ret_boolv (HL.out.trans (by simp [orI, e2.out]))).symm, hst2⟩
    · have e := ha.out (by omega)
      subst e
      by_cases e : c2 = 0
      · subst e
        go_wp2_with (first | go_big_skip | go_big_guard | (apply wl_bsX ([.int .i64 0, .int .i64 0]) ([.int .i64 0, .int .i64 0]) hst; rfl; rfl; exact rfl; exact rfl; infer_instance; infer_instance; rfl; rfl; rfl; intro g _ hst1) | (go_at_call 85; refine (or_any _ 0 0 _ (Rd.blk0 hst1 rfl (by decide))).mono ?_; rintro _ _ ⟨rfl, h4⟩; have hst2 := (St.call0 hst1 h4).nil; clear h4 hst1 hst; rw [or0]))
        go_roundw
        case rel => exact ⟨2, by omega, by go_num, rfl, hid (by first | trivial | (intro _; rfl) | exact HA | (intro h; exact absurd h (by decide)) | simp), hid (by first | trivial | (intro _; rfl) | (intro h; exact absurd h (by decide)) | simp), hid (by first | trivial | (intro _; rfl) | (intro h; exact absurd h (by decide)) | simp), hst2⟩
        case measure => simp [intOf]
      · have e1 : (c2 != 0) = true := by simpa using e
        have e2 := hid e; clear e
        go_wp2_with (first | go_big_skip | go_big_guard | (apply wl_bsX ([.int .i64 0, .int .i64 c2]) ([.int .i64 0, .int .i64 c2]) hst; rfl; rfl; exact rfl; exact rfl; infer_instance; infer_instance; rfl; rfl; rfl; intro g _ hst1) | (go_at_call 85; refine (or_any _ 0 c2 _ (Rd.blk0 hst1 rfl (by decide))).mono ?_; rintro _ _ ⟨rfl, h4⟩; have hst2 := (St.call0 hst1 h4).nil; clear h4 hst1 hst; rw [or0]))
        go_goals
        try rw [Exit.noGoto_ret]
        go_ret
        exact ⟨(ret_boolv (HL.out.trans (by simp [orI, e2.out]))).symm, hst2⟩
    · have e := ha.out (by omega)
      subst e
      have e := hb.out (by omega)
      subst e
      by_cases e : c3 = 0
      · subst e
        go_wp2_with (first | go_big_skip | go_big_guard | (apply wl_bsX ([.int .i64 0, .int .i64 0]) ([.int .i64 0, .int .i64 0]) hst; rfl; rfl; exact rfl; exact rfl; infer_instance; infer_instance; rfl; rfl; rfl; intro g _ hst1) | (go_at_call 85; refine (or_any _ 0 0 _ (Rd.blk0 hst1 rfl (by decide))).mono ?_; rintro _ _ ⟨rfl, h4⟩; have hst2 := (St.call0 hst1 h4).nil; clear h4 hst1 hst; rw [or0]))
        go_roundw
        case rel => exact ⟨3, by omega, by go_num, rfl, hid (by first | trivial | (intro _; rfl) | exact HA | (intro h; exact absurd h (by decide)) | simp), hid (by first | trivial | (intro _; rfl) | (intro h; exact absurd h (by decide)) | simp), hid (by first | trivial | (intro _; rfl) | (intro h; exact absurd h (by decide)) | simp), hst2⟩
        case measure => simp [intOf]
      · have e1 : (c3 != 0) = true := by simpa using e
        have e2 := hid e; clear e
        go_wp2_with (first | go_big_skip | go_big_guard | (apply wl_bsX ([.int .i64 0, .int .i64 c3]) ([.int .i64 0, .int .i64 c3]) hst; rfl; rfl; exact rfl; exact rfl; infer_instance; infer_instance; rfl; rfl; rfl; intro g _ hst1) | (go_at_call 85; refine (or_any _ 0 c3 _ (Rd.blk0 hst1 rfl (by decide))).mono ?_; rintro _ _ ⟨rfl, h4⟩; have hst2 := (St.call0 hst1 h4).nil; clear h4 hst1 hst; rw [or0]))
        go_goals
        try rw [Exit.noGoto_ret]
        go_ret
        exact ⟨(ret_boolv (HL.out.trans (by simp [orI, e2.out]))).symm, hst2⟩
    · have e := ha.out (by omega)
      subst e
      have e := hb.out (by omega)
      subst e
      have e := hc.out (by omega)
      subst e
      go_wp2_with (first | go_big_skip | go_big_guard | fail)
      go_goals
      try rw [Exit.noGoto_ret]
      go_ret
      exact ⟨(ret_boolv (HL.out.trans (by simp [orI]))).symm, hst⟩
end Go.Proofs.Ytifajcblbedcoaa
