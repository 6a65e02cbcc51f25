import Derived.Test.YtalfdcfcaamnbaaF6
namespace Go.Proofs.Ytalfdcfcaamnbaa
set_option linter.unusedVariables false
set_option linter.unusedSimpArgs false
open Go.RowKit Hp
attribute [local irreducible] Go.Calls
set_option maxRecDepth 100000
set_option maxHeartbeats 4000000
def lenV : Value → Nat
  | .slice _ n _ => n
  | _ => 0
theorem vnum_arg (g : Nat) (bv : Value) (s : WR) (n size : Int) (w : World) (h : St w (vF g bv s) w (vP g bv s)) (hB : s.2.length ≤ 65536) (hs : -9223372036854775808 ≤ size ∧ size ≤ 9223372036854775807) (hn : -9223372036854775808 ≤ n ∧ n ≤ 9223372036854775807) (h1 : size < 1 ∨ 7 < size) :
    Calls Try.prog 35 #[.pointer (some ⟨g, 0, none⟩), .int .i64 n, .int .i64 size] w (vrote g w (vF g bv s) (putW s (numR n size))) := by
  have hR : numR n size = (2, []) := by unfold numR; rw [if_pos h1]
  rw [hR]
  have Hsz := hid (show (decide (1 ≤ size) && decide (size ≤ 7)) = false by rcases h1 with h1 | h1 <;> simp <;> omega)
  clear hR h1
  have hst := h
  obtain ⟨W0, hW⟩ : ∃ W0, W0 = vP g bv s := ⟨_, rfl⟩
  have HW := hid hW
  rw [← hW] at hst
  obtain ⟨F, hF⟩ : ∃ F, F = vF g bv s := ⟨_, rfl⟩
  have HF := hid hF
  rw [← hF] at hst ⊢
  clear h hW hF
  go_enter Try.func35, Try.ntmps35
  go_wp2_with (first | go_big_skip | go_big_guard | (go_at_call 60; refine (size_any size _).mono ?_; rw [Hsz.out]; rintro _ w1 ⟨rfl, h4⟩; have hst1 := St.call0 hst h4; clear h4 hst) | (go_at_call 61; rw [HW.out] at hst1; refine (put_any g bv s none 0 0 [] 2 _ hst1.selfF hB (Rd.nil _ _) (Off.nil _ _ _) rfl (by decide)).mono ?_; rintro _ w9 ⟨rfl, bv', h4⟩; have hst9 := St.thenF hst1 h4; clear h4))
  go_end0
  exact ⟨rfl, _, hst9⟩
theorem vnum_range (g : Nat) (bv : Value) (s : WR) (n size : Int) (w : World) (h : St w (vF g bv s) w (vP g bv s)) (hB : s.2.length ≤ 65536) (hs : -9223372036854775808 ≤ size ∧ size ≤ 9223372036854775807) (hn : -9223372036854775808 ≤ n ∧ n ≤ 9223372036854775807) (h1 : ¬ (size < 1 ∨ 7 < size)) (h2 : n < 0 ∨ n / 2 ^ (8 * size).toNat ≠ 0) :
    Calls Try.prog 35 #[.pointer (some ⟨g, 0, none⟩), .int .i64 n, .int .i64 size] w (vrote g w (vF g bv s) (putW s (numR n size))) := by
  have hR : numR n size = (5, []) := by unfold numR; rw [if_neg h1, if_pos h2]
  rw [hR]
  have Hsz := hid (show (decide (1 ≤ size) && decide (size ≤ 7)) = true by simp; omega)
  clear hR
  have hst := h
  obtain ⟨W0, hW⟩ : ∃ W0, W0 = vP g bv s := ⟨_, rfl⟩
  have HW := hid hW
  rw [← hW] at hst
  obtain ⟨F, hF⟩ : ∃ F, F = vF g bv s := ⟨_, rfl⟩
  have HF := hid hF
  rw [← hF] at hst ⊢
  clear h hW hF
  by_cases h3 : n < 0
  · have d3 : decide (n < 0) = true := decide_eq_true h3
    clear h1 h2
    go_enter Try.func35, Try.ntmps35
    go_wp2_with (first | go_big_skip | go_big_guard | (go_at_call 60; refine (size_any size _).mono ?_; rw [Hsz.out]; rintro _ w1 ⟨rfl, h4⟩; have hst1 := St.call0 hst h4; clear h4 hst) | (go_at_call 61; rw [HW.out] at hst1; refine (put_any g bv s none 0 0 [] 5 _ hst1.selfF hB (Rd.nil _ _) (Off.nil _ _ _) rfl (by decide)).mono ?_; rintro _ w9 ⟨rfl, bv', h4⟩; have hst9 := St.thenF hst1 h4; clear h4))
    go_end0
    exact ⟨rfl, _, hst9⟩
  · have d3 : decide (n < 0) = false := decide_eq_false (by omega)
    have h4 := h2.resolve_left h3
    have hb : 1 ≤ size ∧ size ≤ 7 := by omega
    obtain ⟨Q, hQ⟩ : ∃ Q : Int, Q = n / 2 ^ (8 * size).toNat := ⟨_, rfl⟩
    have z0 : IntKind.i64.wrap (8 * size) = 8 * size := IntWalk.i64_in _ (by omega)
    have f1 : ∀ T, binOp .shr T (.int .i64 n) (.int .i64 (8 * size)) = pure (.int .i64 Q) := by
      intro T
      show Op.shift .shr .i64 n .i64 (8 * size) = _
      rw [shift_shr .i64 .i64 n _ (by omega) (by show _ ≤ (64 : Int); omega), hQ]
    have hQ0 : 0 ≤ Q := by rw [hQ]; exact Int.ediv_nonneg (by omega) (by exact_mod_cast Nat.zero_le _)
    rw [← hQ] at h4
    have d4 : decide (0 < Q) = true := decide_eq_true (by omega)
    clear h1 h2 hQ h4 hb h3 hQ0
    go_enter Try.func35, Try.ntmps35
    go_wp2_with (first | go_big_skip | go_big_guard | (go_at_call 60; refine (size_any size _).mono ?_; rw [Hsz.out]; rintro _ w1 ⟨rfl, h4⟩; have hst1 := St.call0 hst h4; clear h4 hst) | (go_at_call 61; rw [HW.out] at hst1; refine (put_any g bv s none 0 0 [] 5 _ hst1.selfF hB (Rd.nil _ _) (Off.nil _ _ _) rfl (by decide)).mono ?_; rintro _ w9 ⟨rfl, bv', h4⟩; have hst9 := St.thenF hst1 h4; clear h4))
    go_end0
    exact ⟨rfl, _, hst9⟩
theorem vnum_ok (g : Nat) (bv : Value) (s : WR) (n size : Int) (w : World) (h : St w (vF g bv s) w (vP g bv s)) (hB : s.2.length ≤ 65536) (hs : -9223372036854775808 ≤ size ∧ size ≤ 9223372036854775807) (hn : -9223372036854775808 ≤ n ∧ n ≤ 9223372036854775807) (h1 : ¬ (size < 1 ∨ 7 < size)) (h2 : ¬ (n < 0 ∨ n / 2 ^ (8 * size).toNat ≠ 0)) :
    Calls Try.prog 35 #[.pointer (some ⟨g, 0, none⟩), .int .i64 n, .int .i64 size] w (vrote g w (vF g bv s) (putW s (numR n size))) := by
  have hR : numR n size = (0, numB n size.toNat) := by unfold numR; rw [if_neg h1, if_neg h2]
  rw [hR]
  clear hR
  obtain ⟨k, rfl⟩ : ∃ k : Nat, size = (k : Int) := ⟨size.toNat, by omega⟩
  rw [Int.toNat_natCast]
  have hk1 : 1 ≤ k := by omega
  have hk7 : k ≤ 7 := by omega
  have Hsz := hid (show (decide (1 ≤ (k : Int)) && decide ((k : Int) ≤ 7)) = true by simp; omega)
  have d3 : decide (n < 0) = false := decide_eq_false (by omega)
  have h4 : n / 2 ^ (8 * (k : Int)).toNat = 0 := by
    rcases Decidable.em (n / 2 ^ (8 * (k : Int)).toNat = 0) with h | h
    · exact h
    · exact absurd (.inr h) h2
  have z0 : IntKind.i64.wrap (8 * (k : Int)) = 8 * (k : Int) := IntWalk.i64_in _ (by omega)
  have z1 : IntKind.i64.wrap ((k : Int) - 1) = (k : Int) - 1 := IntWalk.i64_in _ (by omega)
  have f1 : ∀ T, binOp .shr T (.int .i64 n) (.int .i64 (8 * (k : Int))) = pure (.int .i64 0) := by
    intro T
    show Op.shift .shr .i64 n .i64 (8 * (k : Int)) = _
    rw [shift_shr .i64 .i64 n _ (by omega) (by show _ ≤ (64 : Int); omega), h4]
  clear h1 h2 h4
  have hst := h
  obtain ⟨W0, hW⟩ : ∃ W0, W0 = vP g bv s := ⟨_, rfl⟩
  have HW := hid hW
  rw [← hW] at hst
  obtain ⟨F, hF⟩ : ∃ F, F = vF g bv s := ⟨_, rfl⟩
  have HF := hid hF
  rw [← hF] at hst ⊢
  clear h hW hF
  go_enter Try.func35, Try.ntmps35
  go_wp2_with (first | go_big_skip | go_big_guard | (go_at_call 60; refine (size_any k _).mono ?_; rw [Hsz.out]; rintro _ w1 ⟨rfl, h4⟩; have hst1 := St.call0 hst h4; clear h4 hst))
  have hst2 : St w F w1 (.rowP isB (.slice none 0 0) 5 1 (k - k) (bytesV ((numB n k).take (k - k))) :: W0) := by rw [Nat.sub_self]; exact St.nilPQ isB 5 1 hst1
  clear hst1 f1 z0
  go_loopw [6, 7] (fun u i wr => ∃ j : Nat, j ≤ k ∧ i = .int .i64 ((j : Int) - 1) ∧ St w F wr (.rowP isB u 5 1 (k - j) (bytesV ((numB n k).take (k - j))) :: W0)) (fun _ i _ => (intOf i + 1).toNat)
  case atStart => exact ⟨k, Nat.le_refl _, rfl, hst2⟩
  case round =>
    clear hst2
    obtain ⟨j, hj, rfl, hst⟩ := hrel
    by_cases hlt : 0 < j
    · obtain ⟨Q, hQ⟩ : ∃ Q : Int, Q = n / 2 ^ (8 * ((j : Int) - 1)).toNat := ⟨_, rfl⟩
      have z0 : IntKind.i64.wrap (8 * ((j : Int) - 1)) = 8 * ((j : Int) - 1) := IntWalk.i64_in _ (by omega)
      have z1 : IntKind.i64.wrap ((j : Int) - 1 - 1) = (j : Int) - 1 - 1 := IntWalk.i64_in _ (by omega)
      have f1 : ∀ T, binOp .shr T (.int .i64 n) (.int .i64 (8 * ((j : Int) - 1))) = pure (.int .i64 Q) := by
        intro T
        show Op.shift .shr .i64 n .i64 (8 * ((j : Int) - 1)) = _
        rw [shift_shr .i64 .i64 n _ (by omega) (by show _ ≤ (64 : Int); omega), hQ]
      have f3 : Q % 256 = ((byteAt n (j - 1)).toNat : Int) := by
        rw [hQ, byteAt_int, show (8 * ((j : Int) - 1)).toNat = 8 * (j - 1) by omega]
      have f2 : IntKind.u8.wrap Q = ((byteAt n (j - 1)).toNat : Int) := f3
      obtain ⟨Y, hY⟩ : ∃ Y, Y = byteAt n (j - 1) := ⟨_, rfl⟩
      rw [← hY] at f2 f3
      have HY := hid hY
      have g0 : decide ((0 : Int) ≤ (j : Int) - 1) = true := decide_eq_true (by omega)
      clear hY hQ
      go_wp2_with (first | go_big_skip | go_big_guard | (apply wl_bsX [.int _ _] [.int _ _] hst; rfl; rfl; exact rfl; exact rfl; infer_instance; infer_instance; rfl; rfl; rfl; intro gb _ hst2; clear hst) | (apply wl_appP (ys := bytesV [Y]) [_] hst2; rfl; rfl; exact rfl; exact rfl; infer_instance; infer_instance; infer_instance; infer_instance; exact (Rd.blk0 hst2 rfl (by decide)); exact rfl; rfl; exact isB_bytes _; (unfold maxLen; omega); intro v1 w9 hst3 _; clear hst2))
      have hst5 : St w F w9 (.rowP isB v1 5 1 (k - (j - 1)) (bytesV ((numB n k).take (k - (j - 1)))) :: W0) := by
        have h := St.sub hst3 (.cons _ (List.Sublist.refl _))
        rw [show k - (j - 1) = (k - j) + 1 by omega, numB_take _ _ _ (by omega), bytesV_app _ [_], show k - 1 - (k - j) = j - 1 by omega, ← HY.out]
        exact h
      clear hst3
      go_roundw
      case rel => exact ⟨j - 1, by omega, (by congr 1; omega), hst5⟩
      case measure => simp [intOf]; omega
    · have hj0 : j = 0 := by omega
      subst hj0
      have g0 : decide ((0 : Int) ≤ ((0 : Nat) : Int) - 1) = false := by decide
      have e : (numB n k).take (k - 0) = numB n k := by rw [List.take_of_length_le]; rw [length_numB]; omega
      rw [e, Nat.sub_zero] at hst
      clear e
      obtain ⟨au, cu, rfl⟩ := St.rowPSliceF [] hst
      go_wp2_with (first | go_big_skip | go_big_guard | (go_at_call 61; rw [HW.out] at hst; have ho := St.offFeet hst; have hS := (St.sub hst (.cons _ (List.Sublist.refl _))).selfF; refine (put_any g bv s au k cu (numB n k) 0 _ hS hB (Rd.rowP hst (.head _)) ho (length_numB _ _) (by omega)).mono ?_; rintro _ w9 ⟨rfl, bv', h4⟩; have hst9 := St.thenF (St.sub hst (.cons _ (List.Sublist.refl _))) h4; clear h4))
      go_end0
      exact ⟨rfl, _, hst9⟩
theorem vnum_any (g : Nat) (bv : Value) (s : WR) (n size : Int) (w : World) (h : St w (vF g bv s) w (vP g bv s)) (hB : s.2.length ≤ 65536) (hs : -9223372036854775808 ≤ size ∧ size ≤ 9223372036854775807) (hn : -9223372036854775808 ≤ n ∧ n ≤ 9223372036854775807)  :
    Calls Try.prog 35 #[.pointer (some ⟨g, 0, none⟩), .int .i64 n, .int .i64 size] w (vrote g w (vF g bv s) (putW s (numR n size))) := by
  by_cases h1 : size < 1 ∨ 7 < size
  · exact vnum_arg g bv s n size w h hB hs hn h1
  · by_cases h2 : n < 0 ∨ n / 2 ^ (8 * size).toNat ≠ 0
    · exact vnum_range g bv s n size w h hB hs hn h1 h2
    · exact vnum_ok g bv s n size w h hB hs hn h1 h2
theorem vraw_any (g : Nat) (bv : Value) (s : WR) (au : Option Addr) (m cu : Nat) (b : List UInt8) (w : World) (h : St w (vF g bv s) w (vP g bv s)) (hB : s.2.length ≤ 65536) (hu : Rd w (.slice au m cu) 1 m (bytesV b)) (ho : Off (.slice au m cu) (vF g bv s)) (hm : b.length = m) (hr : m ≤ 100000) :
    Calls Try.prog 37 #[.pointer (some ⟨g, 0, none⟩), .slice au m cu] w (vrote g w (vF g bv s) (putW s ((0, b) : WR))) := by
  have HM := hid hm
  clear hm
  have hst := h
  obtain ⟨R, hR⟩ : ∃ R, R = putW s (0, b) := ⟨_, rfl⟩
  have HR := hid hR
  rw [← hR]
  clear hR
  go_enter Try.func37, Try.ntmps37
  go_wp2_with (first | go_big_skip | go_big_guard | (go_at_call 61; refine (put_any g bv s au m cu b 0 _ h hB hu ho HM.out hr).mono ?_; rintro _ w9 ⟨rfl, bv', h4⟩; rw [← HR.out] at h4))
  go_end0
  exact ⟨rfl, _, h4⟩
theorem vtext_arg (g : Nat) (bv : Value) (s : WR) (t : List UInt8) (most : Int) (w : World) (h : St w (vF g bv s) w (vP g bv s)) (hB : s.2.length ≤ 65536) (hs : -9223372036854775808 ≤ most ∧ most ≤ 9223372036854775807) (hl : t.length ≤ 9223372036854775807) (h1 : most < 0 ∨ 255 < most) :
    Calls Try.prog 36 #[.pointer (some ⟨g, 0, none⟩), .string ⟨t.toArray⟩, .int .i64 most] w (vrote g w (vF g bv s) (putW s (textR t most))) := by
  have hR : textR t most = (2, []) := by unfold textR; rw [if_pos h1]
  rw [hR]
  have hst := h
  obtain ⟨W0, hW⟩ : ∃ W0, W0 = vP g bv s := ⟨_, rfl⟩
  have HW := hid hW
  rw [← hW] at hst
  obtain ⟨F, hF⟩ : ∃ F, F = vF g bv s := ⟨_, rfl⟩
  have HF := hid hF
  rw [← hF] at hst ⊢
  clear h hW hF
  by_cases h2 : most < 0
  · have d1 : decide (most < 0) = true := decide_eq_true h2
    clear h1 hR
    go_enter Try.func36, Try.ntmps36
    go_wp2_with (first | go_big_skip | go_big_guard | (go_at_call 61; rw [HW.out] at hst; refine (put_any g bv s none 0 0 [] 2 _ hst.selfF hB (Rd.nil _ _) (Off.nil _ _ _) rfl (by decide)).mono ?_; rintro _ w9 ⟨rfl, bv', h4⟩; have hst9 := St.thenF hst h4; clear h4))
    go_end0
    exact ⟨rfl, _, hst9⟩
  · have d1 : decide (most < 0) = false := decide_eq_false (by omega)
    have d2 : decide (255 < most) = true := decide_eq_true (by omega)
    clear h1 hR h2
    go_enter Try.func36, Try.ntmps36
    go_wp2_with (first | go_big_skip | go_big_guard | (go_at_call 61; rw [HW.out] at hst; refine (put_any g bv s none 0 0 [] 2 _ hst.selfF hB (Rd.nil _ _) (Off.nil _ _ _) rfl (by decide)).mono ?_; rintro _ w9 ⟨rfl, bv', h4⟩; have hst9 := St.thenF hst h4; clear h4))
    go_end0
    exact ⟨rfl, _, hst9⟩
theorem vtext_long (g : Nat) (bv : Value) (s : WR) (t : List UInt8) (most : Int) (w : World) (h : St w (vF g bv s) w (vP g bv s)) (hB : s.2.length ≤ 65536) (hs : -9223372036854775808 ≤ most ∧ most ≤ 9223372036854775807) (hl : t.length ≤ 9223372036854775807) (h1 : ¬ (most < 0 ∨ 255 < most)) (h2 : most < t.length) :
    Calls Try.prog 36 #[.pointer (some ⟨g, 0, none⟩), .string ⟨t.toArray⟩, .int .i64 most] w (vrote g w (vF g bv s) (putW s (textR t most))) := by
  have hR : textR t most = (3, []) := by unfold textR; rw [if_neg h1, if_pos h2]
  rw [hR]
  have d1 : decide (most < 0) = false := decide_eq_false (by omega)
  have d2 : decide (255 < most) = false := decide_eq_false (by omega)
  have hsz : (⟨t.toArray⟩ : ByteArray).size = t.length := by simp [ByteArray.size]
  have d3 : decide (most < (t.length : Int)) = true := decide_eq_true h2
  clear h1 hR h2
  have hst := h
  obtain ⟨W0, hW⟩ : ∃ W0, W0 = vP g bv s := ⟨_, rfl⟩
  have HW := hid hW
  rw [← hW] at hst
  obtain ⟨F, hF⟩ : ∃ F, F = vF g bv s := ⟨_, rfl⟩
  have HF := hid hF
  rw [← hF] at hst ⊢
  clear h hW hF
  go_enter Try.func36, Try.ntmps36
  go_wp2_with (first | go_big_skip | go_big_guard | (go_at_call 61; rw [HW.out] at hst; refine (put_any g bv s none 0 0 [] 3 _ hst.selfF hB (Rd.nil _ _) (Off.nil _ _ _) rfl (by decide)).mono ?_; rintro _ w9 ⟨rfl, bv', h4⟩; have hst9 := St.thenF hst h4; clear h4))
  go_end0
  exact ⟨rfl, _, hst9⟩
theorem vtext_ok (g : Nat) (bv : Value) (s : WR) (t : List UInt8) (most : Int) (w : World) (h : St w (vF g bv s) w (vP g bv s)) (hB : s.2.length ≤ 65536) (hs : -9223372036854775808 ≤ most ∧ most ≤ 9223372036854775807) (hl : t.length ≤ 9223372036854775807) (h1 : ¬ (most < 0 ∨ 255 < most)) (h2 : ¬ most < t.length) :
    Calls Try.prog 36 #[.pointer (some ⟨g, 0, none⟩), .string ⟨t.toArray⟩, .int .i64 most] w (vrote g w (vF g bv s) (putW s (textR t most))) := by
  have hR : textR t most = (0, UInt8.ofNat t.length :: (t ++ List.replicate (most.toNat - t.length) 0)) := by unfold textR; rw [if_neg h1, if_neg h2]
  rw [hR]
  clear hR
  obtain ⟨k, rfl⟩ : ∃ k : Nat, most = (k : Int) := ⟨most.toNat, by omega⟩
  have hk : k ≤ 255 := by omega
  have hsk : t.length ≤ k := by omega
  have d1 : decide ((k : Int) < 0) = false := decide_eq_false (by omega)
  have d2 : decide (255 < (k : Int)) = false := decide_eq_false (by omega)
  have d3 : decide ((k : Int) < (t.length : Int)) = false := decide_eq_false (by omega)
  have z0 : IntKind.i64.wrap (1 + (k : Int)) = 1 + (k : Int) := IntWalk.i64_in _ (by omega)
  have hsz : (⟨t.toArray⟩ : ByteArray).size = t.length := by simp [ByteArray.size]
  obtain ⟨Y, hY⟩ : ∃ Y : UInt8, Y = UInt8.ofNat t.length := ⟨_, rfl⟩
  have f2 : IntKind.u8.wrap (t.length : Int) = (Y.toNat : Int) := by
    rw [hY, UInt8.toNat_ofNat']
    show (t.length : Int) % 256 = _
    omega
  have f3 : (t.length : Int) % 256 = (Y.toNat : Int) := f2
  rw [← hY, Int.toNat_natCast]
  obtain ⟨m, hm⟩ : ∃ m, m = t.length := ⟨_, rfl⟩
  have HM := hid hm
  have HB := hid (show t.length ≤ 1000000000 by omega)
  have hmk : m ≤ k := by omega
  clear h1 h2 hY hm
  have hst := h
  obtain ⟨W0, hW⟩ : ∃ W0, W0 = vP g bv s := ⟨_, rfl⟩
  have HW := hid hW
  rw [← hW] at hst
  obtain ⟨F, hF⟩ : ∃ F, F = vF g bv s := ⟨_, rfl⟩
  have HF := hid hF
  rw [← hF] at hst ⊢
  clear h hW hF
  go_enter Try.func36, Try.ntmps36
  go_wp2_with (first | go_big_skip | go_big_guard | (apply wl_bsX [.int _ _] [.int _ _] hst; rfl; rfl; exact rfl; exact rfl; infer_instance; infer_instance; rfl; rfl; rfl; intro gb _ hst1; clear hst) | (apply wl_appStr (l := t) hst1; rfl; rfl; exact rfl; exact rfl; infer_instance; infer_instance; infer_instance; infer_instance; rfl; exact Nat.le_refl _; exact isB_bytes [Y]; (exact ⟨by decide, HB.out, rfl⟩); intro v1 w9 hst2; clear hst1))
  have hst3 : St w F w9 (.rowP isB v1 5 1 (1 + m + 0) (bytesV (Y :: (t ++ List.replicate 0 0))) :: W0) := by
    have e : bytesV (Y :: (t ++ List.replicate 0 0)) = [.int .u8 (Y.toNat : Int)] ++ bytesV t := by simp [bytesV]
    rw [e, HM.out]
    exact hst2
  clear hst2 f2 f3 d1 d2 d3 hsz
  go_loopw [6] (fun u wr => ∃ j : Nat, j ≤ k - m ∧ St w F wr (.rowP isB u 5 1 (1 + m + j) (bytesV (Y :: (t ++ List.replicate j 0))) :: W0)) (fun u _ => 1 + k - lenV u)
  case atStart => exact ⟨0, by omega, hst3⟩
  case round =>
    clear hst3
    obtain ⟨j, hj, hst⟩ := hrel
    obtain ⟨au, cu, hu⟩ := St.rowPSliceF [] hst
    obtain ⟨L, hL⟩ : ∃ L, L = 1 + m + j := ⟨_, rfl⟩
    have hlen : (Builtin.len_ #[23] 3 #[u6]).run Try.prog wr = .ok (.int .i64 (L : Int)) wr := by subst hu; rw [hL]; rfl
    have hL1 : L ≤ 300 := by omega
    have Hu := hid hu
    by_cases hjn : j < k - m
    · have d5 : decide ((L : Int) < 1 + (k : Int)) = true := decide_eq_true (by omega)
      rw [← hL] at hst
      have HL := hid hL
      clear hL hu
      go_wp2_with (first | go_big_skip | go_big_guard | (apply wl_bsX [.int _ _] [.int _ _] hst; rfl; rfl; exact rfl; exact rfl; infer_instance; infer_instance; rfl; rfl; rfl; intro gb _ hst2; clear hst) | (apply wl_appP [_] hst2; rfl; rfl; exact rfl; exact rfl; infer_instance; infer_instance; infer_instance; infer_instance; exact (Rd.blk0 hst2 rfl (by decide)); exact rfl; rfl; rfl; (unfold maxLen; omega); intro v1 w9 hst3 _; clear hst2))
      have hst5 : St w F w9 (.rowP isB v1 5 1 (1 + m + (j + 1)) (bytesV (Y :: (t ++ List.replicate (j + 1) 0))) :: W0) := by
        have h := St.sub hst3 (.cons _ (List.Sublist.refl _))
        have e : bytesV (Y :: (t ++ List.replicate (j + 1) 0)) = bytesV (Y :: (t ++ List.replicate j 0)) ++ [.int .u8 0] := by simp [bytesV, List.replicate_succ']
        rw [e, show 1 + m + (j + 1) = L + 1 by rw [HL.out]; omega]
        exact h
      clear hst3
      obtain ⟨a9, c9, hu9⟩ := St.rowPSliceF [] hst5
      have Hu9 := hid hu9
      clear hu9
      go_roundw
      case rel => exact ⟨j + 1, by omega, hst5⟩
      case measure =>
        rw [Hu9.out, Hu.out]
        show 1 + k - (1 + m + (j + 1)) < 1 + k - (1 + m + j)
        omega
    · have ej : j = k - m := by omega
      have d5 : decide ((L : Int) < 1 + (k : Int)) = false := decide_eq_false (by omega)
      have HE := hid (show 1 + m + j = k + 1 by omega)
      have HL2 := hid (show (Y :: (t ++ List.replicate (k - m) 0)).length = k + 1 by simp [← HM.out]; omega)
      clear hL
      subst hu
      rw [HE.out, ej] at hst
      rw [HE.out]
      go_wp2_with (first | go_big_skip | go_big_guard | (go_at_call 61; rw [HW.out] at hst; have ho := St.offFeet hst; have hS := (St.sub hst (.cons _ (List.Sublist.refl _))).selfF; refine (put_any g bv s au (k + 1) cu (Y :: (t ++ List.replicate (k - m) 0)) 0 _ hS hB (Rd.rowP hst (.head _)) ho HL2.out (by omega)).mono ?_; rintro _ w9 ⟨rfl, bv', h4⟩; have hst9 := St.thenF (St.sub hst (.cons _ (List.Sublist.refl _))) h4; clear h4))
      go_end0
      rw [HM.out] at hst9
      exact ⟨rfl, _, hst9⟩
theorem vtext_any (g : Nat) (bv : Value) (s : WR) (t : List UInt8) (most : Int) (w : World) (h : St w (vF g bv s) w (vP g bv s)) (hB : s.2.length ≤ 65536) (hs : -9223372036854775808 ≤ most ∧ most ≤ 9223372036854775807) (hl : t.length ≤ 9223372036854775807)  :
    Calls Try.prog 36 #[.pointer (some ⟨g, 0, none⟩), .string ⟨t.toArray⟩, .int .i64 most] w (vrote g w (vF g bv s) (putW s (textR t most))) := by
  by_cases h1 : most < 0 ∨ 255 < most
  · exact vtext_arg g bv s t most w h hB hs hl h1
  · by_cases h2 : most < t.length
    · exact vtext_long g bv s t most w h hB hs hl h1 h2
    · exact vtext_ok g bv s t most w h hB hs hl h1 h2
end Go.Proofs.Ytalfdcfcaamnbaa
