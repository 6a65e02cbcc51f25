import Derived.Test.YtilgjldnlgfehaaH26
namespace Go.Proofs.Ytilgjldnlgfehaa
set_option linter.unusedVariables false
set_option linter.unusedSimpArgs false
open Go.RowKit Hp
attribute [local irreducible] Go.Calls
set_option maxRecDepth 100000
set_option maxHeartbeats 4000000
theorem qparse_lt (s : List UInt8) (hs : s.length ≤ 9223372036854775807) (w : World) (hl : s.length < 64) :
    Calls Try.prog 30 #[.string ⟨s.toArray⟩] w fun e w' => e = .returned (.tuple #[.agg (bytesV (parseR s).1).toArray, .agg #[.int .i64 (parseR s).2.1, .int .i64 (parseR s).2.2]]) ∧ St w [] w' [] := by
  have hst := St.refl w
  have hR := parse_len (s := s) (by omega)
  obtain ⟨N, hN⟩ : ∃ N, N = s.length := ⟨_, rfl⟩
  rw [← hN] at hl hR hs
  have hK : ((min N 64 : Nat) : Int) = (N : Int) := by omega
  rw [hK] at hR
  have HR := hid hR
  have hsz : (⟨s.toArray⟩ : ByteArray).size = N := by rw [size_l, hN]
  have d0 : decide ((N : Int) < 64) = true := decide_eq_true (by omega)
  rw [hR]
  clear hl hN hK hR
  go_enter Try.func30, Try.ntmps30
  go_wp2_with (first | go_big_skip | go_big_guard | (refine wl_alloc (T := 29) hst rfl rfl ?_; intro g2 _ hst1; clear hst) | (refine wl_alloc (T := 47) hst1 rfl rfl ?_; intro g3 _ hst3; clear hst1) | (refine wl_build0 rfl rfl ?_) | (refine wl_buildX (cs := [.int .i64 4, .int .i64 (N : Int)]) [(0, .int .i64 4), (1, .int .i64 (N : Int))] rfl rfl (by exact rfl) (by kernel_rfl) ?_) | (refine wl_storeA [_] hst3 rfl rfl rfl rfl rfl rfl rfl ?_; intro _ hst4; clear hst3) | (refine wl_storeA [] hst4 rfl rfl rfl rfl rfl rfl rfl ?_; intro _ hst5; clear hst4))
  have hl1 := Loads.atA (P := Try.prog) (off := 0) (T := 29) (bytesV (List.replicate 32 0)) [_] hst5 rfl rfl
  have hl2 := Loads.atA (P := Try.prog) (off := 0) (T := 47) [.int .i64 4, .int .i64 (N : Int)] [] hst5 rfl rfl
  exact bodyPost_ret (results_cell2L rfl rfl rfl hl1 hl2) rfl ⟨rfl, hst5.nil⟩
theorem qparse_gt (s : List UInt8) (hs : s.length ≤ 9223372036854775807) (w : World) (hl : 64 < s.length) :
    Calls Try.prog 30 #[.string ⟨s.toArray⟩] w fun e w' => e = .returned (.tuple #[.agg (bytesV (parseR s).1).toArray, .agg #[.int .i64 (parseR s).2.1, .int .i64 (parseR s).2.2]]) ∧ St w [] w' [] := by
  have hst := St.refl w
  have hR := parse_len (s := s) (by omega)
  obtain ⟨N, hN⟩ : ∃ N, N = s.length := ⟨_, rfl⟩
  rw [← hN] at hl hR hs
  have hK : ((min N 64 : Nat) : Int) = 64 := by omega
  rw [hK] at hR
  have HR := hid hR
  have hsz : (⟨s.toArray⟩ : ByteArray).size = N := by rw [size_l, hN]
  have d0 : decide ((N : Int) < 64) = false := decide_eq_false (by omega)
  have d1 : decide (64 < (N : Int)) = true := decide_eq_true (by omega)
  rw [hR]
  clear hl hN hK hR
  go_enter Try.func30, Try.ntmps30
  go_wp2_with (first | go_big_skip | go_big_guard | (refine wl_alloc (T := 29) hst rfl rfl ?_; intro g2 _ hst1; clear hst) | (refine wl_alloc (T := 47) hst1 rfl rfl ?_; intro g3 _ hst3; clear hst1) | (refine wl_build0 rfl rfl ?_) | (refine wl_buildX (cs := [.int .i64 4, .int .i64 64]) [(0, .int .i64 4), (1, .int .i64 64)] rfl rfl (by exact rfl) (by kernel_rfl) ?_) | (refine wl_storeA [_] hst3 rfl rfl rfl rfl rfl rfl rfl ?_; intro _ hst4; clear hst3) | (refine wl_storeA [] hst4 rfl rfl rfl rfl rfl rfl rfl ?_; intro _ hst5; clear hst4))
  have hl1 := Loads.atA (P := Try.prog) (off := 0) (T := 29) (bytesV (List.replicate 32 0)) [_] hst5 rfl rfl
  have hl2 := Loads.atA (P := Try.prog) (off := 0) (T := 47) [.int .i64 4, .int .i64 64] [] hst5 rfl rfl
  exact bodyPost_ret (results_cell2L rfl rfl rfl hl1 hl2) rfl ⟨rfl, hst5.nil⟩
theorem qparse_full (s : List UInt8) (hs : s.length ≤ 9223372036854775807) (w : World) (hl : s.length = 64) :
    Calls Try.prog 30 #[.string ⟨s.toArray⟩] w fun e w' => e = .returned (.tuple #[.agg (bytesV (parseR s).1).toArray, .agg #[.int .i64 (parseR s).2.1, .int .i64 (parseR s).2.2]]) ∧ St w [] w' [] := by
  have hst := St.refl w
  have HLs := hid hl
  have hsz : (⟨s.toArray⟩ : ByteArray).size = 64 := by rw [size_l, hl]
  clear hl
  go_enter Try.func30, Try.ntmps30
  go_wp2_with (first | go_big_skip | go_big_guard | (refine wl_alloc (T := 29) hst rfl rfl ?_; intro g2 _ hst1; clear hst) | (refine wl_alloc (T := 47) hst1 rfl rfl ?_; intro g3 _ hst2; clear hst1) | (refine wl_alloc (T := 29) hst2 rfl rfl ?_; intro g4 w4 hst3; clear hst2))
  have hst4 : St w [] w4 [.blk g4 29 (bytesV (idP s 0)), .blk g3 47 [.int .i64 0, .int .i64 0], .blk g2 29 (List.replicate 32 (.int .u8 0))] := by rw [idP_zero]; exact hst3
  clear hst3
  go_loopw [5] (fun q wr => ∃ k : Nat, k ≤ 64 ∧ q = .int .i64 k ∧ Hid (∀ j, j < k → 0 ≤ halfI (s.getD j 0)) ∧ St w [] wr [.blk g4 29 (bytesV (idP s k)), .blk g3 47 [.int .i64 0, .int .i64 0], .blk g2 29 (List.replicate 32 (.int .u8 0))]) (fun q _ => 64 - (intOf q).toNat)
  case atStart => exact ⟨0, by omega, rfl, hid (fun j hj => absurd hj (Nat.not_lt_zero _)), hst4⟩
  case round =>
    clear hst4
    obtain ⟨k, hk, rfl, hall, hst⟩ := hrel
    by_cases hk64 : k < 64
    · have d1 : decide ((k : Int) < 64) = true := decide_eq_true (by omega)
      obtain ⟨c, hc⟩ : ∃ c, c = s.getD k 0 := ⟨_, rfl⟩
      have HC := hid hc
      have hkl := hid (show k < s.length by rw [HLs.out]; exact hk64)
      by_cases hneg : halfI c < 0
      · have d2 : decide (halfI c < 0) = true := decide_eq_true hneg
        have hR := parse_bad HLs.out hk64 (by rw [← hc]; exact hneg) hall.out
        have HR := hid hR
        clear hc hneg hR
        go_wp2_with (first | go_big_skip | go_big_guard | (refine wl_strIxQ (k := k) s rfl rfl rfl rfl Try.underlying9 hkl.out ?_; rw [← HC.out]) | (go_at_call 42; refine (half_any c _).mono ?_; rintro _ _ ⟨rfl, rfl⟩) | (refine wl_build0 rfl rfl ?_) | (refine wl_buildX (cs := [.int .i64 2, .int .i64 (k : Int)]) [(0, .int .i64 2), (1, .int .i64 (k : Int))] rfl rfl (by exact rfl) (by kernel_rfl) ?_) | (refine wl_storeA [_, _] hst rfl rfl rfl rfl rfl rfl rfl ?_; intro _ hst5; clear hst) | (refine wl_storeA [_] hst5 rfl rfl rfl rfl rfl rfl rfl ?_; intro _ hst6; clear hst5))
        have hl1 := Loads.atA (P := Try.prog) (off := 0) (T := 29) (bytesV (List.replicate 32 0)) [_, _] hst6 rfl rfl
        have hl2 := Loads.atA (P := Try.prog) (off := 0) (T := 47) [.int .i64 2, .int .i64 (k : Int)] [_] hst6 rfl rfl
        exact bodyPost_ret (results_cell2L rfl rfl rfl hl1 hl2) rfl ⟨by rw [HR.out], hst6.nil⟩
      · have d2 : decide (halfI c < 0) = false := decide_eq_false hneg
        obtain ⟨m, hm, hh, _⟩ := (half_in c).resolve_left (by omega)
        have hall2 := hid (show ∀ j, j < k + 1 → 0 ≤ halfI (s.getD j 0) from fun j hj => by
          rcases Nat.lt_succ_iff_lt_or_eq.1 hj with h1 | h1
          · exact hall.out j h1
          · rw [h1, ← hc, hh]; omega)
        have hstep := hid (idP_step hk64 hm (by rw [← hc]; exact hh))
        obtain ⟨X, hX⟩ : ∃ X, X = (nibB s k (k / 2)).toNat := ⟨_, rfl⟩
        have hx16 : X < 16 := by rw [hX]; exact nib_lt (by omega)
        have hget := hid (show (bytesV (idP s k))[k / 2]? = some (.int .u8 (X : Int)) by unfold bytesV; rw [List.getElem?_map, idP_get s k (by omega), hX]; rfl)
        obtain ⟨Y, hY⟩ : ∃ Y, Y = UInt8.ofNat (X * 16 + m) := ⟨_, rfl⟩
        have hYn : (Y.toNat : Int) = ((X * 16 + m : Nat) : Int) := by rw [hY, UInt8.toNat_ofNat']; omega
        have hor : IntKind.u8.wrap ((X : Int) * 16 + (m : Int)) = (Y.toNat : Int) := by rw [hYn]; show ((X : Int) * 16 + (m : Int)) % 256 = _; push_cast; omega
        have hwr : IntKind.u8.wrap ((X : Int) * 16) = (X : Int) * 16 := by show ((X : Int) * 16) % 256 = _; omega
        have hwm : IntKind.u8.wrap (m : Int) = (m : Int) := by show (m : Int) % 256 = _; omega
        obtain ⟨J, hJ⟩ : ∃ J, J = k / 2 := ⟨_, rfl⟩
        have hJ32 : J < 32 := by omega
        have HJ := hid hJ
        have f1 : ∀ T, binOp .quo T (.int .i64 (k : Int)) (.int .i64 2) = pure (.int .i64 (J : Int)) := by
          intro T
          have h1 : Int.tdiv (k : Int) 2 = (J : Int) := by rw [hJ]; rfl
          have hw : IntKind.i64.wrap (J : Int) = (J : Int) := IntWalk.i64_in _ (by omega)
          simp only [binOp]
          simp [Op.intDiv, h1, hw]
        have HXX := hid hX
        have HYY := hid hY
        have hJ2 : (J : Int) < 32 := by omega
        have hm2 : ¬ (m : Int) < 0 := by omega
        have d3 : decide ((m : Int) < 0) = false := decide_eq_false hm2
        clear hc hneg hX hY hJ hYn d2
        have HH := hid hh
        clear hh
        go_wp2_with (first | go_big_skip | go_big_guard | (refine wl_strIxQ (k := k) s rfl rfl rfl rfl Try.underlying9 hkl.out ?_; rw [← HC.out]) | (go_at_call 42; refine (half_any c _).mono ?_; rw [HH.out]; rintro _ _ ⟨rfl, rfl⟩) | (refine wl_loadE rfl rfl rfl ?_; refine ⟨_, Loads.at [] hst (by rw [HJ.out]; exact hget.out), ?_⟩) | (refine wl_store [] hst rfl rfl rfl (v := .int .u8 (Y.toNat : Int)) rfl rfl rfl (by rw [length_bytesV, length_idP]; show J + 1 ≤ 32; omega) ?_; intro w5 hst5; clear hst))
        have hst6 : St w [] w5 [.blk g4 29 (bytesV (idP s (k + 1))), .blk g3 47 [.int .i64 0, .int .i64 0], .blk g2 29 (List.replicate 32 (.int .u8 0))] := by
          rw [hstep.out, ← put_set (by rw [length_idP]; omega), ← HXX.out, ← HYY.out, ← HJ.out]
          exact hst5
        clear hst5
        go_roundw
        case rel => exact ⟨k + 1, by omega, by go_num, hall2, hst6⟩
        case measure => simp [intOf]; omega
    · have e : k = 64 := by omega
      subst e
      have hR := parse_ok HLs.out hall.out
      have HR := hid hR
      obtain ⟨B, hB⟩ : ∃ B, B = idP s 64 := ⟨_, rfl⟩
      have hBl := hid (show (bytesV B).length = 32 by rw [length_bytesV, hB, length_idP])
      rw [← hB] at hst
      have HON := hid (ones_bytesV B)
      have HBB := hid hB
      clear hR hB
      go_wp2_with (first | go_big_skip | go_big_guard | (refine wl_loadE rfl rfl rfl ?_; first | refine ⟨_, Loads.atA (bytesV B) [] hst (hBl.out) (List.take_length), ?_⟩) | (refine wl_build0 rfl rfl ?_) | (refine wl_storeA [_, _] hst rfl rfl rfl rfl hBl.out HON.out rfl ?_; intro _ hst5; clear hst) | (refine wl_storeA [_] hst5 rfl rfl rfl rfl rfl rfl rfl ?_; intro _ hst6; clear hst5))
      have hl1 := Loads.atA (P := Try.prog) (off := 0) (T := 29) (bytesV B) [_, _] hst6 hBl.out List.take_length
      have hl2 := Loads.atA (P := Try.prog) (off := 0) (T := 47) [.int .i64 0, .int .i64 0] [_] hst6 rfl rfl
      exact bodyPost_ret (results_cell2L rfl rfl rfl hl1 hl2) rfl ⟨by rw [HR.out, ← HBB.out], hst6.nil⟩
theorem qparse_any (s : List UInt8) (hs : s.length ≤ 9223372036854775807) (w : World) :
    Calls Try.prog 30 #[.string ⟨s.toArray⟩] w fun e w' => e = .returned (.tuple #[.agg (bytesV (parseR s).1).toArray, .agg #[.int .i64 (parseR s).2.1, .int .i64 (parseR s).2.2]]) ∧ St w [] w' [] := by
  rcases Nat.lt_trichotomy s.length 64 with h | h | h
  · exact qparse_lt s hs w h
  · exact qparse_full s hs w h
  · exact qparse_gt s hs w h
end Go.Proofs.Ytilgjldnlgfehaa
