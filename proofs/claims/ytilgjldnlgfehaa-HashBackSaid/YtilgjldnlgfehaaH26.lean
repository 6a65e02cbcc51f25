import Derived.Test.YtilgjldnlgfehaaH25
namespace Go.Proofs.Ytilgjldnlgfehaa
set_option linter.unusedVariables false
set_option linter.unusedSimpArgs false
open Go.RowKit Hp
attribute [local irreducible] Go.Calls
set_option maxRecDepth 100000
set_option maxHeartbeats 4000000
instance pZF : TyZ Try.prog 47 [.int .i64 0, .int .i64 0] := ⟨by kernel_rfl⟩
instance pAF : TyA Try.prog 47 2 := ⟨by kernel_rfl⟩
instance pNF : TyN Try.prog 47 2 := ⟨by kernel_rfl⟩
instance pBF : TyB Try.prog 47 [.int .i64 0, .int .i64 0] := ⟨by kernel_rfl⟩
instance pBI : TyB Try.prog 29 (bytesV (List.replicate 32 0)) := ⟨by kernel_rfl⟩
theorem or_low : ∀ x m : Fin 16, bits .or .u8 ((x.1 : Int) * 16) (m.1 : Int) = ((x.1 * 16 + m.1 : Nat) : Int) := by decide +kernel
theorem nib_lt {s : List UInt8} {i : Nat} (hi : i % 2 = 0 ∨ i % 2 = 1) : (nibB s i (i / 2)).toNat < 16 := by
  unfold nibB
  rw [if_neg (by omega)]
  split
  · rcases half_in (s.getD (2 * (i / 2)) 0) with h | ⟨m, hm, h, _⟩
    · rw [h]; decide
    · rw [h]
      simp
      omega
  · decide
theorem put_set {l : List UInt8} {j : Nat} (hj : j < l.length) (y : UInt8) : putAt (bytesV l) j [.int .u8 (y.toNat : Int)] = bytesV (l.set j y) := by
  unfold putAt bytesV
  rw [List.set_eq_take_append_cons_drop, if_pos hj, List.map_append, List.map_cons, List.map_take, List.map_drop]
  rfl
theorem bad_no {s : List UInt8} (h : ∀ j, j < 64 → 0 ≤ halfI (s.getD j 0)) : badAt s = none := by
  unfold badAt
  rw [List.find?_eq_none]
  intro j hj
  have := h j (List.mem_range.1 hj)
  simp
  exact this
theorem bad_yes {s : List UInt8} {k : Nat} (hk : k < 64) (hb : halfI (s.getD k 0) < 0) (h : ∀ j, j < k → 0 ≤ halfI (s.getD j 0)) : badAt s = some k := by
  unfold badAt
  rw [List.find?_range_eq_some]
  refine ⟨by simpa using hb, List.mem_range.2 hk, fun j hj => ?_⟩
  have := h j hj
  simp
  exact this
theorem parse_bad {s : List UInt8} {k : Nat} (hl : s.length = 64) (hk : k < 64) (hb : halfI (s.getD k 0) < 0) (h : ∀ j, j < k → 0 ≤ halfI (s.getD j 0)) : parseR s = (List.replicate 32 0, 2, (k : Int)) := by
  unfold parseR
  rw [if_neg (fun e => e hl), bad_yes hk hb h]
theorem parse_ok {s : List UInt8} (hl : s.length = 64) (h : ∀ j, j < 64 → 0 ≤ halfI (s.getD j 0)) : parseR s = (idP s 64, 0, 0) := by
  unfold parseR
  rw [if_neg (fun e => e hl), bad_no h]
theorem parse_len {s : List UInt8} (hl : s.length ≠ 64) : parseR s = (List.replicate 32 0, 4, ((min s.length 64 : Nat) : Int)) := by
  unfold parseR
  rw [if_pos hl]
theorem ones32 (l : List UInt8) : (bytesV l).all (·.oneCell') = true := ones_bytesV l
theorem len32 (l : List UInt8) (h : l.length = 32) : (bytesV l).length = 32 := by rw [length_bytesV, h]
theorem parse_lt (s : List UInt8) (hs : s.length ≤ 9223372036854775807) (w : World) (hl : s.length < 64) :
    Calls Try.prog 27 #[.string ⟨s.toArray⟩] w fun e w' => e = .returned (.tuple #[.agg (bytesV (parseR s).1).toArray, .agg #[.int .i64 (parseR s).2.1, .int .i64 (parseR s).2.2]]) ∧ St w [] w' [] := by
  have hst := St.refl w
  have hR := parse_len (s := s) (by omega)
  obtain ⟨N, hN⟩ : ∃ N, N = s.length := ⟨_, rfl⟩
  rw [← hN] at hl hR hs
  have hK : ((min N 64 : Nat) : Int) = (N : Int) := by omega
  rw [hK] at hR
  have HR := hid hR
  have hsz : (⟨s.toArray⟩ : ByteArray).size = N := by rw [size_l, hN]
  have d0 : ((N : Int) != 64) = true := by simpa using (show (N : Int) ≠ 64 by omega)
  have c1 : ¬ (64 : Int) < (N : Int) := by omega
  rw [hR]
  clear hl hN hK hR
  go_enter Try.func27, Try.ntmps27
  go_wp2_with (first | go_big_skip | go_big_guard | (refine wl_alloc (T := 29) hst rfl rfl ?_; intro g2 _ hst1; clear hst) | (refine wl_alloc (T := 47) hst1 rfl rfl ?_; intro g3 _ hst2; clear hst1) | (refine wl_alloc (T := 29) hst2 rfl rfl ?_; intro g4 _ hst3; clear hst2) | (refine wl_loadE rfl rfl rfl ?_; first | refine ⟨_, Loads.atA (bytesV (List.replicate 32 0)) [] hst3 (rfl) (rfl), ?_⟩) | (refine wl_buildX (cs := [.int .i64 4, .int .i64 (N : Int)]) [(0, .int .i64 4), (1, .int .i64 (N : Int))] rfl rfl (by exact rfl) (by kernel_rfl) ?_) | (refine wl_storeA [_, _] hst3 rfl rfl rfl rfl rfl rfl rfl ?_; intro _ hst4; clear hst3) | (refine wl_storeA [_] hst4 rfl rfl rfl rfl rfl rfl rfl ?_; intro _ hst5; clear hst4))
  have hl1 := Loads.atA (P := Try.prog) (off := 0) (T := 29) (bytesV (List.replicate 32 0)) [_, _] hst5 rfl rfl
  have hl2 := Loads.atA (P := Try.prog) (off := 0) (T := 47) [.int .i64 4, .int .i64 (N : Int)] [_] hst5 rfl rfl
  exact bodyPost_ret (results_cell2L rfl rfl rfl hl1 hl2) rfl ⟨rfl, hst5.nil⟩
theorem parse_gt (s : List UInt8) (hs : s.length ≤ 9223372036854775807) (w : World) (hl : 64 < s.length) :
    Calls Try.prog 27 #[.string ⟨s.toArray⟩] w fun e w' => e = .returned (.tuple #[.agg (bytesV (parseR s).1).toArray, .agg #[.int .i64 (parseR s).2.1, .int .i64 (parseR s).2.2]]) ∧ St w [] w' [] := by
  have hst := St.refl w
  have hR := parse_len (s := s) (by omega)
  obtain ⟨N, hN⟩ : ∃ N, N = s.length := ⟨_, rfl⟩
  rw [← hN] at hl hR hs
  have hK : ((min N 64 : Nat) : Int) = 64 := by omega
  rw [hK] at hR
  have HR := hid hR
  have hsz : (⟨s.toArray⟩ : ByteArray).size = N := by rw [size_l, hN]
  have d0 : ((N : Int) != 64) = true := by simpa using (show (N : Int) ≠ 64 by omega)
  have c1 : (64 : Int) < (N : Int) := by omega
  rw [hR]
  clear hl hN hK hR
  go_enter Try.func27, Try.ntmps27
  go_wp2_with (first | go_big_skip | go_big_guard | (refine wl_alloc (T := 29) hst rfl rfl ?_; intro g2 _ hst1; clear hst) | (refine wl_alloc (T := 47) hst1 rfl rfl ?_; intro g3 _ hst2; clear hst1) | (refine wl_alloc (T := 29) hst2 rfl rfl ?_; intro g4 _ hst3; clear hst2) | (refine wl_loadE rfl rfl rfl ?_; first | refine ⟨_, Loads.atA (bytesV (List.replicate 32 0)) [] hst3 (rfl) (rfl), ?_⟩) | (refine wl_buildX (cs := [.int .i64 4, .int .i64 64]) [(0, .int .i64 4), (1, .int .i64 64)] rfl rfl (by exact rfl) (by kernel_rfl) ?_) | (refine wl_storeA [_, _] hst3 rfl rfl rfl rfl rfl rfl rfl ?_; intro _ hst4; clear hst3) | (refine wl_storeA [_] hst4 rfl rfl rfl rfl rfl rfl rfl ?_; intro _ hst5; clear hst4))
  have hl1 := Loads.atA (P := Try.prog) (off := 0) (T := 29) (bytesV (List.replicate 32 0)) [_, _] hst5 rfl rfl
  have hl2 := Loads.atA (P := Try.prog) (off := 0) (T := 47) [.int .i64 4, .int .i64 64] [_] hst5 rfl rfl
  exact bodyPost_ret (results_cell2L rfl rfl rfl hl1 hl2) rfl ⟨rfl, hst5.nil⟩
theorem parse_full (s : List UInt8) (hs : s.length ≤ 9223372036854775807) (w : World) (hl : s.length = 64) :
    Calls Try.prog 27 #[.string ⟨s.toArray⟩] w fun e w' => e = .returned (.tuple #[.agg (bytesV (parseR s).1).toArray, .agg #[.int .i64 (parseR s).2.1, .int .i64 (parseR s).2.2]]) ∧ St w [] w' [] := by
  have hst := St.refl w
  have HLs := hid hl
  have hsz : (⟨s.toArray⟩ : ByteArray).size = 64 := by rw [size_l, hl]
  clear hl
  go_enter Try.func27, Try.ntmps27
  go_wp2_with (first | go_big_skip | go_big_guard | (refine wl_alloc (T := 29) hst rfl rfl ?_; intro g2 _ hst1; clear hst) | (refine wl_alloc (T := 47) hst1 rfl rfl ?_; intro g3 _ hst2; clear hst1) | (refine wl_alloc (T := 29) hst2 rfl rfl ?_; intro g4 w4 hst3; clear hst2))
  have hst4 : St w [] w4 [.blk g4 29 (bytesV (idP s 0)), .blk g3 47 [.int .i64 0, .int .i64 0], .blk g2 29 (List.replicate 32 (.int .u8 0))] := by rw [idP_zero]; exact hst3
  clear hst3
  go_loopw [17] (fun q wr => ∃ k : Nat, k ≤ 64 ∧ q = .int .i64 k ∧ Hid (∀ j, j < k → 0 ≤ halfI (s.getD j 0)) ∧ St w [] wr [.blk g4 29 (bytesV (idP s k)), .blk g3 47 [.int .i64 0, .int .i64 0], .blk g2 29 (List.replicate 32 (.int .u8 0))]) (fun q _ => 64 - (intOf q).toNat)
  case atStart => exact ⟨0, by omega, rfl, hid (fun j hj => absurd hj (Nat.not_lt_zero _)), hst4⟩
  case round =>
    clear hst4
    obtain ⟨k, hk, rfl, hall, hst⟩ := hrel
    by_cases hk64 : k < 64
    · have d1 : decide ((k : Int) < 64) = true := decide_eq_true (by omega)
      obtain ⟨c, hc⟩ : ∃ c, c = s.getD k 0 := ⟨_, rfl⟩
      have HC := hid hc
      have hkl := hid (show k < s.length by rw [HLs.out]; exact hk64)
      by_cases hneg : halfI c < 0
      · have d2 : decide (halfI c < 0) = true := decide_eq_true hneg
        have hR := parse_bad HLs.out hk64 (by rw [← hc]; exact hneg) hall.out
        have HR := hid hR
        clear hc hneg hR
        go_wp2_with (first | go_big_skip | go_big_guard | (refine wl_strIxQ (k := k) s rfl rfl rfl rfl Try.underlying9 hkl.out ?_; rw [← HC.out]) | (go_at_call 40; refine (ixbyte_any c _).mono ?_; rintro _ _ ⟨rfl, rfl⟩) | (refine wl_build0 rfl rfl ?_) | (refine wl_buildX (cs := [.int .i64 2, .int .i64 (k : Int)]) [(0, .int .i64 2), (1, .int .i64 (k : Int))] rfl rfl (by exact rfl) (by kernel_rfl) ?_) | (refine wl_storeA [_, _] hst rfl rfl rfl rfl rfl rfl rfl ?_; intro _ hst5; clear hst) | (refine wl_storeA [_] hst5 rfl rfl rfl rfl rfl rfl rfl ?_; intro _ hst6; clear hst5))
        have hl1 := Loads.atA (P := Try.prog) (off := 0) (T := 29) (bytesV (List.replicate 32 0)) [_, _] hst6 rfl rfl
        have hl2 := Loads.atA (P := Try.prog) (off := 0) (T := 47) [.int .i64 2, .int .i64 (k : Int)] [_] hst6 rfl rfl
        exact bodyPost_ret (results_cell2L rfl rfl rfl hl1 hl2) rfl ⟨by rw [HR.out], hst6.nil⟩
      · have d2 : decide (halfI c < 0) = false := decide_eq_false hneg
        obtain ⟨m, hm, hh, _⟩ := (half_in c).resolve_left (by omega)
        have hall2 := hid (show ∀ j, j < k + 1 → 0 ≤ halfI (s.getD j 0) from fun j hj => by
          rcases Nat.lt_succ_iff_lt_or_eq.1 hj with h1 | h1
          · exact hall.out j h1
          · rw [h1, ← hc, hh]; omega)
        have hstep := hid (idP_step hk64 hm (by rw [← hc]; exact hh))
        obtain ⟨X, hX⟩ : ∃ X, X = (nibB s k (k / 2)).toNat := ⟨_, rfl⟩
        have hx16 : X < 16 := by rw [hX]; exact nib_lt (by omega)
        have hget := hid (show (bytesV (idP s k))[k / 2]? = some (.int .u8 (X : Int)) by unfold bytesV; rw [List.getElem?_map, idP_get s k (by omega), hX]; rfl)
        obtain ⟨Y, hY⟩ : ∃ Y, Y = UInt8.ofNat (X * 16 + m) := ⟨_, rfl⟩
        have hYn : (Y.toNat : Int) = ((X * 16 + m : Nat) : Int) := by rw [hY, UInt8.toNat_ofNat']; omega
        have hor : bits .or .u8 ((X : Int) * 16) (m : Int) = (Y.toNat : Int) := by rw [hYn]; exact or_low ⟨X, hx16⟩ ⟨m, hm⟩
        have hwr : IntKind.u8.wrap ((X : Int) * 16) = (X : Int) * 16 := by show ((X : Int) * 16) % 256 = _; omega
        have hwm : IntKind.u8.wrap (m : Int) = (m : Int) := by show (m : Int) % 256 = _; omega
        obtain ⟨J, hJ⟩ : ∃ J, J = k / 2 := ⟨_, rfl⟩
        have hJ32 : J < 32 := by omega
        have HJ := hid hJ
        have f1 : ∀ T, binOp .quo T (.int .i64 (k : Int)) (.int .i64 2) = pure (.int .i64 (J : Int)) := by
          intro T
          have h1 : Int.tdiv (k : Int) 2 = (J : Int) := by rw [hJ]; rfl
          have hw : IntKind.i64.wrap (J : Int) = (J : Int) := IntWalk.i64_in _ (by omega)
          simp only [binOp]
          simp [Op.intDiv, h1, hw]
        have HXX := hid hX
        have HYY := hid hY
        have hJ2 : (J : Int) < 32 := by omega
        have hm2 : ¬ (m : Int) < 0 := by omega
        have d3 : decide ((m : Int) < 0) = false := decide_eq_false hm2
        clear hc hneg hX hY hJ hYn d2
        have HH := hid hh
        clear hh
        go_wp2_with (first | go_big_skip | go_big_guard | (refine wl_strIxQ (k := k) s rfl rfl rfl rfl Try.underlying9 hkl.out ?_; rw [← HC.out]) | (go_at_call 40; refine (ixbyte_any c _).mono ?_; rw [HH.out]; rintro _ _ ⟨rfl, rfl⟩) | (refine wl_loadE rfl rfl rfl ?_; refine ⟨_, Loads.at [] hst (by rw [HJ.out]; exact hget.out), ?_⟩) | (refine wl_store [] hst rfl rfl rfl (v := .int .u8 (Y.toNat : Int)) rfl rfl rfl (by rw [length_bytesV, length_idP]; show J + 1 ≤ 32; omega) ?_; intro w5 hst5; clear hst))
        have hst6 : St w [] w5 [.blk g4 29 (bytesV (idP s (k + 1))), .blk g3 47 [.int .i64 0, .int .i64 0], .blk g2 29 (List.replicate 32 (.int .u8 0))] := by
          rw [hstep.out, ← put_set (by rw [length_idP]; omega), ← HXX.out, ← HYY.out, ← HJ.out]
          exact hst5
        clear hst5
        go_roundw
        case rel => exact ⟨k + 1, by omega, by go_num, hall2, hst6⟩
        case measure => simp [intOf]; omega
    · have e : k = 64 := by omega
      subst e
      have hR := parse_ok HLs.out hall.out
      have HR := hid hR
      obtain ⟨B, hB⟩ : ∃ B, B = idP s 64 := ⟨_, rfl⟩
      have hBl := hid (show (bytesV B).length = 32 by rw [length_bytesV, hB, length_idP])
      rw [← hB] at hst
      have HON := hid (ones_bytesV B)
      have HBB := hid hB
      clear hR hB
      go_wp2_with (first | go_big_skip | go_big_guard | (refine wl_loadE rfl rfl rfl ?_; first | refine ⟨_, Loads.atA (bytesV B) [] hst (hBl.out) (List.take_length), ?_⟩) | (refine wl_build0 rfl rfl ?_) | (refine wl_storeA [_, _] hst rfl rfl rfl rfl hBl.out HON.out rfl ?_; intro _ hst5; clear hst) | (refine wl_storeA [_] hst5 rfl rfl rfl rfl rfl rfl rfl ?_; intro _ hst6; clear hst5))
      have hl1 := Loads.atA (P := Try.prog) (off := 0) (T := 29) (bytesV B) [_, _] hst6 hBl.out List.take_length
      have hl2 := Loads.atA (P := Try.prog) (off := 0) (T := 47) [.int .i64 0, .int .i64 0] [_] hst6 rfl rfl
      exact bodyPost_ret (results_cell2L rfl rfl rfl hl1 hl2) rfl ⟨by rw [HR.out, ← HBB.out], hst6.nil⟩
theorem parse_any (s : List UInt8) (hs : s.length ≤ 9223372036854775807) (w : World) :
    Calls Try.prog 27 #[.string ⟨s.toArray⟩] w fun e w' => e = .returned (.tuple #[.agg (bytesV (parseR s).1).toArray, .agg #[.int .i64 (parseR s).2.1, .int .i64 (parseR s).2.2]]) ∧ St w [] w' [] := by
  rcases Nat.lt_trichotomy s.length 64 with h | h | h
  · exact parse_lt s hs w h
  · exact parse_full s hs w h
  · exact parse_gt s hs w h
end Go.Proofs.Ytilgjldnlgfehaa
