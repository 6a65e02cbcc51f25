import Derived.Test.YtlgioloanjjndaaFG
import Derived.Test.YtlgioloanjjndaaF33
namespace Go.Proofs.Ytlgioloanjjndaa
set_option linter.unusedVariables false
set_option linter.unusedSimpArgs false
open Go.RowKit Hp
attribute [local irreducible] Go.Calls
set_option maxRecDepth 100000
set_option maxHeartbeats 4000000
instance fZA : TyZ Try.prog 34 [.int .i64 0, .int .i64 0, .int .i64 0, .string ⟨#[]⟩, .slice none 0 0] := ⟨by kernel_rfl⟩
section
attribute [local go_sem ↓] loadedInt
theorem right_2 (k n z : Int) (s : List UInt8) (au : Option Addr) (m cu : Nat) (w : World) (h0 : k ≠ 0) (h1 : k ≠ 1) :
    Calls Try.prog 19 #[.agg ([.int .i64 k, .int .i64 n, .int .i64 z, .string ⟨(s).toArray⟩, .slice au m cu] : List Value).toArray] w fun e w' => e = .returned (.agg ([.int .i64 2, .int .i64 n, .int .i64 z, .string ⟨(s).toArray⟩, .slice au m cu] : List Value).toArray) ∧ St w [] w' [] := by
  have hst := St.refl w
  have d0 : (k == 0) = false := by simpa using h0
  have d1 : (k == 1) = false := by simpa using h1
  clear h0 h1
  go_enter Try.func19, Try.ntmps19
  go_wp2_with (first | go_big_skip | go_big_guard | (refine wl_loadE rfl rfl rfl ?_; first | refine ⟨_, Loads.at [_] hst2 rfl, ?_⟩ | refine ⟨_, Loads.atA ([.int .i64 2, .int .i64 n, .int .i64 z, .string ⟨(s).toArray⟩, .slice au m cu]) [_] hst3 (rfl) (rfl), ?_⟩) | (refine wl_boxA hst rfl rfl rfl ?_; intro g1 w1 hst1; clear hst) | (refine wl_alloc hst1 rfl rfl ?_; intro g2 w2 hst2; clear hst1) | (refine wl_store [_] hst2 rfl rfl rfl (v := .int .i64 2) rfl rfl rfl (by show (1 : Nat) ≤ 5; decide) ?_; intro _ h9; have hst3 : St w [] _ [.blk g2 34 [.int .i64 0, .int .i64 0, .int .i64 0, .string ⟨#[]⟩, .slice none 0 0], .blk g1 34 [.int .i64 2, .int .i64 n, .int .i64 z, .string ⟨(s).toArray⟩, .slice au m cu]] := h9; clear h9 hst2) | (refine wl_storeA [] hst3 rfl rfl rfl rfl rfl rfl rfl ?_; intro w12 hst12; clear hst3))
  have hl := Loads.atA (P := Try.prog) (off := 0) (T := 34) [.int .i64 2, .int .i64 n, .int .i64 z, .string ⟨(s).toArray⟩, .slice au m cu] [] hst12 rfl rfl
  refine bodyPost_ret (results_cellL rfl rfl hl) rfl ⟨rfl, hst12.nil⟩
theorem shl_one {m : Int} (h0 : 0 ≤ m) (h1 : m ≤ 62) (T : TypeId) : binOp .shl T (.int .i64 1) (.int .i64 m) = pure (.int .i64 (2 ^ m.toNat)) := by
  simp only [binOp]
  unfold Op.shift
  rw [if_neg (by omega)]
  have hb : min m.toNat IntKind.i64.bits = m.toNat := by
    have : IntKind.i64.bits = 64 := rfl
    omega
  have h2 : (2 : Int) ^ m.toNat ≤ 2 ^ 62 := by exact_mod_cast Nat.pow_le_pow_right (by decide) (show m.toNat ≤ 62 by omega)
  have h3 := two_pow_pos m.toNat
  have hw : IntKind.i64.wrap (1 * 2 ^ m.toNat) = 2 ^ m.toNat := by
    rw [Int.one_mul]
    have h4 : (2 : Int) ^ 62 = 4611686018427387904 := rfl
    exact IntWalk.i64_in _ (by omega)
  simp only [hb, hw]
theorem right_0 (n z : Int) (s : List UInt8) (au : Option Addr) (m cu : Nat) (w : World) (hn : -9223372036854775808 ≤ n ∧ n ≤ 9223372036854775807) (hz : -9223372036854775808 ≤ z ∧ z ≤ 9223372036854775807) :
    Calls Try.prog 19 #[.agg ([.int .i64 0, .int .i64 n, .int .i64 z, .string ⟨(s).toArray⟩, .slice au m cu] : List Value).toArray] w fun e w' => e = .returned (.agg ([.int .i64 0, .int .i64 (pickI n (2 ^ (8 * (1 + pickI z 7)).toNat)), .int .i64 (1 + pickI z 7), .string ⟨(s).toArray⟩, .slice au m cu] : List Value).toArray) ∧ St w [] w' [] := by
  have hst := St.refl w
  have hp := pickI_lt z (n := 7) (by decide)
  obtain ⟨r, hr⟩ : ∃ r, r = 1 + pickI z 7 := ⟨_, rfl⟩
  have z1 : IntKind.i64.wrap (1 + pickI z 7) = r := by rw [hr]; exact IntWalk.i64_in _ (by omega)
  have z2 : IntKind.i64.wrap (8 * r) = 8 * r := IntWalk.i64_in _ (by omega)
  rw [← hr]
  obtain ⟨Q, hQ⟩ : ∃ Q : Int, Q = 2 ^ (8 * r).toNat := ⟨_, rfl⟩
  have f1 : ∀ T, binOp .shl T (.int .i64 1) (.int .i64 (8 * r)) = pure (.int .i64 Q) := fun T => by rw [hQ]; exact shl_one (by omega) (by omega) T
  rw [← hQ]
  have hq1 : 0 < Q := by rw [hQ]; exact two_pow_pos _
  have hq2 : Q ≤ 72057594037927936 := by rw [hQ]; exact pow56 (by omega)
  clear hQ
  obtain ⟨P, hP⟩ : ∃ P, P = pickI z 7 := ⟨_, rfl⟩
  have HP := hid hP
  rw [← hP] at z1 hr hp
  obtain ⟨y, hy⟩ : ∃ y, y = pickI n Q := ⟨_, rfl⟩
  have HY := hid hy
  rw [← hy]
  clear hP hy hr
  go_enter Try.func19, Try.ntmps19
  go_wp2_with (first | go_big_skip | go_big_guard | (refine wl_loadE rfl rfl rfl ?_; first | refine ⟨_, Loads.at [_] hst2 rfl, ?_⟩) | (refine wl_boxA hst rfl rfl rfl ?_; intro g1 w1 hst1; clear hst) | (refine wl_alloc hst1 rfl rfl ?_; intro g2 w2 hst2; clear hst1) | (go_at_call 20; refine (pick_spec (z) (7) _ hz (by decide)).mono ?_; rw [← HP.out]; rintro _ _ ⟨rfl, h4⟩; have hst3 := St.call0 hst2 h4; clear h4 hst2) | (refine wl_store [_] hst3 rfl rfl rfl (v := .int .i64 r) rfl rfl rfl (by show (3 : Nat) ≤ 5; decide) ?_; intro _ h9; have hst4 : St w [] _ [.blk g2 34 [.int .i64 0, .int .i64 0, .int .i64 0, .string ⟨#[]⟩, .slice none 0 0], .blk g1 34 [.int .i64 0, .int .i64 n, .int .i64 r, .string ⟨(s).toArray⟩, .slice au m cu]] := h9; clear h9 hst3))
  have hD := hst4.drew
  clear hst4
  refine wp_region_last (S := (fun w' => (loadVarH 3 ⟨g1, 1, none⟩).run Try.prog w' = .ok (.int .i64 n) w' ∧ (loadVarH 3 ⟨g1, 2, none⟩).run Try.prog w' = .ok (.int .i64 r) w')) (by kernel_rfl) rfl (by kernel_rfl) (by exact ⟨ldS [_] hD rfl, ldS [_] hD rfl⟩) (fun hHeld => ?_)
  simp only [List.pop_toArray, List.dropLast, List.size_toArray, List.length_cons, List.length_nil]
  refine wpAnyH_take (i := 0) (oi := ⟨some 13, _, _, _, _, _⟩) (v := ?_) rfl (by kernel_rfl) (by kernel_rfl) (by kernel_rfl) (fun _ _ _ h => h) (Or.inl ⟨by rfl, ?_⟩) (by assumption) ?_
  rotate_left
  · intro w hSw; (try dsimp only at hSw); go_simp; try with_reducible rfl
  (try simp only [Act.put, List.setIfInBounds_toArray, List.set_cons_zero, List.set_cons_succ])
  refine wpAnyH_take (i := 1) (oi := ⟨some 14, _, _, _, _, _⟩) (v := ?_) rfl (by kernel_rfl) (by kernel_rfl) (by kernel_rfl) (fun _ _ _ h => h) (Or.inl ⟨by rfl, ?_⟩) (by assumption) ?_
  rotate_left
  · intro w hSw; (try dsimp only at hSw); go_simp; try with_reducible rfl
  (try simp only [Act.put, List.setIfInBounds_toArray, List.set_cons_zero, List.set_cons_succ])
  refine wpAnyH_take (i := 2) (oi := ⟨some 15, _, _, _, _, _⟩) (v := ?_) rfl (by kernel_rfl) (by kernel_rfl) (by kernel_rfl) (fun _ _ _ h => h) (Or.inl ⟨by rfl, ?_⟩) (by assumption) ?_
  rotate_left
  · intro w hSw; (try dsimp only at hSw); go_simp; try with_reducible rfl
  (try simp only [Act.put, List.setIfInBounds_toArray, List.set_cons_zero, List.set_cons_succ])
  refine wpAnyH_take (i := 3) (oi := ⟨some 16, _, _, _, _, _⟩) (v := ?_) rfl (by kernel_rfl) (by kernel_rfl) (by kernel_rfl) (fun _ _ _ h => h) (Or.inl ⟨by rfl, ?_⟩) (by assumption) ?_
  rotate_left
  · intro w hSw; (try dsimp only at hSw); go_simp; try with_reducible rfl
  (try simp only [Act.put, List.setIfInBounds_toArray, List.set_cons_zero, List.set_cons_succ])
  refine wpAnyH_take (i := 4) (oi := ⟨some 17, _, _, _, _, _⟩) (v := ?_) rfl (by kernel_rfl) (by kernel_rfl) (by kernel_rfl) (fun _ _ _ h => h) (Or.inl ⟨by rfl, ?_⟩) (by assumption) ?_
  rotate_left
  · intro w hSw; (try dsimp only at hSw); go_simp; try with_reducible rfl
  (try simp only [Act.put, List.setIfInBounds_toArray, List.set_cons_zero, List.set_cons_succ])
  refine wpAnyH_take (i := 5) (oi := ⟨some 18, _, _, _, _, _⟩) (v := ?_) rfl (by kernel_rfl) (by kernel_rfl) (by kernel_rfl) (fun _ _ _ h => h) (Or.inl ⟨by rfl, ?_⟩) (by assumption) ?_
  rotate_left
  · intro w hSw; (try dsimp only at hSw); go_simp; try with_reducible rfl
  (try simp only [Act.put, List.setIfInBounds_toArray, List.set_cons_zero, List.set_cons_succ])
  refine wpAnyH_ready (rs := [6]) (by kernel_rfl) (by simp) ?_
  refine (AllReadyH.cons (o := ⟨some 19, _, _, _, _, _⟩) rfl (fun K hK => ?_) AllReadyH.nil)
  go_simp
  go_at_call 20
  refine (pick_spec n Q _ hn (by omega)).mono ?_
  rw [← HY.out]
  rintro _ _ ⟨rfl, h4⟩
  have hE := St.call0 hD h4
  clear h4
  refine hK.out _ _ ?_ (fun hHeld => ?_)
  · exact ⟨ldS [_] hE rfl, ldS [_] hE rfl⟩
  clear hK K
  (try simp only [Act.put, List.setIfInBounds_toArray, List.set_cons_zero, List.set_cons_succ])
  refine wpAnyH_take (i := 7) (oi := ⟨some 20, _, _, _, _, _⟩) (v := ?_) rfl (by kernel_rfl) (by kernel_rfl) (by kernel_rfl) (fun _ _ _ h => h) (Or.inl ⟨by rfl, ?_⟩) (by assumption) ?_
  rotate_left
  · intro w hSw; (try dsimp only at hSw); go_simp; try with_reducible rfl
  (try simp only [Act.put, List.setIfInBounds_toArray, List.set_cons_zero, List.set_cons_succ])
  refine wpAnyH_done (by kernel_rfl) ?_ _
  clear hHeld
  refine QL_intro ?_
  refine wl_store [_] hE rfl rfl rfl (v := .int .i64 y) rfl rfl rfl (by show (2 : Nat) ≤ 5; decide) ?_
  intro _ h9
  have hst6 : St w [] _ [.blk g2 34 [.int .i64 0, .int .i64 0, .int .i64 0, .string ⟨#[]⟩, .slice none 0 0], .blk g1 34 [.int .i64 0, .int .i64 y, .int .i64 r, .string ⟨(s).toArray⟩, .slice au m cu]] := h9
  clear h9
  (try simp only [Act.put, List.setIfInBounds_toArray, List.set_cons_zero, List.set_cons_succ])
  go_wp2_with (first | go_big_skip | go_big_guard | (refine wl_loadE rfl rfl rfl ?_; first | refine ⟨_, Loads.atA ([.int .i64 0, .int .i64 y, .int .i64 r, .string ⟨(s).toArray⟩, .slice au m cu]) [_] hst6 (rfl) (rfl), ?_⟩) | (refine wl_storeA [] hst6 rfl rfl rfl rfl rfl rfl rfl ?_; intro w12 hst12; clear hst6))
  have hl := Loads.atA (P := Try.prog) (off := 0) (T := 34) [.int .i64 0, .int .i64 y, .int .i64 r, .string ⟨(s).toArray⟩, .slice au m cu] [] hst12 rfl rfl
  refine bodyPost_ret (results_cellL rfl rfl hl) rfl ⟨rfl, hst12.nil⟩
theorem right_1a (n z : Int) (s : List UInt8) (au : Option Addr) (m cu : Nat) (w : World) (hz : -9223372036854775808 ≤ z ∧ z ≤ 9223372036854775807) (hs : s.length ≤ 9223372036854775807) (hc : pickI z 256 < s.length) :
    Calls Try.prog 19 #[.agg ([.int .i64 1, .int .i64 n, .int .i64 z, .string ⟨(s).toArray⟩, .slice au m cu] : List Value).toArray] w fun e w' => e = .returned (.agg ([.int .i64 1, .int .i64 n, .int .i64 (pickI z 256), .string ⟨(s.take (pickI z 256).toNat).toArray⟩, .slice au m cu] : List Value).toArray) ∧ St w [] w' [] := by
  have hst := St.refl w
  have hp := pickI_lt z (n := 256) (by decide)
  obtain ⟨P, hP⟩ : ∃ P, P = pickI z 256 := ⟨_, rfl⟩
  have HP := hid hP
  rw [← hP] at hc hp
  rw [← hP]
  clear hP
  have hsl : (⟨s.toArray⟩ : ByteArray).size = s.length := by simp [ByteArray.size]
  have d2 : decide (P < (s.length : Int)) = true := decide_eq_true (by omega)
  have n1 : P ≤ (s.length : Int) := by omega
  have n2 : 0 ≤ P := hp.1
  have HEX := hid (show (⟨s.toArray⟩ : ByteArray).extract 0 P.toNat = ⟨(s.take P.toNat).toArray⟩ by
    apply ByteArray.ext
    rw [ByteArray.data_extract]
    simp)
  clear hc
  go_enter Try.func19, Try.ntmps19
  go_wp2_with (first | go_big_skip | go_big_guard | (refine wl_loadE rfl rfl rfl ?_; first | refine ⟨_, Loads.at [_] hst2 rfl, ?_⟩ | refine ⟨_, Loads.at [_] hst4 rfl, ?_⟩ | refine ⟨_, Loads.atA ([.int .i64 1, .int .i64 n, .int .i64 P, .string ⟨(s.take P.toNat).toArray⟩, .slice au m cu]) [_] hst5 (rfl) (rfl), ?_⟩) | (refine wl_boxA hst rfl rfl rfl ?_; intro g1 w1 hst1; clear hst) | (refine wl_alloc hst1 rfl rfl ?_; intro g2 w2 hst2; clear hst1) | (go_at_call 20; refine (pick_spec (z) (256) _ hz (by decide)).mono ?_; rw [← HP.out]; rintro _ _ ⟨rfl, h4⟩; have hst3 := St.call0 hst2 h4; clear h4 hst2) | (refine wl_store [_] hst3 rfl rfl rfl (v := .int .i64 P) rfl rfl rfl (by show (3 : Nat) ≤ 5; decide) ?_; intro _ h9; have hst4 : St w [] _ [.blk g2 34 [.int .i64 0, .int .i64 0, .int .i64 0, .string ⟨#[]⟩, .slice none 0 0], .blk g1 34 [.int .i64 1, .int .i64 n, .int .i64 P, .string ⟨(s).toArray⟩, .slice au m cu]] := h9; clear h9 hst3) | (refine wl_store [_] hst4 rfl rfl rfl (v := .string ((⟨s.toArray⟩ : ByteArray).extract 0 P.toNat)) rfl rfl rfl (by show (4 : Nat) ≤ 5; decide) ?_; intro _ h9; rw [HEX.out] at h9; have hst5 : St w [] _ [.blk g2 34 [.int .i64 0, .int .i64 0, .int .i64 0, .string ⟨#[]⟩, .slice none 0 0], .blk g1 34 [.int .i64 1, .int .i64 n, .int .i64 P, .string ⟨(s.take P.toNat).toArray⟩, .slice au m cu]] := h9; clear h9 hst4) | (refine wl_storeA [] hst5 rfl rfl rfl rfl rfl rfl rfl ?_; intro w12 hst12; clear hst5))
  have hl := Loads.atA (P := Try.prog) (off := 0) (T := 34) [.int .i64 1, .int .i64 n, .int .i64 P, .string ⟨(s.take P.toNat).toArray⟩, .slice au m cu] [] hst12 rfl rfl
  refine bodyPost_ret (results_cellL rfl rfl hl) rfl ⟨rfl, hst12.nil⟩
theorem right_1b (n z : Int) (s : List UInt8) (au : Option Addr) (m cu : Nat) (w : World) (hz : -9223372036854775808 ≤ z ∧ z ≤ 9223372036854775807) (hs : s.length ≤ 9223372036854775807) (hc : ¬ pickI z 256 < s.length) :
    Calls Try.prog 19 #[.agg ([.int .i64 1, .int .i64 n, .int .i64 z, .string ⟨(s).toArray⟩, .slice au m cu] : List Value).toArray] w fun e w' => e = .returned (.agg ([.int .i64 1, .int .i64 n, .int .i64 (pickI z 256), .string ⟨(s).toArray⟩, .slice au m cu] : List Value).toArray) ∧ St w [] w' [] := by
  have hst := St.refl w
  have hp := pickI_lt z (n := 256) (by decide)
  obtain ⟨P, hP⟩ : ∃ P, P = pickI z 256 := ⟨_, rfl⟩
  have HP := hid hP
  rw [← hP] at hc hp
  rw [← hP]
  clear hP
  have hsl : (⟨s.toArray⟩ : ByteArray).size = s.length := by simp [ByteArray.size]
  have d2 : decide (P < (s.length : Int)) = false := decide_eq_false (by omega)
  clear hc
  go_enter Try.func19, Try.ntmps19
  go_wp2_with (first | go_big_skip | go_big_guard | (refine wl_loadE rfl rfl rfl ?_; first | refine ⟨_, Loads.at [_] hst2 rfl, ?_⟩ | refine ⟨_, Loads.at [_] hst4 rfl, ?_⟩ | refine ⟨_, Loads.atA ([.int .i64 1, .int .i64 n, .int .i64 P, .string ⟨(s).toArray⟩, .slice au m cu]) [_] hst4 (rfl) (rfl), ?_⟩) | (refine wl_boxA hst rfl rfl rfl ?_; intro g1 w1 hst1; clear hst) | (refine wl_alloc hst1 rfl rfl ?_; intro g2 w2 hst2; clear hst1) | (go_at_call 20; refine (pick_spec (z) (256) _ hz (by decide)).mono ?_; rw [← HP.out]; rintro _ _ ⟨rfl, h4⟩; have hst3 := St.call0 hst2 h4; clear h4 hst2) | (refine wl_store [_] hst3 rfl rfl rfl (v := .int .i64 P) rfl rfl rfl (by show (3 : Nat) ≤ 5; decide) ?_; intro _ h9; have hst4 : St w [] _ [.blk g2 34 [.int .i64 0, .int .i64 0, .int .i64 0, .string ⟨#[]⟩, .slice none 0 0], .blk g1 34 [.int .i64 1, .int .i64 n, .int .i64 P, .string ⟨(s).toArray⟩, .slice au m cu]] := h9; clear h9 hst3) | fail | (refine wl_storeA [] hst4 rfl rfl rfl rfl rfl rfl rfl ?_; intro w12 hst12; clear hst4))
  have hl := Loads.atA (P := Try.prog) (off := 0) (T := 34) [.int .i64 1, .int .i64 n, .int .i64 P, .string ⟨(s).toArray⟩, .slice au m cu] [] hst12 rfl rfl
  refine bodyPost_ret (results_cellL rfl rfl hl) rfl ⟨rfl, hst12.nil⟩
theorem right_any (x : AV) (w : World) (hn : -9223372036854775808 ≤ x.n ∧ x.n ≤ 9223372036854775807) (hz : -9223372036854775808 ≤ x.size ∧ x.size ≤ 9223372036854775807) (hs : x.s.length ≤ 9223372036854775807) :
    Calls Try.prog 19 #[.agg x.cells.toArray] w fun e w' => e = .returned (.agg x.right.cells.toArray) ∧ St w [] w' [] := by
  obtain ⟨k, n, z, s, au, m, cu, B⟩ := x
  unfold AV.right
  by_cases h0 : k = 0
  · subst h0
    rw [if_pos rfl]
    exact right_0 n z s au m cu w hn hz
  · by_cases h1 : k = 1
    · subst h1
      rw [if_neg h0, if_pos rfl]
      by_cases h2 : pickI z 256 < s.length
      · rw [if_pos h2]
        exact right_1a n z s au m cu w hz hs h2
      · rw [if_neg h2]
        exact right_1b n z s au m cu w hz hs h2
    · rw [if_neg h0, if_neg h1]
      exact right_2 k n z s au m cu w h0 h1
end
end Go.Proofs.Ytlgioloanjjndaa
