import Derived.Test.YtilgjldnlgfehaaH24
namespace Go.Proofs.Ytilgjldnlgfehaa
set_option linter.unusedVariables false
set_option linter.unusedSimpArgs false
open Go.RowKit Hp
attribute [local irreducible] Go.Calls
set_option maxRecDepth 100000
set_option maxHeartbeats 4000000
theorem loadedU8h (A : Addr) : loadVar 5 A = loadVarH 5 A := rfl
section
attribute [local go_sem ↓] loadedU8h
theorem qtext_any (id : List UInt8) (hl : id.length = 32) (w : World) :
    Calls Try.prog 33 #[.agg (bytesV id).toArray] w fun e w' => e = .returned (.string ⟨(textB id).toArray⟩) ∧ St w [] w' [] := by
  have hst := St.refl w
  have HL := hid hl
  clear hl
  go_enter Try.func33, Try.ntmps33
  go_wp2_with (first | go_big_skip | go_big_guard | (refine wl_boxA hst rfl rfl rfl ?_; intro gi _ hst1; clear hst))
  go_loopw [3, 4] (fun s q wr => ∃ k : Nat, k ≤ 32 ∧ q = .int .i64 k ∧ s = .string ⟨(textB (id.take k)).toArray⟩ ∧ St w [] wr [.blk gi 29 (bytesV id)]) (fun _ q _ => 32 - (intOf q).toNat)
  case atStart => exact ⟨0, by omega, rfl, rfl, hst1⟩
  case round =>
    clear hst1
    obtain ⟨k, hk, rfl, rfl, hst⟩ := hrel
    by_cases hk32 : k < 32
    · obtain ⟨c, hc⟩ : ∃ c, id[k]? = some c := ⟨_, List.getElem?_eq_getElem (by rw [HL.out]; exact hk32)⟩
      have hcv := hid (show (bytesV id)[k]? = some (.int .u8 (c.toNat : Int)) by unfold bytesV; rw [List.getElem?_map, hc]; rfl)
      have HT := hid (textB_succ hc)
      obtain ⟨B, hB⟩ : ∃ B, B = textB (id.take k) := ⟨_, rfl⟩
      rw [← hB] at HT
      have hBl : B.length ≤ 64 := by rw [hB, length_textB, List.length_take]; omega
      have hcl := c.toNat_lt
      obtain ⟨X, hX⟩ : ∃ X, X = c.toNat / 16 := ⟨_, rfl⟩
      obtain ⟨Y, hY⟩ : ∃ Y, Y = c.toNat % 16 := ⟨_, rfl⟩
      have f1 : ∀ T, binOp .quo T (.int .u8 (c.toNat : Int)) (.int .u8 16) = pure (.int .u8 (X : Int)) := by
        intro T
        have h1 : Int.tdiv (c.toNat : Int) 16 = (X : Int) := by rw [hX]; rfl
        have hw : IntKind.u8.wrap (X : Int) = (X : Int) := by show (X : Int) % 256 = _; omega
        simp only [binOp]
        simp [Op.intDiv, h1, hw]
      have f2 : ∀ T, binOp .rem T (.int .u8 (c.toNat : Int)) (.int .u8 16) = pure (.int .u8 (Y : Int)) := by
        intro T
        have h1 : Int.tmod (c.toNat : Int) 16 = (Y : Int) := by rw [hY]; rfl
        have hw : IntKind.u8.wrap (Y : Int) = (Y : Int) := by show (Y : Int) % 256 = _; omega
        simp only [binOp]
        simp [Op.intDiv, h1, hw]
      have hx16 : X < 16 := by omega
      have hy16 : Y < 16 := by omega
      have z1 : IntKind.u8.wrap ((X : Int) + 1) = (X : Int) + 1 := by show ((X : Int) + 1) % 256 = _; omega
      have z2 : IntKind.u8.wrap ((Y : Int) + 1) = (Y : Int) + 1 := by show ((Y : Int) + 1) % 256 = _; omega
      have n1 : (X : Int) + 1 ≤ 16 := by omega
      have n2 : (Y : Int) + 1 ≤ 16 := by omega
      have n3 : 0 ≤ (X : Int) + 1 := by omega
      have n4 : 0 ≤ (Y : Int) + 1 := by omega
      have n5 : (X : Int) ≤ (X : Int) + 1 := by omega
      have n6 : (Y : Int) ≤ (Y : Int) + 1 := by omega
      have t1 : ((X : Int) + 1).toNat = X + 1 := by omega
      have t2 : ((Y : Int) + 1).toNat = Y + 1 := by omega
      have d1 : decide ((k : Int) < 32) = true := decide_eq_true (by omega)
      have hkk : (k : Int) < 32 := by omega
      have q1 : ¬ 9223372036854775807 < B.length + (min (X + 1) 16 - X) := by omega
      have q2 : ¬ 9223372036854775807 < B.length + (min (X + 1) 16 - X) + (min (Y + 1) 16 - Y) := by omega
      have HX := hid hX
      have HY := hid hY
      rw [← hB]
      clear hc hB hX hY
      go_wp2_with (first | go_big_skip | go_big_guard | fail)
      have hD := hst.drew
      clear hst
      refine wp_region_held_drew (S := (fun w' => (loadVarH 5 ⟨gi, k, none⟩).run Try.prog w' = .ok (.int .u8 (c.toNat : Int)) w')) (by kernel_rfl) (by exact ldS [] hD (hcv.out)) (fun hHeld => ?_)
      refine wpAnyH_take (i := 0) (oi := ⟨some 11, _, _, _, _, _⟩) (v := ?_) rfl (by kernel_rfl) (by kernel_rfl) (by kernel_rfl) (fun _ _ _ h => h) (Or.inl ⟨by rfl, ?_⟩) (by assumption) ?_
      rotate_left
      · intro w hSw; (try dsimp only at hSw); go_simp; try with_reducible rfl
      (try simp only [Act.put, List.setIfInBounds_toArray, List.set_cons_zero, List.set_cons_succ])
      refine wpAnyH_take (i := 4) (oi := ⟨some 15, _, _, _, _, _⟩) (v := ?_) rfl (by kernel_rfl) (by kernel_rfl) (by kernel_rfl) (fun _ _ _ h => h) (Or.inl ⟨by rfl, ?_⟩) (by assumption) ?_
      rotate_left
      · intro w hSw; (try dsimp only at hSw); go_simp; try with_reducible rfl
      (try simp only [Act.put, List.setIfInBounds_toArray, List.set_cons_zero, List.set_cons_succ])
      refine wpAnyH_take (i := 1) (oi := ⟨some 12, _, _, _, _, _⟩) (v := ?_) rfl (by kernel_rfl) (by kernel_rfl) (by kernel_rfl) (fun _ _ _ h => h) (Or.inl ⟨by rfl, ?_⟩) (by assumption) ?_
      rotate_left
      · intro w hSw; (try dsimp only at hSw); go_simp; try with_reducible rfl
      (try simp only [Act.put, List.setIfInBounds_toArray, List.set_cons_zero, List.set_cons_succ])
      refine wpAnyH_take (i := 5) (oi := ⟨some 16, _, _, _, _, _⟩) (v := ?_) rfl (by kernel_rfl) (by kernel_rfl) (by kernel_rfl) (fun _ _ _ h => h) (Or.inl ⟨by rfl, ?_⟩) (by assumption) ?_
      rotate_left
      · intro w hSw; (try dsimp only at hSw); go_simp; try with_reducible rfl
      (try simp only [Act.put, List.setIfInBounds_toArray, List.set_cons_zero, List.set_cons_succ])
      refine wpAnyH_take (i := 2) (oi := ⟨some 13, _, _, _, _, _⟩) (v := ?_) rfl (by kernel_rfl) (by kernel_rfl) (by kernel_rfl) (fun _ _ _ h => h) (Or.inl ⟨by rfl, ?_⟩) (by assumption) ?_
      rotate_left
      · intro w hSw; (try dsimp only at hSw); go_simp; try with_reducible rfl
      (try simp only [Act.put, List.setIfInBounds_toArray, List.set_cons_zero, List.set_cons_succ])
      refine wpAnyH_take (i := 6) (oi := ⟨some 17, _, _, _, _, _⟩) (v := ?_) rfl (by kernel_rfl) (by kernel_rfl) (by kernel_rfl) (fun _ _ _ h => h) (Or.inl ⟨by rfl, ?_⟩) (by assumption) ?_
      rotate_left
      · intro w hSw; (try dsimp only at hSw); go_simp; try with_reducible rfl
      (try simp only [Act.put, List.setIfInBounds_toArray, List.set_cons_zero, List.set_cons_succ])
      refine wpAnyH_take (i := 3) (oi := ⟨some 14, _, _, _, _, _⟩) (v := ?_) rfl (by kernel_rfl) (by kernel_rfl) (by kernel_rfl) (fun _ _ _ h => h) (Or.inl ⟨by rfl, ?_⟩) (by assumption) ?_
      rotate_left
      · intro w hSw; (try dsimp only at hSw); go_simp; try with_reducible rfl
      (try simp only [Act.put, List.setIfInBounds_toArray, List.set_cons_zero, List.set_cons_succ])
      refine wpAnyH_take (i := 7) (oi := ⟨some 18, _, _, _, _, _⟩) (v := ?_) rfl (by kernel_rfl) (by kernel_rfl) (by kernel_rfl) (fun _ _ _ h => h) (Or.inl ⟨by rfl, ?_⟩) (by assumption) ?_
      rotate_left
      · intro w hSw; (try dsimp only at hSw); go_simp; try with_reducible rfl
      (try simp only [Act.put, List.setIfInBounds_toArray, List.set_cons_zero, List.set_cons_succ])
      refine wpAnyH_take (i := 8) (oi := ⟨some 5, _, _, _, _, _⟩) (v := ?_) rfl (by kernel_rfl) (by kernel_rfl) (by kernel_rfl) (fun _ _ _ h => h) (Or.inl ⟨by rfl, ?_⟩) (by assumption) ?_
      rotate_left
      · intro w hSw; (try dsimp only at hSw); go_simp; try with_reducible rfl
      (try simp only [Act.put, List.setIfInBounds_toArray, List.set_cons_zero, List.set_cons_succ])
      refine wpAnyH_take (i := 9) (oi := ⟨some 6, _, _, _, _, _⟩) (v := ?_) rfl (by kernel_rfl) (by kernel_rfl) (by kernel_rfl) (fun _ _ _ h => h) (Or.inl ⟨by rfl, ?_⟩) (by assumption) ?_
      rotate_left
      · intro w hSw; (try dsimp only at hSw); go_simp; try with_reducible rfl
      (try simp only [Act.put, List.setIfInBounds_toArray, List.set_cons_zero, List.set_cons_succ])
      refine wpAnyH_done (by kernel_rfl) ?_ _
      clear hHeld
      go_wp2_with (first | go_big_skip | go_big_guard | fail)
      have hD2 := hD.drew
      clear hD
      refine wp_region_held_drew (S := (fun w' => True)) (by kernel_rfl) (by exact trivial) (fun hHeld => ?_)
      refine wpAnyH_take (i := 0) (oi := ⟨some 19, _, _, _, _, _⟩) (v := ?_) rfl (by kernel_rfl) (by kernel_rfl) (by kernel_rfl) (fun _ _ _ h => h) (Or.inl ⟨by rfl, ?_⟩) (by assumption) ?_
      rotate_left
      · intro w hSw; (try dsimp only at hSw); go_simp; try with_reducible rfl
      (try simp only [Act.put, List.setIfInBounds_toArray, List.set_cons_zero, List.set_cons_succ])
      refine wpAnyH_take (i := 1) (oi := ⟨some 20, _, _, _, _, _⟩) (v := ?_) rfl (by kernel_rfl) (by kernel_rfl) (by kernel_rfl) (fun _ _ _ h => h) (Or.inl ⟨by rfl, ?_⟩) (by assumption) ?_
      rotate_left
      · intro w hSw; (try dsimp only at hSw); go_simp; try with_reducible rfl
      (try simp only [Act.put, List.setIfInBounds_toArray, List.set_cons_zero, List.set_cons_succ])
      refine wpAnyH_take (i := 2) (oi := ⟨some 21, _, _, _, _, _⟩) (v := ?_) rfl (by kernel_rfl) (by kernel_rfl) (by kernel_rfl) (fun _ _ _ h => h) (Or.inl ⟨by rfl, ?_⟩) (by assumption) ?_
      rotate_left
      · intro w hSw; (try dsimp only at hSw); go_simp; try with_reducible rfl
      (try simp only [Act.put, List.setIfInBounds_toArray, List.set_cons_zero, List.set_cons_succ])
      refine wpAnyH_take (i := 6) (oi := ⟨some 25, _, _, _, _, _⟩) (v := ?_) rfl (by kernel_rfl) (by kernel_rfl) (by kernel_rfl) (fun _ _ _ h => h) (Or.inl ⟨by rfl, ?_⟩) (by assumption) ?_
      rotate_left
      · intro w hSw; (try dsimp only at hSw); go_simp; try with_reducible rfl
      (try simp only [Act.put, List.setIfInBounds_toArray, List.set_cons_zero, List.set_cons_succ])
      refine wpAnyH_take (i := 7) (oi := ⟨some 26, _, _, _, _, _⟩) (v := ?_) rfl (by kernel_rfl) (by kernel_rfl) (by kernel_rfl) (fun _ _ _ h => h) (Or.inl ⟨by rfl, ?_⟩) (by assumption) ?_
      rotate_left
      · intro w hSw; (try dsimp only at hSw); go_simp; try with_reducible rfl
      (try simp only [Act.put, List.setIfInBounds_toArray, List.set_cons_zero, List.set_cons_succ])
      refine wpAnyH_take (i := 3) (oi := ⟨some 22, _, _, _, _, _⟩) (v := ?_) rfl (by kernel_rfl) (by kernel_rfl) (by kernel_rfl) (fun _ _ _ h => h) (Or.inl ⟨by rfl, ?_⟩) (by assumption) ?_
      rotate_left
      · intro w hSw; (try dsimp only at hSw); go_simp; try with_reducible rfl
      (try simp only [Act.put, List.setIfInBounds_toArray, List.set_cons_zero, List.set_cons_succ])
      refine wpAnyH_take (i := 8) (oi := ⟨some 27, _, _, _, _, _⟩) (v := ?_) rfl (by kernel_rfl) (by kernel_rfl) (by kernel_rfl) (fun _ _ _ h => h) (Or.inl ⟨by rfl, ?_⟩) (by assumption) ?_
      rotate_left
      · intro w hSw; (try dsimp only at hSw); go_simp; try with_reducible rfl
      (try simp only [Act.put, List.setIfInBounds_toArray, List.set_cons_zero, List.set_cons_succ])
      refine wpAnyH_take (i := 4) (oi := ⟨some 23, _, _, _, _, _⟩) (v := ?_) rfl (by kernel_rfl) (by kernel_rfl) (by kernel_rfl) (fun _ _ _ h => h) (Or.inl ⟨by rfl, ?_⟩) (by assumption) ?_
      rotate_left
      · intro w hSw; (try dsimp only at hSw); go_simp; try with_reducible rfl
      (try simp only [Act.put, List.setIfInBounds_toArray, List.set_cons_zero, List.set_cons_succ])
      refine wpAnyH_take (i := 9) (oi := ⟨some 28, _, _, _, _, _⟩) (v := ?_) rfl (by kernel_rfl) (by kernel_rfl) (by kernel_rfl) (fun _ _ _ h => h) (Or.inl ⟨by rfl, ?_⟩) (by assumption) ?_
      rotate_left
      · intro w hSw; (try dsimp only at hSw); go_simp; try with_reducible rfl
      (try simp only [Act.put, List.setIfInBounds_toArray, List.set_cons_zero, List.set_cons_succ])
      refine wpAnyH_take (i := 5) (oi := ⟨some 24, _, _, _, _, _⟩) (v := ?_) rfl (by kernel_rfl) (by kernel_rfl) (by kernel_rfl) (fun _ _ _ h => h) (Or.inl ⟨by rfl, ?_⟩) (by assumption) ?_
      rotate_left
      · intro w hSw; (try dsimp only at hSw); go_simp; try with_reducible rfl
      (try simp only [Act.put, List.setIfInBounds_toArray, List.set_cons_zero, List.set_cons_succ])
      refine wpAnyH_take (i := 10) (oi := ⟨some 29, _, _, _, _, _⟩) (v := ?_) rfl (by kernel_rfl) (by kernel_rfl) (by kernel_rfl) (fun _ _ _ h => h) (Or.inl ⟨by rfl, ?_⟩) (by assumption) ?_
      rotate_left
      · intro w hSw; (try dsimp only at hSw); go_simp; try with_reducible rfl
      (try simp only [Act.put, List.setIfInBounds_toArray, List.set_cons_zero, List.set_cons_succ])
      refine wpAnyH_take (i := 11) (oi := ⟨some 3, _, _, _, _, _⟩) (v := ?_) rfl (by kernel_rfl) (by kernel_rfl) (by kernel_rfl) (fun _ _ _ h => h) (Or.inl ⟨by rfl, ?_⟩) (by assumption) ?_
      rotate_left
      · intro w hSw; (try dsimp only at hSw); go_simp; try with_reducible rfl
      (try simp only [Act.put, List.setIfInBounds_toArray, List.set_cons_zero, List.set_cons_succ])
      refine wpAnyH_done (by kernel_rfl) ?_ _
      clear hHeld
      go_wp2_with (first | go_big_skip | go_big_guard | fail)
      go_roundw
      case rel => exact ⟨k + 1, by omega, by go_num, by rw [HT.out, ext1 hx16, ext1 hy16, append_l, append_l, List.append_assoc, HX.out, HY.out]; rfl, hD2⟩
      case measure => simp [intOf]; omega
    · have e : k = 32 := by omega
      subst e
      have hfull : id.take 32 = id := List.take_of_length_le (by rw [HL.out]; exact Nat.le_refl _)
      rw [hfull]
      clear hfull
      go_wp2_with (first | go_big_skip | go_big_guard | fail)
      go_ret
      exact ⟨rfl, hst.nil⟩
end
end Go.Proofs.Ytilgjldnlgfehaa
