import Derived.Test.YtilgjldnlgfehaaH22
namespace Go.Proofs.Ytilgjldnlgfehaa
set_option linter.unusedVariables false
set_option linter.unusedSimpArgs false
open Go.RowKit Hp
attribute [local irreducible] Go.Calls
set_option maxRecDepth 100000
set_option maxHeartbeats 4000000
theorem and15 (c : UInt8) : bits .and .u8 (c.toNat : Int) 15 = ((c.toNat % 16 : Nat) : Int) := by
  have h : ∀ n : Fin 256, bits .and .u8 (n.1 : Int) 15 = ((n.1 % 16 : Nat) : Int) := by decide +kernel
  exact h ⟨c.toNat, c.toNat_lt⟩
theorem hexD_len : hexD.length = 16 := rfl
theorem hex_hi (c : UInt8) : c.toNat / 16 < hexD.length := by rw [hexD_len]; have := c.toNat_lt; omega
theorem hex_lo (c : UInt8) : c.toNat % 16 < hexD.length := by rw [hexD_len]; omega
theorem text_any (id : List UInt8) (hl : id.length = 32) (w : World) :
    Calls Try.prog 32 #[.agg (bytesV id).toArray] w fun e w' => e = .returned (.string ⟨(textB id).toArray⟩) ∧ St w [] w' [] := by
  have hst := St.refl w
  have hvl : (bytesV id).length = 32 := by rw [length_bytesV, hl]
  have HVL := hid hvl
  have HL := hid hl
  have HON := hid (show (bytesV id).all (·.oneCell') = true from ones_bytesV id)
  clear hvl hl
  go_enter Try.func32, Try.ntmps32
  go_wp2_with (first | go_big_skip | go_big_guard | (refine wl_boxA hst rfl rfl rfl ?_; intro gi _ hst1; clear hst) | (refine wl_alloc hst1 rfl rfl ?_; intro gb _ hst2; clear hst1) | (refine wl_loadE rfl rfl rfl ?_; first | refine ⟨_, Loads.atA (bytesV id) [_] hst2 (HVL.out) (List.take_length), ?_⟩))
  have hst3 : St w [] _ (.blk gb 70 [.pointer none, .slice none 0 0] :: .rowP isB (.slice none 0 0) 5 1 (textB (id.take 0)).length (bytesV (textB (id.take 0))) :: [.blk gi 29 (bytesV id)]) := St.perm (St.nilPQ isB 5 1 hst2) (List.Perm.swap _ _ _)
  clear hst2
  go_loopw [7] (fun q wr => ∃ (k : Nat) (p v : Value), k ≤ 32 ∧ q = .int .i64 k ∧ bAt gb p ∧ St w [] wr (.blk gb 70 [p, v] :: .rowP isB v 5 1 (textB (id.take k)).length (bytesV (textB (id.take k))) :: [.blk gi 29 (bytesV id)])) (fun q _ => 32 - (intOf q).toNat)
  case atStart => exact ⟨0, _, _, by omega, rfl, .inl rfl, hst3⟩
  case round =>
    clear hst3
    obtain ⟨k, p, v, hk, rfl, hp, hst⟩ := hrel
    by_cases hk32 : k < 32
    · obtain ⟨c, hc⟩ : ∃ c, id[k]? = some c := ⟨_, List.getElem?_eq_getElem (by rw [HL.out]; exact hk32)⟩
      have hcv := hid (show (bytesV id)[k]? = some (.int .u8 (c.toNat : Int)) by unfold bytesV; rw [List.getElem?_map, hc]; rfl)
      have HT := hid (textB_succ hc)
      have hTl : (textB (id.take k)).length ≤ 64 := by rw [length_textB, List.length_take]; omega
      obtain ⟨B, hB⟩ : ∃ B, B = textB (id.take k) := ⟨_, rfl⟩
      rw [← hB] at hst HT hTl
      have f1 : ∀ T j, binOp .shr T (.int .u8 (c.toNat : Int)) (.int j 4) = pure (.int .u8 ((c.toNat / 16 : Nat) : Int)) := by
        intro T j
        simp only [binOp]
        rw [shift_shr .u8 j _ 4 (by decide) (by decide)]
        rfl
      have f2 := and15 c
      have d1 : decide ((k : Int) < 32) = true := decide_eq_true (by omega)
      obtain ⟨C1, hC1⟩ : ∃ C, C = hexD.getD (c.toNat / 16) 0 := ⟨_, rfl⟩
      obtain ⟨C2, hC2⟩ : ∃ C, C = hexD.getD (c.toNat % 16) 0 := ⟨_, rfl⟩
      have HC1 := hid hC1
      have HC2 := hid hC2
      have hH := hid (hex_hi c)
      have hLo := hid (hex_lo c)
      clear hc hB hC1 hC2
      go_wp2_with (first | go_big_skip | go_big_guard | (refine wl_ixS (.int .u8 (c.toNat : Int)) rfl rfl rfl rfl Try.underlying29 (by kernel_rfl) hk32 hcv.out ?_) | (refine wl_strIxQ (k := c.toNat / 16) hexD rfl rfl rfl rfl Try.underlying9 hH.out ?_; rw [← HC1.out]) | (refine wl_strIxQ (k := c.toNat % 16) hexD rfl rfl rfl rfl Try.underlying9 hLo.out ?_; rw [← HC2.out]) | (go_at_call 43; refine (wbyte_any gb p v B C1 hp hst (by omega)).mono ?_; rintro _ _ ⟨rfl, v2, hst4⟩; clear hst) | (go_at_call 43; refine (wbyte_any gb _ v2 (B ++ [C1]) C2 (.inr rfl) hst4 (by rw [List.length_append, List.length_singleton]; omega)).mono ?_; rintro _ _ ⟨rfl, v3, hst5⟩; clear hst4))
      have hfin : B ++ [C1] ++ [C2] = textB (id.take (k + 1)) := by rw [HT.out, HC1.out, HC2.out, List.append_assoc]; rfl
      rw [hfin] at hst5
      go_roundw
      case rel => exact ⟨k + 1, _, v3, by omega, by go_num, .inr rfl, hst5⟩
      case measure => simp [intOf]; omega
    · have e : k = 32 := by omega
      subst e
      have hfull : id.take 32 = id := List.take_of_length_le (by rw [HL.out]; exact Nat.le_refl _)
      rw [hfull] at hst
      have h0 : textB id ≠ [] := fun h => by
        have := length_textB id
        rw [h, HL.out] at this
        cases this
      have H0 := hid h0
      clear h0 hfull
      go_wp2_with (first | go_big_skip | go_big_guard | (go_at_call 44; refine (bstr_any gb p v (textB id) hst H0.out).mono ?_; rintro _ _ ⟨rfl, hst6⟩; clear hst))
      go_ret
      exact ⟨rfl, hst6.nil⟩
end Go.Proofs.Ytilgjldnlgfehaa
