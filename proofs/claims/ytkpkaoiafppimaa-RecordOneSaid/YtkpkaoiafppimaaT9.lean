import Derived.Test.YtkpkaoiafppimaaT5
import Derived.Test.YtkpkaoiafppimaaPtrB
namespace Go.Proofs.Ytkpkaoiafppimaa
set_option linter.unusedVariables false
set_option linter.unusedSimpArgs false
open Go.RowKit Hp
attribute [local irreducible] Go.Calls
set_option maxHeartbeats 1000000
theorem refBytes_no (ao : Option Addr) (n c : Nat) (l : List (Int × Int)) (b v : Int) (S : List UInt8) (w : World) (hS : L32 S) (hA : Rd w (.slice ao n c) 2 n (addrsV l)) (hn : l.length = n) (hc : checkB l b v S = false) :
    Calls Try.prog 52 #[.agg (ptrCells (.slice ao n c) b v S).toArray] w fun e w' => e = .returned (.tuple #[.slice none 0 0, .int .i64 2]) ∧ St w [] w' [] := by
  have Hn := hid hn; clear hn
  have hcE : checkE l b v S = 2 := by simp [checkE, hc]
  have Hc := hid hcE; clear hcE hc
  go_enter Try.func52, Try.ntmps52
  have hst := St.refl w
  go_wp2_with (first | go_big_skip | go_big_guard | (refine wl_boxA hst rfl rfl rfl ?_; intro g w1 hst1; clear hst) | (refine wl_loadE rfl rfl rfl ?_; first | refine ⟨_, Loads.at [] hst1 rfl, ?_⟩ | refine ⟨_, Loads.atA (ptrCells (.slice ao n c) b v S) [] hst1 (ptr_len hS _ _ _) (ptr_all _ _ _ _), ?_⟩) | (go_at_call 81; refine (refCheck_any _ _ _ l b v S _ hS (Rd.old hst1 hA) Hn.out).mono ?_; rw [Hc.out]; rintro _ _ ⟨rfl, hcall⟩; replace hst1 := St.call0 hst1 hcall; clear hcall))
  go_ret2
  exact ⟨rfl, hst1.nil⟩
theorem refBytes_ok (ao : Option Addr) (n c : Nat) (l : List (Int × Int)) (b v : Int) (S : List UInt8) (w : World) (hS : L32 S) (hA : Rd w (.slice ao n c) 2 n (addrsV l)) (hn : l.length = n) (hc : checkB l b v S = true) :
    Calls Try.prog 52 #[.agg (ptrCells (.slice ao n c) b v S).toArray] w fun e w' => ∃ u, e = .returned (.tuple #[u, .int .i64 0]) ∧ St w [] w' [.row u 5 1 47 (bytesV (bytesP l b v S))] := by
  have hbd := check_bd hc
  rw [hn] at hbd
  obtain ⟨hb0, hb1, hb2, hb3, hb4, hb5⟩ := hbd
  have Hb5 := hid hb5; clear hb5
  have Hn := hid hn; clear hn
  have hcE : checkE l b v S = 0 := by simp [checkE, hc]
  have Hc := hid hcE; clear hcE hc
  go_enter Try.func52, Try.ntmps52
  have hst := St.refl w
  go_wp2_with (first | go_big_skip | go_big_guard | (refine wl_boxA hst rfl rfl rfl ?_; intro g w1 hst1; clear hst) | (refine wl_loadE rfl rfl rfl ?_; first | refine ⟨_, Loads.at [] hst1 rfl, ?_⟩ | refine ⟨_, Loads.atA (ptrCells (.slice ao n c) b v S) [] hst1 (ptr_len hS _ _ _) (ptr_all _ _ _ _), ?_⟩ | refine ⟨_, Loads.at [_] hst2 rfl, ?_⟩) | (go_at_call 81; refine (refCheck_any _ _ _ l b v S _ hS (Rd.old hst1 hA) Hn.out).mono ?_; rw [Hc.out]; rintro _ _ ⟨rfl, hcall⟩; replace hst1 := St.call0 hst1 hcall; clear hcall) | (apply wl_bsX ([.int _ _]) ([.int _ _]) hst1; rfl; rfl; exact rfl; exact rfl; infer_instance; infer_instance; rfl; rfl; rfl; intro g2 w2 hst2; clear hst1))
  have hst3 : St w [] w2 [.row (.slice (some ⟨g2, 0, none⟩) 1 1) 5 1 1 (bytesV (numB n 1)), .blk g 45 (ptrCells (.slice ao n c) b v S)] := by
    rw [← num1_cells (n : Int) (x := n) (by omega)]
    exact St.toRow (n := 1) (cap := 1) (sz := 1) hst2 rfl (by decide) (by decide)
  clear hst2
  go_loopw [4, 5] (fun u i wr => ∃ k : Nat, k ≤ 3 ∧ i = .int .i64 k ∧ St w [] wr [.row u 5 1 (1 + 3 * k) (bytesV (numB n 1 ++ addrsB l k)), .blk g 45 (ptrCells (.slice ao n c) b v S)]) (fun _ i _ => 3 - (intOf i).toNat)
  case atStart => exact ⟨0, by omega, rfl, by simpa [addrsB] using hst3⟩
  case round =>
    obtain ⟨k, hk, rfl, hst4⟩ := hrel
    clear hst3
    by_cases hk3 : k < 3
    · obtain ⟨x, hx⟩ : ∃ x, x = l.getD k (0, 0) := ⟨_, rfl⟩
      have hxb := Hb5.out k
      rw [← hx] at hxb
      obtain ⟨hx1, hx2, hx3, hx4⟩ := hxb
      have Hx := hid hx
      by_cases hkn : k < n
      · obtain ⟨bb, off, rfl, hr⟩ := hA.at hkn
        have hb := addr_both hr (k := k) (by rw [Hn.out]; exact hkn)
        rw [← hx] at hb
        clear hx
        go_wp2_with (first | go_big_skip | go_big_guard | (refine wl_alloc hst4 rfl rfl ?_; intro ga w5 hst5; clear hst4) | (refine wl_build0 rfl rfl ?_) | (refine wl_loadE rfl rfl rfl ?_; first | refine ⟨_, Loads.at [_, _] hst6 rfl, ?_⟩ | refine ⟨_, Loads.at [_, _] hst7 rfl, ?_⟩ | refine ⟨_, Loads.oldA hst6 rfl (hb), ?_⟩ | refine ⟨_, Loads.at [] hst7 rfl, ?_⟩) | (refine wl_index rfl rfl rfl rfl (hkn) ?_) | (refine wl_store [] hst5 rfl rfl rfl (v := .agg (List.toArray _)) rfl rfl rfl ?_ ?_; (exact Nat.le_refl _); intro w6 hst6; clear hst5; (simp [putAt] at hst6)) | (refine wl_store [] hst6 rfl rfl rfl (v := .agg (List.toArray _)) rfl rfl rfl ?_ ?_; (exact Nat.le_refl _); intro w7 hst7; clear hst6; (simp [putAt] at hst7)) | (apply wl_bsX ([.int _ _, .int _ _, .int _ _]) ([.int _ _, .int _ _, .int _ _]) hst7; rfl; rfl; exact rfl; exact rfl; infer_instance; infer_instance; rfl; rfl; rfl; intro gb w8 hst8; clear hst7) | (apply wl_appX [_, _] hst8; rfl; rfl; exact rfl; exact rfl; infer_instance; infer_instance; infer_instance; exact (Rd.blk0 hst8 rfl (by decide)); exact rfl; ((unfold maxLen; omega)); intro v9 w9 hst9 _; clear hst8))
        go_roundw
        case rel =>
          refine ⟨k + 1, by omega, by go_num, ?_⟩
          have h10 := hst9.sub (L' := [.row v9 5 1 (1 + 3 * k + 3) (bytesV (numB n 1 ++ addrsB l k) ++ [.int .u8 _, .int .u8 _, .int .u8 _]), .blk g 45 (ptrCells _ b v S)]) (.cons _ (.cons _ (List.Sublist.refl _)))
          rw [show ∀ p q r : Int, [Value.int .u8 p, .int .u8 q, .int .u8 r] = [Value.int .u8 p] ++ [.int .u8 q, .int .u8 r] from fun _ _ _ => rfl, num1_cells x.1 (by omega), num2_cells x.2 (by omega) (by omega), ← bytesV_append, ← bytesV_append] at h10
          rw [show 1 + 3 * (k + 1) = 1 + 3 * k + 3 by omega]
          have e : numB n 1 ++ addrsB l (k + 1) = (numB n 1 ++ addrsB l k) ++ (numB x.1 1 ++ numB x.2 2) := by
            simp only [addrsB, addrB, ← Hx.out, List.append_assoc]
          rw [e]
          exact h10
        case measure => simp [intOf]; omega
      · have hx0 : x = (0, 0) := by rw [hx]; simp [List.getD, List.getElem?_eq_none (show l.length ≤ k by rw [Hn.out]; omega)]
        have Hx0 := hid hx0
        clear hx hx0
        go_wp2_with (first | go_big_skip | go_big_guard | (refine wl_alloc hst4 rfl rfl ?_; intro ga w5 hst5; clear hst4) | (refine wl_build0 rfl rfl ?_) | (refine wl_loadE rfl rfl rfl ?_; first | refine ⟨_, Loads.at [_, _] hst6 rfl, ?_⟩ | refine ⟨_, Loads.at [] hst6 rfl, ?_⟩) | (refine wl_store [] hst5 rfl rfl rfl (v := .agg (List.toArray _)) rfl rfl rfl ?_ ?_; (exact Nat.le_refl _); intro w6 hst6; clear hst5; (simp [putAt] at hst6)) | (apply wl_bsX ([.int _ _, .int _ _, .int _ _]) ([.int _ _, .int _ _, .int _ _]) hst6; rfl; rfl; exact rfl; exact rfl; infer_instance; infer_instance; rfl; rfl; rfl; intro gb w8 hst8; clear hst6) | (apply wl_appX [_, _] hst8; rfl; rfl; exact rfl; exact rfl; infer_instance; infer_instance; infer_instance; exact (Rd.blk0 hst8 rfl (by decide)); exact rfl; ((unfold maxLen; omega)); intro v9 w9 hst9 _; clear hst8))
        go_roundw
        case rel =>
          refine ⟨k + 1, by omega, by go_num, ?_⟩
          have h10 := hst9.sub (L' := [.row v9 5 1 (1 + 3 * k + 3) (bytesV (numB n 1 ++ addrsB l k) ++ [.int .u8 0, .int .u8 0, .int .u8 0]), .blk g 45 (ptrCells _ b v S)]) (.cons _ (.cons _ (List.Sublist.refl _)))
          have hx1 : x.1 = 0 := by rw [Hx0.out]
          have hx2 : x.2 = 0 := by rw [Hx0.out]
          have e0 : ([Value.int .u8 0, .int .u8 0, .int .u8 0] : List Value) = bytesV (numB x.1 1) ++ bytesV (numB x.2 2) := by
            rw [← num1_cells x.1 (x := 0) (by omega), ← num2_cells x.2 (x := 0) (y := 0) (by omega) (by omega)]; rfl
          rw [e0, ← bytesV_append, ← bytesV_append] at h10
          rw [show 1 + 3 * (k + 1) = 1 + 3 * k + 3 by omega]
          have e : numB n 1 ++ addrsB l (k + 1) = (numB n 1 ++ addrsB l k) ++ (numB x.1 1 ++ numB x.2 2) := by
            simp only [addrsB, addrB, ← Hx.out, List.append_assoc]
          rw [e]
          exact h10
        case measure => simp [intOf]; omega
    · have hk4 : k = 3 := by omega
      have hst4' : St w [] wr [.row u4 5 1 (1 + 3 * 3) (bytesV (numB n 1 ++ addrsB l 3)), .blk g 45 (ptrCells (.slice ao n c) b v S)] := by
        rw [hk4] at hst4; exact hst4
      clear hst4 hk4
      go_wp2_with (first | go_big_skip | go_big_guard | fail)
      go_loopw [4, 7] (fun u i wr => ∃ j : Nat, j ≤ 4 ∧ i = .int .i64 ((j : Int) - 1) ∧ St w [] wr [.row u 5 1 (1 + 3 * 3 + (4 - j)) (bytesV ((numB n 1 ++ addrsB l 3) ++ (numB b 4).take (4 - j))), .blk g 45 (ptrCells (.slice ao n c) b v S)]) (fun _ i _ => ((intOf i) + 1).toNat)
      case atStart => exact ⟨(4 : Nat), by omega, rfl, by simpa using hst4'⟩
      case round =>
        obtain ⟨j, hj, rfl, hst5⟩ := hrel
        clear hst4'
        by_cases hj0 : 0 < j
        · go_wp2_with (first | go_big_skip | go_big_guard | (refine wl_loadE rfl rfl rfl ?_; first | refine ⟨_, Loads.at [_] hst5 rfl, ?_⟩) | (apply wl_bsX ([.int _ _]) ([.int _ _]) hst5; rfl; rfl; exact rfl; exact rfl; infer_instance; infer_instance; rfl; rfl; rfl; intro gb w8 hst8; clear hst5) | (apply wl_appX [_] hst8; rfl; rfl; exact rfl; exact rfl; infer_instance; infer_instance; infer_instance; exact (Rd.blk0 hst8 rfl (by decide)); exact rfl; ((unfold maxLen; omega)); intro v9 w9 hst9 _; clear hst8))
          go_roundw
          case rel =>
            refine ⟨(j - 1 : Nat), by omega, by go_num, ?_⟩
            have h10 := hst9.sub (L' := [.row v9 5 1 (1 + 3 * 3 + (4 - j) + 1) (bytesV ((numB n 1 ++ addrsB l 3) ++ (numB b 4).take (4 - j)) ++ [.int .u8 (b / 2 ^ (8 * (j - 1)) % 256)]), .blk g 45 (ptrCells (.slice ao n c) b v S)]) (.cons _ (List.Sublist.refl _))
            rw [byteV, show 1 + 3 * 3 + (4 - j) + 1 = 1 + 3 * 3 + (4 - (j - 1)) by omega] at h10
            rw [show 4 - (j - 1) = (4 - j) + 1 by omega, numB_take _ _ _ (by omega), ← List.append_assoc, bytesV_append _ [_], show 4 - 1 - (4 - j) = j - 1 by omega]
            rw [show 4 - (j - 1) = (4 - j) + 1 by omega] at h10
            exact h10
          case measure => simp [intOf]; omega
        · have hj4 : j = 0 := by omega
          subst hj4
          have hst6 : St w [] wr [.row u4 5 1 14 (bytesV ((numB n 1 ++ addrsB l 3) ++ numB b 4)), .blk g 45 (ptrCells (.slice ao n c) b v S)] := by
            have := hst5
            rwa [show 4 - 0 = 4 from rfl, List.take_of_length_le (by simp [length_numB])] at this
          clear hst5
          go_wp2_with (first | go_big_skip | go_big_guard | (refine wl_loadE rfl rfl rfl ?_; first | refine ⟨_, Loads.at [_] hst6 rfl, ?_⟩) | (apply wl_bsX ([.int _ _]) ([.int _ _]) hst6; rfl; rfl; exact rfl; exact rfl; infer_instance; infer_instance; rfl; rfl; rfl; intro gb w8 hst8; clear hst6) | (apply wl_appX [_] hst8; rfl; rfl; exact rfl; exact rfl; infer_instance; infer_instance; infer_instance; exact (Rd.blk0 hst8 rfl (by decide)); exact rfl; ((unfold maxLen; omega)); intro v9 w9 hst9 _; clear hst8) | (apply wl_appX [_] hst9; rfl; rfl; exact rfl; exact rfl; infer_instance; infer_instance; infer_instance; exact Rd.blk (n := 32) (c := 32) hst9 (.tail _ (.tail _ (.head _))) (by decide) (by decide) hS.v (ptr_sum _ _ _ _); exact ones_bytesV S; ((unfold maxLen; omega)); intro v10 w10 hst10 _; clear hst9))
          go_ret2
          have h11 := hst10.sub (L' := [.row v10 5 1 47 (bytesV ((numB n 1 ++ addrsB l 3) ++ numB b 4) ++ [.int .u8 _] ++ bytesV S)]) (.cons _ (.cons_cons _ (List.nil_sublist _)))
          rw [num1_cells v (by omega), ← bytesV_append, ← bytesV_append] at h11
          refine ⟨v10, rfl, ?_⟩
          have e : bytesP l b v S = (((numB n 1 ++ addrsB l 3) ++ numB b 4) ++ numB v 1) ++ S := by simp only [bytesP, Hn.out]
          rw [e]
          exact h11
end Go.Proofs.Ytkpkaoiafppimaa
