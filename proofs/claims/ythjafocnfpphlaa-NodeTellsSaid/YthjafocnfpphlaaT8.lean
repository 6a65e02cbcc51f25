import Derived.Test.YthjafocnfpphlaaT5
import Derived.Test.YthjafocnfpphlaaT7
import Derived.Test.YthjafocnfpphlaaPtrB
import Derived.Deep.RegionHeld3
import Derived.Deep.DrawnRows
namespace Go.Proofs.Ythjafocnfpphlaa
open Go.RowKit Hp
attribute [local go_sem ↓] Go.wp_at_zero Go.wp_at_succ
attribute [local irreducible] Go.Calls
set_option maxHeartbeats 1000000
theorem bytes_no (ao : Option Addr) (n c : Nat) (l : List (Int × Int)) (b v : Int) (S : List UInt8) (w : World) (hS : L32 S) (hA : Rd w (.slice ao n c) 2 n (addrsV l)) (hn : l.length = n) (hc : checkB l b v S = false) :
    Calls Try.prog 19 #[.agg (ptrCells (.slice ao n c) b v S).toArray] w fun e w' => e = .returned (.tuple #[.slice none 0 0, .int .i64 2]) ∧ St w [] w' [] := by
  have Hn := hid hn; clear hn
  have hcE : checkE l b v S = 2 := by simp [checkE, hc]
  have Hc := hid hcE; clear hcE hc
  go_enter Try.func19, Try.ntmps19
  have hst := St.refl w
  go_wp2_with (first | go_big_skip | go_big_guard | (refine wl_boxA hst rfl rfl rfl ?_; intro g w1 hst1; clear hst) | (refine wl_loadE rfl rfl rfl ?_; first | refine ⟨_, Loads.at [] hst1 rfl, ?_⟩ | refine ⟨_, Loads.atA (ptrCells (.slice ao n c) b v S) [] hst1 (ptr_len hS _ _ _) (ptr_all _ _ _ _), ?_⟩) | (go_at_call 22; refine (check_any _ _ _ l b v S _ hS (Rd.old hst1 hA) Hn.out).mono ?_; rw [Hc.out]; rintro _ _ ⟨rfl, hcall⟩; replace hst1 := St.call0 hst1 hcall; clear hcall))
  go_ret2
  exact ⟨rfl, hst1.nil⟩
theorem bytes_okP (ao : Option Addr) (n c : Nat) (l : List (Int × Int)) (b v : Int) (S : List UInt8) (w : World) (hS : L32 S) (hA : Rd w (.slice ao n c) 2 n (addrsV l)) (hn : l.length = n) (hc : checkB l b v S = true) :
    Calls Try.prog 19 #[.agg (ptrCells (.slice ao n c) b v S).toArray] w fun e w' => ∃ u, e = .returned (.tuple #[u, .int .i64 0]) ∧ St w [] w' [.rowP isB u 5 1 47 (bytesV (bytesP l b v S))] := by
  have hbd := check_bd hc
  rw [hn] at hbd
  obtain ⟨hb0, hb1, hb2, hb3, hb4, hb5⟩ := hbd
  have Hb5 := hid hb5; clear hb5
  have Hn := hid hn; clear hn
  have hcE : checkE l b v S = 0 := by simp [checkE, hc]
  have Hc := hid hcE; clear hcE hc
  go_enter Try.func19, Try.ntmps19
  have hst := St.refl w
  go_wp2_with (first | go_big_skip | go_big_guard | (refine wl_boxA hst rfl rfl rfl ?_; intro g w1 hst1; clear hst) | (refine wl_loadE rfl rfl rfl ?_; first | refine ⟨_, Loads.at [] hst1 rfl, ?_⟩ | refine ⟨_, Loads.atA (ptrCells (.slice ao n c) b v S) [] hst1 (ptr_len hS _ _ _) (ptr_all _ _ _ _), ?_⟩ | refine ⟨_, Loads.at [_] hst2 rfl, ?_⟩) | (go_at_call 22; refine (check_any _ _ _ l b v S _ hS (Rd.old hst1 hA) Hn.out).mono ?_; rw [Hc.out]; rintro _ _ ⟨rfl, hcall⟩; replace hst1 := St.call0 hst1 hcall; clear hcall) | (apply wl_bsX ([]) ([]) hst1; rfl; rfl; exact rfl; exact rfl; infer_instance; infer_instance; rfl; rfl; rfl; intro g2 w2 hst2; clear hst1) | (go_at_call 53; refine (num_k _ 0 _ _ 1 rfl [] _ ((St.toRowP isB (n := 0) (cap := 0) (sz := 1) hst2 rfl (by decide) (by decide) rfl).ownsP (.head _)).1 ((St.toRowP isB (n := 0) (cap := 0) (sz := 1) hst2 rfl (by decide) (by decide) rfl).ownsP (.head _)).2 (by decide) (by decide) (by omega)).mono ?_; rintro _ _ ⟨u1, rfl, h3⟩; have hst3 := St.callRowP (St.toRowP isB (n := 0) (cap := 0) (sz := 1) hst2 rfl (by decide) (by decide) rfl) h3; clear h3 hst2))
  go_loopw [5, 18] (fun u i wr => ∃ k : Nat, k ≤ 3 ∧ i = .int .i64 k ∧ St w [] wr [.rowP isB u 5 1 (1 + 3 * k) (bytesV (numB n 1 ++ addrsB l k)), .blk g 29 (ptrCells (.slice ao n c) b v S)]) (fun _ i _ => 3 - (intOf i).toNat)
  case atStart => exact ⟨0, by omega, rfl, by simpa [addrsB] using hst3⟩
  case round =>
    obtain ⟨k, hk, rfl, hst4⟩ := hrel
    clear hst3
    by_cases hk3 : k < 3
    · obtain ⟨x, hx⟩ : ∃ x, x = l.getD k (0, 0) := ⟨_, rfl⟩
      have hxb := Hb5.out k
      rw [← hx] at hxb
      obtain ⟨hx1, hx2, hx3, hx4⟩ := hxb
      have Hx := hid hx
      by_cases hkn : k < n
      · obtain ⟨bb, off, rfl, hr⟩ := hA.at hkn
        have hb := addr_both hr (k := k) (by rw [Hn.out]; exact hkn)
        rw [← hx] at hb
        clear hx
        go_wp2_with (first | go_big_skip | go_big_guard | (refine wl_alloc hst4 rfl rfl ?_; intro ga w5 hst5; clear hst4) | (refine wl_loadE rfl rfl rfl ?_; first | refine ⟨_, Loads.at [_, _] hst5 rfl, ?_⟩ | refine ⟨_, Loads.oldA hst5 rfl (hb), ?_⟩) | (refine wl_index rfl rfl rfl rfl (hkn) ?_) | (refine wl_store [] hst5 rfl rfl rfl (v := .agg (List.toArray _)) rfl rfl rfl ?_ ?_; (exact Nat.le_refl _); intro w6 hst6; clear hst5; (simp [putAt] at hst6)))
        simp only [Act.put, List.setIfInBounds_toArray, List.set_cons_zero, List.set_cons_succ]
        have hst7 := (hst6.front [_]).drew
        have hc1 := hst7.cell (g := ga) (off := 0) (.tail _ (.head _)) rfl
        have hc2 := hst7.cell (g := ga) (off := 1) (.tail _ (.head _)) rfl
        clear hst6
        go_region_held3 (fun w' => w'.cell? ⟨ga, 0, none⟩ = some (.int .i64 x.1) ∧ w'.cell? ⟨ga, 1, none⟩ = some (.int .i64 x.2))
          (first | go_keep | exact ⟨hst8.cell (.tail _ (.head _)) rfl, hst8.cell (.tail _ (.head _)) rfl⟩ | exact ⟨hst9.cell (.tail _ (.head _)) rfl, hst9.cell (.tail _ (.head _)) rfl⟩)
          (first
            | (go_at_call 53; refine (num_k _ _ x.1 _ 1 rfl _ _ (hst7.ownsP (.head _)).1 (hst7.ownsP (.head _)).2 (by decide) (by omega) (by omega)).mono ?_; rintro _ _ ⟨u2, rfl, h8⟩; have hst8 := St.callRowP hst7 h8; clear h8)
            | (go_at_call 53; refine (num_k _ _ x.2 _ 2 rfl _ _ (hst8.ownsP (.head _)).1 (hst8.ownsP (.head _)).2 (by decide) (by omega) (by omega)).mono ?_; rintro _ _ ⟨u3, rfl, h9⟩; have hst9 := St.callRowP hst8 h9; clear h9))
        go_wp2_with (first | go_big_skip | go_big_guard | fail)
        go_roundw
        case rel =>
          refine ⟨k + 1, by omega, by go_num, ?_⟩
          have h10 := hst9.sub (L' := [.rowP isB u3 5 1 (1 + 3 * k + 1 + 2) (bytesV (((numB n 1 ++ addrsB l k) ++ numB x.1 1) ++ numB x.2 2)), .blk g 29 (ptrCells _ b v S)]) (List.Sublist.cons_cons _ (List.sublist_cons_self _ _))
          rw [show 1 + 3 * (k + 1) = 1 + 3 * k + 1 + 2 by omega]
          have e : numB n 1 ++ addrsB l (k + 1) = ((numB n 1 ++ addrsB l k) ++ numB x.1 1) ++ numB x.2 2 := by
            simp only [addrsB, addrB, ← Hx.out, List.append_assoc]
          rw [e]
          exact h10
        case measure => simp [intOf]; omega
      · clear hx
        go_wp2_with (first | go_big_skip | go_big_guard | (refine wl_alloc hst4 rfl rfl ?_; intro ga w5 hst5; clear hst4) | (refine wl_loadE rfl rfl rfl ?_; first | refine ⟨_, Loads.at [_, _] hst5 rfl, ?_⟩))
        have hx0 : x = (0, 0) := by rw [Hx.out]; simp [List.getD, List.getElem?_eq_none (show l.length ≤ k by rw [Hn.out]; omega)]
        have hst6 : St w [] w5 [.blk ga 42 [.int .i64 x.1, .int .i64 x.2], .rowP isB u5 5 1 (1 + 3 * k) (bytesV (numB n 1 ++ addrsB l k)), .blk g 29 (ptrCells (.slice ao n c) b v S)] := by
          rw [hx0]; exact hst5
        clear hx0
        have hst7 := (hst6.front [_]).drew
        have hc1 := hst7.cell (g := ga) (off := 0) (.tail _ (.head _)) rfl
        have hc2 := hst7.cell (g := ga) (off := 1) (.tail _ (.head _)) rfl
        clear hst5 hst6
        go_region_held3 (fun w' => w'.cell? ⟨ga, 0, none⟩ = some (.int .i64 x.1) ∧ w'.cell? ⟨ga, 1, none⟩ = some (.int .i64 x.2))
          (first | go_keep | exact ⟨hst8.cell (.tail _ (.head _)) rfl, hst8.cell (.tail _ (.head _)) rfl⟩ | exact ⟨hst9.cell (.tail _ (.head _)) rfl, hst9.cell (.tail _ (.head _)) rfl⟩)
          (first
            | (go_at_call 53; refine (num_k _ _ x.1 _ 1 rfl _ _ (hst7.ownsP (.head _)).1 (hst7.ownsP (.head _)).2 (by decide) (by omega) (by omega)).mono ?_; rintro _ _ ⟨u2, rfl, h8⟩; have hst8 := St.callRowP hst7 h8; clear h8)
            | (go_at_call 53; refine (num_k _ _ x.2 _ 2 rfl _ _ (hst8.ownsP (.head _)).1 (hst8.ownsP (.head _)).2 (by decide) (by omega) (by omega)).mono ?_; rintro _ _ ⟨u3, rfl, h9⟩; have hst9 := St.callRowP hst8 h9; clear h9))
        go_wp2_with (first | go_big_skip | go_big_guard | fail)
        go_roundw
        case rel =>
          refine ⟨k + 1, by omega, by go_num, ?_⟩
          have h10 := hst9.sub (L' := [.rowP isB u3 5 1 (1 + 3 * k + 1 + 2) (bytesV (((numB n 1 ++ addrsB l k) ++ numB x.1 1) ++ numB x.2 2)), .blk g 29 (ptrCells _ b v S)]) (List.Sublist.cons_cons _ (List.sublist_cons_self _ _))
          rw [show 1 + 3 * (k + 1) = 1 + 3 * k + 1 + 2 by omega]
          have e : numB n 1 ++ addrsB l (k + 1) = ((numB n 1 ++ addrsB l k) ++ numB x.1 1) ++ numB x.2 2 := by
            simp only [addrsB, addrB, ← Hx.out, List.append_assoc]
          rw [e]
          exact h10
        case measure => simp [intOf]; omega
    · have hk4 : k = 3 := by omega
      subst hk4
      go_wp2_with (first | go_big_skip | go_big_guard | fail)
      have hst7 := hst4.drew
      have hc1 := hst7.cell (g := g) (off := 1) (.tail _ (.head _)) rfl
      have hc2 := hst7.cell (g := g) (off := 2) (.tail _ (.head _)) rfl
      clear hst4
      go_region_held3 (fun w' => w'.cell? ⟨g, 1, none⟩ = some (.int .i64 b) ∧ w'.cell? ⟨g, 2, none⟩ = some (.int .i64 v))
        (first | go_keep | exact ⟨hst10.cell (.tail _ (.head _)) rfl, hst10.cell (.tail _ (.head _)) rfl⟩ | exact ⟨hst9.cell (.tail _ (.head _)) rfl, hst9.cell (.tail _ (.head _)) rfl⟩ | exact ⟨hst8.cell (.tail _ (.head _)) rfl, hst8.cell (.tail _ (.head _)) rfl⟩)
        (first
          | (go_at_call 53; refine (num_k _ _ b _ 4 rfl _ _ (hst7.ownsP (.head _)).1 (hst7.ownsP (.head _)).2 (by decide) (by omega) (by omega)).mono ?_; rintro _ _ ⟨u2, rfl, h8⟩; have hst8 := St.callRowP hst7 h8; clear h8)
          | (go_at_call 53; refine (num_k _ _ v _ 1 rfl _ _ (hst8.ownsP (.head _)).1 (hst8.ownsP (.head _)).2 (by decide) (by omega) (by omega)).mono ?_; rintro _ _ ⟨u3, rfl, h9⟩; have hst9 := St.callRowP hst8 h9; clear h9)
          | (rw [if_pos (by rfl)]; apply ow_appP [] hst9; rfl; exact rfl; exact rfl; infer_instance; infer_instance; infer_instance; infer_instance; exact Rd.blk (n := 32) (c := 32) hst9 (.tail _ (.head _)) (by decide) (by decide) hS.v (ptr_sum _ _ _ _); exact ones_bytesV S; rfl; exact isB_bytes S; (unfold maxLen; omega); intro u4 w10 hst10 _))
      go_wp2_with (first | go_big_skip | go_big_guard | fail)
      go_ret2
      have h11 := hst10.sub (L' := [.rowP isB u4 5 1 (1 + 3 * 3 + 4 + 1 + 32) (bytesV (((numB n 1 ++ addrsB l 3) ++ numB b 4) ++ numB v 1) ++ bytesV S)]) (List.singleton_sublist.2 (.head _))
      rw [← bytesV_append] at h11
      refine ⟨u4, rfl, ?_⟩
      have e : bytesP l b v S = (((numB n 1 ++ addrsB l 3) ++ numB b 4) ++ numB v 1) ++ S := by simp only [bytesP, Hn.out]
      rw [e]
      exact h11
theorem bytes_ok (ao : Option Addr) (n c : Nat) (l : List (Int × Int)) (b v : Int) (S : List UInt8) (w : World) (hS : L32 S) (hA : Rd w (.slice ao n c) 2 n (addrsV l)) (hn : l.length = n) (hc : checkB l b v S = true) :
    Calls Try.prog 19 #[.agg (ptrCells (.slice ao n c) b v S).toArray] w fun e w' => ∃ u, e = .returned (.tuple #[u, .int .i64 0]) ∧ St w [] w' [.row u 5 1 47 (bytesV (bytesP l b v S))] := by
  refine (bytes_okP ao n c l b v S w hS hA hn hc).mono ?_
  rintro e w' ⟨u, h1, h2⟩
  exact ⟨u, h1, St.unP (L1 := []) h2⟩
end Go.Proofs.Ythjafocnfpphlaa
