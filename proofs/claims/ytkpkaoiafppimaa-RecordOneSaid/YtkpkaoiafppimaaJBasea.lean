import Derived.Test.YtkpkaoiafppimaaTy
import Derived.Test.YtkpkaoiafppimaaNum
import Derived.Test.YtkpkaoiafppimaaSepP
import Derived.Test.YtkpkaoiafppimaaT5
import Derived.Test.YtkpkaoiafppimaaPtrB
import Derived.Deep.RegionHeld3
import Derived.Deep.DrawnRows
import Derived.Test.YtkpkaoiafppimaaT4
import Derived.Test.YtkpkaoiafppimaaPtrR
import Derived.Test.YtkpkaoiafppimaaSepR
import Derived.Recover
import Derived.Defers
import Derived.Test.YtkpkaoiafppimaaT18
import Derived.Test.YtkpkaoiafppimaaT9
import Derived.Test.YtkpkaoiafppimaaPtrM
import Derived.Test.YtkpkaoiafppimaaRegL
import Derived.Test.YtkpkaoiafppimaaSepY
import Derived.Outline
import Derived.Test.YtkpkaoiafppimaaNode
namespace Go.Proofs.Ytkpkaoiafppimaa
set_option linter.unusedVariables false
set_option linter.unusedSimpArgs false
open Go.RowKit Hp
set_option maxHeartbeats 400000
theorem isB_one (n : Int) : ([Value.int .u8 (n % 256)]).all isB = true := by
  simp [isB]; omega
theorem num_any (v : Value) (m : Nat) (n : Int) (k : Nat) (xs : List UInt8) (w : World) (hv : w.ownsRow 0 5 1 v m (bytesV xs)) (hp : AllP isB w v 5) (hk : k ≤ 8) (hm : m ≤ 100000) (hn : -9223372036854775808 ≤ n ∧ n ≤ 9223372036854775807) :
    Calls Try.prog 69 #[v, .int .i64 n, .int .i64 k] w fun e w' => ∃ v', e = .returned v' ∧ St w v.ownBlock.toList w' [.rowP isB v' 5 1 (m + k) (bytesV (xs ++ numB n k))] := by
  have hst := St.ofRowP w hv hp
  go_enter Try.func69, Try.ntmps69
  go_wp2_with (first | go_big_skip | go_big_guard | fail)
  go_loopw [0, 7] (fun u i wr => ∃ j : Nat, j ≤ k ∧ i = .int .i64 ((j : Int) - 1) ∧ St w v.ownBlock.toList wr [.rowP isB u 5 1 (m + (k - j)) (bytesV (xs ++ (numB n k).take (k - j)))]) (fun _ i _ => ((intOf i) + 1).toNat)
  case atStart => exact ⟨k, Nat.le_refl _, rfl, by simpa using hst⟩
  case round =>
    obtain ⟨j, hj, rfl, hst2⟩ := hrel
    clear hst
    by_cases hlt : 0 < j
    · go_wp2_with (first | go_big_skip | go_big_guard | (apply wl_bsX ([.int _ _]) ([.int _ _]) hst2; rfl; rfl; exact rfl; exact rfl; infer_instance; infer_instance; rfl; rfl; rfl; intro g w1 hst3; clear hst2) | (apply wl_appP [_] hst3; rfl; rfl; exact rfl; exact rfl; infer_instance; infer_instance; infer_instance; infer_instance; exact (Rd.blk0 hst3 rfl (by decide)); exact rfl; rfl; exact isB_one _; (unfold maxLen; omega); intro v4 w4 hst4 _; clear hst3))
      go_roundw
      case rel =>
        refine ⟨j - 1, by omega, by go_num, ?_⟩
        have h5 := hst4.sub (L' := [.rowP isB v4 5 1 (m + (k - j) + 1) (bytesV (xs ++ (numB n k).take (k - j)) ++ [.int .u8 (n / 2 ^ (8 * (j - 1)) % 256)])]) (List.sublist_append_right _ _)
        rw [byteV, show m + (k - j) + 1 = m + (k - (j - 1)) by omega] at h5
        rw [show k - (j - 1) = (k - j) + 1 by omega, numB_take _ _ _ (by omega), ← List.append_assoc, bytesV_append _ [_], show k - 1 - (k - j) = j - 1 by omega]
        rw [show k - (j - 1) = (k - j) + 1 by omega] at h5
        exact h5
      case measure => simp [intOf]; omega
    · have hj0 : j = 0 := by omega
      subst hj0
      go_wp2_with (first | go_big_skip | go_big_guard | fail)
      go_ret
      exact ⟨_, rfl, by simpa [length_numB, List.take_of_length_le] using hst2⟩
theorem num_k (v : Value) (m : Nat) (n s : Int) (k : Nat) (hs : s = (k : Int)) (xs : List UInt8) (w : World) (hv : w.ownsRow 0 5 1 v m (bytesV xs)) (hp : AllP isB w v 5) (hk : k ≤ 8) (hm : m ≤ 100000) (hn : -9223372036854775808 ≤ n ∧ n ≤ 9223372036854775807) :
    Calls Try.prog 69 #[v, .int .i64 n, .int .i64 s] w fun e w' => ∃ v', e = .returned v' ∧ St w v.ownBlock.toList w' [.rowP isB v' 5 1 (m + k) (bytesV (xs ++ numB n k))] := by
  subst hs
  exact num_any v m n k xs w hv hp hk hm hn
end Go.Proofs.Ytkpkaoiafppimaa
namespace Go.Proofs.Ytkpkaoiafppimaa
set_option linter.unusedVariables false
set_option linter.unusedSimpArgs false
open Go.RowKit Hp
attribute [local go_sem ↓] Go.wp_at_zero Go.wp_at_succ
attribute [local irreducible] Go.Calls
set_option maxRecDepth 100000
set_option maxHeartbeats 1000000
theorem bytes_no (ao : Option Addr) (n c : Nat) (l : List (Int × Int)) (b v : Int) (S : List UInt8) (w : World) (hS : L32 S) (hA : Rd w (.slice ao n c) 2 n (addrsV l)) (hn : l.length = n) (hc : checkB l b v S = false) :
    Calls Try.prog 41 #[.agg (ptrCells (.slice ao n c) b v S).toArray] w fun e w' => e = .returned (.tuple #[.slice none 0 0, .int .i64 2]) ∧ St w [] w' [] := by
  have Hn := hid hn; clear hn
  have hcE : checkE l b v S = 2 := by simp [checkE, hc]
  have Hc := hid hcE; clear hcE hc
  go_enter Try.func41, Try.ntmps41
  have hst := St.refl w
  go_wp2_with (first | go_big_skip | go_big_guard | (refine wl_boxA hst rfl rfl rfl ?_; intro g w1 hst1; clear hst) | (refine wl_loadE rfl rfl rfl ?_; first | refine ⟨_, Loads.at [] hst1 rfl, ?_⟩ | refine ⟨_, Loads.atA (ptrCells (.slice ao n c) b v S) [] hst1 (ptr_len hS _ _ _) (ptr_all _ _ _ _), ?_⟩) | (go_at_call 68; refine (check_any _ _ _ l b v S _ hS (Rd.old hst1 hA) Hn.out).mono ?_; rw [Hc.out]; rintro _ _ ⟨rfl, hcall⟩; replace hst1 := St.call0 hst1 hcall; clear hcall))
  go_ret2
  exact ⟨rfl, hst1.nil⟩
theorem bytes_okP (ao : Option Addr) (n c : Nat) (l : List (Int × Int)) (b v : Int) (S : List UInt8) (w : World) (hS : L32 S) (hA : Rd w (.slice ao n c) 2 n (addrsV l)) (hn : l.length = n) (hc : checkB l b v S = true) :
    Calls Try.prog 41 #[.agg (ptrCells (.slice ao n c) b v S).toArray] w fun e w' => ∃ u, e = .returned (.tuple #[u, .int .i64 0]) ∧ St w [] w' [.rowP isB u 5 1 47 (bytesV (bytesP l b v S))] := by
  have hbd := check_bd hc
  rw [hn] at hbd
  obtain ⟨hb0, hb1, hb2, hb3, hb4, hb5⟩ := hbd
  have Hb5 := hid hb5; clear hb5
  have Hn := hid hn; clear hn
  have hcE : checkE l b v S = 0 := by simp [checkE, hc]
  have Hc := hid hcE; clear hcE hc
  go_enter Try.func41, Try.ntmps41
  have hst := St.refl w
  go_wp2_with (first | go_big_skip | go_big_guard | (refine wl_boxA hst rfl rfl rfl ?_; intro g w1 hst1; clear hst) | (refine wl_loadE rfl rfl rfl ?_; first | refine ⟨_, Loads.at [] hst1 rfl, ?_⟩ | refine ⟨_, Loads.atA (ptrCells (.slice ao n c) b v S) [] hst1 (ptr_len hS _ _ _) (ptr_all _ _ _ _), ?_⟩ | refine ⟨_, Loads.at [_] hst2 rfl, ?_⟩) | (go_at_call 68; refine (check_any _ _ _ l b v S _ hS (Rd.old hst1 hA) Hn.out).mono ?_; rw [Hc.out]; rintro _ _ ⟨rfl, hcall⟩; replace hst1 := St.call0 hst1 hcall; clear hcall) | (apply wl_bsX ([]) ([]) hst1; rfl; rfl; exact rfl; exact rfl; infer_instance; infer_instance; rfl; rfl; rfl; intro g2 w2 hst2; clear hst1) | (go_at_call 69; refine (num_k _ 0 _ _ 1 rfl [] _ ((St.toRowP isB (n := 0) (cap := 0) (sz := 1) hst2 rfl (by decide) (by decide) rfl).ownsP (.head _)).1 ((St.toRowP isB (n := 0) (cap := 0) (sz := 1) hst2 rfl (by decide) (by decide) rfl).ownsP (.head _)).2 (by decide) (by decide) (by omega)).mono ?_; rintro _ _ ⟨u1, rfl, h3⟩; have hst3 := St.callRowP (St.toRowP isB (n := 0) (cap := 0) (sz := 1) hst2 rfl (by decide) (by decide) rfl) h3; clear h3 hst2))
  go_loopw [5, 18] (fun u i wr => ∃ k : Nat, k ≤ 3 ∧ i = .int .i64 k ∧ St w [] wr [.rowP isB u 5 1 (1 + 3 * k) (bytesV (numB n 1 ++ addrsB l k)), .blk g 45 (ptrCells (.slice ao n c) b v S)]) (fun _ i _ => 3 - (intOf i).toNat)
  case atStart => exact ⟨0, by omega, rfl, by simpa [addrsB] using hst3⟩
  case round =>
    obtain ⟨k, hk, rfl, hst4⟩ := hrel
    clear hst3
    by_cases hk3 : k < 3
    · obtain ⟨x, hx⟩ : ∃ x, x = l.getD k (0, 0) := ⟨_, rfl⟩
      have hxb := Hb5.out k
      rw [← hx] at hxb
      obtain ⟨hx1, hx2, hx3, hx4⟩ := hxb
      have Hx := hid hx
      by_cases hkn : k < n
      · obtain ⟨bb, off, rfl, hr⟩ := hA.at hkn
        have hb := addr_both hr (k := k) (by rw [Hn.out]; exact hkn)
        rw [← hx] at hb
        clear hx
        go_wp2_with (first | go_big_skip | go_big_guard | (refine wl_alloc hst4 rfl rfl ?_; intro ga w5 hst5; clear hst4) | (refine wl_loadE rfl rfl rfl ?_; first | refine ⟨_, Loads.at [_, _] hst5 rfl, ?_⟩ | refine ⟨_, Loads.oldA hst5 rfl (hb), ?_⟩) | (refine wl_index rfl rfl rfl rfl (hkn) ?_) | (refine wl_store [] hst5 rfl rfl rfl (v := .agg (List.toArray _)) rfl rfl rfl ?_ ?_; (exact Nat.le_refl _); intro w6 hst6; clear hst5; (simp [putAt] at hst6)))
        simp only [Act.put, List.setIfInBounds_toArray, List.set_cons_zero, List.set_cons_succ]
        have hst7 := (hst6.front [_]).drew
        have hc1 := hst7.cell (g := ga) (off := 0) (.tail _ (.head _)) rfl
        have hc2 := hst7.cell (g := ga) (off := 1) (.tail _ (.head _)) rfl
        clear hst6
        go_region_held3 (fun w' => w'.cell? ⟨ga, 0, none⟩ = some (.int .i64 x.1) ∧ w'.cell? ⟨ga, 1, none⟩ = some (.int .i64 x.2))
          (first | go_keep | exact ⟨hst8.cell (.tail _ (.head _)) rfl, hst8.cell (.tail _ (.head _)) rfl⟩ | exact ⟨hst9.cell (.tail _ (.head _)) rfl, hst9.cell (.tail _ (.head _)) rfl⟩)
          (first
            | (go_at_call 69; refine (num_k _ _ x.1 _ 1 rfl _ _ (hst7.ownsP (.head _)).1 (hst7.ownsP (.head _)).2 (by decide) (by omega) (by omega)).mono ?_; rintro _ _ ⟨u2, rfl, h8⟩; have hst8 := St.callRowP hst7 h8; clear h8)
            | (go_at_call 69; refine (num_k _ _ x.2 _ 2 rfl _ _ (hst8.ownsP (.head _)).1 (hst8.ownsP (.head _)).2 (by decide) (by omega) (by omega)).mono ?_; rintro _ _ ⟨u3, rfl, h9⟩; have hst9 := St.callRowP hst8 h9; clear h9))
        go_wp2_with (first | go_big_skip | go_big_guard | fail)
        go_roundw
        case rel =>
          refine ⟨k + 1, by omega, by go_num, ?_⟩
          have h10 := hst9.sub (L' := [.rowP isB u3 5 1 (1 + 3 * k + 1 + 2) (bytesV (((numB n 1 ++ addrsB l k) ++ numB x.1 1) ++ numB x.2 2)), .blk g 45 (ptrCells _ b v S)]) (List.Sublist.cons_cons _ (List.sublist_cons_self _ _))
          rw [show 1 + 3 * (k + 1) = 1 + 3 * k + 1 + 2 by omega]
          have e : numB n 1 ++ addrsB l (k + 1) = ((numB n 1 ++ addrsB l k) ++ numB x.1 1) ++ numB x.2 2 := by
            simp only [addrsB, addrB, ← Hx.out, List.append_assoc]
          rw [e]
          exact h10
        case measure => simp [intOf]; omega
      · clear hx
        go_wp2_with (first | go_big_skip | go_big_guard | (refine wl_alloc hst4 rfl rfl ?_; intro ga w5 hst5; clear hst4) | (refine wl_loadE rfl rfl rfl ?_; first | refine ⟨_, Loads.at [_, _] hst5 rfl, ?_⟩))
        have hx0 : x = (0, 0) := by rw [Hx.out]; simp [List.getD, List.getElem?_eq_none (show l.length ≤ k by rw [Hn.out]; omega)]
        have hst6 : St w [] w5 [.blk ga 98 [.int .i64 x.1, .int .i64 x.2], .rowP isB u5 5 1 (1 + 3 * k) (bytesV (numB n 1 ++ addrsB l k)), .blk g 45 (ptrCells (.slice ao n c) b v S)] := by
          rw [hx0]; exact hst5
        clear hx0
        have hst7 := (hst6.front [_]).drew
        have hc1 := hst7.cell (g := ga) (off := 0) (.tail _ (.head _)) rfl
        have hc2 := hst7.cell (g := ga) (off := 1) (.tail _ (.head _)) rfl
        clear hst5 hst6
        go_region_held3 (fun w' => w'.cell? ⟨ga, 0, none⟩ = some (.int .i64 x.1) ∧ w'.cell? ⟨ga, 1, none⟩ = some (.int .i64 x.2))
          (first | go_keep | exact ⟨hst8.cell (.tail _ (.head _)) rfl, hst8.cell (.tail _ (.head _)) rfl⟩ | exact ⟨hst9.cell (.tail _ (.head _)) rfl, hst9.cell (.tail _ (.head _)) rfl⟩)
          (first
            | (go_at_call 69; refine (num_k _ _ x.1 _ 1 rfl _ _ (hst7.ownsP (.head _)).1 (hst7.ownsP (.head _)).2 (by decide) (by omega) (by omega)).mono ?_; rintro _ _ ⟨u2, rfl, h8⟩; have hst8 := St.callRowP hst7 h8; clear h8)
            | (go_at_call 69; refine (num_k _ _ x.2 _ 2 rfl _ _ (hst8.ownsP (.head _)).1 (hst8.ownsP (.head _)).2 (by decide) (by omega) (by omega)).mono ?_; rintro _ _ ⟨u3, rfl, h9⟩; have hst9 := St.callRowP hst8 h9; clear h9))
        go_wp2_with (first | go_big_skip | go_big_guard | fail)
        go_roundw
        case rel =>
          refine ⟨k + 1, by omega, by go_num, ?_⟩
          have h10 := hst9.sub (L' := [.rowP isB u3 5 1 (1 + 3 * k + 1 + 2) (bytesV (((numB n 1 ++ addrsB l k) ++ numB x.1 1) ++ numB x.2 2)), .blk g 45 (ptrCells _ b v S)]) (List.Sublist.cons_cons _ (List.sublist_cons_self _ _))
          rw [show 1 + 3 * (k + 1) = 1 + 3 * k + 1 + 2 by omega]
          have e : numB n 1 ++ addrsB l (k + 1) = ((numB n 1 ++ addrsB l k) ++ numB x.1 1) ++ numB x.2 2 := by
            simp only [addrsB, addrB, ← Hx.out, List.append_assoc]
          rw [e]
          exact h10
        case measure => simp [intOf]; omega
    · have hk4 : k = 3 := by omega
      subst hk4
      go_wp2_with (first | go_big_skip | go_big_guard | fail)
      have hst7 := hst4.drew
      have hc1 := hst7.cell (g := g) (off := 1) (.tail _ (.head _)) rfl
      have hc2 := hst7.cell (g := g) (off := 2) (.tail _ (.head _)) rfl
      clear hst4
      go_region_held3 (fun w' => w'.cell? ⟨g, 1, none⟩ = some (.int .i64 b) ∧ w'.cell? ⟨g, 2, none⟩ = some (.int .i64 v))
        (first | go_keep | exact ⟨hst10.cell (.tail _ (.head _)) rfl, hst10.cell (.tail _ (.head _)) rfl⟩ | exact ⟨hst9.cell (.tail _ (.head _)) rfl, hst9.cell (.tail _ (.head _)) rfl⟩ | exact ⟨hst8.cell (.tail _ (.head _)) rfl, hst8.cell (.tail _ (.head _)) rfl⟩)
        (first
          | (go_at_call 69; refine (num_k _ _ b _ 4 rfl _ _ (hst7.ownsP (.head _)).1 (hst7.ownsP (.head _)).2 (by decide) (by omega) (by omega)).mono ?_; rintro _ _ ⟨u2, rfl, h8⟩; have hst8 := St.callRowP hst7 h8; clear h8)
          | (go_at_call 69; refine (num_k _ _ v _ 1 rfl _ _ (hst8.ownsP (.head _)).1 (hst8.ownsP (.head _)).2 (by decide) (by omega) (by omega)).mono ?_; rintro _ _ ⟨u3, rfl, h9⟩; have hst9 := St.callRowP hst8 h9; clear h9)
          | (rw [if_pos (by rfl)]; apply ow_appP [] hst9; rfl; exact rfl; exact rfl; infer_instance; infer_instance; infer_instance; infer_instance; exact Rd.blk (n := 32) (c := 32) hst9 (.tail _ (.head _)) (by decide) (by decide) hS.v (ptr_sum _ _ _ _); exact ones_bytesV S; rfl; exact isB_bytes S; (unfold maxLen; omega); intro u4 w10 hst10 _))
      go_wp2_with (first | go_big_skip | go_big_guard | fail)
      go_ret2
      have h11 := hst10.sub (L' := [.rowP isB u4 5 1 (1 + 3 * 3 + 4 + 1 + 32) (bytesV (((numB n 1 ++ addrsB l 3) ++ numB b 4) ++ numB v 1) ++ bytesV S)]) (List.singleton_sublist.2 (.head _))
      rw [← bytesV_append] at h11
      refine ⟨u4, rfl, ?_⟩
      have e : bytesP l b v S = (((numB n 1 ++ addrsB l 3) ++ numB b 4) ++ numB v 1) ++ S := by simp only [bytesP, Hn.out]
      rw [e]
      exact h11
theorem bytes_ok (ao : Option Addr) (n c : Nat) (l : List (Int × Int)) (b v : Int) (S : List UInt8) (w : World) (hS : L32 S) (hA : Rd w (.slice ao n c) 2 n (addrsV l)) (hn : l.length = n) (hc : checkB l b v S = true) :
    Calls Try.prog 41 #[.agg (ptrCells (.slice ao n c) b v S).toArray] w fun e w' => ∃ u, e = .returned (.tuple #[u, .int .i64 0]) ∧ St w [] w' [.row u 5 1 47 (bytesV (bytesP l b v S))] := by
  refine (bytes_okP ao n c l b v S w hS hA hn hc).mono ?_
  rintro e w' ⟨u, h1, h2⟩
  exact ⟨u, h1, St.unP (L1 := []) h2⟩
end Go.Proofs.Ytkpkaoiafppimaa
namespace Go.Proofs.Ytkpkaoiafppimaa
set_option linter.unusedVariables false
set_option linter.unusedSimpArgs false
open Go.RowKit Hp
attribute [local irreducible] Go.Calls
set_option maxHeartbeats 1000000
theorem cnum_any (g : Nat) (ao : Option Addr) (n c k : Nat) (bs : List UInt8) (w : World) (hg : w.heap[g]? = some (.cells #[.slice ao n c] 121 (0, 0))) (hA : Rd w (.slice ao n c) 1 n (bytesV bs)) (hn : bs.length = n) (hk : 1 ≤ k ∧ k ≤ 4 ∧ k ≤ n)
    (hne : ∀ b off, ao = some ⟨b, off, none⟩ → b ≠ g) :
    Calls Try.prog 103 #[.pointer (some ⟨g, 0, none⟩), .int .i64 k] w fun e w' => ∃ ao' c', e = .returned (.int .i64 (beN (bs.take k))) ∧ St w [g] w' [.blk g 121 [.slice ao' (n - k) c']] ∧
      (∀ wx, Rd wx (.slice ao n c) 1 n (bytesV bs) → Rd wx (.slice ao' (n - k) c') 1 (n - k) (bytesV (bs.drop k))) ∧ (∀ b off, ao' = some ⟨b, off, none⟩ → b ≠ g) := by
  have hst := St.one w g 121 [.slice ao n c] hg
  obtain ⟨hk1, hk2, hk3⟩ := hk
  have hbd1 := hA.bd.1
  have hbd2 := hA.bd.2.1
  obtain ⟨b, off, rfl, hr⟩ := hA.at (k := 0) (by omega)
  have hgb := hne b off rfl
  have Hn := hid hn; clear hn
  clear hg hne
  have hs0 := hst.cell (g := g) (off := 0) (.head _) rfl
  go_enter Try.func103, Try.ntmps103
  go_wp2_with (first | go_big_skip | go_big_guard | fail)
  go_loopw [5, 15] (fun v i wr => ∃ j : Nat, j ≤ k ∧ i = .int .i64 j ∧ v = .int .i64 (beN (bs.take j)) ∧ wr = w) (fun _ i _ => k - (intOf i).toNat)
  case atStart => exact ⟨0, Nat.zero_le _, rfl, by simp [beN], rfl⟩
  case round =>
    obtain ⟨j, hj, rfl, rfl, hwr⟩ := hrel
    subst hwr
    by_cases hlt : j < k
    · have hx := byte_cell hr (k := j) (by rw [Hn.out]; omega)
      have hsucc := beN_take_succ bs j (by rw [Hn.out]; omega)
      have hqlt := beN_lt (bs.take j)
      have hq3 : beN (bs.take j) < 16777216 := by
        refine Nat.lt_of_lt_of_le hqlt ?_
        have : (bs.take j).length ≤ 3 := by rw [List.length_take]; omega
        calc 256 ^ (bs.take j).length ≤ 256 ^ 3 := Nat.pow_le_pow_right (by decide) this
          _ = 16777216 := by decide
      obtain ⟨x, hxx⟩ : ∃ x, x = bs.getD j 0 := ⟨_, rfl⟩
      rw [← hxx] at hx hsucc
      obtain ⟨q, hqq⟩ : ∃ q, q = beN (bs.take j) := ⟨_, rfl⟩
      rw [← hqq] at hsucc hq3
      rw [← hqq]
      have Hs := hid hsucc
      clear hsucc hqq hxx hqlt
      have hxb := x.toNat_lt
      have hor := or256 q x.toNat (by omega) (by omega) (by omega) (by omega)
      go_wp2_with (first | go_big_skip | go_big_guard | fail)
      go_roundw
      case rel => exact ⟨j + 1, by omega, by go_num, by rw [Hs.out]; go_num, by first | rfl | trivial⟩
      case measure => simp [intOf]; omega
    · have hjk : j = k := by omega
      subst hjk
      by_cases hck : c = j
      · subst hck
        have hnc : n = c := by omega
        go_wp2_with (first | go_big_skip | go_big_guard | (refine wl_store [] hst rfl rfl rfl (v := .slice _ _ _) rfl rfl rfl ?_ ?_; (exact Nat.le_refl _); intro w2 hst2; clear hst; (simp [putAt] at hst2)))
        go_ret
        refine ⟨some ⟨b, off, none⟩, 0, rfl, by rw [show n - c = 0 by omega]; exact hst2, fun wx hx => ?_, fun b' off' hb' => ?_⟩
        · rw [show n - c = 0 by omega]; exact Rd.tailC hx hnc
        · simp only [Option.some.injEq, Addr.mk.injEq] at hb'; rw [← hb'.1]; exact hgb
      · go_wp2_with (first | go_big_skip | go_big_guard | (refine wl_store [] hst rfl rfl rfl (v := .slice _ _ _) rfl rfl rfl ?_ ?_; (exact Nat.le_refl _); intro w2 hst2; clear hst; (simp [putAt] at hst2)))
        go_ret
        refine ⟨_, _, rfl, hst2, fun wx hx => Rd.tail hx (by omega) (by omega), fun b' off' hb' => ?_⟩
        simp only [Option.some.injEq, Addr.mk.injEq] at hb'; rw [← hb'.1]; exact hgb
end Go.Proofs.Ytkpkaoiafppimaa
namespace Go.Proofs.Ytkpkaoiafppimaa
set_option linter.unusedVariables false
set_option linter.unusedSimpArgs false
open Go.RowKit Hp
attribute [local go_sem ↓] Go.wp_at_zero Go.wp_at_succ
attribute [local irreducible] Go.Calls
set_option maxHeartbeats 1000000
theorem cnum_k (g : Nat) (ao : Option Addr) (n c k : Nat) (s : Int) (hs : s = (k : Int)) (bs : List UInt8) (w : World) (hg : w.heap[g]? = some (.cells #[.slice ao n c] 121 (0, 0))) (hA : Rd w (.slice ao n c) 1 n (bytesV bs)) (hn : bs.length = n) (hk : 1 ≤ k ∧ k ≤ 4 ∧ k ≤ n)
    (hne : ∀ b off, ao = some ⟨b, off, none⟩ → b ≠ g) :
    Calls Try.prog 103 #[.pointer (some ⟨g, 0, none⟩), .int .i64 s] w fun e w' => ∃ ao' c', e = .returned (.int .i64 (beN (bs.take k))) ∧ St w [g] w' [.blk g 121 [.slice ao' (n - k) c']] ∧
      (∀ wx, Rd wx (.slice ao n c) 1 n (bytesV bs) → Rd wx (.slice ao' (n - k) c') 1 (n - k) (bytesV (bs.drop k))) ∧ (∀ b off, ao' = some ⟨b, off, none⟩ → b ≠ g) := by
  subst hs
  exact cnum_any g ao n c k bs w hg hA hn hk hne
theorem read_short (ao : Option Addr) (n c : Nat) (bs : List UInt8) (w : World) (hA : Rd w (.slice ao n c) 1 n (bytesV bs)) (hn : bs.length = n) (h47 : n ≠ 47) :
    Calls Try.prog 89 #[.slice ao n c] w (readEnd bs w 115 98) := by
  have hbd1 := hA.bd.1
  have hbd2 := hA.bd.2.1
  have hst := St.refl w
  have Hn := hid hn; clear hn
  have hne : Hid (bs.length ≠ 47) := by rw [← Hn.out] at h47; exact hid h47
  go_enter Try.func89, Try.ntmps89
  go_wp2_with (first | go_big_skip | go_big_guard | (refine wl_alloc hst rfl rfl ?_; intro g0 w1 hst1; clear hst))
  all_goals
    have hn' := Hn.out
    exact ⟨rfl, readEnd_no (by simp [rOK, hne.out]) (by simp [rErr, hne.out]) (by unfold rAt; rw [if_neg hne.out]; split <;> omega) hst1.nil⟩
theorem read_full (ao : Option Addr) (n c : Nat) (bs : List UInt8) (w : World) (hA : Rd w (.slice ao n c) 1 n (bytesV bs)) (hn : bs.length = n) (h47 : n = 47) :
    Calls Try.prog 89 #[.slice ao n c] w (readEnd bs w 115 98) := by
  have hbd1 := hA.bd.1
  have hbd2 := hA.bd.2.1
  have hst := St.refl w
  obtain ⟨b0, off0, rfl, hr0⟩ := hA.at (k := 0) (by omega)
  have hb0 : b0 < w.heap.size := World.block_lt_of_cell? w _ (byte_cell hr0 (k := 0) (by omega))
  have Hn := hid hn; clear hn
  subst h47
  go_enter Try.func89, Try.ntmps89
  go_wp2_with (first | go_big_skip | go_big_guard | (refine wl_alloc hst rfl rfl ?_; intro g0 w1 hst1; clear hst) | (refine wl_boxA hst1 rfl rfl rfl ?_; intro gc w2 hst2; clear hst1) | (refine wl_alloc hst2 rfl rfl ?_; intro gp w3 hst3; clear hst2))
  have hgc : ∀ b off, some (⟨b0, off0, none⟩ : Addr) = some ⟨b, off, none⟩ → b ≠ gc := by
    intro b off h
    cases h
    have : gc ≥ w.heap.size := by rcases hst3.own _ (.tail _ (.head _)) gc rfl with h | h; exact h; cases h
    omega
  go_at_call 103
  refine (cnum_k gc _ 47 c 1 _ rfl bs _ (hst3.all _ (.tail _ (.head _))) (Rd.old hst3 hA) Hn.out (by omega) hgc).mono ?_
  rintro _ _ ⟨ao1, c1, rfl, h1, h2, h3⟩
  have hst4 := St.call1 [_] hst3 h1
  clear h1 hst3 hgc
  have hR := h2 w hA
  clear h2
  go_wp2_with (first | go_big_skip | go_big_guard | fail)
  have hst5 := hst4.perm (L' := [.blk gc 121 [.slice ao1 46 c1], .blk gp 45 (ptrCells (.slice none 0 0) 0 0 nones), .blk g0 45 (ptrCells (.slice none 0 0) 0 0 nones)]) (List.Perm.swap _ _ _)
  clear hst4
  obtain ⟨many, hmany⟩ : ∃ q, q = beN (bs.take 1) := ⟨_, rfl⟩
  have hml : many < 256 := by
    have := beN_lt (bs.take 1)
    rw [hmany]
    refine Nat.lt_of_lt_of_le this ?_
    have h1 : (bs.take 1).length ≤ 1 := by rw [List.length_take]; omega
    calc 256 ^ (bs.take 1).length ≤ 256 ^ 1 := Nat.pow_le_pow_right (by decide) h1
      _ = 256 := by decide
  rw [← hmany]
  have Hmany := hid hmany
  clear hmany
  go_loopw [24] (fun i wr => ∃ k : Nat, k ≤ 3 ∧ i = .int .i64 k ∧ ∃ ao2 c2 v3 m3, St w [] wr [.row v3 98 2 m3 (addrsV (rAddrs bs k)), .blk gc 121 [.slice ao2 (46 - 3 * k) c2], .blk gp 45 (ptrCells v3 0 0 nones), .blk g0 45 (ptrCells (.slice none 0 0) 0 0 nones)] ∧
      Rd w (.slice ao2 (46 - 3 * k) c2) 1 (46 - 3 * k) (bytesV (bs.drop (1 + 3 * k))) ∧ (∀ b off, ao2 = some ⟨b, off, none⟩ → b ≠ gc) ∧ (rAddrs bs k).length = m3) (fun i _ => 3 - (intOf i).toNat)
  case atStart => exact ⟨0, by omega, rfl, ao1, c1, _, 0, St.nilRow _ _ hst5, hR, h3, rfl⟩
  case round =>
    obtain ⟨k, hk, rfl, ao2, c2, v3, m3, hst6, hR2, hgc2, hl3⟩ := hrel
    clear hst5 hR h3
    have hm3 : m3 ≤ k := by rw [← hl3]; exact rAddrs_le bs k
    have Hl3 := hid hl3
    clear hl3
    have hlen : (bs.drop (1 + 3 * k)).length = 46 - 3 * k := by rw [List.length_drop, Hn.out]; omega
    have Hlen := hid hlen
    clear hlen
    by_cases hk3 : k < 3
    · obtain ⟨n2, hn2⟩ : ∃ q, q = 46 - 3 * k := ⟨_, rfl⟩
      rw [← hn2] at hst6 hR2 Hlen
      go_wp2_with (first | go_big_skip | go_big_guard | fail)
      go_at_call 103
      refine (cnum_k gc _ _ c2 1 _ rfl _ _ (hst6.all _ (.tail _ (.head _))) (Rd.old hst6 hR2) Hlen.out (by omega) hgc2).mono ?_
      rintro _ _ ⟨ao4, c4, rfl, h1, h2, hgc4⟩
      have hst7 := St.call1 [_] hst6 h1
      have hR4 := h2 w hR2
      clear h1 h2 hst6 hR2 hgc2
      go_wp2_with (first | go_big_skip | go_big_guard | fail)
      go_at_call 103
      refine (cnum_k gc _ _ c4 2 _ rfl _ _ (hst7.all _ (.tail _ (.head _))) (Rd.old hst7 hR4) (by rw [List.length_drop, Hlen.out]) (by omega) hgc4).mono ?_
      rintro _ _ ⟨ao5, c5, rfl, h1, h2, hgc5⟩
      have hst8 := St.call1 [_] hst7 h1
      have hR5 := h2 w hR4
      clear h1 h2 hst7 hR4 hgc4
      obtain ⟨x, hx⟩ : ∃ q, q = rA bs k := ⟨_, rfl⟩
      have hx1 : ((beN ((bs.drop (1 + 3 * k)).take 1) : Nat) : Int) = x.1 := by rw [hx]; rfl
      have hx2 : ((beN (((bs.drop (1 + 3 * k)).drop 1).take 2) : Nat) : Int) = x.2 := by rw [hx, List.drop_drop, show 1 + 3 * k + 1 = 2 + 3 * k by omega]; rfl
      rw [hx1, hx2]
      have Hx := hid hx
      clear hx hx1 hx2
      have hR6 : Rd w (.slice ao5 (n2 - 1 - 2) c5) 1 (n2 - 1 - 2) (bytesV (bs.drop (1 + 3 * (k + 1)))) := by
        have e : ((bs.drop (1 + 3 * k)).drop 1).drop 2 = bs.drop (1 + 3 * (k + 1)) := by simp only [List.drop_drop]; congr 1
        rw [← e]; exact hR5
      clear hR5
      by_cases hkm : k < many
      · have he : addrsV (rAddrs bs k) ++ [.int .i64 x.1, .int .i64 x.2] = addrsV (rAddrs bs (k + 1)) := by
          have : rAddrs bs (k + 1) = rAddrs bs k ++ [x] := by
            rw [rAddrs, if_pos (by rw [← Hmany.out]; exact hkm), Hx.out]
          rw [this, addrsV_append]; rfl
        have hl : (rAddrs bs (k + 1)).length = m3 + 1 := by
          rw [rAddrs, if_pos (by rw [← Hmany.out]; exact hkm), List.length_append, Hl3.out]; rfl
        have He := hid he
        have Hl := hid hl
        clear he hl
        go_wp2_with (first | go_big_skip | go_big_guard | (refine wl_alloc hst8 rfl rfl ?_; intro ga w9 hst9; clear hst8) | (refine wl_store [] hst9 rfl rfl rfl (v := .agg (List.toArray _)) rfl rfl rfl ?_ ?_; (exact Nat.le_refl _); intro w10 hst10; clear hst9; (simp [putAt] at hst10)) | (refine wl_loadE rfl rfl rfl ?_; first | refine ⟨_, Loads.at [_, _, _] hst10 rfl, ?_⟩ | refine ⟨_, Loads.atA ([.int _ _, .int _ _]) [] hst10 (rfl) (rfl), ?_⟩) | (apply wl_bsX ([.agg #[_, _]]) ([.int _ _, .int _ _]) hst10; rfl; rfl; exact rfl; exact rfl; infer_instance; infer_instance; rfl; rfl; rfl; intro gb w11 hst11; clear hst10) | ((apply wl_appX [_, _] hst11; rfl; rfl; exact rfl; exact rfl; infer_instance; infer_instance; infer_instance; exact (Rd.blk0 hst11 rfl (by decide)); exact rfl; ((unfold maxLen; omega)); intro v12 w12 hst12 _; clear hst11); obtain ⟨ao6, c6, rfl⟩ := St.rowSliceAt [_, _] hst12) | (refine wl_store [_, _, _, _] hst12 rfl rfl rfl (v := .slice _ _ _) rfl rfl rfl ?_ ?_; (exact (by decide : 0 + 1 ≤ 35)); intro w13 hst13; clear hst12; (skip)))
        have hst14 : St w [] w13 [.row (.slice ao6 (m3 + 1) c6) 98 2 (m3 + 1) (addrsV (rAddrs bs k) ++ [.int .i64 x.1, .int .i64 x.2]), .blk gc 121 [.slice ao5 (n2 - 1 - 2) c5], .blk gp 45 (ptrCells (.slice ao6 (m3 + 1) c6) 0 0 nones), .blk g0 45 (ptrCells (.slice none 0 0) 0 0 nones)] :=
          St.sub (L := [_, _, _, _, _, _]) hst13 (.cons _ (.cons _ (List.Sublist.refl _)))
        rw [He.out] at hst14
        go_roundw
        case rel =>
          refine ⟨k + 1, by omega, by go_num, ao5, c5, .slice ao6 (m3 + 1) c6, m3 + 1, ?_⟩
          rw [show 46 - 3 * (k + 1) = n2 - 1 - 2 by omega]
          exact ⟨hst14, hR6, hgc5, Hl.out⟩
        case measure => simp [intOf]; omega
      · have he : rAddrs bs (k + 1) = rAddrs bs k := by
          rw [rAddrs, if_neg (by rw [← Hmany.out]; exact hkm), List.append_nil]
        have He := hid he
        clear he
        go_wp2_with (first | go_big_skip | go_big_guard | (refine wl_alloc hst8 rfl rfl ?_; intro ga w9 hst9; clear hst8) | (refine wl_store [] hst9 rfl rfl rfl (v := .agg (List.toArray _)) rfl rfl rfl ?_ ?_; (exact Nat.le_refl _); intro w10 hst10; clear hst9; (simp [putAt] at hst10)))
        have hst14 := hst10.drop (L1 := [])
        go_roundw
        case rel =>
          refine ⟨k + 1, by omega, by go_num, ao5, c5, v3, m3, ?_⟩
          rw [show 46 - 3 * (k + 1) = n2 - 1 - 2 by omega, He.out]
          exact ⟨hst14, hR6, hgc5, Hl3.out⟩
        case measure => simp [intOf]; omega
    · have hk4 : k = 3 := by omega
      obtain ⟨n2, hn2⟩ : ∃ q, q = 46 - 3 * k := ⟨_, rfl⟩
      rw [← hn2] at hst6 hR2 Hlen
      go_wp2_with (first | go_big_skip | go_big_guard | fail)
      go_at_call 103
      refine (cnum_k gc _ _ c2 4 _ rfl _ _ (hst6.all _ (.tail _ (.head _))) (Rd.old hst6 hR2) Hlen.out (by omega) hgc2).mono ?_
      rintro _ _ ⟨ao4, c4, rfl, h1, h2, hgc4⟩
      have hst7 := St.call1 [_] hst6 h1
      have hR4 := h2 w hR2
      clear h1 h2 hst6 hR2 hgc2
      have hb1 : beN ((bs.drop (1 + 3 * k)).take 4) = rBirth bs := by rw [hk4]; rfl
      rw [hb1]
      go_wp2_with (first | go_big_skip | go_big_guard | (refine wl_store [_, _] hst7 rfl rfl rfl (v := .int _ _) rfl rfl rfl ?_ ?_; (exact (by decide : 1 + 1 ≤ 35)); intro w8 hst8; clear hst7; (skip)))
      go_at_call 103
      refine (cnum_k gc _ _ c4 1 _ rfl _ _ (hst8.all _ (.tail _ (.head _))) (Rd.old hst8 hR4) (by rw [List.length_drop, Hlen.out]) (by omega) hgc4).mono ?_
      rintro _ _ ⟨ao5, c5, rfl, h1, h2, hgc5⟩
      have hst9 := St.call1 [_] hst8 h1
      have hR5 := h2 w hR4
      clear h1 h2 hst8 hR4 hgc4
      have hb2 : beN (((bs.drop (1 + 3 * k)).drop 4).take 1) = rLevel bs := by rw [hk4, List.drop_drop]; rfl
      rw [hb2]
      go_wp2_with (first | go_big_skip | go_big_guard | (refine wl_store [_, _] hst9 rfl rfl rfl (v := .int _ _) rfl rfl rfl ?_ ?_; (exact (by decide : 2 + 1 ≤ 35)); intro w10 hst10; clear hst9; (skip)))
      have hb3 : ((bs.drop (1 + 3 * k)).drop 4).drop 1 = rSum bs := by rw [hk4, List.drop_drop, List.drop_drop]; rfl
      rw [hb3] at hR5
      have hn32 : n2 - 4 - 1 = 32 := by omega
      rw [hn32] at hR5 hst10
      have hst11 : St w [] w10 [.blk gc 121 [.slice ao5 32 c5], .blk gp 45 (ptrCells v3 (rBirth bs) (rLevel bs) nones), .row v3 98 2 m3 (addrsV (rAddrs bs k)), .blk g0 45 (ptrCells (.slice none 0 0) 0 0 nones)] :=
        St.perm (L := [.row v3 98 2 m3 (addrsV (rAddrs bs k)), .blk gc 121 [.slice ao5 32 c5], .blk gp 45 (ptrCells v3 (rBirth bs) (rLevel bs) nones), .blk g0 45 (ptrCells (.slice none 0 0) 0 0 nones)]) hst10
          ((List.Perm.swap _ _ _).trans (List.Perm.cons _ (List.Perm.swap _ _ _)))
      clear hst10
      have hS : L32 (rSum bs) := by unfold L32 rSum; rw [List.length_drop, Hn.out]
      rw [hk4] at hst11 Hl3
      obtain ⟨ao3, c3, rfl⟩ := St.rowSliceAt [_, _] hst11
      have hst12 := hst11.drew
      have hc0 := hst12.cell (g := gc) (off := 0) (.head _) rfl
      clear hst11
      go_region_held3 (fun w' => w'.cell? ⟨gc, 0, none⟩ = some (.slice ao5 32 c5))
        (first | go_keep | exact hst13.cell (g := gc) (.head _) rfl)
        (first | (rw [if_pos (by rfl)]; apply ow_copy [_] hst12; rfl; exact rfl; exact rfl; infer_instance; infer_instance; exact Rd.old hst12 hR5; exact ones_bytesV _; exact (by decide : 32 ≤ 32); exact (by decide : 3 + 32 ≤ 35); intro w13 hst13))
      rw [ptr_put hS] at hst13
      clear hst12 hR5 hgc5
      by_cases hc : checkB (rAddrs bs 3) (rBirth bs) (rLevel bs) (rSum bs) = true
      · by_cases hq : (bytesP (rAddrs bs 3) (rBirth bs) (rLevel bs) (rSum bs) == bs) = true
        · go_wp2_with (first | go_big_skip | go_big_guard | (refine wl_loadE rfl rfl rfl ?_; first | refine ⟨_, Loads.atA (ptrCells _ _ _ _) [_] hst13 (ptr_len hS _ _ _) (ptr_all _ _ _ _), ?_⟩ | refine ⟨_, Loads.atA (ptrCells _ _ _ _) [_, _] hst14 (ptr_len hS _ _ _) (ptr_all _ _ _ _), ?_⟩) | (go_at_call 41; refine (bytes_ok ao3 m3 c3 (rAddrs bs 3) _ _ _ _ hS (Rd.row hst13 (.tail _ (.tail _ (.head _)))) Hl3.out hc).mono ?_; rintro _ _ ⟨u, rfl, h14⟩; obtain ⟨ao7, c7, rfl⟩ := St.rowSliceAt [] h14; have hst14 := St.call hst13 h14; clear h14 hst13) | (go_at_call 104; refine (eqBytes_any ao7 _ 47 c7 47 c (bytesP (rAddrs bs 3) (rBirth bs) (rLevel bs) (rSum bs)) bs _ (Rd.row hst14 (.head _)) (length_bytesP _ _ _ hS) (Rd.old hst14 hA) Hn.out).mono ?_; rw [hq]; rintro _ _ ⟨rfl, h15⟩; replace hst14 := St.call0 hst14 h15; clear h15) | (refine wl_storeA [_, _, _, _] hst14 rfl rfl rfl rfl (ptr_len hS _ _ _) (ptr_ones _ _ _ _ _ _) (rfl) ?_; intro w15 hst15; clear hst14))
          have hl := Loads.atA (P := Try.prog) (T := 45) (ptrCells (.slice ao3 m3 c3) (rBirth bs) (rLevel bs) (rSum bs)) [_, _, _, _] hst15 (ptr_len hS _ _ _) (ptr_all _ _ _ _)
          exact bodyPost_ret (results_cellL rfl rfl hl) rfl (readEnd_ok (by simp [rOK, hc, hq, Hn.out]) (hst15.sub (L' := [.row (.slice ao3 m3 c3) 98 2 m3 (addrsV (rAddrs bs 3))]) (.cons _ (.cons _ (.cons _ (List.Sublist.cons_cons _ (List.nil_sublist _)))))) Hl3.out)
        · go_wp2_with (first | go_big_skip | go_big_guard | (refine wl_loadE rfl rfl rfl ?_; first | refine ⟨_, Loads.atA (ptrCells _ _ _ _) [_] hst13 (ptr_len hS _ _ _) (ptr_all _ _ _ _), ?_⟩) | (go_at_call 41; refine (bytes_ok ao3 m3 c3 (rAddrs bs 3) _ _ _ _ hS (Rd.row hst13 (.tail _ (.tail _ (.head _)))) Hl3.out hc).mono ?_; rintro _ _ ⟨u, rfl, h14⟩; obtain ⟨ao7, c7, rfl⟩ := St.rowSliceAt [] h14; have hst14 := St.call hst13 h14; clear h14 hst13) | (go_at_call 104; refine (eqBytes_any ao7 _ 47 c7 47 c (bytesP (rAddrs bs 3) (rBirth bs) (rLevel bs) (rSum bs)) bs _ (Rd.row hst14 (.head _)) (length_bytesP _ _ _ hS) (Rd.old hst14 hA) Hn.out).mono ?_; rw [Bool.eq_false_iff.2 hq]; rintro _ _ ⟨rfl, h15⟩; replace hst14 := St.call0 hst14 h15; clear h15))
          exact ⟨rfl, readEnd_no (by simp [rOK, Bool.eq_false_iff.2 hq]) (by simp [rErr, Hn.out]) (by simp [rAt, Hn.out]) hst14.nil⟩
      · go_wp2_with (first | go_big_skip | go_big_guard | (refine wl_loadE rfl rfl rfl ?_; first | refine ⟨_, Loads.atA (ptrCells _ _ _ _) [_] hst13 (ptr_len hS _ _ _) (ptr_all _ _ _ _), ?_⟩) | (go_at_call 41; refine (bytes_no ao3 m3 c3 (rAddrs bs 3) _ _ _ _ hS (Rd.row hst13 (.tail _ (.tail _ (.head _)))) Hl3.out (Bool.eq_false_iff.2 hc)).mono ?_; rintro _ _ ⟨rfl, h14⟩; replace hst13 := St.call0 hst13 h14; clear h14))
        exact ⟨rfl, readEnd_no (by simp [rOK, Bool.eq_false_iff.2 hc]) (by simp [rErr, Hn.out]) (by simp [rAt, Hn.out]) hst13.nil⟩
theorem read_any (ao : Option Addr) (n c : Nat) (bs : List UInt8) (w : World) (hA : Rd w (.slice ao n c) 1 n (bytesV bs)) (hn : bs.length = n) :
    Calls Try.prog 89 #[.slice ao n c] w (readEnd bs w 115 98) := by
  by_cases h47 : n = 47
  · exact read_full ao n c bs w hA hn h47
  · exact read_short ao n c bs w hA hn h47
end Go.Proofs.Ytkpkaoiafppimaa
namespace Go.Proofs.Ytkpkaoiafppimaa
set_option linter.unusedVariables false
set_option linter.unusedSimpArgs false
open Go.RowKit Hp
attribute [local go_sem ↓] Go.wp_at_zero Go.wp_at_succ
attribute [local irreducible] Go.Calls
set_option maxHeartbeats 1000000
@[local go_sem] theorem assert_wrong (v : Value) (w : World) : (Instr.typeAssert (.iface 115 v) 20 115 true).run Try.prog w = .ok (.tuple #[v, .bool true]) w := by kernel_rfl
theorem catch_idle (p q : Addr) (w : World) :
    CallsD Try.prog 88 #[.pointer (some p), .pointer (some q)] .returning w fun e u' w' => e = .returned (.tuple #[]) ∧ u' = .returning ∧ w' = w := by
  refine callsD_of_wpS Try.func88 rfl fun c₀ cs hu => ?_
  apply wpS_seq
  apply wpS_region
  generalize hQ : Exit.thenS _ _ = Q
  simp [wpOpsS, go_sem, recoverD, hu, Try.ntmps88]
  subst hQ
  show Code.wpS _ _ _ _ _ _
  refine wpS_of_wp ?_
  change Code.wp _ _ _ { tmps := #[.pointer (some p), .pointer (some q), .nilIface, undef, undef, .nilIface, undef, undef, undef, undef, undef, undef, undef, undef, undef, undef, undef, undef, undef], defers := [] } _
  cases c₀
  go_wp2
  simp_all [bodyPostS, results, Try.results88]
theorem storedP (A : Addr) (v : Value) : storeVar 45 A v = storeVarH 45 A v := rfl
theorem storedF (A : Addr) (v : Value) : storeVar 33 A v = storeVarH 33 A v := rfl
attribute [local go_sem ↓] storedP storedF
theorem catch_wrong (M : List Nat) (p q : Nat) (e a : Int) (cs0 fs : List Value) (w0 w : World) (L : List HA) (older : List PanicEntry) (hst : St w0 M w (.blk p 45 cs0 :: .blk q 33 fs :: L)) (hp : cs0.length = 35) (hq : fs.length = 2) :
    CallsD Try.prog 88 #[.pointer (some ⟨p, 0, none⟩), .pointer (some ⟨q, 0, none⟩)] (.panicking ({ v := .iface 115 (.agg #[.int .i64 e, .int .i64 a]), recovered := false } :: older)) w fun e' u' w' =>
      e' = .returned (.tuple #[]) ∧ u' = .panicking ({ v := .iface 115 (.agg #[.int .i64 e, .int .i64 a]), recovered := true } :: older) ∧ St w0 M w' (.blk p 45 (ptrCells (.slice none 0 0) 0 0 nones) :: .blk q 33 [.int .i64 e, .int .i64 a] :: L) := by
  refine callsD_of_wpS Try.func88 rfl fun c₀ cs hu => ?_
  apply wpS_seq
  apply wpS_region
  generalize hQ : Exit.thenS _ _ = Q
  simp [wpOpsS, go_sem, recoverD, hu, Try.ntmps88]
  subst hQ
  show Code.wpS _ _ _ _ _ _
  refine wpS_of_wp ?_
  change Code.wp _ _ _ { tmps := #[.pointer (some ⟨p, 0, none⟩), .pointer (some ⟨q, 0, none⟩), .iface 115 (.agg #[.int .i64 e, .int .i64 a]), undef, undef, .iface 115 (.agg #[.int .i64 e, .int .i64 a]), undef, undef, undef, undef, undef, undef, undef, undef, undef, undef, undef, undef, undef], defers := [] } _
  go_wp2_with (first | go_big_skip | go_big_guard | fail)
  have hst1 := (hst.alloc 115 [.int .i64 e, .int .i64 a]).perm (L' := [.blk p 45 _, .blk q 33 fs, .blk w.heap.size 115 [.int .i64 e, .int .i64 a]] ++ L) ((List.Perm.swap _ _ _).trans (List.Perm.cons _ (List.Perm.swap _ _ _)))
  have hst2 := hst1.drew
  have hc0 := hst2.cell (g := w.heap.size) (off := 0) (.tail _ (.tail _ (.head _))) rfl
  have hc1 := hst2.cell (g := w.heap.size) (off := 1) (.tail _ (.tail _ (.head _))) rfl
  have hS : L32 nones := L32.nones
  go_region_held3 (fun w' => w'.cell? ⟨w.heap.size, 0, none⟩ = some (.int .i64 e) ∧ w'.cell? ⟨w.heap.size, 1, none⟩ = some (.int .i64 a))
    (first | go_keep | exact ⟨hst3.cell (.tail _ (.tail _ (.head _))) rfl, hst3.cell (.tail _ (.tail _ (.head _))) rfl⟩ | exact ⟨hst4.cell (.tail _ (.tail _ (.head _))) rfl, hst4.cell (.tail _ (.tail _ (.head _))) rfl⟩)
    (first
      | (rw [stored_row (P := Try.prog) (n := 35) (vs := [.slice none 0 0, .int .i64 0, .int .i64 0, .int .u8 0, .int .u8 0, .int .u8 0, .int .u8 0, .int .u8 0, .int .u8 0, .int .u8 0, .int .u8 0, .int .u8 0, .int .u8 0, .int .u8 0, .int .u8 0, .int .u8 0, .int .u8 0, .int .u8 0, .int .u8 0, .int .u8 0, .int .u8 0, .int .u8 0, .int .u8 0, .int .u8 0, .int .u8 0, .int .u8 0, .int .u8 0, .int .u8 0, .int .u8 0, .int .u8 0, .int .u8 0, .int .u8 0, .int .u8 0, .int .u8 0, .int .u8 0]) [] hst2 inferInstance rfl rfl hp]; have hst3 := St.setRow (L1 := []) hst2 [.slice none 0 0, .int .i64 0, .int .i64 0, .int .u8 0, .int .u8 0, .int .u8 0, .int .u8 0, .int .u8 0, .int .u8 0, .int .u8 0, .int .u8 0, .int .u8 0, .int .u8 0, .int .u8 0, .int .u8 0, .int .u8 0, .int .u8 0, .int .u8 0, .int .u8 0, .int .u8 0, .int .u8 0, .int .u8 0, .int .u8 0, .int .u8 0, .int .u8 0, .int .u8 0, .int .u8 0, .int .u8 0, .int .u8 0, .int .u8 0, .int .u8 0, .int .u8 0, .int .u8 0, .int .u8 0, .int .u8 0]; go_simp)
      | (rw [stored_row (P := Try.prog) (n := 2) (vs := [.int .i64 e, .int .i64 a]) [_] hst3 inferInstance rfl rfl hq]; have hst4 := St.setRow (L1 := [_]) hst3 [.int .i64 e, .int .i64 a]; go_simp))
  show bodyPostS _ _ _ _ _ Exit.normal _ _ _
  refine ⟨rfl, _, rfl, .tuple #[], results_none rfl _ _ _, rfl, rfl, ?_⟩
  exact St.sub (L := _ :: _ :: _ :: L) hst4 (.cons_cons _ (.cons_cons _ (.cons _ (List.Sublist.refl _))))
end Go.Proofs.Ytkpkaoiafppimaa
namespace Go.Proofs.Ytkpkaoiafppimaa
set_option linter.unusedVariables false
set_option linter.unusedSimpArgs false
open Go.RowKit Hp
attribute [local irreducible] Go.Calls
set_option maxHeartbeats 2000000
theorem loadedL9 (A : Addr) : loadVar 41 A = loadVarH 41 A := rfl
theorem storedL9 (A : Addr) (v : Value) : storeVar 41 A v = storeVarH 41 A v := rfl
attribute [local go_sem ↓] storedP loadedL9 storedL9
theorem take_get (bs : List UInt8) (k m : Nat) (h : k + (m + 1) ≤ bs.length) : (bs.drop k).take (m + 1) = bs.getD k 0 :: (bs.drop (k + 1)).take m := by
  rw [List.drop_eq_getElem_cons (by omega), List.take_succ_cons]
  simp [List.getD, show k < bs.length by omega]
theorem birth_at {bs : List UInt8} (h : bs.length = 47) : rBirth bs = (((bs.getD 10 0).toNat * 256 + (bs.getD 11 0).toNat) * 256 + (bs.getD 12 0).toNat) * 256 + (bs.getD 13 0).toNat := by
  unfold rBirth
  rw [take_get bs 10 3 (by omega), take_get bs 11 2 (by omega), take_get bs 12 1 (by omega), take_get bs 13 0 (by omega)]
  simp [beN]
theorem level_at {bs : List UInt8} (h : bs.length = 47) : rLevel bs = (bs.getD 14 0).toNat := by
  unfold rLevel
  rw [take_get bs 14 0 (by omega)]
  simp [beN]
theorem rA_at {bs : List UInt8} {k : Nat} (h : 3 + 3 * k < bs.length) : rA bs k = (((bs.getD (1 + 3 * k) 0).toNat : Int), 256 * ((bs.getD (2 + 3 * k) 0).toNat : Int) + ((bs.getD (3 + 3 * k) 0).toNat : Int)) := by
  unfold rA
  rw [take_get bs (1 + 3 * k) 0 (by omega), take_get bs (2 + 3 * k) 1 (by omega), show 2 + 3 * k + 1 = 3 + 3 * k by omega, take_get bs (3 + 3 * k) 0 (by omega)]
  simp only [beN, List.take_zero, List.foldl_cons, List.foldl_nil, Prod.mk.injEq]
  constructor <;> omega
theorem rAddrs_stop {bs : List UInt8} {k : Nat} (h : ¬ (k < beN (bs.take 1) ∧ k < 3)) (hk : k ≤ 3) : rAddrs bs 3 = rAddrs bs k := by
  have stop : ∀ m, beN (bs.take 1) ≤ m → rAddrs bs (m + 1) = rAddrs bs m := fun m hm => by rw [rAddrs, if_neg (by omega), List.append_nil]
  by_cases h3 : k = 3
  · rw [h3]
  · have hb : beN (bs.take 1) ≤ k := by omega
    obtain rfl | rfl | rfl : k = 0 ∨ k = 1 ∨ k = 2 := by omega
    · rw [stop 2 (by omega), stop 1 (by omega), stop 0 hb]
    · rw [stop 2 (by omega), stop 1 (by omega)]
    · rw [stop 2 (by omega)]
def sumTo (bs : List UInt8) (j : Nat) : List UInt8 := ((bs.drop 15).take j) ++ List.replicate (32 - j) 0
theorem len_sumTo {bs : List UInt8} {j : Nat} (h : bs.length = 47) (hj : j ≤ 32) : (sumTo bs j).length = 32 := by simp [sumTo, h]; omega
theorem sumTo_all {bs : List UInt8} (h : bs.length = 47) : sumTo bs 32 = rSum bs := by
  unfold sumTo rSum
  rw [List.take_of_length_le (by simp [h])]; simp
theorem sumTo_put {bs : List UInt8} {j : Nat} (h : bs.length = 47) (hj : j < 32) (v : Value) (b l : Int) :
    putAt (ptrCells v b l (sumTo bs j)) (3 + j) [.int .u8 (bs.getD (15 + j) 0).toNat] = ptrCells v b l (sumTo bs (j + 1)) := by
  have e1 : ptrCells v b l (sumTo bs j) = (v :: .int .i64 b :: .int .i64 l :: bytesV ((bs.drop 15).take j)) ++ bytesV (List.replicate (32 - j) 0) := by simp [ptrCells, sumTo, bytesV]
  have e2 : (v :: Value.int .i64 b :: Value.int .i64 l :: bytesV ((bs.drop 15).take j)).length = 3 + j := by simp [h]; omega
  rw [e1, show 3 + j = (v :: Value.int .i64 b :: Value.int .i64 l :: bytesV ((bs.drop 15).take j)).length + 0 by rw [e2, Nat.add_zero], put_app]
  have e3 : (bs.drop 15).take (j + 1) = (bs.drop 15).take j ++ [bs.getD (15 + j) 0] := by
    rw [List.take_succ_eq_append_getElem (by simp [h]; omega)]
    simp [List.getD, show 15 + j < bs.length by omega]
  have e4 : List.replicate (32 - j) (0 : UInt8) = 0 :: List.replicate (32 - (j + 1)) 0 := by rw [← List.replicate_succ]; congr 1; omega
  rw [e4]
  simp [putAt, ptrCells, sumTo, e3, bytesV]
set_option maxRecDepth 100000 in
theorem refRead_full (ao : Option Addr) (n c : Nat) (bs : List UInt8) (w : World) (hA : Rd w (.slice ao n c) 1 n (bytesV bs)) (hn : bs.length = n) (h47 : n = 47) :
    Calls Try.prog 66 #[.slice ao n c] w (readOut bs w 98) := by
  have hbd1 := hA.bd.1
  have hbd2 := hA.bd.2.1
  have hst := St.refl w
  obtain ⟨b0, off0, rfl, hr0⟩ := hA.at (k := 0) (by omega)
  have Hn := hid hn; clear hn
  subst h47
  go_enter Try.func66, Try.ntmps66
  go_wp2_with (first | go_big_skip | go_big_guard | (refine wl_alloc hst rfl rfl ?_; intro g0 w1 hst1; clear hst) | (refine wl_alloc hst1 rfl rfl ?_; intro gf w2 hst2; clear hst1))
  obtain ⟨x0, hx0⟩ : ∃ x, x = bs.getD 10 0 := ⟨_, rfl⟩
  obtain ⟨x1, hx1⟩ : ∃ x, x = bs.getD 11 0 := ⟨_, rfl⟩
  obtain ⟨x2, hx2⟩ : ∃ x, x = bs.getD 12 0 := ⟨_, rfl⟩
  obtain ⟨x3, hx3⟩ : ∃ x, x = bs.getD 13 0 := ⟨_, rfl⟩
  obtain ⟨x4, hx4⟩ : ∃ x, x = bs.getD 14 0 := ⟨_, rfl⟩
  have k0 := byte_cell hr0 (k := 10) (by rw [Hn.out]; decide)
  rw [← hx0] at k0
  have k1 := byte_cell hr0 (k := 11) (by rw [Hn.out]; decide)
  rw [← hx1] at k1
  have k2 := byte_cell hr0 (k := 12) (by rw [Hn.out]; decide)
  rw [← hx2] at k2
  have k3 := byte_cell hr0 (k := 13) (by rw [Hn.out]; decide)
  rw [← hx3] at k3
  have k4 := byte_cell hr0 (k := 14) (by rw [Hn.out]; decide)
  rw [← hx4] at k4
  have HX := hid (And.intro hx0 (And.intro hx1 (And.intro hx2 (And.intro hx3 hx4))))
  clear hx0 hx1 hx2 hx3 hx4
  have q0 := x0.toNat_lt
  have K0 := hid k0; clear k0
  have q1 := x1.toNat_lt
  have K1 := hid k1; clear k1
  have q2 := x2.toNat_lt
  have K2 := hid k2; clear k2
  have q3 := x3.toNat_lt
  have K3 := hid k3; clear k3
  have q4 := x4.toNat_lt
  have K4 := hid k4; clear k4
  have r0 : IntKind.i64.wrap (x0.toNat : Int) = x0.toNat := IntWalk.i64_in _ (by omega)
  have r1 : IntKind.i64.wrap (x1.toNat : Int) = x1.toNat := IntWalk.i64_in _ (by omega)
  have r2 : IntKind.i64.wrap (x2.toNat : Int) = x2.toNat := IntWalk.i64_in _ (by omega)
  have r3 : IntKind.i64.wrap (x3.toNat : Int) = x3.toNat := IntWalk.i64_in _ (by omega)
  have r4 : IntKind.i64.wrap (x4.toNat : Int) = x4.toNat := IntWalk.i64_in _ (by omega)
  have s0 : IntKind.i64.wrap ((x0.toNat : Int) * 16777216) = (x0.toNat : Int) * 16777216 := IntWalk.i64_in _ (by omega)
  have s1 : IntKind.i64.wrap ((x1.toNat : Int) * 65536) = (x1.toNat : Int) * 65536 := IntWalk.i64_in _ (by omega)
  have s2 : IntKind.i64.wrap ((x2.toNat : Int) * 256) = (x2.toNat : Int) * 256 := IntWalk.i64_in _ (by omega)
  have s3 : IntKind.i64.wrap ((x0.toNat : Int) * 16777216 + (x1.toNat : Int) * 65536) = (x0.toNat : Int) * 16777216 + (x1.toNat : Int) * 65536 := IntWalk.i64_in _ (by omega)
  have s4 : IntKind.i64.wrap ((x0.toNat : Int) * 16777216 + (x1.toNat : Int) * 65536 + (x2.toNat : Int) * 256) = (x0.toNat : Int) * 16777216 + (x1.toNat : Int) * 65536 + (x2.toNat : Int) * 256 := IntWalk.i64_in _ (by omega)
  have s5 : IntKind.i64.wrap ((x0.toNat : Int) * 16777216 + (x1.toNat : Int) * 65536 + (x2.toNat : Int) * 256 + (x3.toNat : Int)) = (x0.toNat : Int) * 16777216 + (x1.toNat : Int) * 65536 + (x2.toNat : Int) * 256 + (x3.toNat : Int) := IntWalk.i64_in _ (by omega)
  have hD := hst2.drew
  have hP : St w [] ((w2.alloc (.cells (List.toArray [.slice none 0 0, .int .i64 0, .int .i64 0, .int .u8 0, .int .u8 0, .int .u8 0, .int .u8 0, .int .u8 0, .int .u8 0, .int .u8 0, .int .u8 0, .int .u8 0, .int .u8 0, .int .u8 0, .int .u8 0, .int .u8 0, .int .u8 0, .int .u8 0, .int .u8 0, .int .u8 0, .int .u8 0, .int .u8 0, .int .u8 0, .int .u8 0, .int .u8 0, .int .u8 0, .int .u8 0, .int .u8 0, .int .u8 0, .int .u8 0, .int .u8 0, .int .u8 0, .int .u8 0, .int .u8 0, .int .u8 0]) 45)).drew) (.blk w2.heap.size 45 [.slice none 0 0, .int .i64 0, .int .i64 0, .int .u8 0, .int .u8 0, .int .u8 0, .int .u8 0, .int .u8 0, .int .u8 0, .int .u8 0, .int .u8 0, .int .u8 0, .int .u8 0, .int .u8 0, .int .u8 0, .int .u8 0, .int .u8 0, .int .u8 0, .int .u8 0, .int .u8 0, .int .u8 0, .int .u8 0, .int .u8 0, .int .u8 0, .int .u8 0, .int .u8 0, .int .u8 0, .int .u8 0, .int .u8 0, .int .u8 0, .int .u8 0, .int .u8 0, .int .u8 0, .int .u8 0, .int .u8 0] :: [.blk gf 33 [.int .i64 0, .int .i64 0], .blk g0 45 (ptrCells (.slice none 0 0) 0 0 nones)]) := (hst2.alloc _ _).drew
  clear hst2
  go_region_held3 (fun w' => w'.cell? ⟨b0, off0 + 10, none⟩ = some (.int .u8 (x0.toNat : Int)) ∧ w'.cell? ⟨b0, off0 + 11, none⟩ = some (.int .u8 (x1.toNat : Int)) ∧ w'.cell? ⟨b0, off0 + 12, none⟩ = some (.int .u8 (x2.toNat : Int)) ∧ w'.cell? ⟨b0, off0 + 13, none⟩ = some (.int .u8 (x3.toNat : Int)) ∧ w'.cell? ⟨b0, off0 + 14, none⟩ = some (.int .u8 (x4.toNat : Int)))
    (first | exact ⟨hE.old_cell K0.out (by simp), hE.old_cell K1.out (by simp), hE.old_cell K2.out (by simp), hE.old_cell K3.out (by simp), hE.old_cell K4.out (by simp)⟩ | exact ⟨hP.old_cell K0.out (by simp), hP.old_cell K1.out (by simp), hP.old_cell K2.out (by simp), hP.old_cell K3.out (by simp), hP.old_cell K4.out (by simp)⟩ | exact ⟨hD.old_cell K0.out (by simp), hD.old_cell K1.out (by simp), hD.old_cell K2.out (by simp), hD.old_cell K3.out (by simp), hD.old_cell K4.out (by simp)⟩)
    (first | (rw [stored_row (P := Try.prog) (n := 35) [] hP inferInstance rfl rfl rfl]; have hE := St.setRow (L1 := []) hP [.slice none 0 0, .int .i64 ((x0.toNat : Int) * 16777216 + (x1.toNat : Int) * 65536 + (x2.toNat : Int) * 256 + (x3.toNat : Int)), .int .i64 x4.toNat, .int .u8 0, .int .u8 0, .int .u8 0, .int .u8 0, .int .u8 0, .int .u8 0, .int .u8 0, .int .u8 0, .int .u8 0, .int .u8 0, .int .u8 0, .int .u8 0, .int .u8 0, .int .u8 0, .int .u8 0, .int .u8 0, .int .u8 0, .int .u8 0, .int .u8 0, .int .u8 0, .int .u8 0, .int .u8 0, .int .u8 0, .int .u8 0, .int .u8 0, .int .u8 0, .int .u8 0, .int .u8 0, .int .u8 0, .int .u8 0, .int .u8 0, .int .u8 0]; go_simp))
  clear hD hP r0 r1 r2 r3 r4 s0 s1 s2 s3 s4 s5
  rename_i hHeld
  clear hHeld
  have eB : (x0.toNat : Int) * 16777216 + (x1.toNat : Int) * 65536 + (x2.toNat : Int) * 256 + (x3.toNat : Int) = (rBirth bs : Int) := by
    obtain ⟨a0, a1, a2, a3, a4⟩ := HX.out
    rw [a0, a1, a2, a3, birth_at Hn.out]
    clear hE HX a0 a1 a2 a3 a4
    omega
  have eL : (x4.toNat : Int) = (rLevel bs : Int) := by
    obtain ⟨a0, a1, a2, a3, a4⟩ := HX.out
    rw [a4, level_at Hn.out]
  revert hE
  generalize World.setRow _ _ _ = w4
  generalize w2.heap.size = gp
  intro hE0
  have hE : St w [] w4 [.blk gp 45 (ptrCells (.slice none 0 0) ((x0.toNat : Int) * 16777216 + (x1.toNat : Int) * 65536 + (x2.toNat : Int) * 256 + (x3.toNat : Int)) x4.toNat nones), .blk gf 33 [.int .i64 0, .int .i64 0], .blk g0 45 (ptrCells (.slice none 0 0) 0 0 nones)] := hE0
  clear hE0
  rw [eB, eL] at hE
  clear HX K0 K1 K2 K3 K4 q0 q1 q2 q3 q4 eB eL
  obtain ⟨many, hmany⟩ : ∃ q, q = beN (bs.take 1) := ⟨_, rfl⟩
  have hm0 : many = (bs.getD 0 0).toNat := by
    rw [hmany]
    have := take_get bs 0 0 (by rw [Hn.out]; decide)
    rw [List.drop_zero] at this
    rw [this]
    simp [beN]
  have hml : many < 256 := by rw [hm0]; exact (bs.getD 0 0).toNat_lt
  have k0 := byte_cell hr0 (k := 0) (by rw [Hn.out]; decide)
  rw [← hm0, Nat.add_zero] at k0
  have K0 := hid k0
  have Hm := hid hmany
  clear k0 hm0 hmany
  go_wp2_with (first | go_big_skip | go_big_guard | fail)
  have hst5 : St w [] w4 [.row (.slice none 0 0) 98 2 0 (addrsV (rAddrs bs 0)), .blk gp 45 (ptrCells (.slice none 0 0) (rBirth bs) (rLevel bs) nones), .blk gf 33 [.int .i64 0, .int .i64 0], .blk g0 45 (ptrCells (.slice none 0 0) 0 0 nones)] := St.nilRow _ _ hE
  clear hE
  go_loopw [5] (fun i wr => ∃ k : Nat, k ≤ 3 ∧ k ≤ many ∧ i = .int .i64 k ∧ ∃ v3, Hid ((rAddrs bs k).length = k) ∧ St w [] wr [.row v3 98 2 k (addrsV (rAddrs bs k)), .blk gp 45 (ptrCells v3 (rBirth bs) (rLevel bs) nones), .blk gf 33 [.int .i64 0, .int .i64 0], .blk g0 45 (ptrCells (.slice none 0 0) 0 0 nones)]) (fun i _ => 3 - (intOf i).toNat)
  case atStart => exact ⟨0, by omega, by omega, rfl, _, hid rfl, hst5⟩
  case round =>
    clear hst5
    obtain ⟨k, hk, hkm, rfl, v3, hl, hst⟩ := hrel
    have d0 := hst.old_cell K0.out (by simp)
    by_cases hgo : k < many ∧ k < 3
    · obtain ⟨h1, h2⟩ := hgo
      go_wp2_with (first | go_big_skip | go_big_guard | fail)
      obtain ⟨y1, hy1⟩ : ∃ x, x = bs.getD (1 + 3 * k) 0 := ⟨_, rfl⟩
      have e1 := byte_cell hr0 (k := 1 + 3 * k) (by rw [Hn.out]; omega)
      rw [← hy1] at e1
      have Y1 := hid e1; clear e1
      have q1 := y1.toNat_lt
      obtain ⟨y2, hy2⟩ : ∃ x, x = bs.getD (2 + 3 * k) 0 := ⟨_, rfl⟩
      have e2 := byte_cell hr0 (k := 2 + 3 * k) (by rw [Hn.out]; omega)
      rw [← hy2] at e2
      have Y2 := hid e2; clear e2
      have q2 := y2.toNat_lt
      obtain ⟨y3, hy3⟩ : ∃ x, x = bs.getD (3 + 3 * k) 0 := ⟨_, rfl⟩
      have e3 := byte_cell hr0 (k := 3 + 3 * k) (by rw [Hn.out]; omega)
      rw [← hy3] at e3
      have Y3 := hid e3; clear e3
      have q3 := y3.toNat_lt
      have HY := hid (And.intro hy1 (And.intro hy2 hy3))
      clear hy1 hy2 hy3
      have hD := hst.drew
      have hB : St w [] ((wr.alloc (.cells (List.toArray [.int .i64 y1.toNat, .int .i64 (256 * (y2.toNat : Int) + y3.toNat)]) 98)).drew) (.blk wr.heap.size 98 [.int .i64 y1.toNat, .int .i64 (256 * (y2.toNat : Int) + y3.toNat)] :: [.row v3 98 2 k (addrsV (rAddrs bs k)), .blk gp 45 (ptrCells v3 (rBirth bs) (rLevel bs) nones), .blk gf 33 [.int .i64 0, .int .i64 0], .blk g0 45 (ptrCells (.slice none 0 0) 0 0 nones)]) := (hst.alloc _ _).drew
      clear hst
      have a1 : (0 : Int) ≤ 1 + 3 * (k : Int) := by omega
      have b1 : 1 + 3 * (k : Int) < 47 := by omega
      have a2 : (0 : Int) ≤ 2 + 3 * (k : Int) := by omega
      have b2 : 2 + 3 * (k : Int) < 47 := by omega
      have a3 : (0 : Int) ≤ 3 + 3 * (k : Int) := by omega
      have b3 : 3 + 3 * (k : Int) < 47 := by omega
      have z0 : IntKind.i64.wrap (3 * (k : Int)) = 3 * (k : Int) := IntWalk.i64_in _ (by omega)
      have z1 : IntKind.i64.wrap (1 + 3 * (k : Int)) = 1 + 3 * (k : Int) := IntWalk.i64_in _ (by omega)
      have n1 : (1 + 3 * (k : Int)).toNat = 1 + 3 * k := by omega
      have r1 : IntKind.i64.wrap (y1.toNat : Int) = y1.toNat := IntWalk.i64_in _ (by omega)
      have z2 : IntKind.i64.wrap (2 + 3 * (k : Int)) = 2 + 3 * (k : Int) := IntWalk.i64_in _ (by omega)
      have n2 : (2 + 3 * (k : Int)).toNat = 2 + 3 * k := by omega
      have r2 : IntKind.i64.wrap (y2.toNat : Int) = y2.toNat := IntWalk.i64_in _ (by omega)
      have z3 : IntKind.i64.wrap (3 + 3 * (k : Int)) = 3 + 3 * (k : Int) := IntWalk.i64_in _ (by omega)
      have n3 : (3 + 3 * (k : Int)).toNat = 3 + 3 * k := by omega
      have r3 : IntKind.i64.wrap (y3.toNat : Int) = y3.toNat := IntWalk.i64_in _ (by omega)
      have z4 : IntKind.i64.wrap (256 * (y2.toNat : Int)) = 256 * (y2.toNat : Int) := IntWalk.i64_in _ (by omega)
      have z5 : IntKind.i64.wrap (256 * (y2.toNat : Int) + y3.toNat) = 256 * (y2.toNat : Int) + y3.toNat := IntWalk.i64_in _ (by omega)
      refine wp_region_last (S := (fun w' => w'.cell? ⟨b0, off0 + (1 + 3 * k), none⟩ = some (.int .u8 (y1.toNat : Int)) ∧ w'.cell? ⟨b0, off0 + (2 + 3 * k), none⟩ = some (.int .u8 (y2.toNat : Int)) ∧ w'.cell? ⟨b0, off0 + (3 + 3 * k), none⟩ = some (.int .u8 (y3.toNat : Int)) ∧ (loadVarH 41 ⟨gp, 0, none⟩).run Try.prog w' = .ok v3 w')) (by kernel_rfl) rfl (by kernel_rfl) (by exact ⟨hD.old_cell Y1.out (by simp), hD.old_cell Y2.out (by simp), hD.old_cell Y3.out (by simp), ldS (P := Try.prog) [_] hD rfl⟩) (fun hHeld => ?_)
      simp only [List.pop_toArray, List.dropLast, List.size_toArray, List.length_cons, List.length_nil]
      refine wpAnyH_take (i := 0) (oi := ⟨some 60, _, _, _, _, _⟩) (v := ?_) rfl (by kernel_rfl) (by kernel_rfl) (by kernel_rfl) (fun _ _ _ h => h) (Or.inl ⟨by rfl, ?_⟩) (by assumption) ?_
      rotate_left
      · intro w hSw; (try dsimp only at hSw); go_simp; try with_reducible rfl
      (try simp only [Act.put, List.setIfInBounds_toArray, List.set_cons_zero, List.set_cons_succ])
      refine wpAnyH_take (i := 1) (oi := ⟨some 61, _, _, _, _, _⟩) (v := ?_) rfl (by kernel_rfl) (by kernel_rfl) (by kernel_rfl) (fun _ _ _ h => h) (Or.inl ⟨by rfl, ?_⟩) (by assumption) ?_
      rotate_left
      · intro w hSw; (try dsimp only at hSw); go_simp; try with_reducible rfl
      (try simp only [Act.put, List.setIfInBounds_toArray, List.set_cons_zero, List.set_cons_succ])
      refine wpAnyH_take (i := 2) (oi := ⟨some 62, _, _, _, _, _⟩) (v := ?_) rfl (by kernel_rfl) (by kernel_rfl) (by kernel_rfl) (fun _ _ _ h => h) (Or.inl ⟨by rfl, ?_⟩) (by assumption) ?_
      rotate_left
      · intro w hSw; (try dsimp only at hSw); go_simp; try with_reducible rfl
      (try simp only [Act.put, List.setIfInBounds_toArray, List.set_cons_zero, List.set_cons_succ])
      refine wpAnyH_take (i := 3) (oi := ⟨some 63, _, _, _, _, _⟩) (v := ?_) rfl (by kernel_rfl) (by kernel_rfl) (by kernel_rfl) (fun _ _ _ h => h) (Or.inl ⟨by rfl, ?_⟩) (by assumption) ?_
      rotate_left
      · intro w hSw; (try dsimp only at hSw); go_simp; try with_reducible rfl
      (try simp only [Act.put, List.setIfInBounds_toArray, List.set_cons_zero, List.set_cons_succ])
      refine wpAnyH_take (i := 4) (oi := ⟨some 64, _, _, _, _, _⟩) (v := ?_) rfl (by kernel_rfl) (by kernel_rfl) (by kernel_rfl) (fun _ _ _ h => h) (Or.inl ⟨by rfl, ?_⟩) (by assumption) ?_
      rotate_left
      · intro w hSw; (try dsimp only at hSw); go_simp; try with_reducible rfl
      (try simp only [Act.put, List.setIfInBounds_toArray, List.set_cons_zero, List.set_cons_succ])
      refine wpAnyH_take (i := 5) (oi := ⟨some 65, _, _, _, _, _⟩) (v := ?_) rfl (by kernel_rfl) (by kernel_rfl) (by kernel_rfl) (fun _ _ _ h => h) (Or.inl ⟨by rfl, ?_⟩) (by assumption) ?_
      rotate_left
      · intro w hSw; (try dsimp only at hSw); go_simp; try with_reducible rfl
      (try simp only [Act.put, List.setIfInBounds_toArray, List.set_cons_zero, List.set_cons_succ])
      refine wpAnyH_take (i := 6) (oi := ⟨some 66, _, _, _, _, _⟩) (v := ?_) rfl (by kernel_rfl) (by kernel_rfl) (by kernel_rfl) (fun _ _ _ h => h) (Or.inl ⟨by rfl, ?_⟩) (by assumption) ?_
      rotate_left
      · intro w hSw; (try dsimp only at hSw); go_simp; try with_reducible rfl
      (try simp only [Act.put, List.setIfInBounds_toArray, List.set_cons_zero, List.set_cons_succ])
      refine wpAnyH_take (i := 7) (oi := ⟨some 67, _, _, _, _, _⟩) (v := ?_) rfl (by kernel_rfl) (by kernel_rfl) (by kernel_rfl) (fun _ _ _ h => h) (Or.inl ⟨by rfl, ?_⟩) (by assumption) ?_
      rotate_left
      · intro w hSw; (try dsimp only at hSw); go_simp; try with_reducible rfl
      (try simp only [Act.put, List.setIfInBounds_toArray, List.set_cons_zero, List.set_cons_succ])
      refine wpAnyH_take (i := 8) (oi := ⟨some 68, _, _, _, _, _⟩) (v := ?_) rfl (by kernel_rfl) (by kernel_rfl) (by kernel_rfl) (fun _ _ _ h => h) (Or.inl ⟨by rfl, ?_⟩) (by assumption) ?_
      rotate_left
      · intro w hSw; (try dsimp only at hSw); go_simp; try with_reducible rfl
      (try simp only [Act.put, List.setIfInBounds_toArray, List.set_cons_zero, List.set_cons_succ])
      refine wpAnyH_take (i := 9) (oi := ⟨some 69, _, _, _, _, _⟩) (v := ?_) rfl (by kernel_rfl) (by kernel_rfl) (by kernel_rfl) (fun _ _ _ h => h) (Or.inl ⟨by rfl, ?_⟩) (by assumption) ?_
      rotate_left
      · intro w hSw; (try dsimp only at hSw); go_simp; try with_reducible rfl
      (try simp only [Act.put, List.setIfInBounds_toArray, List.set_cons_zero, List.set_cons_succ])
      refine wpAnyH_take (i := 10) (oi := ⟨some 70, _, _, _, _, _⟩) (v := ?_) rfl (by kernel_rfl) (by kernel_rfl) (by kernel_rfl) (fun _ _ _ h => h) (Or.inl ⟨by rfl, ?_⟩) (by assumption) ?_
      rotate_left
      · intro w hSw; (try dsimp only at hSw); go_simp; try with_reducible rfl
      (try simp only [Act.put, List.setIfInBounds_toArray, List.set_cons_zero, List.set_cons_succ])
      refine wpAnyH_take (i := 11) (oi := ⟨some 71, _, _, _, _, _⟩) (v := ?_) rfl (by kernel_rfl) (by kernel_rfl) (by kernel_rfl) (fun _ _ _ h => h) (Or.inl ⟨by rfl, ?_⟩) (by assumption) ?_
      rotate_left
      · intro w hSw; (try dsimp only at hSw); go_simp; try with_reducible rfl
      (try simp only [Act.put, List.setIfInBounds_toArray, List.set_cons_zero, List.set_cons_succ])
      refine wpAnyH_take (i := 12) (oi := ⟨some 72, _, _, _, _, _⟩) (v := ?_) rfl (by kernel_rfl) (by kernel_rfl) (by kernel_rfl) (fun _ _ _ h => h) (Or.inl ⟨by rfl, ?_⟩) (by assumption) ?_
      rotate_left
      · intro w hSw; (try dsimp only at hSw); go_simp; try with_reducible rfl
      (try simp only [Act.put, List.setIfInBounds_toArray, List.set_cons_zero, List.set_cons_succ])
      refine wpAnyH_take (i := 13) (oi := ⟨some 73, _, _, _, _, _⟩) (v := ?_) rfl (by kernel_rfl) (by kernel_rfl) (by kernel_rfl) (fun _ _ _ h => h) (Or.inl ⟨by rfl, ?_⟩) (by assumption) ?_
      rotate_left
      · intro w hSw; (try dsimp only at hSw); go_simp; try with_reducible rfl
      (try simp only [Act.put, List.setIfInBounds_toArray, List.set_cons_zero, List.set_cons_succ])
      refine wpAnyH_take (i := 14) (oi := ⟨some 74, _, _, _, _, _⟩) (v := ?_) rfl (by kernel_rfl) (by kernel_rfl) (by kernel_rfl) (fun _ _ _ h => h) (Or.inl ⟨by rfl, ?_⟩) (by assumption) ?_
      rotate_left
      · intro w hSw; (try dsimp only at hSw); go_simp; try with_reducible rfl
      (try simp only [Act.put, List.setIfInBounds_toArray, List.set_cons_zero, List.set_cons_succ])
      refine wpAnyH_take (i := 15) (oi := ⟨some 75, _, _, _, _, _⟩) (v := ?_) rfl (by kernel_rfl) (by kernel_rfl) (by kernel_rfl) (fun _ _ _ h => h) (Or.inl ⟨by rfl, ?_⟩) (by assumption) ?_
      rotate_left
      · intro w hSw; (try dsimp only at hSw); go_simp; try with_reducible rfl
      (try simp only [Act.put, List.setIfInBounds_toArray, List.set_cons_zero, List.set_cons_succ])
      refine wpAnyH_take (i := 16) (oi := ⟨some 76, _, _, _, _, _⟩) (v := ?_) rfl (by kernel_rfl) (by kernel_rfl) (by kernel_rfl) (fun _ _ _ h => h) (Or.inl ⟨by rfl, ?_⟩) (by assumption) ?_
      rotate_left
      · intro w hSw; (try dsimp only at hSw); go_simp; try with_reducible rfl
      (try simp only [Act.put, List.setIfInBounds_toArray, List.set_cons_zero, List.set_cons_succ])
      refine wpAnyH_take (i := 17) (oi := ⟨some 77, _, _, _, _, _⟩) (v := ?_) rfl (by kernel_rfl) (by kernel_rfl) (by kernel_rfl) (fun _ _ _ h => h) (Or.inl ⟨by rfl, ?_⟩) (by assumption) ?_
      rotate_left
      · intro w hSw; (try dsimp only at hSw); go_simp; try with_reducible rfl
      (try simp only [Act.put, List.setIfInBounds_toArray, List.set_cons_zero, List.set_cons_succ])
      refine wpAnyH_take (i := 18) (oi := ⟨some 78, _, _, _, _, _⟩) (v := ?_) rfl (by kernel_rfl) (by kernel_rfl) (by kernel_rfl) (fun _ _ _ h => h) (Or.inl ⟨by rfl, ?_⟩) (by assumption) ?_
      rotate_left
      · intro w hSw; (try dsimp only at hSw); go_simp; try with_reducible rfl
      (try simp only [Act.put, List.setIfInBounds_toArray, List.set_cons_zero, List.set_cons_succ])
      refine wpAnyH_take (i := 19) (oi := ⟨some 79, _, _, _, _, _⟩) (v := ?_) rfl (by kernel_rfl) (by kernel_rfl) (by kernel_rfl) (fun _ _ _ h => h) (Or.inl ⟨by rfl, ?_⟩) (by assumption) ?_
      rotate_left
      · intro w hSw; (try dsimp only at hSw); go_simp; try with_reducible rfl
      (try simp only [Act.put, List.setIfInBounds_toArray, List.set_cons_zero, List.set_cons_succ])
      refine wpAnyH_take (i := 20) (oi := ⟨some 80, _, _, _, _, _⟩) (v := ?_) rfl (by kernel_rfl) (by kernel_rfl) (by kernel_rfl) (fun _ _ _ h => h) (Or.inl ⟨by rfl, ?_⟩) (by assumption) ?_
      rotate_left
      · intro w hSw; (try dsimp only at hSw); go_simp; try with_reducible rfl
      (try simp only [Act.put, List.setIfInBounds_toArray, List.set_cons_zero, List.set_cons_succ])
      refine wpAnyH_take (i := 21) (oi := ⟨some 81, _, _, _, _, _⟩) (v := ?_) rfl (by kernel_rfl) (by kernel_rfl) (by kernel_rfl) (fun _ _ _ h => h) (Or.inl ⟨by rfl, ?_⟩) (by assumption) ?_
      rotate_left
      · intro w hSw; (try dsimp only at hSw); go_simp; try with_reducible rfl
      (try simp only [Act.put, List.setIfInBounds_toArray, List.set_cons_zero, List.set_cons_succ])
      refine wpAnyH_take (i := 22) (oi := ⟨some 82, _, _, _, _, _⟩) (v := ?_) rfl (by kernel_rfl) (by kernel_rfl) (by kernel_rfl) (fun _ _ _ h => h) (Or.inl ⟨by rfl, ?_⟩) (by assumption) ?_
      rotate_left
      · intro w hSw; (try dsimp only at hSw); go_simp; try with_reducible rfl
      (try simp only [Act.put, List.setIfInBounds_toArray, List.set_cons_zero, List.set_cons_succ])
      refine wpAnyH_take (i := 23) (oi := ⟨some 83, _, _, _, _, _⟩) (v := ?_) rfl (by kernel_rfl) (by kernel_rfl) (by kernel_rfl) (fun _ _ _ h => h) (Or.inl ⟨by rfl, ?_⟩) (by assumption) ?_
      rotate_left
      · intro w hSw; (try dsimp only at hSw); go_simp; try with_reducible rfl
      (try simp only [Act.put, List.setIfInBounds_toArray, List.set_cons_zero, List.set_cons_succ])
      refine wpAnyH_take (i := 24) (oi := ⟨some 84, _, _, _, _, _⟩) (v := ?_) rfl (by kernel_rfl) (by kernel_rfl) (by kernel_rfl) (fun _ _ _ h => h) (Or.inl ⟨by rfl, ?_⟩) (by assumption) ?_
      rotate_left
      · intro w hSw; (try dsimp only at hSw); go_simp; try with_reducible rfl
      (try simp only [Act.put, List.setIfInBounds_toArray, List.set_cons_zero, List.set_cons_succ])
      refine wpAnyH_take (i := 25) (oi := ⟨some 85, _, _, _, _, _⟩) (v := ?_) rfl (by kernel_rfl) (by kernel_rfl) (by kernel_rfl) (fun _ _ _ h => h) (Or.inl ⟨by rfl, ?_⟩) (by assumption) ?_
      rotate_left
      · intro w hSw; (try dsimp only at hSw); go_simp; try with_reducible rfl
      (try simp only [Act.put, List.setIfInBounds_toArray, List.set_cons_zero, List.set_cons_succ])
      refine wpAnyH_ready (rs := [26]) (by kernel_rfl) (by simp) ?_
      refine AllReadyH.cons rfl (fun K hK => ?_) AllReadyH.nil
      go_simp
      refine hK.out _ _ ?_ (fun hHeld => ?_)
      · exact ⟨hB.old_cell Y1.out (by simp), hB.old_cell Y2.out (by simp), hB.old_cell Y3.out (by simp), ldS (P := Try.prog) [_, _] hB rfl⟩
      clear hK K
      (try simp only [Act.put, List.setIfInBounds_toArray, List.set_cons_zero, List.set_cons_succ])
      refine wpAnyH_ready (rs := [27]) (by kernel_rfl) (by simp) ?_
      refine AllReadyH.cons rfl (fun K hK => ?_) AllReadyH.nil
      rw [if_pos (by rfl)]; apply ow_append [_] hB; rfl; exact rfl; exact rfl; infer_instance; infer_instance; infer_instance; exact Rd.blk0 (n := 1) hB rfl (by decide); rfl; (unfold maxLen; omega); intro v10 w10 hst10 _; obtain ⟨ao6, c6, rfl⟩ := St.rowSliceAt [_] hst10
      refine hK.out _ _ ?_ (fun hHeld => ?_)
      · exact ⟨hst10.old_cell Y1.out (by simp), hst10.old_cell Y2.out (by simp), hst10.old_cell Y3.out (by simp), ldS (P := Try.prog) [_, _] hst10 rfl⟩
      clear hK K
      (try simp only [Act.put, List.setIfInBounds_toArray, List.set_cons_zero, List.set_cons_succ])
      refine wpAnyH_take (i := 28) (oi := ⟨some 88, _, _, _, _, _⟩) (v := ?_) rfl (by kernel_rfl) (by kernel_rfl) (by kernel_rfl) (fun _ _ _ h => h) (Or.inl ⟨by rfl, ?_⟩) (by assumption) ?_
      rotate_left
      · intro w hSw; (try dsimp only at hSw); go_simp; try with_reducible rfl
      (try simp only [Act.put, List.setIfInBounds_toArray, List.set_cons_zero, List.set_cons_succ])
      refine wpAnyH_done (by kernel_rfl) ?_ _
      refine QL_intro ?_
      refine wl_store [_, _] hst10 rfl rfl rfl (v := .slice _ _ _) rfl rfl rfl (by decide : 0 + 1 ≤ 35) ?_
      intro w11 hst11
      all_goals
        have he : addrsV (rAddrs bs k) ++ [.int .i64 y1.toNat, .int .i64 (256 * (y2.toNat : Int) + y3.toNat)] = addrsV (rAddrs bs (k + 1)) := by
          obtain ⟨g1, g2, g3⟩ := HY.out
          rw [rAddrs, if_pos (by rw [← Hm.out]; exact h1), addrsV_append, rA_at (by rw [Hn.out]; omega), g1, g2, g3]
          rfl
        have hl2 : Hid ((rAddrs bs (k + 1)).length = k + 1) := hid (by rw [rAddrs, if_pos (by rw [← Hm.out]; exact h1), List.length_append, hl.out]; rfl)
        have hp : putAt (ptrCells v3 (rBirth bs) (rLevel bs) nones) 0 [.slice ao6 (k + 1) c6] = ptrCells (.slice ao6 (k + 1) c6) (rBirth bs) (rLevel bs) nones := rfl
        clear hHeld hst10
        rw [he] at hst11
        have hst11 : St w [] w11 [.blk _ 98 _, .row (.slice ao6 (k + 1) c6) 98 2 (k + 1) (addrsV (rAddrs bs (k + 1))), .blk gp 45 (ptrCells (.slice ao6 (k + 1) c6) (rBirth bs) (rLevel bs) nones), .blk gf 33 [.int .i64 0, .int .i64 0], .blk g0 45 (ptrCells (.slice none 0 0) 0 0 nones)] := hst11
        have hst12 : St w [] w11 [.row (.slice ao6 (k + 1) c6) 98 2 (k + 1) (addrsV (rAddrs bs (k + 1))), .blk gp 45 (ptrCells (.slice ao6 (k + 1) c6) (rBirth bs) (rLevel bs) nones), .blk gf 33 [.int .i64 0, .int .i64 0], .blk g0 45 (ptrCells (.slice none 0 0) 0 0 nones)] :=
          St.sub (L := [_, _, _, _, _]) hst11 (.cons _ (List.Sublist.refl _))
        clear hst11 he hp HY z0 z1 z2 z3 z4 z5 n1 n2 n3 r1 r2 r3
        go_wp2_with (first | go_big_skip | go_big_guard | fail)
        go_roundw
        case rel => exact ⟨k + 1, by omega, by omega, by go_num, _, hl2, hst12⟩
        case measure => simp [intOf]; omega
    · have eR : rAddrs bs 3 = rAddrs bs k := rAddrs_stop (by rw [← Hm.out]; omega) (by omega)
      have eRl : (rAddrs bs 3).length = k := by rw [eR]; exact hl.out
      rw [← eR] at hst
      have HR := hid eRl
      clear eRl eR hl
      by_cases hlt : k < many
      · have hk3 : k = 3 := by omega
        have d1 : decide ((k : Int) < many) = true := by simp; omega
        have d2 : decide ((k : Int) < 3) = false := by simp; omega
        clear hgo hk3
        go_wp2_with (first | go_big_skip | go_big_guard | fail)
        go_loopw [6] (fun i wr => ∃ j : Nat, j ≤ 32 ∧ i = .int .i64 j ∧ St w [] wr [.row v3 98 2 k (addrsV (rAddrs bs 3)), .blk gp 45 (ptrCells v3 (rBirth bs) (rLevel bs) (sumTo bs j)), .blk gf 33 [.int .i64 0, .int .i64 0], .blk g0 45 (ptrCells (.slice none 0 0) 0 0 nones)]) (fun i _ => 32 - (intOf i).toNat)
        case atStart => exact ⟨0, by omega, rfl, hst⟩
        case round =>
          clear hst d0
          obtain ⟨j, hj, rfl, hst⟩ := hrel
          by_cases hj2 : j < 32
          · have hc := byte_cell hr0 (k := 15 + j) (by rw [Hn.out]; omega)
            obtain ⟨y, hy⟩ : ∃ y, y = bs.getD (15 + j) 0 := ⟨_, rfl⟩
            rw [← hy] at hc
            have HC := hid hc
            have HY := hid hy
            clear hc hy
            go_wp2_with (first | go_big_skip | go_big_guard | (refine wl_loadE rfl rfl rfl ?_; refine ⟨_, Loads.old hst HC.out, ?_⟩) | (refine wl_store [_] hst rfl rfl rfl (v := .int _ _) rfl rfl rfl (by simp [Value.cells, ptrCells, len_sumTo Hn.out hj]; omega) ?_; intro w20 hst20; clear hst))
            have hput := sumTo_put Hn.out hj2 v3 (rBirth bs) (rLevel bs)
            rw [← HY.out] at hput
            have hst21 : St w [] w20 [.row v3 98 2 k (addrsV (rAddrs bs 3)), .blk gp 45 (ptrCells v3 (rBirth bs) (rLevel bs) (sumTo bs (j + 1))), .blk gf 33 [.int .i64 0, .int .i64 0], .blk g0 45 (ptrCells (.slice none 0 0) 0 0 nones)] := by
              rw [← hput]; exact hst20
            clear hst20 hput
            go_roundw
            case rel => exact ⟨j + 1, by omega, by go_num, hst21⟩
            case measure => simp [intOf]; omega
          · have ej : j = 32 := by omega
            subst ej
            clear hj hj2
            have hS : L32 (rSum bs) := rSum_len Hn.out
            rw [sumTo_all Hn.out] at hst
            obtain ⟨ao3, c3, rfl⟩ := St.rowSliceAt [] hst
            by_cases hc : checkB (rAddrs bs 3) (rBirth bs) (rLevel bs) (rSum bs) = true
            · by_cases hq : (bytesP (rAddrs bs 3) (rBirth bs) (rLevel bs) (rSum bs) == bs) = true
              · have hq' := hq
                go_wp2_with (first | go_big_skip | go_big_guard | (refine wl_loadE rfl rfl rfl ?_; first | refine ⟨_, Loads.at [_] hst rfl, ?_⟩ | refine ⟨_, Loads.atA (ptrCells _ _ _ _) [_] hst (ptr_len hS _ _ _) (ptr_all _ _ _ _), ?_⟩ | refine ⟨_, Loads.at [_, _] hst rfl, ?_⟩ | refine ⟨_, Loads.at [_, _, _] hst rfl, ?_⟩ | refine ⟨_, Loads.at [_, _] hst100 rfl, ?_⟩ | refine ⟨_, Loads.atA (ptrCells _ _ _ _) [_, _] hst100 (ptr_len hS _ _ _) (ptr_all _ _ _ _), ?_⟩ | refine ⟨_, Loads.at [_, _, _] hst100 rfl, ?_⟩ | refine ⟨_, Loads.at [_, _, _, _] hst100 rfl, ?_⟩ | refine ⟨_, Loads.at [_, _] hst101 rfl, ?_⟩ | refine ⟨_, Loads.atA (ptrCells _ _ _ _) [_, _] hst101 (ptr_len hS _ _ _) (ptr_all _ _ _ _), ?_⟩ | refine ⟨_, Loads.at [_, _, _] hst101 rfl, ?_⟩ | refine ⟨_, Loads.at [_, _, _, _] hst101 rfl, ?_⟩ | refine ⟨_, Loads.atA (ptrCells _ _ _ _) [_, _, _, _] hst101 (ptr_len hS _ _ _) (ptr_all _ _ _ _), ?_⟩ | refine ⟨_, Loads.at [_, _] hst102 rfl, ?_⟩ | refine ⟨_, Loads.atA (ptrCells _ _ _ _) [_, _] hst102 (ptr_len hS _ _ _) (ptr_all _ _ _ _), ?_⟩ | refine ⟨_, Loads.at [_, _, _] hst102 rfl, ?_⟩ | refine ⟨_, Loads.at [_, _, _, _] hst102 rfl, ?_⟩ | refine ⟨_, Loads.atA (ptrCells _ _ _ _) [_, _, _, _] hst102 (ptr_len hS _ _ _) (ptr_all _ _ _ _), ?_⟩) | (go_at_call 52; refine (refBytes_ok ao3 k c3 (rAddrs bs 3) _ _ _ _ hS (Rd.row hst (.head _)) HR.out hc).mono ?_; rintro _ _ ⟨u, rfl, h4⟩; have hst100 := St.call hst h4; clear h4 hst) | (refine wl_bytes_string rfl rfl rfl (Rd.row hst100 (.head _)) ?_) | (refine wl_bytes_string rfl rfl rfl (Rd.old hst100 hA) ?_) | (refine wl_storeA [_, _, _, _] hst100 rfl rfl rfl rfl (ptr_len hS _ _ _) (ptr_ones _ _ _ _ _ _) (rfl) ?_; intro _ hst101; clear hst100) | (refine wl_storeA [_, _, _] hst101 rfl rfl rfl rfl (rfl) (rfl) (rfl) ?_; intro _ hst102; clear hst101))
                have hl1 := Loads.atA (P := Try.prog) (off := 0) (T := 45) (ptrCells (.slice ao3 k c3) (rBirth bs) (rLevel bs) (rSum bs)) [_, _, _, _] hst102 (ptr_len hS _ _ _) (ptr_all _ _ _ _)
                have hl2 := Loads.atA (P := Try.prog) (off := 0) (T := 33) [.int .i64 0, .int .i64 0] [_, _, _] hst102 rfl rfl
                refine bodyPost_ret (results_cell2L rfl rfl rfl hl1 hl2) rfl ?_
                unfold readOut
                rw [if_pos (by simp [rOK, hc, hq, Hn.out])]
                exact ⟨ao3, k, c3, rfl, hst102.sub (L' := [.row (.slice ao3 k c3) 98 2 k (addrsV (rAddrs bs 3))]) (.cons _ (List.Sublist.cons_cons _ (List.nil_sublist _))), HR.out⟩
              · replace hq : (bytesP (rAddrs bs 3) (rBirth bs) (rLevel bs) (rSum bs) == bs) = false := Bool.eq_false_iff.2 hq
                go_wp2_with (first | go_big_skip | go_big_guard | (refine wl_loadE rfl rfl rfl ?_; first | refine ⟨_, Loads.at [_] hst rfl, ?_⟩ | refine ⟨_, Loads.atA (ptrCells _ _ _ _) [_] hst (ptr_len hS _ _ _) (ptr_all _ _ _ _), ?_⟩ | refine ⟨_, Loads.at [_, _] hst rfl, ?_⟩ | refine ⟨_, Loads.at [_, _, _] hst rfl, ?_⟩ | refine ⟨_, Loads.at [_, _] hst103 rfl, ?_⟩ | refine ⟨_, Loads.atA (ptrCells _ _ _ _) [_, _] hst103 (ptr_len hS _ _ _) (ptr_all _ _ _ _), ?_⟩ | refine ⟨_, Loads.at [_, _, _] hst103 rfl, ?_⟩ | refine ⟨_, Loads.at [_, _, _, _] hst103 rfl, ?_⟩ | refine ⟨_, Loads.at [_, _] hst104 rfl, ?_⟩ | refine ⟨_, Loads.atA (ptrCells _ _ _ _) [_, _] hst104 (ptr_len hS _ _ _) (ptr_all _ _ _ _), ?_⟩ | refine ⟨_, Loads.at [_, _, _] hst104 rfl, ?_⟩ | refine ⟨_, Loads.at [_, _, _, _] hst104 rfl, ?_⟩ | refine ⟨_, Loads.at [_, _] hst105 rfl, ?_⟩ | refine ⟨_, Loads.atA (ptrCells _ _ _ _) [_, _] hst105 (ptr_len hS _ _ _) (ptr_all _ _ _ _), ?_⟩ | refine ⟨_, Loads.at [_, _, _] hst105 rfl, ?_⟩ | refine ⟨_, Loads.at [_, _, _, _] hst105 rfl, ?_⟩) | (go_at_call 52; refine (refBytes_ok ao3 k c3 (rAddrs bs 3) _ _ _ _ hS (Rd.row hst (.head _)) HR.out hc).mono ?_; rintro _ _ ⟨u, rfl, h4⟩; have hst103 := St.call hst h4; clear h4 hst) | (refine wl_bytes_string rfl rfl rfl (Rd.row hst103 (.head _)) ?_) | (refine wl_bytes_string rfl rfl rfl (Rd.old hst103 hA) ?_) | (refine wl_build0 rfl rfl ?_) | (refine wl_storeA [_, _, _, _] hst103 rfl rfl rfl rfl (rfl) (rfl) (rfl) ?_; intro _ hst104; clear hst103) | (refine wl_storeA [_, _, _] hst104 rfl rfl rfl rfl (rfl) (rfl) (rfl) ?_; intro _ hst105; clear hst104))
                have hl1 := Loads.atA (P := Try.prog) (off := 0) (T := 45) (ptrCells (.slice none 0 0) 0 0 nones) [_, _, _, _] hst105 rfl rfl
                have hl2 := Loads.atA (P := Try.prog) (off := 0) (T := 33) [.int .i64 2, .int .i64 0] [_, _, _] hst105 rfl rfl
                refine bodyPost_ret (results_cell2L rfl rfl rfl hl1 hl2) rfl ?_
                unfold readOut
                rw [if_neg (by simp [rOK, hq])]
                exact ⟨by rw [rErr, rAt, if_pos Hn.out, if_pos Hn.out], hst105.nil⟩
            · replace hc : checkB (rAddrs bs 3) (rBirth bs) (rLevel bs) (rSum bs) = false := Bool.eq_false_iff.2 hc
              go_wp2_with (first | go_big_skip | go_big_guard | (refine wl_loadE rfl rfl rfl ?_; first | refine ⟨_, Loads.at [_] hst rfl, ?_⟩ | refine ⟨_, Loads.atA (ptrCells _ _ _ _) [_] hst (ptr_len hS _ _ _) (ptr_all _ _ _ _), ?_⟩ | refine ⟨_, Loads.at [_, _] hst rfl, ?_⟩ | refine ⟨_, Loads.at [_, _, _] hst rfl, ?_⟩ | refine ⟨_, Loads.at [_] hst106 rfl, ?_⟩ | refine ⟨_, Loads.atA (ptrCells _ _ _ _) [_] hst106 (ptr_len hS _ _ _) (ptr_all _ _ _ _), ?_⟩ | refine ⟨_, Loads.at [_, _] hst106 rfl, ?_⟩ | refine ⟨_, Loads.at [_, _, _] hst106 rfl, ?_⟩ | refine ⟨_, Loads.at [_] hst107 rfl, ?_⟩ | refine ⟨_, Loads.atA (ptrCells _ _ _ _) [_] hst107 (ptr_len hS _ _ _) (ptr_all _ _ _ _), ?_⟩ | refine ⟨_, Loads.at [_, _] hst107 rfl, ?_⟩ | refine ⟨_, Loads.at [_, _, _] hst107 rfl, ?_⟩ | refine ⟨_, Loads.at [_] hst108 rfl, ?_⟩ | refine ⟨_, Loads.atA (ptrCells _ _ _ _) [_] hst108 (ptr_len hS _ _ _) (ptr_all _ _ _ _), ?_⟩ | refine ⟨_, Loads.at [_, _] hst108 rfl, ?_⟩ | refine ⟨_, Loads.at [_, _, _] hst108 rfl, ?_⟩) | (go_at_call 52; refine (refBytes_no ao3 k c3 (rAddrs bs 3) _ _ _ _ hS (Rd.row hst (.head _)) HR.out hc).mono ?_; rintro _ _ ⟨rfl, h4⟩; have hst106 := St.call0 hst h4; clear h4 hst) | (refine wl_build0 rfl rfl ?_) | (refine wl_storeA [_, _, _] hst106 rfl rfl rfl rfl (rfl) (rfl) (rfl) ?_; intro _ hst107; clear hst106) | (refine wl_storeA [_, _] hst107 rfl rfl rfl rfl (rfl) (rfl) (rfl) ?_; intro _ hst108; clear hst107))
              have hl1 := Loads.atA (P := Try.prog) (off := 0) (T := 45) (ptrCells (.slice none 0 0) 0 0 nones) [_, _, _] hst108 rfl rfl
              have hl2 := Loads.atA (P := Try.prog) (off := 0) (T := 33) [.int .i64 2, .int .i64 0] [_, _] hst108 rfl rfl
              refine bodyPost_ret (results_cell2L rfl rfl rfl hl1 hl2) rfl ?_
              unfold readOut
              rw [if_neg (by simp [rOK, hc])]
              exact ⟨by rw [rErr, rAt, if_pos Hn.out, if_pos Hn.out], hst108.nil⟩
      · have d2 : decide ((k : Int) < many) = false := by simp; omega
        clear hgo
        go_wp2_with (first | go_big_skip | go_big_guard | fail)
        go_loopw [6] (fun i wr => ∃ j : Nat, j ≤ 32 ∧ i = .int .i64 j ∧ St w [] wr [.row v3 98 2 k (addrsV (rAddrs bs 3)), .blk gp 45 (ptrCells v3 (rBirth bs) (rLevel bs) (sumTo bs j)), .blk gf 33 [.int .i64 0, .int .i64 0], .blk g0 45 (ptrCells (.slice none 0 0) 0 0 nones)]) (fun i _ => 32 - (intOf i).toNat)
        case atStart => exact ⟨0, by omega, rfl, hst⟩
        case round =>
          clear hst d0
          obtain ⟨j, hj, rfl, hst⟩ := hrel
          by_cases hj2 : j < 32
          · have hc := byte_cell hr0 (k := 15 + j) (by rw [Hn.out]; omega)
            obtain ⟨y, hy⟩ : ∃ y, y = bs.getD (15 + j) 0 := ⟨_, rfl⟩
            rw [← hy] at hc
            have HC := hid hc
            have HY := hid hy
            clear hc hy
            go_wp2_with (first | go_big_skip | go_big_guard | (refine wl_loadE rfl rfl rfl ?_; refine ⟨_, Loads.old hst HC.out, ?_⟩) | (refine wl_store [_] hst rfl rfl rfl (v := .int _ _) rfl rfl rfl (by simp [Value.cells, ptrCells, len_sumTo Hn.out hj]; omega) ?_; intro w20 hst20; clear hst))
            have hput := sumTo_put Hn.out hj2 v3 (rBirth bs) (rLevel bs)
            rw [← HY.out] at hput
            have hst21 : St w [] w20 [.row v3 98 2 k (addrsV (rAddrs bs 3)), .blk gp 45 (ptrCells v3 (rBirth bs) (rLevel bs) (sumTo bs (j + 1))), .blk gf 33 [.int .i64 0, .int .i64 0], .blk g0 45 (ptrCells (.slice none 0 0) 0 0 nones)] := by
              rw [← hput]; exact hst20
            clear hst20 hput
            go_roundw
            case rel => exact ⟨j + 1, by omega, by go_num, hst21⟩
            case measure => simp [intOf]; omega
          · have ej : j = 32 := by omega
            subst ej
            clear hj hj2
            have hS : L32 (rSum bs) := rSum_len Hn.out
            rw [sumTo_all Hn.out] at hst
            obtain ⟨ao3, c3, rfl⟩ := St.rowSliceAt [] hst
            by_cases hc : checkB (rAddrs bs 3) (rBirth bs) (rLevel bs) (rSum bs) = true
            · by_cases hq : (bytesP (rAddrs bs 3) (rBirth bs) (rLevel bs) (rSum bs) == bs) = true
              · have hq' := hq
                go_wp2_with (first | go_big_skip | go_big_guard | (refine wl_loadE rfl rfl rfl ?_; first | refine ⟨_, Loads.at [_] hst rfl, ?_⟩ | refine ⟨_, Loads.atA (ptrCells _ _ _ _) [_] hst (ptr_len hS _ _ _) (ptr_all _ _ _ _), ?_⟩ | refine ⟨_, Loads.at [_, _] hst rfl, ?_⟩ | refine ⟨_, Loads.at [_, _, _] hst rfl, ?_⟩ | refine ⟨_, Loads.at [_, _] hst109 rfl, ?_⟩ | refine ⟨_, Loads.atA (ptrCells _ _ _ _) [_, _] hst109 (ptr_len hS _ _ _) (ptr_all _ _ _ _), ?_⟩ | refine ⟨_, Loads.at [_, _, _] hst109 rfl, ?_⟩ | refine ⟨_, Loads.at [_, _, _, _] hst109 rfl, ?_⟩ | refine ⟨_, Loads.at [_, _] hst110 rfl, ?_⟩ | refine ⟨_, Loads.atA (ptrCells _ _ _ _) [_, _] hst110 (ptr_len hS _ _ _) (ptr_all _ _ _ _), ?_⟩ | refine ⟨_, Loads.at [_, _, _] hst110 rfl, ?_⟩ | refine ⟨_, Loads.at [_, _, _, _] hst110 rfl, ?_⟩ | refine ⟨_, Loads.atA (ptrCells _ _ _ _) [_, _, _, _] hst110 (ptr_len hS _ _ _) (ptr_all _ _ _ _), ?_⟩ | refine ⟨_, Loads.at [_, _] hst111 rfl, ?_⟩ | refine ⟨_, Loads.atA (ptrCells _ _ _ _) [_, _] hst111 (ptr_len hS _ _ _) (ptr_all _ _ _ _), ?_⟩ | refine ⟨_, Loads.at [_, _, _] hst111 rfl, ?_⟩ | refine ⟨_, Loads.at [_, _, _, _] hst111 rfl, ?_⟩ | refine ⟨_, Loads.atA (ptrCells _ _ _ _) [_, _, _, _] hst111 (ptr_len hS _ _ _) (ptr_all _ _ _ _), ?_⟩) | (go_at_call 52; refine (refBytes_ok ao3 k c3 (rAddrs bs 3) _ _ _ _ hS (Rd.row hst (.head _)) HR.out hc).mono ?_; rintro _ _ ⟨u, rfl, h4⟩; have hst109 := St.call hst h4; clear h4 hst) | (refine wl_bytes_string rfl rfl rfl (Rd.row hst109 (.head _)) ?_) | (refine wl_bytes_string rfl rfl rfl (Rd.old hst109 hA) ?_) | (refine wl_storeA [_, _, _, _] hst109 rfl rfl rfl rfl (ptr_len hS _ _ _) (ptr_ones _ _ _ _ _ _) (rfl) ?_; intro _ hst110; clear hst109) | (refine wl_storeA [_, _, _] hst110 rfl rfl rfl rfl (rfl) (rfl) (rfl) ?_; intro _ hst111; clear hst110))
                have hl1 := Loads.atA (P := Try.prog) (off := 0) (T := 45) (ptrCells (.slice ao3 k c3) (rBirth bs) (rLevel bs) (rSum bs)) [_, _, _, _] hst111 (ptr_len hS _ _ _) (ptr_all _ _ _ _)
                have hl2 := Loads.atA (P := Try.prog) (off := 0) (T := 33) [.int .i64 0, .int .i64 0] [_, _, _] hst111 rfl rfl
                refine bodyPost_ret (results_cell2L rfl rfl rfl hl1 hl2) rfl ?_
                unfold readOut
                rw [if_pos (by simp [rOK, hc, hq, Hn.out])]
                exact ⟨ao3, k, c3, rfl, hst111.sub (L' := [.row (.slice ao3 k c3) 98 2 k (addrsV (rAddrs bs 3))]) (.cons _ (List.Sublist.cons_cons _ (List.nil_sublist _))), HR.out⟩
              · replace hq : (bytesP (rAddrs bs 3) (rBirth bs) (rLevel bs) (rSum bs) == bs) = false := Bool.eq_false_iff.2 hq
                go_wp2_with (first | go_big_skip | go_big_guard | (refine wl_loadE rfl rfl rfl ?_; first | refine ⟨_, Loads.at [_] hst rfl, ?_⟩ | refine ⟨_, Loads.atA (ptrCells _ _ _ _) [_] hst (ptr_len hS _ _ _) (ptr_all _ _ _ _), ?_⟩ | refine ⟨_, Loads.at [_, _] hst rfl, ?_⟩ | refine ⟨_, Loads.at [_, _, _] hst rfl, ?_⟩ | refine ⟨_, Loads.at [_, _] hst112 rfl, ?_⟩ | refine ⟨_, Loads.atA (ptrCells _ _ _ _) [_, _] hst112 (ptr_len hS _ _ _) (ptr_all _ _ _ _), ?_⟩ | refine ⟨_, Loads.at [_, _, _] hst112 rfl, ?_⟩ | refine ⟨_, Loads.at [_, _, _, _] hst112 rfl, ?_⟩ | refine ⟨_, Loads.at [_, _] hst113 rfl, ?_⟩ | refine ⟨_, Loads.atA (ptrCells _ _ _ _) [_, _] hst113 (ptr_len hS _ _ _) (ptr_all _ _ _ _), ?_⟩ | refine ⟨_, Loads.at [_, _, _] hst113 rfl, ?_⟩ | refine ⟨_, Loads.at [_, _, _, _] hst113 rfl, ?_⟩ | refine ⟨_, Loads.at [_, _] hst114 rfl, ?_⟩ | refine ⟨_, Loads.atA (ptrCells _ _ _ _) [_, _] hst114 (ptr_len hS _ _ _) (ptr_all _ _ _ _), ?_⟩ | refine ⟨_, Loads.at [_, _, _] hst114 rfl, ?_⟩ | refine ⟨_, Loads.at [_, _, _, _] hst114 rfl, ?_⟩) | (go_at_call 52; refine (refBytes_ok ao3 k c3 (rAddrs bs 3) _ _ _ _ hS (Rd.row hst (.head _)) HR.out hc).mono ?_; rintro _ _ ⟨u, rfl, h4⟩; have hst112 := St.call hst h4; clear h4 hst) | (refine wl_bytes_string rfl rfl rfl (Rd.row hst112 (.head _)) ?_) | (refine wl_bytes_string rfl rfl rfl (Rd.old hst112 hA) ?_) | (refine wl_build0 rfl rfl ?_) | (refine wl_storeA [_, _, _, _] hst112 rfl rfl rfl rfl (rfl) (rfl) (rfl) ?_; intro _ hst113; clear hst112) | (refine wl_storeA [_, _, _] hst113 rfl rfl rfl rfl (rfl) (rfl) (rfl) ?_; intro _ hst114; clear hst113))
                have hl1 := Loads.atA (P := Try.prog) (off := 0) (T := 45) (ptrCells (.slice none 0 0) 0 0 nones) [_, _, _, _] hst114 rfl rfl
                have hl2 := Loads.atA (P := Try.prog) (off := 0) (T := 33) [.int .i64 2, .int .i64 0] [_, _, _] hst114 rfl rfl
                refine bodyPost_ret (results_cell2L rfl rfl rfl hl1 hl2) rfl ?_
                unfold readOut
                rw [if_neg (by simp [rOK, hq])]
                exact ⟨by rw [rErr, rAt, if_pos Hn.out, if_pos Hn.out], hst114.nil⟩
            · replace hc : checkB (rAddrs bs 3) (rBirth bs) (rLevel bs) (rSum bs) = false := Bool.eq_false_iff.2 hc
              go_wp2_with (first | go_big_skip | go_big_guard | (refine wl_loadE rfl rfl rfl ?_; first | refine ⟨_, Loads.at [_] hst rfl, ?_⟩ | refine ⟨_, Loads.atA (ptrCells _ _ _ _) [_] hst (ptr_len hS _ _ _) (ptr_all _ _ _ _), ?_⟩ | refine ⟨_, Loads.at [_, _] hst rfl, ?_⟩ | refine ⟨_, Loads.at [_, _, _] hst rfl, ?_⟩ | refine ⟨_, Loads.at [_] hst115 rfl, ?_⟩ | refine ⟨_, Loads.atA (ptrCells _ _ _ _) [_] hst115 (ptr_len hS _ _ _) (ptr_all _ _ _ _), ?_⟩ | refine ⟨_, Loads.at [_, _] hst115 rfl, ?_⟩ | refine ⟨_, Loads.at [_, _, _] hst115 rfl, ?_⟩ | refine ⟨_, Loads.at [_] hst116 rfl, ?_⟩ | refine ⟨_, Loads.atA (ptrCells _ _ _ _) [_] hst116 (ptr_len hS _ _ _) (ptr_all _ _ _ _), ?_⟩ | refine ⟨_, Loads.at [_, _] hst116 rfl, ?_⟩ | refine ⟨_, Loads.at [_, _, _] hst116 rfl, ?_⟩ | refine ⟨_, Loads.at [_] hst117 rfl, ?_⟩ | refine ⟨_, Loads.atA (ptrCells _ _ _ _) [_] hst117 (ptr_len hS _ _ _) (ptr_all _ _ _ _), ?_⟩ | refine ⟨_, Loads.at [_, _] hst117 rfl, ?_⟩ | refine ⟨_, Loads.at [_, _, _] hst117 rfl, ?_⟩) | (go_at_call 52; refine (refBytes_no ao3 k c3 (rAddrs bs 3) _ _ _ _ hS (Rd.row hst (.head _)) HR.out hc).mono ?_; rintro _ _ ⟨rfl, h4⟩; have hst115 := St.call0 hst h4; clear h4 hst) | (refine wl_build0 rfl rfl ?_) | (refine wl_storeA [_, _, _] hst115 rfl rfl rfl rfl (rfl) (rfl) (rfl) ?_; intro _ hst116; clear hst115) | (refine wl_storeA [_, _] hst116 rfl rfl rfl rfl (rfl) (rfl) (rfl) ?_; intro _ hst117; clear hst116))
              have hl1 := Loads.atA (P := Try.prog) (off := 0) (T := 45) (ptrCells (.slice none 0 0) 0 0 nones) [_, _, _] hst117 rfl rfl
              have hl2 := Loads.atA (P := Try.prog) (off := 0) (T := 33) [.int .i64 2, .int .i64 0] [_, _] hst117 rfl rfl
              refine bodyPost_ret (results_cell2L rfl rfl rfl hl1 hl2) rfl ?_
              unfold readOut
              rw [if_neg (by simp [rOK, hc])]
              exact ⟨by rw [rErr, rAt, if_pos Hn.out, if_pos Hn.out], hst117.nil⟩
end Go.Proofs.Ytkpkaoiafppimaa
namespace Go.Proofs.Ytkpkaoiafppimaa
set_option linter.unusedVariables false
set_option linter.unusedSimpArgs false
open Go.RowKit Hp
attribute [local irreducible] Go.Calls
set_option maxHeartbeats 1000000
theorem Read_any (ao : Option Addr) (n c : Nat) (bs : List UInt8) (w : World) (hA : Rd w (.slice ao n c) 1 n (bytesV bs)) (hn : bs.length = n) :
    Calls Try.prog 64 #[.slice ao n c] w (readOut bs w 98) := by
  have hmf : ∀ (fn : Fn) (first cap : Array Value) (w : World), (Instr.makeFunc fn first cap).run Try.prog w = .ok (.func fn first cap) w := fun _ _ _ _ => rfl
  have hst := St.refl w
  have Hn := hid hn; clear hn
  by_cases hok : rOK bs = true
  · have hS := rSum_len (rOK_len hok)
    go_enter_defers Try.func64, Try.ntmps64
    go_wp2_with (first | go_big_skip | go_big_guard | (refine wl_alloc hst rfl rfl ?_; intro g0 w1 hst1; clear hst) | (refine wl_alloc hst1 rfl rfl ?_; intro g1 w2 hst2; clear hst1) | (go_at_call 89; refine (read_any ao n c bs _ (Rd.old hst2 hA) Hn.out).mono ?_; rintro _ _ hr; obtain ⟨ao3, m3, c3, rfl, h3, hl3⟩ := readEnd.ok hok hr; clear hr; have hst3 := St.call hst2 h3; clear h3) | (refine wl_storeA [_, _] hst3 rfl rfl rfl rfl (ptr_len hS _ _ _) (ptr_ones _ _ _ _ _ _) (rfl) ?_; intro w4 hst4; clear hst3) | (refine wl_storeA [_] hst4 rfl rfl rfl rfl (rfl) (rfl) (rfl) ?_; intro w5 hst5; clear hst4))
    refine leaves_cons (f := 88) (args := #[.pointer (some ⟨g0, 0, none⟩), .pointer (some ⟨g1, 0, none⟩)]) (by simp) (by simp [go_sem]) ?_
    refine (catch_idle _ _ _).mono ?_
    rintro e u' w'' ⟨rfl, rfl, rfl⟩
    have hl := Loads.atA (P := Try.prog) (off := 0) (T := 45) (ptrCells (.slice ao3 m3 c3) (rBirth bs) (rLevel bs) (rSum bs)) [_, _] hst5 (ptr_len hS _ _ _) (ptr_all _ _ _ _)
    have hk := Loads.atA (P := Try.prog) (off := 0) (T := 33) [.int .i64 0, .int .i64 0] [_] hst5 rfl rfl
    refine ⟨_, results_cell2L rfl rfl rfl hl hk, ?_⟩
    unfold readOut
    rw [if_pos hok]
    exact ⟨ao3, m3, c3, rfl, St.sub (L := [_, _, _]) hst5 (List.Sublist.cons_cons _ (List.nil_sublist _)), hl3⟩
  · have hno : rOK bs = false := Bool.eq_false_iff.2 hok
    go_enter_defers Try.func64, Try.ntmps64
    go_wp2_with (first | go_big_skip | go_big_guard | (refine wl_alloc hst rfl rfl ?_; intro g0 w1 hst1; clear hst) | (refine wl_alloc hst1 rfl rfl ?_; intro g1 w2 hst2; clear hst1) | (go_at_call 89; refine (read_any ao n c bs _ (Rd.old hst2 hA) Hn.out).mono ?_; rintro _ _ hr; obtain ⟨rfl, h3⟩ := readEnd.no hno hr; clear hr; have hst3 := St.call0 hst2 h3; clear h3))
    refine leaves_cons (f := 88) (args := #[.pointer (some ⟨g0, 0, none⟩), .pointer (some ⟨g1, 0, none⟩)]) (by simp) (by simp [go_sem]) ?_
    have hst4 := St.perm hst3 (List.Perm.swap _ _ _)
    refine (catch_wrong [] g0 g1 (rErr bs) (rAt bs) _ _ w _ [] [] hst4 rfl rfl).mono ?_
    rintro e u' w'' ⟨rfl, rfl, hst5⟩
    have hl := Loads.atA (P := Try.prog) (off := 0) (T := 45) (ptrCells (.slice none 0 0) 0 0 nones) [] hst5 rfl rfl
    have hk := Loads.atA (P := Try.prog) (off := 0) (T := 33) [.int .i64 (rErr bs), .int .i64 (rAt bs)] [_] hst5 rfl rfl
    have hr := results_cell2L (P := Try.prog) (fn := Try.f64) (tmps := #[.slice ao n c, undef, .pointer (some ⟨g0, 0, none⟩), .pointer (some ⟨g1, 0, none⟩), .func (.func 88) #[] #[.pointer (some ⟨g0, 0, none⟩), .pointer (some ⟨g1, 0, none⟩)], .slice ao n c, undef, undef]) rfl rfl rfl hl hk
    have hq : readOut bs w 98 (.returned (.tuple #[.agg (ptrCells (.slice none 0 0) 0 0 nones).toArray, .agg #[.int .i64 (rErr bs), .int .i64 (rAt bs)]])) w'' := by
      unfold readOut
      rw [hno, if_neg (by decide)]
      exact ⟨rfl, hst5.nil⟩
    simp [Leaves, settle]
    exact ⟨_, hr, hq⟩
end Go.Proofs.Ytkpkaoiafppimaa
namespace Go.Proofs.Ytkpkaoiafppimaa
set_option linter.unusedVariables false
set_option linter.unusedSimpArgs false
open Go.RowKit Hp
set_option maxHeartbeats 400000
section
variable (ao ao' : Option Addr) (n c n' c' : Nat) (l r : List (Int × Int)) (b v b' v' : Int) (S S' : List UInt8) (w : World) (hS : L32 S) (hS' : L32 S')
  (hA : Rd w (.slice ao n c) 2 n (addrsV l)) (hn : l.length = n) (hB : Rd w (.slice ao' n' c') 2 n' (addrsV r)) (hn' : r.length = n')
include hS hS' hA hn hB hn'
theorem same_any :
    Calls Try.prog 59 #[.agg (ptrCells (.slice ao n c) b v S).toArray, .agg (ptrCells (.slice ao' n' c') b' v' S').toArray] w fun e w' => e = .returned (.bool (sameB l r b v b' v' S S')) ∧ St w [] w' [] := by
  have Hn := hid hn; clear hn
  have Hn' := hid hn'; clear hn'
  go_enter Try.func59, Try.ntmps59
  have hst := St.refl w
  go_wp2_with (first | go_big_skip | go_big_guard | (refine wl_boxA hst rfl rfl rfl ?_; intro g w1 hst1; clear hst) | (refine wl_boxA hst1 rfl rfl rfl ?_; intro g2 w2 hst2; clear hst1) | (refine wl_loadE rfl rfl rfl ?_; first | refine ⟨_, Loads.at [] hst2 rfl, ?_⟩ | refine ⟨_, Loads.at [_] hst2 rfl, ?_⟩ | refine ⟨_, Loads.atA (ptrCells (.slice ao' n' c') b' v' S') [] hst2 (ptr_len hS' _ _ _) (ptr_all _ _ _ _), ?_⟩ | refine ⟨_, Loads.atA (ptrCells (.slice ao n c) b v S) [_] hst2 (ptr_len hS _ _ _) (ptr_all _ _ _ _), ?_⟩) | (go_at_call 85; refine (like_any _ _ _ _ _ _ _ _ _ _ _ _ _ hS hS').mono ?_; rintro _ _ ⟨rfl, hcall⟩; replace hst2 := St.call0 hst2 hcall; clear hcall) | (go_at_call 86; refine (eqAddrs_any _ _ _ _ _ _ l r _ (Rd.old hst2 hA) Hn.out (Rd.old hst2 hB) Hn'.out).mono ?_; rintro _ _ ⟨rfl, hcall⟩; replace hst2 := St.call0 hst2 hcall; clear hcall))
  all_goals (go_ret; exact ⟨ret_bool (by have := Hn.out; have := Hn'.out; rw [← sameB_eq]; grind), hst2.nil⟩)
theorem samePointer_any :
    Calls Try.prog 67 #[.agg (ptrCells (.slice ao n c) b v S).toArray, .agg (ptrCells (.slice ao' n' c') b' v' S').toArray] w fun e w' => e = .returned (.bool (sameB l r b v b' v' S S')) ∧ St w [] w' [] := by
  have Hn := hid hn; clear hn
  have Hn' := hid hn'; clear hn'
  go_enter Try.func67, Try.ntmps67
  have hst := St.refl w
  go_wp2_with (first | go_big_skip | go_big_guard | (refine wl_boxA hst rfl rfl rfl ?_; intro g w1 hst1; clear hst) | (refine wl_boxA hst1 rfl rfl rfl ?_; intro g2 w2 hst2; clear hst1) | (refine wl_loadE rfl rfl rfl ?_; first | refine ⟨_, Loads.at [] hst2 rfl, ?_⟩ | refine ⟨_, Loads.at [_] hst2 rfl, ?_⟩ | refine ⟨_, Loads.atA (bytesV S') [] hst2 (hS'.v) (ptr_sum _ _ _ _), ?_⟩ | refine ⟨_, Loads.atA (bytesV S) [_] hst2 (hS.v) (ptr_sum _ _ _ _), ?_⟩) | (go_at_call 90; refine (sameAddrs_any _ _ _ _ _ _ l r _ (Rd.old hst2 hA) Hn.out (Rd.old hst2 hB) Hn'.out).mono ?_; rintro _ _ ⟨rfl, hcall⟩; replace hst2 := St.call0 hst2 hcall; clear hcall) | (refine wl_eql_bytes rfl rfl rfl rfl (hS.two hS') ?_))
  all_goals (go_ret; exact ⟨ret_bool (by unfold sameB; grind), hst2.nil⟩)
set_option maxHeartbeats 800000 in
theorem refSame_any :
    Calls Try.prog 87 #[.agg (ptrCells (.slice ao n c) b v S).toArray, .agg (ptrCells (.slice ao' n' c') b' v' S').toArray] w fun e w' => e = .returned (.bool (sameB l r b v b' v' S S')) ∧ St w [] w' [] := by
  have Hn := hid hn; clear hn
  have Hn' := hid hn'; clear hn'
  have hbd1 := hA.bd.1
  have hbd2 := hA.bd.2.1
  go_enter Try.func87, Try.ntmps87
  have hst := St.refl w
  go_wp2_with (first | go_big_skip | go_big_guard | (refine wl_boxA hst rfl rfl rfl ?_; intro g w1 hst1; clear hst) | (refine wl_boxA hst1 rfl rfl rfl ?_; intro g2 w2 hst2; clear hst1) | (refine wl_loadE rfl rfl rfl ?_; first | refine ⟨_, Loads.at [] hst2 rfl, ?_⟩ | refine ⟨_, Loads.at [_] hst2 rfl, ?_⟩ | refine ⟨_, Loads.atA (ptrCells (.slice ao' n' c') b' v' S') [] hst2 (ptr_len hS' _ _ _) (ptr_all _ _ _ _), ?_⟩ | refine ⟨_, Loads.atA (ptrCells (.slice ao n c) b v S) [_] hst2 (ptr_len hS _ _ _) (ptr_all _ _ _ _), ?_⟩) | (go_at_call 102; refine (refLike_any _ _ _ _ _ _ _ _ _ _ _ _ _ hS hS').mono ?_; rintro _ _ ⟨rfl, hcall⟩; replace hst2 := St.call0 hst2 hcall; clear hcall))
  all_goals first
    | (go_ret; exact ⟨ret_bool (by have := Hn.out; have := Hn'.out; rw [← sameB_eq]; grind), hst2.nil⟩)
    | skip
  have hnn : n = n' := by grind
  have hlike : Hid (likeB n n' b v b' v' S S' = true) := by assumption
  subst hnn
  go_loopw [5] (fun i wr => ∃ k : Nat, k ≤ n ∧ i = .int .i64 k ∧ Hid (∀ q, q < k → l.getD q (0, 0) = r.getD q (0, 0)) ∧ St w [] wr [.blk g2 45 (ptrCells (.slice ao' n c') b' v' S'), .blk g 45 (ptrCells (.slice ao n c) b v S)]) (fun i _ => n - (intOf i).toNat)
  case atStart => exact ⟨0, Nat.zero_le _, rfl, hid (fun q hq => by omega), hst2⟩
  case round =>
    obtain ⟨k, hk, rfl, hq, hst3⟩ := hrel
    clear hst2
    have hs1 := hst3.cell (g := g) (off := 0) (.tail _ (.head _)) rfl
    have hs2 := hst3.cell (g := g2) (off := 0) (.head _) rfl
    by_cases hlt : k < n
    · obtain ⟨bb, off, rfl, hr⟩ := hA.at hlt
      obtain ⟨bb', off', rfl, hr'⟩ := hB.at hlt
      obtain ⟨x, hx⟩ : ∃ x, x = l.getD k (0, 0) := ⟨_, rfl⟩
      obtain ⟨y, hy⟩ : ∃ y, y = r.getD k (0, 0) := ⟨_, rfl⟩
      have hc1 := hst3.old_cell (addr_dev hr (k := k) (by rw [Hn.out]; omega)) (by simp)
      have hc2 := hst3.old_cell (addr_at hr (k := k) (by rw [Hn.out]; omega)) (by simp)
      have hc3 := hst3.old_cell (addr_dev hr' (k := k) (by rw [Hn'.out]; omega)) (by simp)
      have hc4 := hst3.old_cell (addr_at hr' (k := k) (by rw [Hn'.out]; omega)) (by simp)
      rw [← hx] at hc1 hc2
      rw [← hy] at hc3 hc4
      have Hx := hid hx; clear hx
      have Hy := hid hy; clear hy
      go_wp2_with (first | go_big_skip | go_big_guard | fail)
      go_quiet (fail)
      go_wp2_with (first | go_big_skip | go_big_guard | fail)
      · go_ret
        exact ⟨ret_bool (by unfold sameB; rw [addrs_ne (q := k) (by rw [← Hx.out, ← Hy.out]; exact pair_ne (by assumption))]; rfl), (hst3.drewN _).nil⟩
      · go_roundw
        case rel =>
          refine ⟨k + 1, by omega, by go_num, hid (fun q hqk => ?_), hst3.drewN _⟩
          rcases Nat.lt_or_eq_of_le (Nat.le_of_lt_succ hqk) with h | rfl
          · exact hq.out q h
          · rw [← Hx.out, ← Hy.out]; exact pair_ext (by assumption)
        case measure => simp [intOf]; omega
    · have hkn : k = n := by omega
      have hall := hid (addrs_ext (l := l) (k := r) (by rw [Hn.out, Hn'.out]) (fun q hql => hq.out q (by rw [Hn.out] at hql; omega)))
      go_wp2_with (first | go_big_skip | go_big_guard | fail)
      go_ret
      exact ⟨ret_bool (by rw [← sameB_eq, Hn.out, Hn'.out, hlike.out, hall.out]; simp), hst3.nil⟩
end
end Go.Proofs.Ytkpkaoiafppimaa
namespace Go.Proofs.Ytkpkaoiafppimaa
set_option linter.unusedVariables false
set_option linter.unusedSimpArgs false
open Go.RowKit Hp
attribute [local irreducible] Go.Calls
set_option maxHeartbeats 1000000
def sampleA : List (Int × Int) := [(1, 5), (0, 300)]
theorem make_no : rOK (List.replicate 46 0) = false := by simp [rOK]
def sampleB : List UInt8 := [2, 1, 0, 5, 0, 1, 44, 0, 0, 0, 0, 0, 0, 7, 2] ++ List.replicate 32 0
theorem sample_bytes : bytesP sampleA 7 2 nones = sampleB := by decide
end Go.Proofs.Ytkpkaoiafppimaa
namespace Go.Proofs.Ytkpkaoiafppimaa
set_option linter.unusedVariables false
set_option linter.unusedSimpArgs false
open Go.RowKit Hp
attribute [local go_sem ↓] Go.wp_at_zero Go.wp_at_succ
attribute [local irreducible] Go.Calls
set_option maxHeartbeats 2000000
theorem hole_bytes : bytesP [] 0 0 nones = List.replicate 47 0 := by decide
theorem make48_no : rOK (List.replicate 48 0) = false := by simp [rOK]
theorem one_no : rOK (1 :: List.replicate 46 0) = false := by decide
theorem storedA (A : Addr) (v : Value) : storeVar 98 A v = storeVarH 98 A v := rfl
attribute [local go_sem ↓] storedA
end Go.Proofs.Ytkpkaoiafppimaa
namespace Go.Proofs.Ytkpkaoiafppimaa
set_option linter.unusedVariables false
set_option linter.unusedSimpArgs false
open Go.RowKit Hp
attribute [local go_sem ↓] Go.wp_at_zero Go.wp_at_succ
attribute [local irreducible] Go.Calls
set_option maxHeartbeats 2000000
theorem Read_back (ao : Option Addr) (n c : Nat) (l : List (Int × Int)) (b v : Int) (S : List UInt8) (w : World) (hS : L32 S) (hc : checkB l b v S = true) (hA : Rd w (.slice ao n c) 1 n (bytesV (bytesP l b v S))) (hn : (bytesP l b v S).length = n) :
    Calls Try.prog 64 #[.slice ao n c] w fun e w' => ∃ ao' n' c', e = .returned (.tuple #[.agg (ptrCells (.slice ao' n' c') b v S).toArray, .agg #[.int .i64 0, .int .i64 0]]) ∧ St w [] w' [.row (.slice ao' n' c') 98 2 n' (addrsV l)] ∧ l.length = n' := by
  refine (Read_any ao n c _ w hA hn).mono ?_
  intro e w' hr
  obtain ⟨ao', n', c', h1, h2, h3⟩ := readOut.ok (rOK_bytes hc hS) hr
  obtain ⟨k1, k2, k3, k4⟩ := read_bytes (S := S) hc
  rw [k1] at h2 h3
  rw [k2, k3, k4] at h1
  exact ⟨ao', n', c', h1, h2, h3⟩
theorem nat0 (n : Nat) : (true && (decide (n = 0) == ((n : Int) == 0))) = true := by
  rw [Bool.true_and, beq_iff_eq, Bool.eq_iff_iff]; simp
theorem loadedP (A : Addr) : loadVar 45 A = loadVarH 45 A := rfl
theorem loadedL (A : Addr) : loadVar 41 A = loadVarH 41 A := rfl
section
variable (ao bo : Option Addr) (n c m d : Nat) (l : List (Int × Int)) (b v : Int) (S bs : List UInt8) (w : World) (hS : L32 S)
  (hA : Rd w (.slice ao n c) 2 n (addrsV l)) (hn : l.length = n) (hB : Rd w (.slice bo m d) 1 m (bytesV bs)) (hm : bs.length = m)
include hS hA hn hB hm
attribute [local go_sem ↓] loadedP loadedL
end
end Go.Proofs.Ytkpkaoiafppimaa
namespace Go.Proofs.Ytkpkaoiafppimaa
set_option linter.unusedVariables false
set_option linter.unusedSimpArgs false
open Go.RowKit Hp
attribute [local irreducible] Go.Calls
set_option maxHeartbeats 2000000
theorem PV.open {w : World} {p : PV} (h : p.In w) : ∃ ao n c, p.cells = ptrCells (.slice ao n c) p.b p.v p.S ∧ Rd w (.slice ao n c) 2 n (addrsV p.l) ∧ p.l.length = n := by
  obtain ⟨_, ao, n, c, e, h1, h2⟩ := h
  exact ⟨ao, n, c, by rw [PV.cells, e], h1, h2⟩
section
variable (p q : PV) (w : World) (hp : p.In w) (hq : q.In w)
include hp
theorem hole_pv : Calls Try.prog 91 #[.agg p.cells.toArray] w fun e w' => e = .returned (.bool p.hole) ∧ St w [] w' [] := by
  obtain ⟨ao, n, c, e, h1, h2⟩ := PV.open hp
  rw [e, PV.hole, h2]
  exact hole_any ao n c p.b p.v p.S w hp.1
theorem refHole_pv : Calls Try.prog 96 #[.agg p.cells.toArray] w fun e w' => e = .returned (.bool p.hole) ∧ St w [] w' [] := by
  obtain ⟨ao, n, c, e, h1, h2⟩ := PV.open hp
  rw [e, PV.hole, h2]
  exact refHole_any ao n c p.b p.v p.S w hp.1
theorem check_pv : Calls Try.prog 68 #[.agg p.cells.toArray] w fun e w' => e = .returned (.int .i64 (if p.ok then 0 else 2)) ∧ St w [] w' [] := by
  obtain ⟨ao, n, c, e, h1, h2⟩ := PV.open hp
  rw [e, PV.ok]
  exact check_any ao n c p.l p.b p.v p.S w hp.1 h1 h2
theorem refCheck_pv : Calls Try.prog 81 #[.agg p.cells.toArray] w fun e w' => e = .returned (.int .i64 (if p.ok then 0 else 2)) ∧ St w [] w' [] := by
  obtain ⟨ao, n, c, e, h1, h2⟩ := PV.open hp
  rw [e, PV.ok]
  exact refCheck_any ao n c p.l p.b p.v p.S w hp.1 h1 h2
theorem bytes_pv (hc : p.ok = true) : Calls Try.prog 41 #[.agg p.cells.toArray] w fun e w' => ∃ u, e = .returned (.tuple #[u, .int .i64 0]) ∧ St w [] w' [.row u 5 1 47 (bytesV p.bytes)] := by
  obtain ⟨ao, n, c, e, h1, h2⟩ := PV.open hp
  rw [e, PV.bytes]
  exact bytes_ok ao n c p.l p.b p.v p.S w hp.1 h1 h2 hc
theorem refBytes_pv (hc : p.ok = true) : Calls Try.prog 52 #[.agg p.cells.toArray] w fun e w' => ∃ u, e = .returned (.tuple #[u, .int .i64 0]) ∧ St w [] w' [.row u 5 1 47 (bytesV p.bytes)] := by
  obtain ⟨ao, n, c, e, h1, h2⟩ := PV.open hp
  rw [e, PV.bytes]
  exact refBytes_ok ao n c p.l p.b p.v p.S w hp.1 h1 h2 hc
include hq
theorem same_pv : Calls Try.prog 67 #[.agg p.cells.toArray, .agg q.cells.toArray] w fun e w' => e = .returned (.bool (p.same q)) ∧ St w [] w' [] := by
  obtain ⟨ao, n, c, e, h1, h2⟩ := PV.open hp
  obtain ⟨ao', n', c', e', h1', h2'⟩ := PV.open hq
  rw [e, e', PV.same]
  exact samePointer_any ao ao' n c n' c' p.l q.l p.b p.v q.b q.v p.S q.S w hp.1 hq.1 h1 h2 h1' h2'
end
theorem neg_true {b : Bool} (h : (!b) = true) : b = false := by simpa using h
theorem neg_false {b : Bool} (h : (!b) = false) : b = true := by simpa using h
theorem all_step {f : Nat → Bool} {k : Nat} (h : ∀ j, j < k → f j = true) (hk : f k = true) : ∀ j, j < k + 1 → f j = true := fun j hj => by
  by_cases e : j = k
  · rw [e]; exact hk
  · exact h j (by omega)
theorem all_step_no {f : Nat → Bool} {k : Nat} (h : ∀ j, j < k → f j = false) (hk : f k = false) : ∀ j, j < k + 1 → f j = false := fun j hj => by
  by_cases e : j = k
  · rw [e]; exact hk
  · exact h j (by omega)
end Go.Proofs.Ytkpkaoiafppimaa
