import Derived.Test.YthjafocnfpphlaaTy
import Derived.Test.YthjafocnfpphlaaNum
import Derived.Test.YthjafocnfpphlaaSepP
namespace Go.Proofs.Ythjafocnfpphlaa
open Go.RowKit Hp
set_option maxHeartbeats 400000
theorem isB_one (n : Int) : ([Value.int .u8 (n % 256)]).all isB = true := by
  simp [isB]; omega
theorem num_any (v : Value) (m : Nat) (n : Int) (k : Nat) (xs : List UInt8) (w : World) (hv : w.ownsRow 0 5 1 v m (bytesV xs)) (hp : AllP isB w v 5) (hk : k ≤ 8) (hm : m ≤ 100000) (hn : -9223372036854775808 ≤ n ∧ n ≤ 9223372036854775807) :
    Calls Try.prog 53 #[v, .int .i64 n, .int .i64 k] w fun e w' => ∃ v', e = .returned v' ∧ St w v.ownBlock.toList w' [.rowP isB v' 5 1 (m + k) (bytesV (xs ++ numB n k))] := by
  have hst := St.ofRowP w hv hp
  go_enter Try.func53, Try.ntmps53
  go_wp2_with (first | go_big_skip | go_big_guard | fail)
  go_loopw [0, 7] (fun u i wr => ∃ j : Nat, j ≤ k ∧ i = .int .i64 ((j : Int) - 1) ∧ St w v.ownBlock.toList wr [.rowP isB u 5 1 (m + (k - j)) (bytesV (xs ++ (numB n k).take (k - j)))]) (fun _ i _ => ((intOf i) + 1).toNat)
  case atStart => exact ⟨k, Nat.le_refl _, rfl, by simpa using hst⟩
  case round =>
    obtain ⟨j, hj, rfl, hst2⟩ := hrel
    clear hst
    by_cases hlt : 0 < j
    · go_wp2_with (first | go_big_skip | go_big_guard | (apply wl_bsX ([.int _ _]) ([.int _ _]) hst2; rfl; rfl; exact rfl; exact rfl; infer_instance; infer_instance; rfl; rfl; rfl; intro g w1 hst3; clear hst2) | (apply wl_appP [_] hst3; rfl; rfl; exact rfl; exact rfl; infer_instance; infer_instance; infer_instance; infer_instance; exact (Rd.blk0 hst3 rfl (by decide)); exact rfl; rfl; exact isB_one _; (unfold maxLen; omega); intro v4 w4 hst4 _; clear hst3))
      go_roundw
      case rel =>
        refine ⟨j - 1, by omega, by go_num, ?_⟩
        have h5 := hst4.sub (L' := [.rowP isB v4 5 1 (m + (k - j) + 1) (bytesV (xs ++ (numB n k).take (k - j)) ++ [.int .u8 (n / 2 ^ (8 * (j - 1)) % 256)])]) (List.sublist_append_right _ _)
        rw [byteV, show m + (k - j) + 1 = m + (k - (j - 1)) by omega] at h5
        rw [show k - (j - 1) = (k - j) + 1 by omega, numB_take _ _ _ (by omega), ← List.append_assoc, bytesV_append _ [_], show k - 1 - (k - j) = j - 1 by omega]
        rw [show k - (j - 1) = (k - j) + 1 by omega] at h5
        exact h5
      case measure => simp [intOf]; omega
    · have hj0 : j = 0 := by omega
      subst hj0
      go_wp2_with (first | go_big_skip | go_big_guard | fail)
      go_ret
      exact ⟨_, rfl, by simpa [length_numB, List.take_of_length_le] using hst2⟩
theorem num_k (v : Value) (m : Nat) (n s : Int) (k : Nat) (hs : s = (k : Int)) (xs : List UInt8) (w : World) (hv : w.ownsRow 0 5 1 v m (bytesV xs)) (hp : AllP isB w v 5) (hk : k ≤ 8) (hm : m ≤ 100000) (hn : -9223372036854775808 ≤ n ∧ n ≤ 9223372036854775807) :
    Calls Try.prog 53 #[v, .int .i64 n, .int .i64 s] w fun e w' => ∃ v', e = .returned v' ∧ St w v.ownBlock.toList w' [.rowP isB v' 5 1 (m + k) (bytesV (xs ++ numB n k))] := by
  subst hs
  exact num_any v m n k xs w hv hp hk hm hn
end Go.Proofs.Ythjafocnfpphlaa
