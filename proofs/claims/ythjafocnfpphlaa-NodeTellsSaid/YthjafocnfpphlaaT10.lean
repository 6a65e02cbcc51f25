import Derived.Test.YthjafocnfpphlaaTy
import Derived.Test.YthjafocnfpphlaaNum
namespace Go.Proofs.Ythjafocnfpphlaa
open Go.RowKit Hp
attribute [local irreducible] Go.Calls
set_option maxHeartbeats 1000000
theorem cnum_any (g : Nat) (ao : Option Addr) (n c k : Nat) (bs : List UInt8) (w : World) (hg : w.heap[g]? = some (.cells #[.slice ao n c] 77 (0, 0))) (hA : Rd w (.slice ao n c) 1 n (bytesV bs)) (hn : bs.length = n) (hk : 1 ≤ k ∧ k ≤ 4 ∧ k ≤ n)
    (hne : ∀ b off, ao = some ⟨b, off, none⟩ → b ≠ g) :
    Calls Try.prog 63 #[.pointer (some ⟨g, 0, none⟩), .int .i64 k] w fun e w' => ∃ ao' c', e = .returned (.int .i64 (beN (bs.take k))) ∧ St w [g] w' [.blk g 77 [.slice ao' (n - k) c']] ∧
      (∀ wx, Rd wx (.slice ao n c) 1 n (bytesV bs) → Rd wx (.slice ao' (n - k) c') 1 (n - k) (bytesV (bs.drop k))) ∧ (∀ b off, ao' = some ⟨b, off, none⟩ → b ≠ g) := by
  have hst := St.one w g 77 [.slice ao n c] hg
  obtain ⟨hk1, hk2, hk3⟩ := hk
  have hbd1 := hA.bd.1
  have hbd2 := hA.bd.2.1
  obtain ⟨b, off, rfl, hr⟩ := hA.at (k := 0) (by omega)
  have hgb := hne b off rfl
  have Hn := hid hn; clear hn
  clear hg hne
  have hs0 := hst.cell (g := g) (off := 0) (.head _) rfl
  go_enter Try.func63, Try.ntmps63
  go_wp2_with (first | go_big_skip | go_big_guard | fail)
  go_loopw [5, 15] (fun v i wr => ∃ j : Nat, j ≤ k ∧ i = .int .i64 j ∧ v = .int .i64 (beN (bs.take j)) ∧ wr = w) (fun _ i _ => k - (intOf i).toNat)
  case atStart => exact ⟨0, Nat.zero_le _, rfl, by simp [beN], rfl⟩
  case round =>
    obtain ⟨j, hj, rfl, rfl, hwr⟩ := hrel
    subst hwr
    by_cases hlt : j < k
    · have hx := byte_cell hr (k := j) (by rw [Hn.out]; omega)
      have hsucc := beN_take_succ bs j (by rw [Hn.out]; omega)
      have hqlt := beN_lt (bs.take j)
      have hq3 : beN (bs.take j) < 16777216 := by
        refine Nat.lt_of_lt_of_le hqlt ?_
        have : (bs.take j).length ≤ 3 := by rw [List.length_take]; omega
        calc 256 ^ (bs.take j).length ≤ 256 ^ 3 := Nat.pow_le_pow_right (by decide) this
          _ = 16777216 := by decide
      obtain ⟨x, hxx⟩ : ∃ x, x = bs.getD j 0 := ⟨_, rfl⟩
      rw [← hxx] at hx hsucc
      obtain ⟨q, hqq⟩ : ∃ q, q = beN (bs.take j) := ⟨_, rfl⟩
      rw [← hqq] at hsucc hq3
      rw [← hqq]
      have Hs := hid hsucc
      clear hsucc hqq hxx hqlt
      have hxb := x.toNat_lt
      have hor := or256 q x.toNat (by omega) (by omega) (by omega) (by omega)
      go_wp2_with (first | go_big_skip | go_big_guard | fail)
      go_roundw
      case rel => exact ⟨j + 1, by omega, by go_num, by rw [Hs.out]; go_num, by first | rfl | trivial⟩
      case measure => simp [intOf]; omega
    · have hjk : j = k := by omega
      subst hjk
      by_cases hck : c = j
      · subst hck
        have hnc : n = c := by omega
        go_wp2_with (first | go_big_skip | go_big_guard | (refine wl_store [] hst rfl rfl rfl (v := .slice _ _ _) rfl rfl rfl ?_ ?_; (exact Nat.le_refl _); intro w2 hst2; clear hst; (simp [putAt] at hst2)))
        go_ret
        refine ⟨some ⟨b, off, none⟩, 0, rfl, by rw [show n - c = 0 by omega]; exact hst2, fun wx hx => ?_, fun b' off' hb' => ?_⟩
        · rw [show n - c = 0 by omega]; exact Rd.tailC hx hnc
        · simp only [Option.some.injEq, Addr.mk.injEq] at hb'; rw [← hb'.1]; exact hgb
      · go_wp2_with (first | go_big_skip | go_big_guard | (refine wl_store [] hst rfl rfl rfl (v := .slice _ _ _) rfl rfl rfl ?_ ?_; (exact Nat.le_refl _); intro w2 hst2; clear hst; (simp [putAt] at hst2)))
        go_ret
        refine ⟨_, _, rfl, hst2, fun wx hx => Rd.tail hx (by omega) (by omega), fun b' off' hb' => ?_⟩
        simp only [Option.some.injEq, Addr.mk.injEq] at hb'; rw [← hb'.1]; exact hgb
end Go.Proofs.Ythjafocnfpphlaa
