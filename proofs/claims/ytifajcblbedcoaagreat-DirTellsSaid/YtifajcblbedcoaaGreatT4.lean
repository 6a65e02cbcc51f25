import Derived.Test.YtifajcblbedcoaaGreatTy
namespace Go.Proofs.YtifajcblbedcoaaGreat
set_option linter.unusedVariables false
set_option linter.unusedSimpArgs false
open Go.RowKit Hp
set_option maxHeartbeats 400000
theorem sameAddrs_any (ao ao' : Option Addr) (n c n' c' : Nat) (l r : List (Int × Int)) (w : World) (hA : Rd w (.slice ao n c) 2 n (addrsV l)) (hn : l.length = n) (hB : Rd w (.slice ao' n' c') 2 n' (addrsV r)) (hn' : r.length = n') :
    Calls Tryz.prog 46 #[.slice ao n c, .slice ao' n' c'] w fun e w' => e = .returned (.bool (l == r)) ∧ St w [] w' [] := by
  have hbd1 := hA.bd.1
  have hbd2 := hA.bd.2.1
  have hbd3 := hB.bd.1
  have hbd4 := hB.bd.2.1
  have Hn := hid hn; clear hn
  have Hn' := hid hn'; clear hn'
  have hst := St.refl w
  by_cases hnn : n = n'
  rotate_left
  · have hne := hid (addrs_len_ne (l := l) (k := r) (by rw [Hn.out, Hn'.out]; exact hnn))
    go_enter Tryz.func46, Tryz.ntmps46
    go_wp2_with (first | go_big_skip | go_big_guard | fail)
    go_ret
    exact ⟨ret_bool hne.out.symm, hst⟩
  subst hnn
  go_enter Tryz.func46, Tryz.ntmps46
  go_wp2_with (first | go_big_skip | go_big_guard | fail)
  go_loopw [5] (fun i wr => ∃ k : Nat, k ≤ n ∧ i = .int .i64 k ∧ Hid (∀ q, q < k → l.getD q (0, 0) = r.getD q (0, 0)) ∧ St w [] wr []) (fun i _ => n - (intOf i).toNat)
  case atStart => exact ⟨0, Nat.zero_le _, rfl, hid (fun q hq => by omega), hst⟩
  case round =>
    obtain ⟨k, hk, rfl, hq, hst2⟩ := hrel
    clear hst
    by_cases hlt : k < n
    · obtain ⟨b, off, rfl, hr⟩ := hA.at hlt
      obtain ⟨b', off', rfl, hr'⟩ := hB.at hlt
      obtain ⟨x, hx⟩ : ∃ x, x = l.getD k (0, 0) := ⟨_, rfl⟩
      obtain ⟨y, hy⟩ : ∃ y, y = r.getD k (0, 0) := ⟨_, rfl⟩
      have hc1 := hst2.old_cell (addr_dev hr (k := k) (by rw [Hn.out]; omega)) (by simp)
      have hc2 := hst2.old_cell (addr_at hr (k := k) (by rw [Hn.out]; omega)) (by simp)
      have hc3 := hst2.old_cell (addr_dev hr' (k := k) (by rw [Hn'.out]; omega)) (by simp)
      have hc4 := hst2.old_cell (addr_at hr' (k := k) (by rw [Hn'.out]; omega)) (by simp)
      rw [← hx] at hc1 hc2
      rw [← hy] at hc3 hc4
      have Hx := hid hx; clear hx
      have Hy := hid hy; clear hy
      go_wp2_with (first | go_big_skip | go_big_guard | fail)
      go_quiet (fail)
      go_wp2_with (first | go_big_skip | go_big_guard | fail)
      · go_ret
        exact ⟨ret_bool (addrs_ne (q := k) (by rw [← Hx.out, ← Hy.out]; exact pair_ne (by assumption))).symm, hst2.drewN _⟩
      · go_roundw
        case rel =>
          refine ⟨k + 1, by omega, by go_num, hid (fun q hqk => ?_), hst2.drewN _⟩
          rcases Nat.lt_or_eq_of_le (Nat.le_of_lt_succ hqk) with h | rfl
          · exact hq.out q h
          · rw [← Hx.out, ← Hy.out]; exact pair_ext (by assumption)
        case measure => simp [intOf]; omega
    · have hkn : k = n := by omega
      have hall := hid (addrs_ext (l := l) (k := r) (by rw [Hn.out, Hn'.out]) (fun q hql => hq.out q (by rw [Hn.out] at hql; omega)))
      go_wp2_with (first | go_big_skip | go_big_guard | fail)
      go_ret
      exact ⟨ret_bool (by rw [hall.out]; simp), hst2⟩
end Go.Proofs.YtifajcblbedcoaaGreat
