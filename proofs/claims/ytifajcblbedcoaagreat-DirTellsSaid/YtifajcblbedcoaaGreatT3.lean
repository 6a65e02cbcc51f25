import Derived.Test.YtifajcblbedcoaaGreatTy
namespace Go.Proofs.YtifajcblbedcoaaGreat
set_option linter.unusedVariables false
set_option linter.unusedSimpArgs false
open Go.RowKit Hp
set_option maxHeartbeats 400000
theorem refAddrs_any (ao : Option Addr) (n c : Nat) (l : List (Int × Int)) (w : World) (hA : Rd w (.slice ao n c) 2 n (addrsV l)) (hn : l.length = n) :
    Calls Tryz.prog 128 #[.slice ao n c] w fun e w' => e = .returned (.bool (mayB l)) ∧ St w [] w' [] := by
  have hbd := hA.bd
  have hbd1 := hbd.1
  have hbd2 := hbd.2.1
  clear hbd
  have Hn := hid hn; clear hn
  go_enter Tryz.func128, Tryz.ntmps128
  have hst := St.refl w
  go_wp2_with (first | go_big_skip | go_big_guard | fail)
  go_loopw [3] (fun i wr => ∃ k : Nat, k ≤ n ∧ i = .int .i64 k ∧ okP l k = true ∧ St w [] wr []) (fun i _ => n - (intOf i).toNat)
  case atStart => exact ⟨0, Nat.zero_le _, rfl, okP_zero l, hst⟩
  case round =>
    obtain ⟨k, hk, rfl, hok, hst2⟩ := hrel
    clear hst
    by_cases hlt : k < n
    · obtain ⟨b, off, rfl, hr⟩ := hA.at hlt
      obtain ⟨x, hx⟩ : ∃ x, x = l.getD k (0, 0) := ⟨_, rfl⟩
      have hb1 := addr_dev hr (k := k) (by rw [Hn.out]; exact hlt)
      have hb2 := addr_at hr (k := k) (by rw [Hn.out]; exact hlt)
      rw [← hx] at hb1 hb2
      have Hb1 := hid hb1; clear hb1
      have Hb2 := hid hb2; clear hb2
      have Hx := hid hx; clear hx
      have Hok := hid hok; clear hok
      go_wp2_with (first | go_big_skip | go_big_guard | (refine wl_index rfl rfl rfl rfl (hlt) ?_) | (refine wl_loadE rfl rfl rfl ?_; first | refine ⟨_, Loads.old hst2 (Hb1.out), ?_⟩ | refine ⟨_, Loads.old hst2 (Hb2.out), ?_⟩))
      all_goals first
        | (go_ret; exact ⟨ret_bool (may_stop1 (by rw [Hn.out]; exact hlt) Hx.out (by omega)).symm, hst2.nil⟩)
        | skip
      obtain ⟨wo, hwo⟩ : ∃ wo, wo = wr := ⟨_, rfl⟩
      subst hwo
      go_loopw [4] (fun j wi => ∃ t : Nat, t ≤ k ∧ j = .int .i64 t ∧ Hid (∀ q, q < t → (l.getD q (0, 0)).1 ≠ x.1) ∧ St w [] wi []) (fun j _ => k - (intOf j).toNat)
      case atStart => exact ⟨0, Nat.zero_le _, rfl, hid (fun q hq => by omega), hst2⟩
      case round =>
        obtain ⟨t, ht, rfl, hno, hst3⟩ := hrel
        clear hst2
        by_cases htk : t < k
        · obtain ⟨y, hy⟩ : ∃ y, y = l.getD t (0, 0) := ⟨_, rfl⟩
          have hc1 := hst3.old_cell (addr_dev hr (k := t) (by rw [Hn.out]; omega)) (by simp)
          have hc2 := hst3.old_cell Hb1.out (by simp)
          rw [← hy] at hc1
          have Hy := hid hy; clear hy
          have htn : t < n := by omega
          go_wp2_with (first | go_big_skip | go_big_guard | fail)
          go_quiet (fail)
          go_wp2_with (first | go_big_skip | go_big_guard | fail)
          · go_ret
            exact ⟨ret_bool (addrs_stop (by rw [Hn.out]; exact hlt) Hx.out htk (by rw [← Hy.out]; grind)).symm, (hst3.drewN _).nil⟩
          · go_roundw
            case rel =>
              refine ⟨t + 1, by omega, by go_num, hid (fun q hq => ?_), hst3.drewN _⟩
              rcases Nat.lt_or_eq_of_le (Nat.le_of_lt_succ hq) with h | rfl
              · exact hno.out q h
              · rw [← Hy.out]; grind
            case measure => simp [intOf]; omega
        · have htk' : t = k := by omega
          subst htk'
          have hgo := hid (addrs_go (by rw [Hn.out]; exact hlt) Hx.out Hok.out (by omega) (by omega) (by omega) (by omega) hno.out)
          go_wp2_with (first | go_big_skip | go_big_guard | fail)
          go_roundw
          case rel => exact ⟨t + 1, by omega, by go_num, hgo.out, hst3⟩
          case measure => simp [intOf]; omega
    · have hkn : k = n := by omega
      have hme := may_end (l := l) (k := k) (by rw [Hn.out]; omega) hok
      rw [Hn.out] at hme
      have Hm := hid hme; clear hme hok
      go_wp2_with (first | go_big_skip | go_big_guard | fail)
      all_goals (go_ret; exact ⟨ret_bool (by rw [Hm.out]; grind), hst2.nil⟩)
end Go.Proofs.YtifajcblbedcoaaGreat
