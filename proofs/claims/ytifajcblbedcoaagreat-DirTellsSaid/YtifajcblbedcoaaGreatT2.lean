import Derived.Test.YtifajcblbedcoaaGreatTy
namespace Go.Proofs.YtifajcblbedcoaaGreat
set_option linter.unusedVariables false
set_option linter.unusedSimpArgs false
open Go.RowKit Hp
set_option maxHeartbeats 400000
theorem may_any (ao : Option Addr) (n c : Nat) (l : List (Int × Int)) (w : World) (hA : Rd w (.slice ao n c) 2 n (addrsV l)) (hn : l.length = n) :
    Calls Tryz.prog 121 #[.slice ao n c] w fun e w' => e = .returned (.bool (mayB l)) ∧ St w [] w' [] := by
  have hbd := hA.bd
  have hbd1 := hbd.1
  have hbd2 := hbd.2.1
  clear hbd
  have Hn := hid hn; clear hn
  go_enter Tryz.func121, Tryz.ntmps121
  have hst := St.refl w
  go_wp2_with (first | go_big_skip | go_big_guard | (refine wl_alloc hst rfl rfl ?_; intro g w1 hst1; clear hst))
  go_loopw [8] (fun i wr => ∃ k : Nat, k ≤ n ∧ i = .int .i64 k ∧ okP l k = true ∧ St w [] wr [.blk g 122 (seenV (l.take k))]) (fun i _ => n - (intOf i).toNat)
  case atStart => exact ⟨0, Nat.zero_le _, rfl, okP_zero l, hst1⟩
  case round =>
    obtain ⟨k, hk, rfl, hok, hst2⟩ := hrel
    clear hst1
    by_cases hlt : k < n
    · obtain ⟨b, off, rfl, hr⟩ := hA.at hlt
      obtain ⟨x, hx⟩ : ∃ x, x = l.getD k (0, 0) := ⟨_, rfl⟩
      have hb := addr_both hr (k := k) (by rw [Hn.out]; exact hlt)
      rw [← hx] at hb
      have Hx := hid hx; clear hx
      have Hok := hid hok; clear hok
      go_wp2_with (first | go_big_skip | go_big_guard | (refine wl_index rfl rfl rfl rfl (hlt) ?_) | (refine wl_loadE rfl rfl rfl ?_; first | refine ⟨_, Loads.oldA hst2 rfl (hb), ?_⟩) | (refine wl_alloc hst2 rfl rfl ?_; intro ga w3 hst3; clear hst2) | (refine wl_store [] hst3 rfl rfl rfl (v := .agg (List.toArray _)) rfl rfl rfl ?_ ?_; (exact Nat.le_refl _); intro w4 hst4; clear hst3; (simp [putAt] at hst4)) | (refine wl_store [_] hst4 rfl rfl rfl (v := .bool _) rfl rfl rfl ?_ ?_; ((rw [length_seenV]; show x.fst.toNat + 1 ≤ 8; omega)); intro w5 hst5; clear hst4; (skip)) | (refine wl_loadE rfl rfl rfl ?_; first | refine ⟨_, Loads.at [] hst4 rfl, ?_⟩ | refine ⟨_, Loads.at [_] hst4 (seenV_get _ (by omega)), ?_⟩))
      all_goals first
        | (go_ret; exact ⟨ret_bool (may_stop1 (by rw [Hn.out]; exact hlt) Hx.out (by omega)).symm, hst4.nil⟩)
        | (go_ret; exact ⟨ret_bool (may_stop2 (by rw [Hn.out]; exact hlt) Hx.out (by omega) (by assumption)).symm, hst4.nil⟩)
        | (have hgo := may_go (by rw [Hn.out]; exact hlt) Hx.out Hok.out (by omega) (by omega) (by omega) (by omega) (by assumption)
           go_roundw
           case rel => exact ⟨k + 1, by omega, by go_num, hgo.1, by rw [← hgo.2]; exact hst5.sub (List.sublist_append_right _ _)⟩
           case measure => simp [intOf]; omega)
        | skip
      go_goals
      go_ways
    · have hkn : k = n := by omega
      have hme := may_end (l := l) (k := k) (by rw [Hn.out]; omega) hok
      rw [Hn.out] at hme
      have Hm := hid hme; clear hme hok
      go_wp2_with (first | go_big_skip | go_big_guard | fail)
      all_goals (go_ret; exact ⟨ret_bool (by rw [Hm.out]; grind), hst2.nil⟩)
end Go.Proofs.YtifajcblbedcoaaGreat
