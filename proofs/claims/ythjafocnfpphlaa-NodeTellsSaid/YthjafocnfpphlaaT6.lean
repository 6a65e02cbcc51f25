import Derived.Test.YthjafocnfpphlaaT5
namespace Go.Proofs.Ythjafocnfpphlaa
open Go.RowKit Hp
set_option maxHeartbeats 400000
section
variable (ao ao' : Option Addr) (n c n' c' : Nat) (l r : List (Int × Int)) (b v b' v' : Int) (S S' : List UInt8) (w : World) (hS : L32 S) (hS' : L32 S')
  (hA : Rd w (.slice ao n c) 2 n (addrsV l)) (hn : l.length = n) (hB : Rd w (.slice ao' n' c') 2 n' (addrsV r)) (hn' : r.length = n')
include hS hS' hA hn hB hn'
theorem same_any :
    Calls Try.prog 30 #[.agg (ptrCells (.slice ao n c) b v S).toArray, .agg (ptrCells (.slice ao' n' c') b' v' S').toArray] w fun e w' => e = .returned (.bool (sameB l r b v b' v' S S')) ∧ St w [] w' [] := by
  have Hn := hid hn; clear hn
  have Hn' := hid hn'; clear hn'
  go_enter Try.func30, Try.ntmps30
  have hst := St.refl w
  go_wp2_with (first | go_big_skip | go_big_guard | (refine wl_boxA hst rfl rfl rfl ?_; intro g w1 hst1; clear hst) | (refine wl_boxA hst1 rfl rfl rfl ?_; intro g2 w2 hst2; clear hst1) | (refine wl_loadE rfl rfl rfl ?_; first | refine ⟨_, Loads.at [] hst2 rfl, ?_⟩ | refine ⟨_, Loads.at [_] hst2 rfl, ?_⟩ | refine ⟨_, Loads.atA (ptrCells (.slice ao' n' c') b' v' S') [] hst2 (ptr_len hS' _ _ _) (ptr_all _ _ _ _), ?_⟩ | refine ⟨_, Loads.atA (ptrCells (.slice ao n c) b v S) [_] hst2 (ptr_len hS _ _ _) (ptr_all _ _ _ _), ?_⟩) | (go_at_call 32; refine (like_any _ _ _ _ _ _ _ _ _ _ _ _ _ hS hS').mono ?_; rintro _ _ ⟨rfl, hcall⟩; replace hst2 := St.call0 hst2 hcall; clear hcall) | (go_at_call 57; refine (eqAddrs_any _ _ _ _ _ _ l r _ (Rd.old hst2 hA) Hn.out (Rd.old hst2 hB) Hn'.out).mono ?_; rintro _ _ ⟨rfl, hcall⟩; replace hst2 := St.call0 hst2 hcall; clear hcall))
  all_goals (go_ret; exact ⟨ret_bool (by have := Hn.out; have := Hn'.out; rw [← sameB_eq]; grind), hst2.nil⟩)
theorem samePointer_any :
    Calls Try.prog 17 #[.agg (ptrCells (.slice ao n c) b v S).toArray, .agg (ptrCells (.slice ao' n' c') b' v' S').toArray] w fun e w' => e = .returned (.bool (sameB l r b v b' v' S S')) ∧ St w [] w' [] := by
  have Hn := hid hn; clear hn
  have Hn' := hid hn'; clear hn'
  go_enter Try.func17, Try.ntmps17
  have hst := St.refl w
  go_wp2_with (first | go_big_skip | go_big_guard | (refine wl_boxA hst rfl rfl rfl ?_; intro g w1 hst1; clear hst) | (refine wl_boxA hst1 rfl rfl rfl ?_; intro g2 w2 hst2; clear hst1) | (refine wl_loadE rfl rfl rfl ?_; first | refine ⟨_, Loads.at [] hst2 rfl, ?_⟩ | refine ⟨_, Loads.at [_] hst2 rfl, ?_⟩ | refine ⟨_, Loads.atA (bytesV S') [] hst2 (hS'.v) (ptr_sum _ _ _ _), ?_⟩ | refine ⟨_, Loads.atA (bytesV S) [_] hst2 (hS.v) (ptr_sum _ _ _ _), ?_⟩) | (go_at_call 52; refine (sameAddrs_any _ _ _ _ _ _ l r _ (Rd.old hst2 hA) Hn.out (Rd.old hst2 hB) Hn'.out).mono ?_; rintro _ _ ⟨rfl, hcall⟩; replace hst2 := St.call0 hst2 hcall; clear hcall) | (refine wl_eql_bytes rfl rfl rfl rfl (hS.two hS') ?_))
  all_goals (go_ret; exact ⟨ret_bool (by unfold sameB; grind), hst2.nil⟩)
set_option maxHeartbeats 800000 in
theorem refSame_any :
    Calls Try.prog 31 #[.agg (ptrCells (.slice ao n c) b v S).toArray, .agg (ptrCells (.slice ao' n' c') b' v' S').toArray] w fun e w' => e = .returned (.bool (sameB l r b v b' v' S S')) ∧ St w [] w' [] := by
  have Hn := hid hn; clear hn
  have Hn' := hid hn'; clear hn'
  have hbd1 := hA.bd.1
  have hbd2 := hA.bd.2.1
  go_enter Try.func31, Try.ntmps31
  have hst := St.refl w
  go_wp2_with (first | go_big_skip | go_big_guard | (refine wl_boxA hst rfl rfl rfl ?_; intro g w1 hst1; clear hst) | (refine wl_boxA hst1 rfl rfl rfl ?_; intro g2 w2 hst2; clear hst1) | (refine wl_loadE rfl rfl rfl ?_; first | refine ⟨_, Loads.at [] hst2 rfl, ?_⟩ | refine ⟨_, Loads.at [_] hst2 rfl, ?_⟩ | refine ⟨_, Loads.atA (ptrCells (.slice ao' n' c') b' v' S') [] hst2 (ptr_len hS' _ _ _) (ptr_all _ _ _ _), ?_⟩ | refine ⟨_, Loads.atA (ptrCells (.slice ao n c) b v S) [_] hst2 (ptr_len hS _ _ _) (ptr_all _ _ _ _), ?_⟩) | (go_at_call 33; refine (refLike_any _ _ _ _ _ _ _ _ _ _ _ _ _ hS hS').mono ?_; rintro _ _ ⟨rfl, hcall⟩; replace hst2 := St.call0 hst2 hcall; clear hcall))
  all_goals first
    | (go_ret; exact ⟨ret_bool (by have := Hn.out; have := Hn'.out; rw [← sameB_eq]; grind), hst2.nil⟩)
    | skip
  have hnn : n = n' := by grind
  have hlike : Hid (likeB n n' b v b' v' S S' = true) := by assumption
  subst hnn
  go_loopw [5] (fun i wr => ∃ k : Nat, k ≤ n ∧ i = .int .i64 k ∧ Hid (∀ q, q < k → l.getD q (0, 0) = r.getD q (0, 0)) ∧ St w [] wr [.blk g2 29 (ptrCells (.slice ao' n c') b' v' S'), .blk g 29 (ptrCells (.slice ao n c) b v S)]) (fun i _ => n - (intOf i).toNat)
  case atStart => exact ⟨0, Nat.zero_le _, rfl, hid (fun q hq => by omega), hst2⟩
  case round =>
    obtain ⟨k, hk, rfl, hq, hst3⟩ := hrel
    clear hst2
    have hs1 := hst3.cell (g := g) (off := 0) (.tail _ (.head _)) rfl
    have hs2 := hst3.cell (g := g2) (off := 0) (.head _) rfl
    by_cases hlt : k < n
    · obtain ⟨bb, off, rfl, hr⟩ := hA.at hlt
      obtain ⟨bb', off', rfl, hr'⟩ := hB.at hlt
      obtain ⟨x, hx⟩ : ∃ x, x = l.getD k (0, 0) := ⟨_, rfl⟩
      obtain ⟨y, hy⟩ : ∃ y, y = r.getD k (0, 0) := ⟨_, rfl⟩
      have hc1 := hst3.old_cell (addr_dev hr (k := k) (by rw [Hn.out]; omega)) (by simp)
      have hc2 := hst3.old_cell (addr_at hr (k := k) (by rw [Hn.out]; omega)) (by simp)
      have hc3 := hst3.old_cell (addr_dev hr' (k := k) (by rw [Hn'.out]; omega)) (by simp)
      have hc4 := hst3.old_cell (addr_at hr' (k := k) (by rw [Hn'.out]; omega)) (by simp)
      rw [← hx] at hc1 hc2
      rw [← hy] at hc3 hc4
      have Hx := hid hx; clear hx
      have Hy := hid hy; clear hy
      go_wp2_with (first | go_big_skip | go_big_guard | fail)
      go_quiet (fail)
      go_wp2_with (first | go_big_skip | go_big_guard | fail)
      · go_ret
        exact ⟨ret_bool (by unfold sameB; rw [addrs_ne (q := k) (by rw [← Hx.out, ← Hy.out]; exact pair_ne (by assumption))]; rfl), (hst3.drewN _).nil⟩
      · go_roundw
        case rel =>
          refine ⟨k + 1, by omega, by go_num, hid (fun q hqk => ?_), hst3.drewN _⟩
          rcases Nat.lt_or_eq_of_le (Nat.le_of_lt_succ hqk) with h | rfl
          · exact hq.out q h
          · rw [← Hx.out, ← Hy.out]; exact pair_ext (by assumption)
        case measure => simp [intOf]; omega
    · have hkn : k = n := by omega
      have hall := hid (addrs_ext (l := l) (k := r) (by rw [Hn.out, Hn'.out]) (fun q hql => hq.out q (by rw [Hn.out] at hql; omega)))
      go_wp2_with (first | go_big_skip | go_big_guard | fail)
      go_ret
      exact ⟨ret_bool (by rw [← sameB_eq, Hn.out, Hn'.out, hlike.out, hall.out]; simp), hst3.nil⟩
end
end Go.Proofs.Ythjafocnfpphlaa
