import Derived.Test.YtkpkaoiafppimaaTy
import Derived.Test.YtkpkaoiafppimaaT1
import Derived.Test.YtkpkaoiafppimaaT2
import Derived.Test.YtkpkaoiafppimaaSepY
import Derived.Deep.RegionHeld3
import Derived.Outline
import Derived.IntWalk
import Derived.Test.YtkpkaoiafppimaaPtrB
import Derived.Test.YtkpkaoiafppimaaNum
import Derived.Test.YtkpkaoiafppimaaSepP
import Derived.Deep.DrawnRows
import Derived.Test.YtkpkaoiafppimaaPtrR
import Derived.Test.YtkpkaoiafppimaaSepR
namespace Go.Proofs.Ytkpkaoiafppimaa
set_option linter.unusedVariables false
set_option linter.unusedSimpArgs false
open Go.RowKit Hp
set_option maxHeartbeats 400000
theorem refAddrs_any (ao : Option Addr) (n c : Nat) (l : List (Int × Int)) (w : World) (hA : Rd w (.slice ao n c) 2 n (addrsV l)) (hn : l.length = n) :
    Calls Try.prog 97 #[.slice ao n c] w fun e w' => e = .returned (.bool (mayB l)) ∧ St w [] w' [] := by
  have hbd := hA.bd
  have hbd1 := hbd.1
  have hbd2 := hbd.2.1
  clear hbd
  have Hn := hid hn; clear hn
  go_enter Try.func97, Try.ntmps97
  have hst := St.refl w
  go_wp2_with (first | go_big_skip | go_big_guard | fail)
  go_loopw [3] (fun i wr => ∃ k : Nat, k ≤ n ∧ i = .int .i64 k ∧ okP l k = true ∧ St w [] wr []) (fun i _ => n - (intOf i).toNat)
  case atStart => exact ⟨0, Nat.zero_le _, rfl, okP_zero l, hst⟩
  case round =>
    obtain ⟨k, hk, rfl, hok, hst2⟩ := hrel
    clear hst
    by_cases hlt : k < n
    · obtain ⟨b, off, rfl, hr⟩ := hA.at hlt
      obtain ⟨x, hx⟩ : ∃ x, x = l.getD k (0, 0) := ⟨_, rfl⟩
      have hb1 := addr_dev hr (k := k) (by rw [Hn.out]; exact hlt)
      have hb2 := addr_at hr (k := k) (by rw [Hn.out]; exact hlt)
      rw [← hx] at hb1 hb2
      have Hb1 := hid hb1; clear hb1
      have Hb2 := hid hb2; clear hb2
      have Hx := hid hx; clear hx
      have Hok := hid hok; clear hok
      go_wp2_with (first | go_big_skip | go_big_guard | (refine wl_index rfl rfl rfl rfl (hlt) ?_) | (refine wl_loadE rfl rfl rfl ?_; first | refine ⟨_, Loads.old hst2 (Hb1.out), ?_⟩ | refine ⟨_, Loads.old hst2 (Hb2.out), ?_⟩))
      all_goals first
        | (go_ret; exact ⟨ret_bool (may_stop1 (by rw [Hn.out]; exact hlt) Hx.out (by omega)).symm, hst2.nil⟩)
        | skip
      obtain ⟨wo, hwo⟩ : ∃ wo, wo = wr := ⟨_, rfl⟩
      subst hwo
      go_loopw [4] (fun j wi => ∃ t : Nat, t ≤ k ∧ j = .int .i64 t ∧ Hid (∀ q, q < t → (l.getD q (0, 0)).1 ≠ x.1) ∧ St w [] wi []) (fun j _ => k - (intOf j).toNat)
      case atStart => exact ⟨0, Nat.zero_le _, rfl, hid (fun q hq => by omega), hst2⟩
      case round =>
        obtain ⟨t, ht, rfl, hno, hst3⟩ := hrel
        clear hst2
        by_cases htk : t < k
        · obtain ⟨y, hy⟩ : ∃ y, y = l.getD t (0, 0) := ⟨_, rfl⟩
          have hc1 := hst3.old_cell (addr_dev hr (k := t) (by rw [Hn.out]; omega)) (by simp)
          have hc2 := hst3.old_cell Hb1.out (by simp)
          rw [← hy] at hc1
          have Hy := hid hy; clear hy
          have htn : t < n := by omega
          go_wp2_with (first | go_big_skip | go_big_guard | fail)
          go_quiet (fail)
          go_wp2_with (first | go_big_skip | go_big_guard | fail)
          · go_ret
            exact ⟨ret_bool (addrs_stop (by rw [Hn.out]; exact hlt) Hx.out htk (by rw [← Hy.out]; grind)).symm, (hst3.drewN _).nil⟩
          · go_roundw
            case rel =>
              refine ⟨t + 1, by omega, by go_num, hid (fun q hq => ?_), hst3.drewN _⟩
              rcases Nat.lt_or_eq_of_le (Nat.le_of_lt_succ hq) with h | rfl
              · exact hno.out q h
              · rw [← Hy.out]; grind
            case measure => simp [intOf]; omega
        · have htk' : t = k := by omega
          subst htk'
          have hgo := hid (addrs_go (by rw [Hn.out]; exact hlt) Hx.out Hok.out (by omega) (by omega) (by omega) (by omega) hno.out)
          go_wp2_with (first | go_big_skip | go_big_guard | fail)
          go_roundw
          case rel => exact ⟨t + 1, by omega, by go_num, hgo.out, hst3⟩
          case measure => simp [intOf]; omega
    · have hkn : k = n := by omega
      have hme := may_end (l := l) (k := k) (by rw [Hn.out]; omega) hok
      rw [Hn.out] at hme
      have Hm := hid hme; clear hme hok
      go_wp2_with (first | go_big_skip | go_big_guard | fail)
      all_goals (go_ret; exact ⟨ret_bool (by rw [Hm.out]; grind), hst2.nil⟩)
end Go.Proofs.Ytkpkaoiafppimaa
namespace Go.Proofs.Ytkpkaoiafppimaa
set_option linter.unusedVariables false
set_option linter.unusedSimpArgs false
open Go.RowKit Hp
set_option maxHeartbeats 400000

theorem eqAddrs_any (ao ao' : Option Addr) (n c n' c' : Nat) (l r : List (Int × Int)) (w : World) (hA : Rd w (.slice ao n c) 2 n (addrsV l)) (hn : l.length = n) (hB : Rd w (.slice ao' n' c') 2 n' (addrsV r)) (hn' : r.length = n') :
    Calls Try.prog 86 #[.slice ao n c, .slice ao' n' c'] w fun e w' => e = .returned (.bool (l == r)) ∧ St w [] w' [] := by
  have hbd1 := hA.bd.1
  have hbd2 := hA.bd.2.1
  have hbd3 := hB.bd.1
  have hbd4 := hB.bd.2.1
  have Hn := hid hn; clear hn
  have Hn' := hid hn'; clear hn'
  have hst := St.refl w
  by_cases hnn : n = n'
  rotate_left
  · have hne := hid (addrs_len_ne (l := l) (k := r) (by rw [Hn.out, Hn'.out]; exact hnn))
    go_enter Try.func86, Try.ntmps86
    go_wp2_with (first | go_big_skip | go_big_guard | fail)
    go_ret
    exact ⟨ret_bool hne.out.symm, hst⟩
  subst hnn
  go_enter Try.func86, Try.ntmps86
  go_wp2_with (first | go_big_skip | go_big_guard | fail)
  go_loopw [13] (fun i wr => ∃ k : Nat, k ≤ n ∧ i = .int .i64 k ∧ Hid (∀ q, q < k → l.getD q (0, 0) = r.getD q (0, 0)) ∧ St w [] wr []) (fun i _ => n - (intOf i).toNat)
  case atStart => exact ⟨0, Nat.zero_le _, rfl, hid (fun q hq => by omega), hst⟩
  case round =>
    obtain ⟨k, hk, rfl, hq, hst2⟩ := hrel
    clear hst
    by_cases hlt : k < n
    · obtain ⟨b, off, rfl, hr⟩ := hA.at hlt
      obtain ⟨b', off', rfl, hr'⟩ := hB.at hlt
      obtain ⟨x, hx⟩ : ∃ x, x = l.getD k (0, 0) := ⟨_, rfl⟩
      obtain ⟨y, hy⟩ : ∃ y, y = r.getD k (0, 0) := ⟨_, rfl⟩
      have hc1 := hst2.old_cell (addr_dev hr (k := k) (by rw [Hn.out]; omega)) (by simp)
      have hc2 := hst2.old_cell (addr_at hr (k := k) (by rw [Hn.out]; omega)) (by simp)
      have hc3 := hst2.old_cell (addr_dev hr' (k := k) (by rw [Hn'.out]; omega)) (by simp)
      have hc4 := hst2.old_cell (addr_at hr' (k := k) (by rw [Hn'.out]; omega)) (by simp)
      rw [← hx] at hc1 hc2
      rw [← hy] at hc3 hc4
      have Hx := hid hx; clear hx
      have Hy := hid hy; clear hy
      go_wp2_with (first | go_big_skip | go_big_guard | fail)
      go_quiet (fail)
      go_wp2_with (first | go_big_skip | go_big_guard | fail)
      · go_ret
        exact ⟨ret_bool (addrs_ne (q := k) (by rw [← Hx.out, ← Hy.out]; exact pair_ne (by assumption))).symm, hst2.drewN _⟩
      · go_roundw
        case rel =>
          refine ⟨k + 1, by omega, by go_num, hid (fun q hqk => ?_), hst2.drewN _⟩
          rcases Nat.lt_or_eq_of_le (Nat.le_of_lt_succ hqk) with h | rfl
          · exact hq.out q h
          · rw [← Hx.out, ← Hy.out]; exact pair_ext (by assumption)
        case measure => simp [intOf]; omega
    · have hkn : k = n := by omega
      have hall := hid (addrs_ext (l := l) (k := r) (by rw [Hn.out, Hn'.out]) (fun q hql => hq.out q (by rw [Hn.out] at hql; omega)))
      go_wp2_with (first | go_big_skip | go_big_guard | fail)
      go_ret
      exact ⟨ret_bool (by rw [hall.out]; simp), hst2⟩

theorem sameAddrs_any (ao ao' : Option Addr) (n c n' c' : Nat) (l r : List (Int × Int)) (w : World) (hA : Rd w (.slice ao n c) 2 n (addrsV l)) (hn : l.length = n) (hB : Rd w (.slice ao' n' c') 2 n' (addrsV r)) (hn' : r.length = n') :
    Calls Try.prog 90 #[.slice ao n c, .slice ao' n' c'] w fun e w' => e = .returned (.bool (l == r)) ∧ St w [] w' [] := by
  have hbd1 := hA.bd.1
  have hbd2 := hA.bd.2.1
  have hbd3 := hB.bd.1
  have hbd4 := hB.bd.2.1
  have Hn := hid hn; clear hn
  have Hn' := hid hn'; clear hn'
  have hst := St.refl w
  by_cases hnn : n = n'
  rotate_left
  · have hne := hid (addrs_len_ne (l := l) (k := r) (by rw [Hn.out, Hn'.out]; exact hnn))
    go_enter Try.func90, Try.ntmps90
    go_wp2_with (first | go_big_skip | go_big_guard | fail)
    go_ret
    exact ⟨ret_bool hne.out.symm, hst⟩
  subst hnn
  go_enter Try.func90, Try.ntmps90
  go_wp2_with (first | go_big_skip | go_big_guard | fail)
  go_loopw [5] (fun i wr => ∃ k : Nat, k ≤ n ∧ i = .int .i64 k ∧ Hid (∀ q, q < k → l.getD q (0, 0) = r.getD q (0, 0)) ∧ St w [] wr []) (fun i _ => n - (intOf i).toNat)
  case atStart => exact ⟨0, Nat.zero_le _, rfl, hid (fun q hq => by omega), hst⟩
  case round =>
    obtain ⟨k, hk, rfl, hq, hst2⟩ := hrel
    clear hst
    by_cases hlt : k < n
    · obtain ⟨b, off, rfl, hr⟩ := hA.at hlt
      obtain ⟨b', off', rfl, hr'⟩ := hB.at hlt
      obtain ⟨x, hx⟩ : ∃ x, x = l.getD k (0, 0) := ⟨_, rfl⟩
      obtain ⟨y, hy⟩ : ∃ y, y = r.getD k (0, 0) := ⟨_, rfl⟩
      have hc1 := hst2.old_cell (addr_dev hr (k := k) (by rw [Hn.out]; omega)) (by simp)
      have hc2 := hst2.old_cell (addr_at hr (k := k) (by rw [Hn.out]; omega)) (by simp)
      have hc3 := hst2.old_cell (addr_dev hr' (k := k) (by rw [Hn'.out]; omega)) (by simp)
      have hc4 := hst2.old_cell (addr_at hr' (k := k) (by rw [Hn'.out]; omega)) (by simp)
      rw [← hx] at hc1 hc2
      rw [← hy] at hc3 hc4
      have Hx := hid hx; clear hx
      have Hy := hid hy; clear hy
      go_wp2_with (first | go_big_skip | go_big_guard | fail)
      go_quiet (fail)
      go_wp2_with (first | go_big_skip | go_big_guard | fail)
      · go_ret
        exact ⟨ret_bool (addrs_ne (q := k) (by rw [← Hx.out, ← Hy.out]; exact pair_ne (by assumption))).symm, hst2.drewN _⟩
      · go_roundw
        case rel =>
          refine ⟨k + 1, by omega, by go_num, hid (fun q hqk => ?_), hst2.drewN _⟩
          rcases Nat.lt_or_eq_of_le (Nat.le_of_lt_succ hqk) with h | rfl
          · exact hq.out q h
          · rw [← Hx.out, ← Hy.out]; exact pair_ext (by assumption)
        case measure => simp [intOf]; omega
    · have hkn : k = n := by omega
      have hall := hid (addrs_ext (l := l) (k := r) (by rw [Hn.out, Hn'.out]) (fun q hql => hq.out q (by rw [Hn.out] at hql; omega)))
      go_wp2_with (first | go_big_skip | go_big_guard | fail)
      go_ret
      exact ⟨ret_bool (by rw [hall.out]; simp), hst2⟩

theorem eqBytes_any (ao ao' : Option Addr) (n c n' c' : Nat) (l r : List UInt8) (w : World) (hA : Rd w (.slice ao n c) 1 n (bytesV l)) (hn : l.length = n) (hB : Rd w (.slice ao' n' c') 1 n' (bytesV r)) (hn' : r.length = n') :
    Calls Try.prog 104 #[.slice ao n c, .slice ao' n' c'] w fun e w' => e = .returned (.bool (l == r)) ∧ St w [] w' [] := by
  have hbd1 := hA.bd.1
  have hbd2 := hA.bd.2.1
  have hbd3 := hB.bd.1
  have hbd4 := hB.bd.2.1
  have Hn := hid hn; clear hn
  have Hn' := hid hn'; clear hn'
  have hst := St.refl w
  by_cases hnn : n = n'
  rotate_left
  · have hne := hid (bytes_len_ne (l := l) (k := r) (by rw [Hn.out, Hn'.out]; exact hnn))
    go_enter Try.func104, Try.ntmps104
    go_wp2_with (first | go_big_skip | go_big_guard | fail)
    go_ret
    exact ⟨ret_bool hne.out.symm, hst⟩
  subst hnn
  go_enter Try.func104, Try.ntmps104
  go_wp2_with (first | go_big_skip | go_big_guard | fail)
  go_loopw [13] (fun i wr => ∃ k : Nat, k ≤ n ∧ i = .int .i64 k ∧ Hid (∀ q, q < k → l.getD q 0 = r.getD q 0) ∧ St w [] wr []) (fun i _ => n - (intOf i).toNat)
  case atStart => exact ⟨0, Nat.zero_le _, rfl, hid (fun q hq => by omega), hst⟩
  case round =>
    obtain ⟨k, hk, rfl, hq, hst2⟩ := hrel
    clear hst
    by_cases hlt : k < n
    · obtain ⟨b, off, rfl, hr⟩ := hA.at hlt
      obtain ⟨b', off', rfl, hr'⟩ := hB.at hlt
      obtain ⟨x, hx⟩ : ∃ x, x = l.getD k 0 := ⟨_, rfl⟩
      obtain ⟨y, hy⟩ : ∃ y, y = r.getD k 0 := ⟨_, rfl⟩
      have hc1 := hst2.old_cell (byte_cell hr (k := k) (by rw [Hn.out]; omega)) (by simp)
      have hc3 := hst2.old_cell (byte_cell hr' (k := k) (by rw [Hn'.out]; omega)) (by simp)
      rw [← hx] at hc1
      rw [← hy] at hc3
      have Hx := hid hx; clear hx
      have Hy := hid hy; clear hy
      go_wp2_with (first | go_big_skip | go_big_guard | fail)
      go_quiet (fail)
      go_wp2_with (first | go_big_skip | go_big_guard | fail)
      · go_ret
        exact ⟨ret_bool (bytes_ne (q := k) (by rw [← Hx.out, ← Hy.out]; grind)).symm, hst2.drewN _⟩
      · go_roundw
        case rel =>
          refine ⟨k + 1, by omega, by go_num, hid (fun q hqk => ?_), hst2.drewN _⟩
          rcases Nat.lt_or_eq_of_le (Nat.le_of_lt_succ hqk) with h | rfl
          · exact hq.out q h
          · rw [← Hx.out, ← Hy.out]; grind [UInt8.toNat_inj]
        case measure => simp [intOf]; omega
    · have hkn : k = n := by omega
      have hall := hid (bytes_ext (l := l) (k := r) (by rw [Hn.out, Hn'.out]) (fun q hql => hq.out q (by rw [Hn.out] at hql; omega)))
      go_wp2_with (first | go_big_skip | go_big_guard | fail)
      go_ret
      exact ⟨ret_bool (by rw [hall.out]; simp), hst2⟩
end Go.Proofs.Ytkpkaoiafppimaa
namespace Go.Proofs.Ytkpkaoiafppimaa
set_option linter.unusedVariables false
set_option linter.unusedSimpArgs false
open Go.RowKit Hp
set_option maxHeartbeats 400000
theorem sameBytes_any (v u : Value) (n m : Nat) (l k : List UInt8) (w : World) (hv : Rd w v 1 n (bytesV l)) (hu : Rd w u 1 m (bytesV k)) :
    Calls Try.prog 26 #[v, u] w fun e w' => e = .returned (.bool (l == k)) ∧ St w [] w' [] := by
  go_enter Try.func26, Try.ntmps26
  go_wp2_with (first | go_big_skip | go_big_guard | (refine wl_bytes_string rfl rfl rfl hv ?_) | (refine wl_bytes_string rfl rfl rfl hu ?_))
  go_ret
  exact ⟨rfl, St.refl w⟩
theorem check_any (ao : Option Addr) (n c : Nat) (l : List (Int × Int)) (b v : Int) (S : List UInt8) (w : World) (hS : L32 S) (hA : Rd w (.slice ao n c) 2 n (addrsV l)) (hn : l.length = n) :
    Calls Try.prog 68 #[.agg (ptrCells (.slice ao n c) b v S).toArray] w fun e w' => e = .returned (.int .i64 (checkE l b v S)) ∧ St w [] w' [] := by
  have Hn := hid hn; clear hn
  go_enter Try.func68, Try.ntmps68
  have hst := St.refl w
  go_wp2_with (first | go_big_skip | go_big_guard | (refine wl_boxA hst rfl rfl rfl ?_; intro g w1 hst1; clear hst) | (refine wl_loadE rfl rfl rfl ?_; first | refine ⟨_, Loads.at [] hst1 rfl, ?_⟩ | refine ⟨_, Loads.atA (ptrCells (.slice ao n c) b v S) [] hst1 (ptr_len hS _ _ _) (ptr_all _ _ _ _), ?_⟩) | (go_at_call 91; refine (hole_any _ _ _ _ _ _ _ hS).mono ?_; rintro _ _ ⟨rfl, hcall⟩; replace hst1 := St.call0 hst1 hcall; clear hcall) | (go_at_call 92; refine (may_any _ _ _ l _ (Rd.old hst1 hA) Hn.out).mono ?_; rintro _ _ ⟨rfl, hcall⟩; replace hst1 := St.call0 hst1 hcall; clear hcall))
  all_goals (go_ret; exact ⟨ret_int (by have := Hn.out; unfold checkE checkB; grind), hst1.nil⟩)
theorem refCheck_any (ao : Option Addr) (n c : Nat) (l : List (Int × Int)) (b v : Int) (S : List UInt8) (w : World) (hS : L32 S) (hA : Rd w (.slice ao n c) 2 n (addrsV l)) (hn : l.length = n) :
    Calls Try.prog 81 #[.agg (ptrCells (.slice ao n c) b v S).toArray] w fun e w' => e = .returned (.int .i64 (checkE l b v S)) ∧ St w [] w' [] := by
  have Hn := hid hn; clear hn
  go_enter Try.func81, Try.ntmps81
  have hst := St.refl w
  go_wp2_with (first | go_big_skip | go_big_guard | (refine wl_boxA hst rfl rfl rfl ?_; intro g w1 hst1; clear hst) | (refine wl_loadE rfl rfl rfl ?_; first | refine ⟨_, Loads.at [] hst1 rfl, ?_⟩ | refine ⟨_, Loads.atA (ptrCells (.slice ao n c) b v S) [] hst1 (ptr_len hS _ _ _) (ptr_all _ _ _ _), ?_⟩) | (go_at_call 96; refine (refHole_any _ _ _ _ _ _ _ hS).mono ?_; rintro _ _ ⟨rfl, hcall⟩; replace hst1 := St.call0 hst1 hcall; clear hcall) | (go_at_call 97; refine (refAddrs_any _ _ _ l _ (Rd.old hst1 hA) Hn.out).mono ?_; rintro _ _ ⟨rfl, hcall⟩; replace hst1 := St.call0 hst1 hcall; clear hcall))
  all_goals (go_ret; exact ⟨ret_int (by have := Hn.out; unfold checkE checkB; grind), hst1.nil⟩)
end Go.Proofs.Ytkpkaoiafppimaa
namespace Go.Proofs.Ytkpkaoiafppimaa
set_option linter.unusedVariables false
set_option linter.unusedSimpArgs false
open Go.RowKit Hp
attribute [local irreducible] Go.Calls
set_option maxHeartbeats 1000000
def markB (i : Nat) : UInt8 := UInt8.ofNat (160 + i % 90)
def markV (i : Nat) : Value := .int .u8 ((markB i).toNat : Int)
def lentT (n : Nat) : Nat → List Value
  | 0 => [.int .u8 0, .int .u8 0, .int .u8 0]
  | 1 => [markV n, .int .u8 0, .int .u8 0]
  | 2 => [markV n, markV (n + 1), .int .u8 0]
  | _ => [markV n, markV (n + 1), markV (n + 2)]
def lentB (bs : List UInt8) : List UInt8 := bs ++ [markB bs.length, markB (bs.length + 1), markB (bs.length + 2)]
theorem lentB_V (bs : List UInt8) : bytesV (lentB bs) = bytesV bs ++ lentT bs.length 3 := by simp [lentB, bytesV, lentT, markV]
theorem length_lentB (bs : List UInt8) : (lentB bs).length = bs.length + 3 := by simp [lentB]
theorem put_app (a t : List Value) (j : Nat) (vs : List Value) : putAt (a ++ t) (a.length + j) vs = a ++ putAt t j vs := by
  simp only [putAt, Nat.add_assoc, List.append_assoc]
  rw [List.take_append, List.drop_append, List.take_of_length_le (by omega), List.drop_of_length_le (by omega)]
  simp [Nat.add_sub_cancel_left]
theorem len_lentT (n j : Nat) : (lentT n j).length = 3 := by
  match j with
  | 0 => rfl
  | 1 => rfl
  | 2 => rfl
  | _ + 3 => rfl
theorem put_lent (bs : List UInt8) (k j : Nat) (hk : k = bs.length + j) (hj : j < 3) : putAt (bytesV bs ++ lentT bs.length j) k [markV k] = bytesV bs ++ lentT bs.length (j + 1) := by
  subst hk
  have := put_app (bytesV bs) (lentT bs.length j) j [markV (bs.length + j)]
  rw [length_bytesV] at this
  rw [this]
  congr 1
  match j, hj with
  | 0, _ => rfl
  | 1, _ => rfl
  | 2, _ => rfl
theorem lent_any (ao : Option Addr) (n c : Nat) (bs : List UInt8) (w : World) (hA : Rd w (.slice ao n c) 1 n (bytesV bs)) (hn : bs.length = n) (hb : n ≤ 100000) :
    Calls Try.prog 9 #[.slice ao n c] w fun e w' => ∃ g, e = .returned (.slice (some ⟨g, 0, none⟩) n (n + 3)) ∧ St w [] w' [.blk g 5 (bytesV (lentB bs))] := by
  have hst := St.refl w
  have Hn := hid hn; clear hn
  go_enter Try.func9, Try.ntmps9
  go_wp2_with (first | go_big_skip | go_big_guard | (apply wl_make (n + 3) (n + 3) hst; rfl; rfl; exact rfl; exact rfl; infer_instance; infer_instance; infer_instance; (push_cast; rfl); (push_cast; rfl); exact Nat.le_refl _; (constructor <;> omega); intro g _ hst1; clear hst) | (apply wl_copy [] hst1; rfl; rfl; exact rfl; exact rfl; infer_instance; infer_instance; exact Rd.old hst1 hA; exact ones_bytesV bs; omega; (simp <;> omega); intro w2 hst2; clear hst1))
  have e : putAt (List.replicate (n + 3) (Value.int .u8 0)) 0 (bytesV bs) = bytesV bs ++ lentT n 0 := by
    simp only [putAt, List.take_zero, List.nil_append, length_bytesV, Hn.out, List.drop_replicate, Nat.zero_add]
    congr 1
    rw [show n + 3 - n = 3 by omega]
    rfl
  rw [e] at hst2
  clear e
  have hst3 : St w [] w2 [.blk g 5 (bytesV bs ++ lentT n 0)] := hst2
  clear hst2
  go_loopw [4] (fun i wr => ∃ k j : Nat, i = .int .i64 k ∧ Hid (k = n + j) ∧ j ≤ 3 ∧ St w [] wr [.blk g 5 (bytesV bs ++ lentT n j)]) (fun i _ => n + 3 - (intOf i).toNat)
  case atStart => exact ⟨n, 0, rfl, hid rfl, by omega, hst3⟩
  case round =>
    clear hst3
    obtain ⟨k, j, rfl, hkj, hj, hst⟩ := hrel
    by_cases hj3 : j < 3
    · have hk : k < n + 3 := by rw [hkj.out]; omega
      have hk2 : n ≤ k := by rw [hkj.out]; omega
      go_wp2_with (first | go_big_skip | go_big_guard | (refine wl_index rfl rfl rfl rfl hk ?_) | (refine wl_store [] hst rfl rfl rfl (v := .int _ _) rfl rfl rfl (by simp [Value.cells, len_lentT, Hn.out]; omega) ?_; intro w5 hst4; clear hst))
      have hv : Value.int .u8 (160 + (k : Int) % 90) = markV k := by
        simp only [markV, markB, UInt8.toNat_ofNat', Value.int.injEq, true_and]
        omega
      have e := put_lent bs k j (by rw [Hn.out]; exact hkj.out) hj3
      rw [Hn.out] at e
      rw [hv, Nat.zero_add, Nat.mul_one] at hst4
      have e2 : putAt (bytesV bs ++ lentT n j) k (markV k).cells.toList = bytesV bs ++ lentT n (j + 1) := e
      rw [e2] at hst4
      clear hv e e2
      have hst5 : St w [] w5 [.blk g 5 (bytesV bs ++ lentT n (j + 1))] := hst4
      clear hst4
      have Hk1 := hid (show k + 1 = n + (j + 1) by rw [hkj.out]; omega)
      go_roundw
      case rel => exact ⟨k + 1, j + 1, by go_num, Hk1, by omega, hst5⟩
      case measure => simp [intOf]; omega
    · have e : k = n + 3 := by rw [hkj.out]; omega
      have ej : j = 3 := by omega
      subst ej
      clear hkj hj hj3
      subst e
      go_wp2_with (first | go_big_skip | go_big_guard | fail)
      go_ret
      refine ⟨g, rfl, ?_⟩
      have e : bytesV (lentB bs) = bytesV bs ++ lentT n 3 := by rw [lentB_V, Hn.out]
      rw [e]; exact hst
theorem kept_any (ao : Option Addr) (g n c : Nat) (bs : List UInt8) (w : World) (L : List HA) (w0 : World) (hst0 : St w0 [] w L) (hg : HA.blk g 5 (bytesV (lentB bs)) ∈ L) (hA : Rd w (.slice ao n c) 1 n (bytesV bs)) (hn : bs.length = n) (hb : n ≤ 100000) :
    Calls Try.prog 14 #[.slice (some ⟨g, 0, none⟩) n (n + 3), .slice ao n c] w fun e w' => e = .returned (.bool true) ∧ St w [] w' [] := by
  have hl : Rd w (.slice (some ⟨g, 0, none⟩) (n + 3) (n + 3)) 1 (n + 3) (bytesV (lentB bs)) := Rd.blk hst0 hg (Nat.le_refl _) (by unfold maxLen; omega) (by rw [length_bytesV, length_lentB, hn]; omega) (by rw [List.drop_zero, List.take_length])
  clear hst0 hg
  have Hn := hid hn; clear hn
  have hst := St.refl w
  have hq : (lentB bs == lentB bs) = true := by simp
  have a0 : (0 : Int) ≤ (n : Int) + 3 := by omega
  have a1 : ((n : Int) + 3).toNat = n + 3 := by omega
  have a2 : IntKind.i64.wrap ((n : Int) + 3) = (n : Int) + 3 := IntWalk.i64_in _ (by omega)
  have a3 : ((n + 3 : Nat) : Int) = (n : Int) + 3 := by omega
  have a4 : (n : Int) + 3 ≤ 9223372036854775807 := by omega
  go_enter Try.func14, Try.ntmps14
  go_wp2_with (first | go_big_skip | go_big_guard | fail)
  have hD := hst.drew; clear hst
  go_region_held3 (fun _ => True) (trivial) (first
    | (go_at_call 9; refine (lent_any ao n c bs _ (Rd.old hD hA) Hn.out hb).mono ?_; rintro _ _ ⟨g2, rfl, h4⟩; have hst2 := St.call hD h4; clear h4 hD)
    | (go_at_call 26; refine (sameBytes_any _ _ (n + 3) (n + 3) (lentB bs) (lentB bs) _ (Rd.old hst2 hl) (Rd.blk0 hst2 (by rw [length_bytesV, length_lentB, Hn.out]; omega) (by omega))).mono ?_; rw [hq]; rintro _ _ ⟨rfl, h4⟩; have hst3 := St.call0 hst2 h4; clear h4 hst2))
  go_goals
  all_goals (go_wp2; go_ret; exact ⟨rfl, hst3.nil⟩)
end Go.Proofs.Ytkpkaoiafppimaa
namespace Go.Proofs.Ytkpkaoiafppimaa
set_option linter.unusedVariables false
set_option linter.unusedSimpArgs false
open Go.RowKit Hp
attribute [local irreducible] Go.Calls
set_option maxHeartbeats 1000000
theorem refBytes_no (ao : Option Addr) (n c : Nat) (l : List (Int × Int)) (b v : Int) (S : List UInt8) (w : World) (hS : L32 S) (hA : Rd w (.slice ao n c) 2 n (addrsV l)) (hn : l.length = n) (hc : checkB l b v S = false) :
    Calls Try.prog 52 #[.agg (ptrCells (.slice ao n c) b v S).toArray] w fun e w' => e = .returned (.tuple #[.slice none 0 0, .int .i64 2]) ∧ St w [] w' [] := by
  have Hn := hid hn; clear hn
  have hcE : checkE l b v S = 2 := by simp [checkE, hc]
  have Hc := hid hcE; clear hcE hc
  go_enter Try.func52, Try.ntmps52
  have hst := St.refl w
  go_wp2_with (first | go_big_skip | go_big_guard | (refine wl_boxA hst rfl rfl rfl ?_; intro g w1 hst1; clear hst) | (refine wl_loadE rfl rfl rfl ?_; first | refine ⟨_, Loads.at [] hst1 rfl, ?_⟩ | refine ⟨_, Loads.atA (ptrCells (.slice ao n c) b v S) [] hst1 (ptr_len hS _ _ _) (ptr_all _ _ _ _), ?_⟩) | (go_at_call 81; refine (refCheck_any _ _ _ l b v S _ hS (Rd.old hst1 hA) Hn.out).mono ?_; rw [Hc.out]; rintro _ _ ⟨rfl, hcall⟩; replace hst1 := St.call0 hst1 hcall; clear hcall))
  go_ret2
  exact ⟨rfl, hst1.nil⟩
theorem refBytes_ok (ao : Option Addr) (n c : Nat) (l : List (Int × Int)) (b v : Int) (S : List UInt8) (w : World) (hS : L32 S) (hA : Rd w (.slice ao n c) 2 n (addrsV l)) (hn : l.length = n) (hc : checkB l b v S = true) :
    Calls Try.prog 52 #[.agg (ptrCells (.slice ao n c) b v S).toArray] w fun e w' => ∃ u, e = .returned (.tuple #[u, .int .i64 0]) ∧ St w [] w' [.row u 5 1 47 (bytesV (bytesP l b v S))] := by
  have hbd := check_bd hc
  rw [hn] at hbd
  obtain ⟨hb0, hb1, hb2, hb3, hb4, hb5⟩ := hbd
  have Hb5 := hid hb5; clear hb5
  have Hn := hid hn; clear hn
  have hcE : checkE l b v S = 0 := by simp [checkE, hc]
  have Hc := hid hcE; clear hcE hc
  go_enter Try.func52, Try.ntmps52
  have hst := St.refl w
  go_wp2_with (first | go_big_skip | go_big_guard | (refine wl_boxA hst rfl rfl rfl ?_; intro g w1 hst1; clear hst) | (refine wl_loadE rfl rfl rfl ?_; first | refine ⟨_, Loads.at [] hst1 rfl, ?_⟩ | refine ⟨_, Loads.atA (ptrCells (.slice ao n c) b v S) [] hst1 (ptr_len hS _ _ _) (ptr_all _ _ _ _), ?_⟩ | refine ⟨_, Loads.at [_] hst2 rfl, ?_⟩) | (go_at_call 81; refine (refCheck_any _ _ _ l b v S _ hS (Rd.old hst1 hA) Hn.out).mono ?_; rw [Hc.out]; rintro _ _ ⟨rfl, hcall⟩; replace hst1 := St.call0 hst1 hcall; clear hcall) | (apply wl_bsX ([.int _ _]) ([.int _ _]) hst1; rfl; rfl; exact rfl; exact rfl; infer_instance; infer_instance; rfl; rfl; rfl; intro g2 w2 hst2; clear hst1))
  have hst3 : St w [] w2 [.row (.slice (some ⟨g2, 0, none⟩) 1 1) 5 1 1 (bytesV (numB n 1)), .blk g 45 (ptrCells (.slice ao n c) b v S)] := by
    rw [← num1_cells (n : Int) (x := n) (by omega)]
    exact St.toRow (n := 1) (cap := 1) (sz := 1) hst2 rfl (by decide) (by decide)
  clear hst2
  go_loopw [4, 5] (fun u i wr => ∃ k : Nat, k ≤ 3 ∧ i = .int .i64 k ∧ St w [] wr [.row u 5 1 (1 + 3 * k) (bytesV (numB n 1 ++ addrsB l k)), .blk g 45 (ptrCells (.slice ao n c) b v S)]) (fun _ i _ => 3 - (intOf i).toNat)
  case atStart => exact ⟨0, by omega, rfl, by simpa [addrsB] using hst3⟩
  case round =>
    obtain ⟨k, hk, rfl, hst4⟩ := hrel
    clear hst3
    by_cases hk3 : k < 3
    · obtain ⟨x, hx⟩ : ∃ x, x = l.getD k (0, 0) := ⟨_, rfl⟩
      have hxb := Hb5.out k
      rw [← hx] at hxb
      obtain ⟨hx1, hx2, hx3, hx4⟩ := hxb
      have Hx := hid hx
      by_cases hkn : k < n
      · obtain ⟨bb, off, rfl, hr⟩ := hA.at hkn
        have hb := addr_both hr (k := k) (by rw [Hn.out]; exact hkn)
        rw [← hx] at hb
        clear hx
        go_wp2_with (first | go_big_skip | go_big_guard | (refine wl_alloc hst4 rfl rfl ?_; intro ga w5 hst5; clear hst4) | (refine wl_build0 rfl rfl ?_) | (refine wl_loadE rfl rfl rfl ?_; first | refine ⟨_, Loads.at [_, _] hst6 rfl, ?_⟩ | refine ⟨_, Loads.at [_, _] hst7 rfl, ?_⟩ | refine ⟨_, Loads.oldA hst6 rfl (hb), ?_⟩ | refine ⟨_, Loads.at [] hst7 rfl, ?_⟩) | (refine wl_index rfl rfl rfl rfl (hkn) ?_) | (refine wl_store [] hst5 rfl rfl rfl (v := .agg (List.toArray _)) rfl rfl rfl ?_ ?_; (exact Nat.le_refl _); intro w6 hst6; clear hst5; (simp [putAt] at hst6)) | (refine wl_store [] hst6 rfl rfl rfl (v := .agg (List.toArray _)) rfl rfl rfl ?_ ?_; (exact Nat.le_refl _); intro w7 hst7; clear hst6; (simp [putAt] at hst7)) | (apply wl_bsX ([.int _ _, .int _ _, .int _ _]) ([.int _ _, .int _ _, .int _ _]) hst7; rfl; rfl; exact rfl; exact rfl; infer_instance; infer_instance; rfl; rfl; rfl; intro gb w8 hst8; clear hst7) | (apply wl_appX [_, _] hst8; rfl; rfl; exact rfl; exact rfl; infer_instance; infer_instance; infer_instance; exact (Rd.blk0 hst8 rfl (by decide)); exact rfl; ((unfold maxLen; omega)); intro v9 w9 hst9 _; clear hst8))
        go_roundw
        case rel =>
          refine ⟨k + 1, by omega, by go_num, ?_⟩
          have h10 := hst9.sub (L' := [.row v9 5 1 (1 + 3 * k + 3) (bytesV (numB n 1 ++ addrsB l k) ++ [.int .u8 _, .int .u8 _, .int .u8 _]), .blk g 45 (ptrCells _ b v S)]) (.cons _ (.cons _ (List.Sublist.refl _)))
          rw [show ∀ p q r : Int, [Value.int .u8 p, .int .u8 q, .int .u8 r] = [Value.int .u8 p] ++ [.int .u8 q, .int .u8 r] from fun _ _ _ => rfl, num1_cells x.1 (by omega), num2_cells x.2 (by omega) (by omega), ← bytesV_append, ← bytesV_append] at h10
          rw [show 1 + 3 * (k + 1) = 1 + 3 * k + 3 by omega]
          have e : numB n 1 ++ addrsB l (k + 1) = (numB n 1 ++ addrsB l k) ++ (numB x.1 1 ++ numB x.2 2) := by
            simp only [addrsB, addrB, ← Hx.out, List.append_assoc]
          rw [e]
          exact h10
        case measure => simp [intOf]; omega
      · have hx0 : x = (0, 0) := by rw [hx]; simp [List.getD, List.getElem?_eq_none (show l.length ≤ k by rw [Hn.out]; omega)]
        have Hx0 := hid hx0
        clear hx hx0
        go_wp2_with (first | go_big_skip | go_big_guard | (refine wl_alloc hst4 rfl rfl ?_; intro ga w5 hst5; clear hst4) | (refine wl_build0 rfl rfl ?_) | (refine wl_loadE rfl rfl rfl ?_; first | refine ⟨_, Loads.at [_, _] hst6 rfl, ?_⟩ | refine ⟨_, Loads.at [] hst6 rfl, ?_⟩) | (refine wl_store [] hst5 rfl rfl rfl (v := .agg (List.toArray _)) rfl rfl rfl ?_ ?_; (exact Nat.le_refl _); intro w6 hst6; clear hst5; (simp [putAt] at hst6)) | (apply wl_bsX ([.int _ _, .int _ _, .int _ _]) ([.int _ _, .int _ _, .int _ _]) hst6; rfl; rfl; exact rfl; exact rfl; infer_instance; infer_instance; rfl; rfl; rfl; intro gb w8 hst8; clear hst6) | (apply wl_appX [_, _] hst8; rfl; rfl; exact rfl; exact rfl; infer_instance; infer_instance; infer_instance; exact (Rd.blk0 hst8 rfl (by decide)); exact rfl; ((unfold maxLen; omega)); intro v9 w9 hst9 _; clear hst8))
        go_roundw
        case rel =>
          refine ⟨k + 1, by omega, by go_num, ?_⟩
          have h10 := hst9.sub (L' := [.row v9 5 1 (1 + 3 * k + 3) (bytesV (numB n 1 ++ addrsB l k) ++ [.int .u8 0, .int .u8 0, .int .u8 0]), .blk g 45 (ptrCells _ b v S)]) (.cons _ (.cons _ (List.Sublist.refl _)))
          have hx1 : x.1 = 0 := by rw [Hx0.out]
          have hx2 : x.2 = 0 := by rw [Hx0.out]
          have e0 : ([Value.int .u8 0, .int .u8 0, .int .u8 0] : List Value) = bytesV (numB x.1 1) ++ bytesV (numB x.2 2) := by
            rw [← num1_cells x.1 (x := 0) (by omega), ← num2_cells x.2 (x := 0) (y := 0) (by omega) (by omega)]; rfl
          rw [e0, ← bytesV_append, ← bytesV_append] at h10
          rw [show 1 + 3 * (k + 1) = 1 + 3 * k + 3 by omega]
          have e : numB n 1 ++ addrsB l (k + 1) = (numB n 1 ++ addrsB l k) ++ (numB x.1 1 ++ numB x.2 2) := by
            simp only [addrsB, addrB, ← Hx.out, List.append_assoc]
          rw [e]
          exact h10
        case measure => simp [intOf]; omega
    · have hk4 : k = 3 := by omega
      have hst4' : St w [] wr [.row u4 5 1 (1 + 3 * 3) (bytesV (numB n 1 ++ addrsB l 3)), .blk g 45 (ptrCells (.slice ao n c) b v S)] := by
        rw [hk4] at hst4; exact hst4
      clear hst4 hk4
      go_wp2_with (first | go_big_skip | go_big_guard | fail)
      go_loopw [4, 7] (fun u i wr => ∃ j : Nat, j ≤ 4 ∧ i = .int .i64 ((j : Int) - 1) ∧ St w [] wr [.row u 5 1 (1 + 3 * 3 + (4 - j)) (bytesV ((numB n 1 ++ addrsB l 3) ++ (numB b 4).take (4 - j))), .blk g 45 (ptrCells (.slice ao n c) b v S)]) (fun _ i _ => ((intOf i) + 1).toNat)
      case atStart => exact ⟨(4 : Nat), by omega, rfl, by simpa using hst4'⟩
      case round =>
        obtain ⟨j, hj, rfl, hst5⟩ := hrel
        clear hst4'
        by_cases hj0 : 0 < j
        · go_wp2_with (first | go_big_skip | go_big_guard | (refine wl_loadE rfl rfl rfl ?_; first | refine ⟨_, Loads.at [_] hst5 rfl, ?_⟩) | (apply wl_bsX ([.int _ _]) ([.int _ _]) hst5; rfl; rfl; exact rfl; exact rfl; infer_instance; infer_instance; rfl; rfl; rfl; intro gb w8 hst8; clear hst5) | (apply wl_appX [_] hst8; rfl; rfl; exact rfl; exact rfl; infer_instance; infer_instance; infer_instance; exact (Rd.blk0 hst8 rfl (by decide)); exact rfl; ((unfold maxLen; omega)); intro v9 w9 hst9 _; clear hst8))
          go_roundw
          case rel =>
            refine ⟨(j - 1 : Nat), by omega, by go_num, ?_⟩
            have h10 := hst9.sub (L' := [.row v9 5 1 (1 + 3 * 3 + (4 - j) + 1) (bytesV ((numB n 1 ++ addrsB l 3) ++ (numB b 4).take (4 - j)) ++ [.int .u8 (b / 2 ^ (8 * (j - 1)) % 256)]), .blk g 45 (ptrCells (.slice ao n c) b v S)]) (.cons _ (List.Sublist.refl _))
            rw [byteV, show 1 + 3 * 3 + (4 - j) + 1 = 1 + 3 * 3 + (4 - (j - 1)) by omega] at h10
            rw [show 4 - (j - 1) = (4 - j) + 1 by omega, numB_take _ _ _ (by omega), ← List.append_assoc, bytesV_append _ [_], show 4 - 1 - (4 - j) = j - 1 by omega]
            rw [show 4 - (j - 1) = (4 - j) + 1 by omega] at h10
            exact h10
          case measure => simp [intOf]; omega
        · have hj4 : j = 0 := by omega
          subst hj4
          have hst6 : St w [] wr [.row u4 5 1 14 (bytesV ((numB n 1 ++ addrsB l 3) ++ numB b 4)), .blk g 45 (ptrCells (.slice ao n c) b v S)] := by
            have := hst5
            rwa [show 4 - 0 = 4 from rfl, List.take_of_length_le (by simp [length_numB])] at this
          clear hst5
          go_wp2_with (first | go_big_skip | go_big_guard | (refine wl_loadE rfl rfl rfl ?_; first | refine ⟨_, Loads.at [_] hst6 rfl, ?_⟩) | (apply wl_bsX ([.int _ _]) ([.int _ _]) hst6; rfl; rfl; exact rfl; exact rfl; infer_instance; infer_instance; rfl; rfl; rfl; intro gb w8 hst8; clear hst6) | (apply wl_appX [_] hst8; rfl; rfl; exact rfl; exact rfl; infer_instance; infer_instance; infer_instance; exact (Rd.blk0 hst8 rfl (by decide)); exact rfl; ((unfold maxLen; omega)); intro v9 w9 hst9 _; clear hst8) | (apply wl_appX [_] hst9; rfl; rfl; exact rfl; exact rfl; infer_instance; infer_instance; infer_instance; exact Rd.blk (n := 32) (c := 32) hst9 (.tail _ (.tail _ (.head _))) (by decide) (by decide) hS.v (ptr_sum _ _ _ _); exact ones_bytesV S; ((unfold maxLen; omega)); intro v10 w10 hst10 _; clear hst9))
          go_ret2
          have h11 := hst10.sub (L' := [.row v10 5 1 47 (bytesV ((numB n 1 ++ addrsB l 3) ++ numB b 4) ++ [.int .u8 _] ++ bytesV S)]) (.cons _ (.cons_cons _ (List.nil_sublist _)))
          rw [num1_cells v (by omega), ← bytesV_append, ← bytesV_append] at h11
          refine ⟨v10, rfl, ?_⟩
          have e : bytesP l b v S = (((numB n 1 ++ addrsB l 3) ++ numB b 4) ++ numB v 1) ++ S := by simp only [bytesP, Hn.out]
          rw [e]
          exact h11
end Go.Proofs.Ytkpkaoiafppimaa
namespace Go.Proofs.Ytkpkaoiafppimaa
set_option linter.unusedVariables false
set_option linter.unusedSimpArgs false
open Go.RowKit Hp
set_option maxHeartbeats 400000
theorem isB_one (n : Int) : ([Value.int .u8 (n % 256)]).all isB = true := by
  simp [isB]; omega
theorem num_any (v : Value) (m : Nat) (n : Int) (k : Nat) (xs : List UInt8) (w : World) (hv : w.ownsRow 0 5 1 v m (bytesV xs)) (hp : AllP isB w v 5) (hk : k ≤ 8) (hm : m ≤ 100000) (hn : -9223372036854775808 ≤ n ∧ n ≤ 9223372036854775807) :
    Calls Try.prog 69 #[v, .int .i64 n, .int .i64 k] w fun e w' => ∃ v', e = .returned v' ∧ St w v.ownBlock.toList w' [.rowP isB v' 5 1 (m + k) (bytesV (xs ++ numB n k))] := by
  have hst := St.ofRowP w hv hp
  go_enter Try.func69, Try.ntmps69
  go_wp2_with (first | go_big_skip | go_big_guard | fail)
  go_loopw [0, 7] (fun u i wr => ∃ j : Nat, j ≤ k ∧ i = .int .i64 ((j : Int) - 1) ∧ St w v.ownBlock.toList wr [.rowP isB u 5 1 (m + (k - j)) (bytesV (xs ++ (numB n k).take (k - j)))]) (fun _ i _ => ((intOf i) + 1).toNat)
  case atStart => exact ⟨k, Nat.le_refl _, rfl, by simpa using hst⟩
  case round =>
    obtain ⟨j, hj, rfl, hst2⟩ := hrel
    clear hst
    by_cases hlt : 0 < j
    · go_wp2_with (first | go_big_skip | go_big_guard | (apply wl_bsX ([.int _ _]) ([.int _ _]) hst2; rfl; rfl; exact rfl; exact rfl; infer_instance; infer_instance; rfl; rfl; rfl; intro g w1 hst3; clear hst2) | (apply wl_appP [_] hst3; rfl; rfl; exact rfl; exact rfl; infer_instance; infer_instance; infer_instance; infer_instance; exact (Rd.blk0 hst3 rfl (by decide)); exact rfl; rfl; exact isB_one _; (unfold maxLen; omega); intro v4 w4 hst4 _; clear hst3))
      go_roundw
      case rel =>
        refine ⟨j - 1, by omega, by go_num, ?_⟩
        have h5 := hst4.sub (L' := [.rowP isB v4 5 1 (m + (k - j) + 1) (bytesV (xs ++ (numB n k).take (k - j)) ++ [.int .u8 (n / 2 ^ (8 * (j - 1)) % 256)])]) (List.sublist_append_right _ _)
        rw [byteV, show m + (k - j) + 1 = m + (k - (j - 1)) by omega] at h5
        rw [show k - (j - 1) = (k - j) + 1 by omega, numB_take _ _ _ (by omega), ← List.append_assoc, bytesV_append _ [_], show k - 1 - (k - j) = j - 1 by omega]
        rw [show k - (j - 1) = (k - j) + 1 by omega] at h5
        exact h5
      case measure => simp [intOf]; omega
    · have hj0 : j = 0 := by omega
      subst hj0
      go_wp2_with (first | go_big_skip | go_big_guard | fail)
      go_ret
      exact ⟨_, rfl, by simpa [length_numB, List.take_of_length_le] using hst2⟩
theorem num_k (v : Value) (m : Nat) (n s : Int) (k : Nat) (hs : s = (k : Int)) (xs : List UInt8) (w : World) (hv : w.ownsRow 0 5 1 v m (bytesV xs)) (hp : AllP isB w v 5) (hk : k ≤ 8) (hm : m ≤ 100000) (hn : -9223372036854775808 ≤ n ∧ n ≤ 9223372036854775807) :
    Calls Try.prog 69 #[v, .int .i64 n, .int .i64 s] w fun e w' => ∃ v', e = .returned v' ∧ St w v.ownBlock.toList w' [.rowP isB v' 5 1 (m + k) (bytesV (xs ++ numB n k))] := by
  subst hs
  exact num_any v m n k xs w hv hp hk hm hn
end Go.Proofs.Ytkpkaoiafppimaa
namespace Go.Proofs.Ytkpkaoiafppimaa
set_option linter.unusedVariables false
set_option linter.unusedSimpArgs false
open Go.RowKit Hp
attribute [local go_sem ↓] Go.wp_at_zero Go.wp_at_succ
attribute [local irreducible] Go.Calls
set_option maxRecDepth 100000
set_option maxHeartbeats 1000000
theorem bytes_no (ao : Option Addr) (n c : Nat) (l : List (Int × Int)) (b v : Int) (S : List UInt8) (w : World) (hS : L32 S) (hA : Rd w (.slice ao n c) 2 n (addrsV l)) (hn : l.length = n) (hc : checkB l b v S = false) :
    Calls Try.prog 41 #[.agg (ptrCells (.slice ao n c) b v S).toArray] w fun e w' => e = .returned (.tuple #[.slice none 0 0, .int .i64 2]) ∧ St w [] w' [] := by
  have Hn := hid hn; clear hn
  have hcE : checkE l b v S = 2 := by simp [checkE, hc]
  have Hc := hid hcE; clear hcE hc
  go_enter Try.func41, Try.ntmps41
  have hst := St.refl w
  go_wp2_with (first | go_big_skip | go_big_guard | (refine wl_boxA hst rfl rfl rfl ?_; intro g w1 hst1; clear hst) | (refine wl_loadE rfl rfl rfl ?_; first | refine ⟨_, Loads.at [] hst1 rfl, ?_⟩ | refine ⟨_, Loads.atA (ptrCells (.slice ao n c) b v S) [] hst1 (ptr_len hS _ _ _) (ptr_all _ _ _ _), ?_⟩) | (go_at_call 68; refine (check_any _ _ _ l b v S _ hS (Rd.old hst1 hA) Hn.out).mono ?_; rw [Hc.out]; rintro _ _ ⟨rfl, hcall⟩; replace hst1 := St.call0 hst1 hcall; clear hcall))
  go_ret2
  exact ⟨rfl, hst1.nil⟩
theorem bytes_okP (ao : Option Addr) (n c : Nat) (l : List (Int × Int)) (b v : Int) (S : List UInt8) (w : World) (hS : L32 S) (hA : Rd w (.slice ao n c) 2 n (addrsV l)) (hn : l.length = n) (hc : checkB l b v S = true) :
    Calls Try.prog 41 #[.agg (ptrCells (.slice ao n c) b v S).toArray] w fun e w' => ∃ u, e = .returned (.tuple #[u, .int .i64 0]) ∧ St w [] w' [.rowP isB u 5 1 47 (bytesV (bytesP l b v S))] := by
  have hbd := check_bd hc
  rw [hn] at hbd
  obtain ⟨hb0, hb1, hb2, hb3, hb4, hb5⟩ := hbd
  have Hb5 := hid hb5; clear hb5
  have Hn := hid hn; clear hn
  have hcE : checkE l b v S = 0 := by simp [checkE, hc]
  have Hc := hid hcE; clear hcE hc
  go_enter Try.func41, Try.ntmps41
  have hst := St.refl w
  go_wp2_with (first | go_big_skip | go_big_guard | (refine wl_boxA hst rfl rfl rfl ?_; intro g w1 hst1; clear hst) | (refine wl_loadE rfl rfl rfl ?_; first | refine ⟨_, Loads.at [] hst1 rfl, ?_⟩ | refine ⟨_, Loads.atA (ptrCells (.slice ao n c) b v S) [] hst1 (ptr_len hS _ _ _) (ptr_all _ _ _ _), ?_⟩ | refine ⟨_, Loads.at [_] hst2 rfl, ?_⟩) | (go_at_call 68; refine (check_any _ _ _ l b v S _ hS (Rd.old hst1 hA) Hn.out).mono ?_; rw [Hc.out]; rintro _ _ ⟨rfl, hcall⟩; replace hst1 := St.call0 hst1 hcall; clear hcall) | (apply wl_bsX ([]) ([]) hst1; rfl; rfl; exact rfl; exact rfl; infer_instance; infer_instance; rfl; rfl; rfl; intro g2 w2 hst2; clear hst1) | (go_at_call 69; refine (num_k _ 0 _ _ 1 rfl [] _ ((St.toRowP isB (n := 0) (cap := 0) (sz := 1) hst2 rfl (by decide) (by decide) rfl).ownsP (.head _)).1 ((St.toRowP isB (n := 0) (cap := 0) (sz := 1) hst2 rfl (by decide) (by decide) rfl).ownsP (.head _)).2 (by decide) (by decide) (by omega)).mono ?_; rintro _ _ ⟨u1, rfl, h3⟩; have hst3 := St.callRowP (St.toRowP isB (n := 0) (cap := 0) (sz := 1) hst2 rfl (by decide) (by decide) rfl) h3; clear h3 hst2))
  go_loopw [5, 18] (fun u i wr => ∃ k : Nat, k ≤ 3 ∧ i = .int .i64 k ∧ St w [] wr [.rowP isB u 5 1 (1 + 3 * k) (bytesV (numB n 1 ++ addrsB l k)), .blk g 45 (ptrCells (.slice ao n c) b v S)]) (fun _ i _ => 3 - (intOf i).toNat)
  case atStart => exact ⟨0, by omega, rfl, by simpa [addrsB] using hst3⟩
  case round =>
    obtain ⟨k, hk, rfl, hst4⟩ := hrel
    clear hst3
    by_cases hk3 : k < 3
    · obtain ⟨x, hx⟩ : ∃ x, x = l.getD k (0, 0) := ⟨_, rfl⟩
      have hxb := Hb5.out k
      rw [← hx] at hxb
      obtain ⟨hx1, hx2, hx3, hx4⟩ := hxb
      have Hx := hid hx
      by_cases hkn : k < n
      · obtain ⟨bb, off, rfl, hr⟩ := hA.at hkn
        have hb := addr_both hr (k := k) (by rw [Hn.out]; exact hkn)
        rw [← hx] at hb
        clear hx
        go_wp2_with (first | go_big_skip | go_big_guard | (refine wl_alloc hst4 rfl rfl ?_; intro ga w5 hst5; clear hst4) | (refine wl_loadE rfl rfl rfl ?_; first | refine ⟨_, Loads.at [_, _] hst5 rfl, ?_⟩ | refine ⟨_, Loads.oldA hst5 rfl (hb), ?_⟩) | (refine wl_index rfl rfl rfl rfl (hkn) ?_) | (refine wl_store [] hst5 rfl rfl rfl (v := .agg (List.toArray _)) rfl rfl rfl ?_ ?_; (exact Nat.le_refl _); intro w6 hst6; clear hst5; (simp [putAt] at hst6)))
        simp only [Act.put, List.setIfInBounds_toArray, List.set_cons_zero, List.set_cons_succ]
        have hst7 := (hst6.front [_]).drew
        have hc1 := hst7.cell (g := ga) (off := 0) (.tail _ (.head _)) rfl
        have hc2 := hst7.cell (g := ga) (off := 1) (.tail _ (.head _)) rfl
        clear hst6
        go_region_held3 (fun w' => w'.cell? ⟨ga, 0, none⟩ = some (.int .i64 x.1) ∧ w'.cell? ⟨ga, 1, none⟩ = some (.int .i64 x.2))
          (first | go_keep | exact ⟨hst8.cell (.tail _ (.head _)) rfl, hst8.cell (.tail _ (.head _)) rfl⟩ | exact ⟨hst9.cell (.tail _ (.head _)) rfl, hst9.cell (.tail _ (.head _)) rfl⟩)
          (first
            | (go_at_call 69; refine (num_k _ _ x.1 _ 1 rfl _ _ (hst7.ownsP (.head _)).1 (hst7.ownsP (.head _)).2 (by decide) (by omega) (by omega)).mono ?_; rintro _ _ ⟨u2, rfl, h8⟩; have hst8 := St.callRowP hst7 h8; clear h8)
            | (go_at_call 69; refine (num_k _ _ x.2 _ 2 rfl _ _ (hst8.ownsP (.head _)).1 (hst8.ownsP (.head _)).2 (by decide) (by omega) (by omega)).mono ?_; rintro _ _ ⟨u3, rfl, h9⟩; have hst9 := St.callRowP hst8 h9; clear h9))
        go_wp2_with (first | go_big_skip | go_big_guard | fail)
        go_roundw
        case rel =>
          refine ⟨k + 1, by omega, by go_num, ?_⟩
          have h10 := hst9.sub (L' := [.rowP isB u3 5 1 (1 + 3 * k + 1 + 2) (bytesV (((numB n 1 ++ addrsB l k) ++ numB x.1 1) ++ numB x.2 2)), .blk g 45 (ptrCells _ b v S)]) (List.Sublist.cons_cons _ (List.sublist_cons_self _ _))
          rw [show 1 + 3 * (k + 1) = 1 + 3 * k + 1 + 2 by omega]
          have e : numB n 1 ++ addrsB l (k + 1) = ((numB n 1 ++ addrsB l k) ++ numB x.1 1) ++ numB x.2 2 := by
            simp only [addrsB, addrB, ← Hx.out, List.append_assoc]
          rw [e]
          exact h10
        case measure => simp [intOf]; omega
      · clear hx
        go_wp2_with (first | go_big_skip | go_big_guard | (refine wl_alloc hst4 rfl rfl ?_; intro ga w5 hst5; clear hst4) | (refine wl_loadE rfl rfl rfl ?_; first | refine ⟨_, Loads.at [_, _] hst5 rfl, ?_⟩))
        have hx0 : x = (0, 0) := by rw [Hx.out]; simp [List.getD, List.getElem?_eq_none (show l.length ≤ k by rw [Hn.out]; omega)]
        have hst6 : St w [] w5 [.blk ga 98 [.int .i64 x.1, .int .i64 x.2], .rowP isB u5 5 1 (1 + 3 * k) (bytesV (numB n 1 ++ addrsB l k)), .blk g 45 (ptrCells (.slice ao n c) b v S)] := by
          rw [hx0]; exact hst5
        clear hx0
        have hst7 := (hst6.front [_]).drew
        have hc1 := hst7.cell (g := ga) (off := 0) (.tail _ (.head _)) rfl
        have hc2 := hst7.cell (g := ga) (off := 1) (.tail _ (.head _)) rfl
        clear hst5 hst6
        go_region_held3 (fun w' => w'.cell? ⟨ga, 0, none⟩ = some (.int .i64 x.1) ∧ w'.cell? ⟨ga, 1, none⟩ = some (.int .i64 x.2))
          (first | go_keep | exact ⟨hst8.cell (.tail _ (.head _)) rfl, hst8.cell (.tail _ (.head _)) rfl⟩ | exact ⟨hst9.cell (.tail _ (.head _)) rfl, hst9.cell (.tail _ (.head _)) rfl⟩)
          (first
            | (go_at_call 69; refine (num_k _ _ x.1 _ 1 rfl _ _ (hst7.ownsP (.head _)).1 (hst7.ownsP (.head _)).2 (by decide) (by omega) (by omega)).mono ?_; rintro _ _ ⟨u2, rfl, h8⟩; have hst8 := St.callRowP hst7 h8; clear h8)
            | (go_at_call 69; refine (num_k _ _ x.2 _ 2 rfl _ _ (hst8.ownsP (.head _)).1 (hst8.ownsP (.head _)).2 (by decide) (by omega) (by omega)).mono ?_; rintro _ _ ⟨u3, rfl, h9⟩; have hst9 := St.callRowP hst8 h9; clear h9))
        go_wp2_with (first | go_big_skip | go_big_guard | fail)
        go_roundw
        case rel =>
          refine ⟨k + 1, by omega, by go_num, ?_⟩
          have h10 := hst9.sub (L' := [.rowP isB u3 5 1 (1 + 3 * k + 1 + 2) (bytesV (((numB n 1 ++ addrsB l k) ++ numB x.1 1) ++ numB x.2 2)), .blk g 45 (ptrCells _ b v S)]) (List.Sublist.cons_cons _ (List.sublist_cons_self _ _))
          rw [show 1 + 3 * (k + 1) = 1 + 3 * k + 1 + 2 by omega]
          have e : numB n 1 ++ addrsB l (k + 1) = ((numB n 1 ++ addrsB l k) ++ numB x.1 1) ++ numB x.2 2 := by
            simp only [addrsB, addrB, ← Hx.out, List.append_assoc]
          rw [e]
          exact h10
        case measure => simp [intOf]; omega
    · have hk4 : k = 3 := by omega
      subst hk4
      go_wp2_with (first | go_big_skip | go_big_guard | fail)
      have hst7 := hst4.drew
      have hc1 := hst7.cell (g := g) (off := 1) (.tail _ (.head _)) rfl
      have hc2 := hst7.cell (g := g) (off := 2) (.tail _ (.head _)) rfl
      clear hst4
      go_region_held3 (fun w' => w'.cell? ⟨g, 1, none⟩ = some (.int .i64 b) ∧ w'.cell? ⟨g, 2, none⟩ = some (.int .i64 v))
        (first | go_keep | exact ⟨hst10.cell (.tail _ (.head _)) rfl, hst10.cell (.tail _ (.head _)) rfl⟩ | exact ⟨hst9.cell (.tail _ (.head _)) rfl, hst9.cell (.tail _ (.head _)) rfl⟩ | exact ⟨hst8.cell (.tail _ (.head _)) rfl, hst8.cell (.tail _ (.head _)) rfl⟩)
        (first
          | (go_at_call 69; refine (num_k _ _ b _ 4 rfl _ _ (hst7.ownsP (.head _)).1 (hst7.ownsP (.head _)).2 (by decide) (by omega) (by omega)).mono ?_; rintro _ _ ⟨u2, rfl, h8⟩; have hst8 := St.callRowP hst7 h8; clear h8)
          | (go_at_call 69; refine (num_k _ _ v _ 1 rfl _ _ (hst8.ownsP (.head _)).1 (hst8.ownsP (.head _)).2 (by decide) (by omega) (by omega)).mono ?_; rintro _ _ ⟨u3, rfl, h9⟩; have hst9 := St.callRowP hst8 h9; clear h9)
          | (rw [if_pos (by rfl)]; apply ow_appP [] hst9; rfl; exact rfl; exact rfl; infer_instance; infer_instance; infer_instance; infer_instance; exact Rd.blk (n := 32) (c := 32) hst9 (.tail _ (.head _)) (by decide) (by decide) hS.v (ptr_sum _ _ _ _); exact ones_bytesV S; rfl; exact isB_bytes S; (unfold maxLen; omega); intro u4 w10 hst10 _))
      go_wp2_with (first | go_big_skip | go_big_guard | fail)
      go_ret2
      have h11 := hst10.sub (L' := [.rowP isB u4 5 1 (1 + 3 * 3 + 4 + 1 + 32) (bytesV (((numB n 1 ++ addrsB l 3) ++ numB b 4) ++ numB v 1) ++ bytesV S)]) (List.singleton_sublist.2 (.head _))
      rw [← bytesV_append] at h11
      refine ⟨u4, rfl, ?_⟩
      have e : bytesP l b v S = (((numB n 1 ++ addrsB l 3) ++ numB b 4) ++ numB v 1) ++ S := by simp only [bytesP, Hn.out]
      rw [e]
      exact h11
theorem bytes_ok (ao : Option Addr) (n c : Nat) (l : List (Int × Int)) (b v : Int) (S : List UInt8) (w : World) (hS : L32 S) (hA : Rd w (.slice ao n c) 2 n (addrsV l)) (hn : l.length = n) (hc : checkB l b v S = true) :
    Calls Try.prog 41 #[.agg (ptrCells (.slice ao n c) b v S).toArray] w fun e w' => ∃ u, e = .returned (.tuple #[u, .int .i64 0]) ∧ St w [] w' [.row u 5 1 47 (bytesV (bytesP l b v S))] := by
  refine (bytes_okP ao n c l b v S w hS hA hn hc).mono ?_
  rintro e w' ⟨u, h1, h2⟩
  exact ⟨u, h1, St.unP (L1 := []) h2⟩
end Go.Proofs.Ytkpkaoiafppimaa
namespace Go.Proofs.Ytkpkaoiafppimaa
set_option linter.unusedVariables false
set_option linter.unusedSimpArgs false
open Go.RowKit Hp
attribute [local irreducible] Go.Calls
set_option maxHeartbeats 1000000
theorem cnum_any (g : Nat) (ao : Option Addr) (n c k : Nat) (bs : List UInt8) (w : World) (hg : w.heap[g]? = some (.cells #[.slice ao n c] 121 (0, 0))) (hA : Rd w (.slice ao n c) 1 n (bytesV bs)) (hn : bs.length = n) (hk : 1 ≤ k ∧ k ≤ 4 ∧ k ≤ n)
    (hne : ∀ b off, ao = some ⟨b, off, none⟩ → b ≠ g) :
    Calls Try.prog 103 #[.pointer (some ⟨g, 0, none⟩), .int .i64 k] w fun e w' => ∃ ao' c', e = .returned (.int .i64 (beN (bs.take k))) ∧ St w [g] w' [.blk g 121 [.slice ao' (n - k) c']] ∧
      (∀ wx, Rd wx (.slice ao n c) 1 n (bytesV bs) → Rd wx (.slice ao' (n - k) c') 1 (n - k) (bytesV (bs.drop k))) ∧ (∀ b off, ao' = some ⟨b, off, none⟩ → b ≠ g) := by
  have hst := St.one w g 121 [.slice ao n c] hg
  obtain ⟨hk1, hk2, hk3⟩ := hk
  have hbd1 := hA.bd.1
  have hbd2 := hA.bd.2.1
  obtain ⟨b, off, rfl, hr⟩ := hA.at (k := 0) (by omega)
  have hgb := hne b off rfl
  have Hn := hid hn; clear hn
  clear hg hne
  have hs0 := hst.cell (g := g) (off := 0) (.head _) rfl
  go_enter Try.func103, Try.ntmps103
  go_wp2_with (first | go_big_skip | go_big_guard | fail)
  go_loopw [5, 15] (fun v i wr => ∃ j : Nat, j ≤ k ∧ i = .int .i64 j ∧ v = .int .i64 (beN (bs.take j)) ∧ wr = w) (fun _ i _ => k - (intOf i).toNat)
  case atStart => exact ⟨0, Nat.zero_le _, rfl, by simp [beN], rfl⟩
  case round =>
    obtain ⟨j, hj, rfl, rfl, hwr⟩ := hrel
    subst hwr
    by_cases hlt : j < k
    · have hx := byte_cell hr (k := j) (by rw [Hn.out]; omega)
      have hsucc := beN_take_succ bs j (by rw [Hn.out]; omega)
      have hqlt := beN_lt (bs.take j)
      have hq3 : beN (bs.take j) < 16777216 := by
        refine Nat.lt_of_lt_of_le hqlt ?_
        have : (bs.take j).length ≤ 3 := by rw [List.length_take]; omega
        calc 256 ^ (bs.take j).length ≤ 256 ^ 3 := Nat.pow_le_pow_right (by decide) this
          _ = 16777216 := by decide
      obtain ⟨x, hxx⟩ : ∃ x, x = bs.getD j 0 := ⟨_, rfl⟩
      rw [← hxx] at hx hsucc
      obtain ⟨q, hqq⟩ : ∃ q, q = beN (bs.take j) := ⟨_, rfl⟩
      rw [← hqq] at hsucc hq3
      rw [← hqq]
      have Hs := hid hsucc
      clear hsucc hqq hxx hqlt
      have hxb := x.toNat_lt
      have hor := or256 q x.toNat (by omega) (by omega) (by omega) (by omega)
      go_wp2_with (first | go_big_skip | go_big_guard | fail)
      go_roundw
      case rel => exact ⟨j + 1, by omega, by go_num, by rw [Hs.out]; go_num, by first | rfl | trivial⟩
      case measure => simp [intOf]; omega
    · have hjk : j = k := by omega
      subst hjk
      by_cases hck : c = j
      · subst hck
        have hnc : n = c := by omega
        go_wp2_with (first | go_big_skip | go_big_guard | (refine wl_store [] hst rfl rfl rfl (v := .slice _ _ _) rfl rfl rfl ?_ ?_; (exact Nat.le_refl _); intro w2 hst2; clear hst; (simp [putAt] at hst2)))
        go_ret
        refine ⟨some ⟨b, off, none⟩, 0, rfl, by rw [show n - c = 0 by omega]; exact hst2, fun wx hx => ?_, fun b' off' hb' => ?_⟩
        · rw [show n - c = 0 by omega]; exact Rd.tailC hx hnc
        · simp only [Option.some.injEq, Addr.mk.injEq] at hb'; rw [← hb'.1]; exact hgb
      · go_wp2_with (first | go_big_skip | go_big_guard | (refine wl_store [] hst rfl rfl rfl (v := .slice _ _ _) rfl rfl rfl ?_ ?_; (exact Nat.le_refl _); intro w2 hst2; clear hst; (simp [putAt] at hst2)))
        go_ret
        refine ⟨_, _, rfl, hst2, fun wx hx => Rd.tail hx (by omega) (by omega), fun b' off' hb' => ?_⟩
        simp only [Option.some.injEq, Addr.mk.injEq] at hb'; rw [← hb'.1]; exact hgb
end Go.Proofs.Ytkpkaoiafppimaa
namespace Go.Proofs.Ytkpkaoiafppimaa
set_option linter.unusedVariables false
set_option linter.unusedSimpArgs false
open Go.RowKit Hp
attribute [local go_sem ↓] Go.wp_at_zero Go.wp_at_succ
attribute [local irreducible] Go.Calls
set_option maxHeartbeats 1000000
theorem cnum_k (g : Nat) (ao : Option Addr) (n c k : Nat) (s : Int) (hs : s = (k : Int)) (bs : List UInt8) (w : World) (hg : w.heap[g]? = some (.cells #[.slice ao n c] 121 (0, 0))) (hA : Rd w (.slice ao n c) 1 n (bytesV bs)) (hn : bs.length = n) (hk : 1 ≤ k ∧ k ≤ 4 ∧ k ≤ n)
    (hne : ∀ b off, ao = some ⟨b, off, none⟩ → b ≠ g) :
    Calls Try.prog 103 #[.pointer (some ⟨g, 0, none⟩), .int .i64 s] w fun e w' => ∃ ao' c', e = .returned (.int .i64 (beN (bs.take k))) ∧ St w [g] w' [.blk g 121 [.slice ao' (n - k) c']] ∧
      (∀ wx, Rd wx (.slice ao n c) 1 n (bytesV bs) → Rd wx (.slice ao' (n - k) c') 1 (n - k) (bytesV (bs.drop k))) ∧ (∀ b off, ao' = some ⟨b, off, none⟩ → b ≠ g) := by
  subst hs
  exact cnum_any g ao n c k bs w hg hA hn hk hne
theorem read_short (ao : Option Addr) (n c : Nat) (bs : List UInt8) (w : World) (hA : Rd w (.slice ao n c) 1 n (bytesV bs)) (hn : bs.length = n) (h47 : n ≠ 47) :
    Calls Try.prog 89 #[.slice ao n c] w (readEnd bs w 115 98) := by
  have hbd1 := hA.bd.1
  have hbd2 := hA.bd.2.1
  have hst := St.refl w
  have Hn := hid hn; clear hn
  have hne : Hid (bs.length ≠ 47) := by rw [← Hn.out] at h47; exact hid h47
  go_enter Try.func89, Try.ntmps89
  go_wp2_with (first | go_big_skip | go_big_guard | (refine wl_alloc hst rfl rfl ?_; intro g0 w1 hst1; clear hst))
  all_goals
    have hn' := Hn.out
    exact ⟨rfl, readEnd_no (by simp [rOK, hne.out]) (by simp [rErr, hne.out]) (by unfold rAt; rw [if_neg hne.out]; split <;> omega) hst1.nil⟩
theorem read_full (ao : Option Addr) (n c : Nat) (bs : List UInt8) (w : World) (hA : Rd w (.slice ao n c) 1 n (bytesV bs)) (hn : bs.length = n) (h47 : n = 47) :
    Calls Try.prog 89 #[.slice ao n c] w (readEnd bs w 115 98) := by
  have hbd1 := hA.bd.1
  have hbd2 := hA.bd.2.1
  have hst := St.refl w
  obtain ⟨b0, off0, rfl, hr0⟩ := hA.at (k := 0) (by omega)
  have hb0 : b0 < w.heap.size := World.block_lt_of_cell? w _ (byte_cell hr0 (k := 0) (by omega))
  have Hn := hid hn; clear hn
  subst h47
  go_enter Try.func89, Try.ntmps89
  go_wp2_with (first | go_big_skip | go_big_guard | (refine wl_alloc hst rfl rfl ?_; intro g0 w1 hst1; clear hst) | (refine wl_boxA hst1 rfl rfl rfl ?_; intro gc w2 hst2; clear hst1) | (refine wl_alloc hst2 rfl rfl ?_; intro gp w3 hst3; clear hst2))
  have hgc : ∀ b off, some (⟨b0, off0, none⟩ : Addr) = some ⟨b, off, none⟩ → b ≠ gc := by
    intro b off h
    cases h
    have : gc ≥ w.heap.size := by rcases hst3.own _ (.tail _ (.head _)) gc rfl with h | h; exact h; cases h
    omega
  go_at_call 103
  refine (cnum_k gc _ 47 c 1 _ rfl bs _ (hst3.all _ (.tail _ (.head _))) (Rd.old hst3 hA) Hn.out (by omega) hgc).mono ?_
  rintro _ _ ⟨ao1, c1, rfl, h1, h2, h3⟩
  have hst4 := St.call1 [_] hst3 h1
  clear h1 hst3 hgc
  have hR := h2 w hA
  clear h2
  go_wp2_with (first | go_big_skip | go_big_guard | fail)
  have hst5 := hst4.perm (L' := [.blk gc 121 [.slice ao1 46 c1], .blk gp 45 (ptrCells (.slice none 0 0) 0 0 nones), .blk g0 45 (ptrCells (.slice none 0 0) 0 0 nones)]) (List.Perm.swap _ _ _)
  clear hst4
  obtain ⟨many, hmany⟩ : ∃ q, q = beN (bs.take 1) := ⟨_, rfl⟩
  have hml : many < 256 := by
    have := beN_lt (bs.take 1)
    rw [hmany]
    refine Nat.lt_of_lt_of_le this ?_
    have h1 : (bs.take 1).length ≤ 1 := by rw [List.length_take]; omega
    calc 256 ^ (bs.take 1).length ≤ 256 ^ 1 := Nat.pow_le_pow_right (by decide) h1
      _ = 256 := by decide
  rw [← hmany]
  have Hmany := hid hmany
  clear hmany
  go_loopw [24] (fun i wr => ∃ k : Nat, k ≤ 3 ∧ i = .int .i64 k ∧ ∃ ao2 c2 v3 m3, St w [] wr [.row v3 98 2 m3 (addrsV (rAddrs bs k)), .blk gc 121 [.slice ao2 (46 - 3 * k) c2], .blk gp 45 (ptrCells v3 0 0 nones), .blk g0 45 (ptrCells (.slice none 0 0) 0 0 nones)] ∧
      Rd w (.slice ao2 (46 - 3 * k) c2) 1 (46 - 3 * k) (bytesV (bs.drop (1 + 3 * k))) ∧ (∀ b off, ao2 = some ⟨b, off, none⟩ → b ≠ gc) ∧ (rAddrs bs k).length = m3) (fun i _ => 3 - (intOf i).toNat)
  case atStart => exact ⟨0, by omega, rfl, ao1, c1, _, 0, St.nilRow _ _ hst5, hR, h3, rfl⟩
  case round =>
    obtain ⟨k, hk, rfl, ao2, c2, v3, m3, hst6, hR2, hgc2, hl3⟩ := hrel
    clear hst5 hR h3
    have hm3 : m3 ≤ k := by rw [← hl3]; exact rAddrs_le bs k
    have Hl3 := hid hl3
    clear hl3
    have hlen : (bs.drop (1 + 3 * k)).length = 46 - 3 * k := by rw [List.length_drop, Hn.out]; omega
    have Hlen := hid hlen
    clear hlen
    by_cases hk3 : k < 3
    · obtain ⟨n2, hn2⟩ : ∃ q, q = 46 - 3 * k := ⟨_, rfl⟩
      rw [← hn2] at hst6 hR2 Hlen
      go_wp2_with (first | go_big_skip | go_big_guard | fail)
      go_at_call 103
      refine (cnum_k gc _ _ c2 1 _ rfl _ _ (hst6.all _ (.tail _ (.head _))) (Rd.old hst6 hR2) Hlen.out (by omega) hgc2).mono ?_
      rintro _ _ ⟨ao4, c4, rfl, h1, h2, hgc4⟩
      have hst7 := St.call1 [_] hst6 h1
      have hR4 := h2 w hR2
      clear h1 h2 hst6 hR2 hgc2
      go_wp2_with (first | go_big_skip | go_big_guard | fail)
      go_at_call 103
      refine (cnum_k gc _ _ c4 2 _ rfl _ _ (hst7.all _ (.tail _ (.head _))) (Rd.old hst7 hR4) (by rw [List.length_drop, Hlen.out]) (by omega) hgc4).mono ?_
      rintro _ _ ⟨ao5, c5, rfl, h1, h2, hgc5⟩
      have hst8 := St.call1 [_] hst7 h1
      have hR5 := h2 w hR4
      clear h1 h2 hst7 hR4 hgc4
      obtain ⟨x, hx⟩ : ∃ q, q = rA bs k := ⟨_, rfl⟩
      have hx1 : ((beN ((bs.drop (1 + 3 * k)).take 1) : Nat) : Int) = x.1 := by rw [hx]; rfl
      have hx2 : ((beN (((bs.drop (1 + 3 * k)).drop 1).take 2) : Nat) : Int) = x.2 := by rw [hx, List.drop_drop, show 1 + 3 * k + 1 = 2 + 3 * k by omega]; rfl
      rw [hx1, hx2]
      have Hx := hid hx
      clear hx hx1 hx2
      have hR6 : Rd w (.slice ao5 (n2 - 1 - 2) c5) 1 (n2 - 1 - 2) (bytesV (bs.drop (1 + 3 * (k + 1)))) := by
        have e : ((bs.drop (1 + 3 * k)).drop 1).drop 2 = bs.drop (1 + 3 * (k + 1)) := by simp only [List.drop_drop]; congr 1
        rw [← e]; exact hR5
      clear hR5
      by_cases hkm : k < many
      · have he : addrsV (rAddrs bs k) ++ [.int .i64 x.1, .int .i64 x.2] = addrsV (rAddrs bs (k + 1)) := by
          have : rAddrs bs (k + 1) = rAddrs bs k ++ [x] := by
            rw [rAddrs, if_pos (by rw [← Hmany.out]; exact hkm), Hx.out]
          rw [this, addrsV_append]; rfl
        have hl : (rAddrs bs (k + 1)).length = m3 + 1 := by
          rw [rAddrs, if_pos (by rw [← Hmany.out]; exact hkm), List.length_append, Hl3.out]; rfl
        have He := hid he
        have Hl := hid hl
        clear he hl
        go_wp2_with (first | go_big_skip | go_big_guard | (refine wl_alloc hst8 rfl rfl ?_; intro ga w9 hst9; clear hst8) | (refine wl_store [] hst9 rfl rfl rfl (v := .agg (List.toArray _)) rfl rfl rfl ?_ ?_; (exact Nat.le_refl _); intro w10 hst10; clear hst9; (simp [putAt] at hst10)) | (refine wl_loadE rfl rfl rfl ?_; first | refine ⟨_, Loads.at [_, _, _] hst10 rfl, ?_⟩ | refine ⟨_, Loads.atA ([.int _ _, .int _ _]) [] hst10 (rfl) (rfl), ?_⟩) | (apply wl_bsX ([.agg #[_, _]]) ([.int _ _, .int _ _]) hst10; rfl; rfl; exact rfl; exact rfl; infer_instance; infer_instance; rfl; rfl; rfl; intro gb w11 hst11; clear hst10) | ((apply wl_appX [_, _] hst11; rfl; rfl; exact rfl; exact rfl; infer_instance; infer_instance; infer_instance; exact (Rd.blk0 hst11 rfl (by decide)); exact rfl; ((unfold maxLen; omega)); intro v12 w12 hst12 _; clear hst11); obtain ⟨ao6, c6, rfl⟩ := St.rowSliceAt [_, _] hst12) | (refine wl_store [_, _, _, _] hst12 rfl rfl rfl (v := .slice _ _ _) rfl rfl rfl ?_ ?_; (exact (by decide : 0 + 1 ≤ 35)); intro w13 hst13; clear hst12; (skip)))
        have hst14 : St w [] w13 [.row (.slice ao6 (m3 + 1) c6) 98 2 (m3 + 1) (addrsV (rAddrs bs k) ++ [.int .i64 x.1, .int .i64 x.2]), .blk gc 121 [.slice ao5 (n2 - 1 - 2) c5], .blk gp 45 (ptrCells (.slice ao6 (m3 + 1) c6) 0 0 nones), .blk g0 45 (ptrCells (.slice none 0 0) 0 0 nones)] :=
          St.sub (L := [_, _, _, _, _, _]) hst13 (.cons _ (.cons _ (List.Sublist.refl _)))
        rw [He.out] at hst14
        go_roundw
        case rel =>
          refine ⟨k + 1, by omega, by go_num, ao5, c5, .slice ao6 (m3 + 1) c6, m3 + 1, ?_⟩
          rw [show 46 - 3 * (k + 1) = n2 - 1 - 2 by omega]
          exact ⟨hst14, hR6, hgc5, Hl.out⟩
        case measure => simp [intOf]; omega
      · have he : rAddrs bs (k + 1) = rAddrs bs k := by
          rw [rAddrs, if_neg (by rw [← Hmany.out]; exact hkm), List.append_nil]
        have He := hid he
        clear he
        go_wp2_with (first | go_big_skip | go_big_guard | (refine wl_alloc hst8 rfl rfl ?_; intro ga w9 hst9; clear hst8) | (refine wl_store [] hst9 rfl rfl rfl (v := .agg (List.toArray _)) rfl rfl rfl ?_ ?_; (exact Nat.le_refl _); intro w10 hst10; clear hst9; (simp [putAt] at hst10)))
        have hst14 := hst10.drop (L1 := [])
        go_roundw
        case rel =>
          refine ⟨k + 1, by omega, by go_num, ao5, c5, v3, m3, ?_⟩
          rw [show 46 - 3 * (k + 1) = n2 - 1 - 2 by omega, He.out]
          exact ⟨hst14, hR6, hgc5, Hl3.out⟩
        case measure => simp [intOf]; omega
    · have hk4 : k = 3 := by omega
      obtain ⟨n2, hn2⟩ : ∃ q, q = 46 - 3 * k := ⟨_, rfl⟩
      rw [← hn2] at hst6 hR2 Hlen
      go_wp2_with (first | go_big_skip | go_big_guard | fail)
      go_at_call 103
      refine (cnum_k gc _ _ c2 4 _ rfl _ _ (hst6.all _ (.tail _ (.head _))) (Rd.old hst6 hR2) Hlen.out (by omega) hgc2).mono ?_
      rintro _ _ ⟨ao4, c4, rfl, h1, h2, hgc4⟩
      have hst7 := St.call1 [_] hst6 h1
      have hR4 := h2 w hR2
      clear h1 h2 hst6 hR2 hgc2
      have hb1 : beN ((bs.drop (1 + 3 * k)).take 4) = rBirth bs := by rw [hk4]; rfl
      rw [hb1]
      go_wp2_with (first | go_big_skip | go_big_guard | (refine wl_store [_, _] hst7 rfl rfl rfl (v := .int _ _) rfl rfl rfl ?_ ?_; (exact (by decide : 1 + 1 ≤ 35)); intro w8 hst8; clear hst7; (skip)))
      go_at_call 103
      refine (cnum_k gc _ _ c4 1 _ rfl _ _ (hst8.all _ (.tail _ (.head _))) (Rd.old hst8 hR4) (by rw [List.length_drop, Hlen.out]) (by omega) hgc4).mono ?_
      rintro _ _ ⟨ao5, c5, rfl, h1, h2, hgc5⟩
      have hst9 := St.call1 [_] hst8 h1
      have hR5 := h2 w hR4
      clear h1 h2 hst8 hR4 hgc4
      have hb2 : beN (((bs.drop (1 + 3 * k)).drop 4).take 1) = rLevel bs := by rw [hk4, List.drop_drop]; rfl
      rw [hb2]
      go_wp2_with (first | go_big_skip | go_big_guard | (refine wl_store [_, _] hst9 rfl rfl rfl (v := .int _ _) rfl rfl rfl ?_ ?_; (exact (by decide : 2 + 1 ≤ 35)); intro w10 hst10; clear hst9; (skip)))
      have hb3 : ((bs.drop (1 + 3 * k)).drop 4).drop 1 = rSum bs := by rw [hk4, List.drop_drop, List.drop_drop]; rfl
      rw [hb3] at hR5
      have hn32 : n2 - 4 - 1 = 32 := by omega
      rw [hn32] at hR5 hst10
      have hst11 : St w [] w10 [.blk gc 121 [.slice ao5 32 c5], .blk gp 45 (ptrCells v3 (rBirth bs) (rLevel bs) nones), .row v3 98 2 m3 (addrsV (rAddrs bs k)), .blk g0 45 (ptrCells (.slice none 0 0) 0 0 nones)] :=
        St.perm (L := [.row v3 98 2 m3 (addrsV (rAddrs bs k)), .blk gc 121 [.slice ao5 32 c5], .blk gp 45 (ptrCells v3 (rBirth bs) (rLevel bs) nones), .blk g0 45 (ptrCells (.slice none 0 0) 0 0 nones)]) hst10
          ((List.Perm.swap _ _ _).trans (List.Perm.cons _ (List.Perm.swap _ _ _)))
      clear hst10
      have hS : L32 (rSum bs) := by unfold L32 rSum; rw [List.length_drop, Hn.out]
      rw [hk4] at hst11 Hl3
      obtain ⟨ao3, c3, rfl⟩ := St.rowSliceAt [_, _] hst11
      have hst12 := hst11.drew
      have hc0 := hst12.cell (g := gc) (off := 0) (.head _) rfl
      clear hst11
      go_region_held3 (fun w' => w'.cell? ⟨gc, 0, none⟩ = some (.slice ao5 32 c5))
        (first | go_keep | exact hst13.cell (g := gc) (.head _) rfl)
        (first | (rw [if_pos (by rfl)]; apply ow_copy [_] hst12; rfl; exact rfl; exact rfl; infer_instance; infer_instance; exact Rd.old hst12 hR5; exact ones_bytesV _; exact (by decide : 32 ≤ 32); exact (by decide : 3 + 32 ≤ 35); intro w13 hst13))
      rw [ptr_put hS] at hst13
      clear hst12 hR5 hgc5
      by_cases hc : checkB (rAddrs bs 3) (rBirth bs) (rLevel bs) (rSum bs) = true
      · by_cases hq : (bytesP (rAddrs bs 3) (rBirth bs) (rLevel bs) (rSum bs) == bs) = true
        · go_wp2_with (first | go_big_skip | go_big_guard | (refine wl_loadE rfl rfl rfl ?_; first | refine ⟨_, Loads.atA (ptrCells _ _ _ _) [_] hst13 (ptr_len hS _ _ _) (ptr_all _ _ _ _), ?_⟩ | refine ⟨_, Loads.atA (ptrCells _ _ _ _) [_, _] hst14 (ptr_len hS _ _ _) (ptr_all _ _ _ _), ?_⟩) | (go_at_call 41; refine (bytes_ok ao3 m3 c3 (rAddrs bs 3) _ _ _ _ hS (Rd.row hst13 (.tail _ (.tail _ (.head _)))) Hl3.out hc).mono ?_; rintro _ _ ⟨u, rfl, h14⟩; obtain ⟨ao7, c7, rfl⟩ := St.rowSliceAt [] h14; have hst14 := St.call hst13 h14; clear h14 hst13) | (go_at_call 104; refine (eqBytes_any ao7 _ 47 c7 47 c (bytesP (rAddrs bs 3) (rBirth bs) (rLevel bs) (rSum bs)) bs _ (Rd.row hst14 (.head _)) (length_bytesP _ _ _ hS) (Rd.old hst14 hA) Hn.out).mono ?_; rw [hq]; rintro _ _ ⟨rfl, h15⟩; replace hst14 := St.call0 hst14 h15; clear h15) | (refine wl_storeA [_, _, _, _] hst14 rfl rfl rfl rfl (ptr_len hS _ _ _) (ptr_ones _ _ _ _ _ _) (rfl) ?_; intro w15 hst15; clear hst14))
          have hl := Loads.atA (P := Try.prog) (T := 45) (ptrCells (.slice ao3 m3 c3) (rBirth bs) (rLevel bs) (rSum bs)) [_, _, _, _] hst15 (ptr_len hS _ _ _) (ptr_all _ _ _ _)
          exact bodyPost_ret (results_cellL rfl rfl hl) rfl (readEnd_ok (by simp [rOK, hc, hq, Hn.out]) (hst15.sub (L' := [.row (.slice ao3 m3 c3) 98 2 m3 (addrsV (rAddrs bs 3))]) (.cons _ (.cons _ (.cons _ (List.Sublist.cons_cons _ (List.nil_sublist _)))))) Hl3.out)
        · go_wp2_with (first | go_big_skip | go_big_guard | (refine wl_loadE rfl rfl rfl ?_; first | refine ⟨_, Loads.atA (ptrCells _ _ _ _) [_] hst13 (ptr_len hS _ _ _) (ptr_all _ _ _ _), ?_⟩) | (go_at_call 41; refine (bytes_ok ao3 m3 c3 (rAddrs bs 3) _ _ _ _ hS (Rd.row hst13 (.tail _ (.tail _ (.head _)))) Hl3.out hc).mono ?_; rintro _ _ ⟨u, rfl, h14⟩; obtain ⟨ao7, c7, rfl⟩ := St.rowSliceAt [] h14; have hst14 := St.call hst13 h14; clear h14 hst13) | (go_at_call 104; refine (eqBytes_any ao7 _ 47 c7 47 c (bytesP (rAddrs bs 3) (rBirth bs) (rLevel bs) (rSum bs)) bs _ (Rd.row hst14 (.head _)) (length_bytesP _ _ _ hS) (Rd.old hst14 hA) Hn.out).mono ?_; rw [Bool.eq_false_iff.2 hq]; rintro _ _ ⟨rfl, h15⟩; replace hst14 := St.call0 hst14 h15; clear h15))
          exact ⟨rfl, readEnd_no (by simp [rOK, Bool.eq_false_iff.2 hq]) (by simp [rErr, Hn.out]) (by simp [rAt, Hn.out]) hst14.nil⟩
      · go_wp2_with (first | go_big_skip | go_big_guard | (refine wl_loadE rfl rfl rfl ?_; first | refine ⟨_, Loads.atA (ptrCells _ _ _ _) [_] hst13 (ptr_len hS _ _ _) (ptr_all _ _ _ _), ?_⟩) | (go_at_call 41; refine (bytes_no ao3 m3 c3 (rAddrs bs 3) _ _ _ _ hS (Rd.row hst13 (.tail _ (.tail _ (.head _)))) Hl3.out (Bool.eq_false_iff.2 hc)).mono ?_; rintro _ _ ⟨rfl, h14⟩; replace hst13 := St.call0 hst13 h14; clear h14))
        exact ⟨rfl, readEnd_no (by simp [rOK, Bool.eq_false_iff.2 hc]) (by simp [rErr, Hn.out]) (by simp [rAt, Hn.out]) hst13.nil⟩
theorem read_any (ao : Option Addr) (n c : Nat) (bs : List UInt8) (w : World) (hA : Rd w (.slice ao n c) 1 n (bytesV bs)) (hn : bs.length = n) :
    Calls Try.prog 89 #[.slice ao n c] w (readEnd bs w 115 98) := by
  by_cases h47 : n = 47
  · exact read_full ao n c bs w hA hn h47
  · exact read_short ao n c bs w hA hn h47
end Go.Proofs.Ytkpkaoiafppimaa
