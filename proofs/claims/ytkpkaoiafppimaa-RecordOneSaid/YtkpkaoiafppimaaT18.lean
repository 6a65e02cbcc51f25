import Derived.Test.YtkpkaoiafppimaaT5
import Derived.Test.YtkpkaoiafppimaaSepY
import Derived.Deep.RegionHeld3
import Derived.Outline
import Derived.IntWalk
namespace Go.Proofs.Ytkpkaoiafppimaa
set_option linter.unusedVariables false
set_option linter.unusedSimpArgs false
open Go.RowKit Hp
attribute [local irreducible] Go.Calls
set_option maxHeartbeats 1000000
def markB (i : Nat) : UInt8 := UInt8.ofNat (160 + i % 90)
def markV (i : Nat) : Value := .int .u8 ((markB i).toNat : Int)
def lentT (n : Nat) : Nat → List Value
  | 0 => [.int .u8 0, .int .u8 0, .int .u8 0]
  | 1 => [markV n, .int .u8 0, .int .u8 0]
  | 2 => [markV n, markV (n + 1), .int .u8 0]
  | _ => [markV n, markV (n + 1), markV (n + 2)]
def lentB (bs : List UInt8) : List UInt8 := bs ++ [markB bs.length, markB (bs.length + 1), markB (bs.length + 2)]
theorem lentB_V (bs : List UInt8) : bytesV (lentB bs) = bytesV bs ++ lentT bs.length 3 := by simp [lentB, bytesV, lentT, markV]
theorem length_lentB (bs : List UInt8) : (lentB bs).length = bs.length + 3 := by simp [lentB]
theorem put_app (a t : List Value) (j : Nat) (vs : List Value) : putAt (a ++ t) (a.length + j) vs = a ++ putAt t j vs := by
  simp only [putAt, Nat.add_assoc, List.append_assoc]
  rw [List.take_append, List.drop_append, List.take_of_length_le (by omega), List.drop_of_length_le (by omega)]
  simp [Nat.add_sub_cancel_left]
theorem len_lentT (n j : Nat) : (lentT n j).length = 3 := by
  match j with
  | 0 => rfl
  | 1 => rfl
  | 2 => rfl
  | _ + 3 => rfl
theorem put_lent (bs : List UInt8) (k j : Nat) (hk : k = bs.length + j) (hj : j < 3) : putAt (bytesV bs ++ lentT bs.length j) k [markV k] = bytesV bs ++ lentT bs.length (j + 1) := by
  subst hk
  have := put_app (bytesV bs) (lentT bs.length j) j [markV (bs.length + j)]
  rw [length_bytesV] at this
  rw [this]
  congr 1
  match j, hj with
  | 0, _ => rfl
  | 1, _ => rfl
  | 2, _ => rfl
theorem lent_any (ao : Option Addr) (n c : Nat) (bs : List UInt8) (w : World) (hA : Rd w (.slice ao n c) 1 n (bytesV bs)) (hn : bs.length = n) (hb : n ≤ 100000) :
    Calls Try.prog 9 #[.slice ao n c] w fun e w' => ∃ g, e = .returned (.slice (some ⟨g, 0, none⟩) n (n + 3)) ∧ St w [] w' [.blk g 5 (bytesV (lentB bs))] := by
  have hst := St.refl w
  have Hn := hid hn; clear hn
  go_enter Try.func9, Try.ntmps9
  go_wp2_with (first | go_big_skip | go_big_guard | (apply wl_make (n + 3) (n + 3) hst; rfl; rfl; exact rfl; exact rfl; infer_instance; infer_instance; infer_instance; (push_cast; rfl); (push_cast; rfl); exact Nat.le_refl _; (constructor <;> omega); intro g _ hst1; clear hst) | (apply wl_copy [] hst1; rfl; rfl; exact rfl; exact rfl; infer_instance; infer_instance; exact Rd.old hst1 hA; exact ones_bytesV bs; omega; (simp <;> omega); intro w2 hst2; clear hst1))
  have e : putAt (List.replicate (n + 3) (Value.int .u8 0)) 0 (bytesV bs) = bytesV bs ++ lentT n 0 := by
    simp only [putAt, List.take_zero, List.nil_append, length_bytesV, Hn.out, List.drop_replicate, Nat.zero_add]
    congr 1
    rw [show n + 3 - n = 3 by omega]
    rfl
  rw [e] at hst2
  clear e
  have hst3 : St w [] w2 [.blk g 5 (bytesV bs ++ lentT n 0)] := hst2
  clear hst2
  go_loopw [4] (fun i wr => ∃ k j : Nat, i = .int .i64 k ∧ Hid (k = n + j) ∧ j ≤ 3 ∧ St w [] wr [.blk g 5 (bytesV bs ++ lentT n j)]) (fun i _ => n + 3 - (intOf i).toNat)
  case atStart => exact ⟨n, 0, rfl, hid rfl, by omega, hst3⟩
  case round =>
    clear hst3
    obtain ⟨k, j, rfl, hkj, hj, hst⟩ := hrel
    by_cases hj3 : j < 3
    · have hk : k < n + 3 := by rw [hkj.out]; omega
      have hk2 : n ≤ k := by rw [hkj.out]; omega
      go_wp2_with (first | go_big_skip | go_big_guard | (refine wl_index rfl rfl rfl rfl hk ?_) | (refine wl_store [] hst rfl rfl rfl (v := .int _ _) rfl rfl rfl (by simp [Value.cells, len_lentT, Hn.out]; omega) ?_; intro w5 hst4; clear hst))
      have hv : Value.int .u8 (160 + (k : Int) % 90) = markV k := by
        simp only [markV, markB, UInt8.toNat_ofNat', Value.int.injEq, true_and]
        omega
      have e := put_lent bs k j (by rw [Hn.out]; exact hkj.out) hj3
      rw [Hn.out] at e
      rw [hv, Nat.zero_add, Nat.mul_one] at hst4
      have e2 : putAt (bytesV bs ++ lentT n j) k (markV k).cells.toList = bytesV bs ++ lentT n (j + 1) := e
      rw [e2] at hst4
      clear hv e e2
      have hst5 : St w [] w5 [.blk g 5 (bytesV bs ++ lentT n (j + 1))] := hst4
      clear hst4
      have Hk1 := hid (show k + 1 = n + (j + 1) by rw [hkj.out]; omega)
      go_roundw
      case rel => exact ⟨k + 1, j + 1, by go_num, Hk1, by omega, hst5⟩
      case measure => simp [intOf]; omega
    · have e : k = n + 3 := by rw [hkj.out]; omega
      have ej : j = 3 := by omega
      subst ej
      clear hkj hj hj3
      subst e
      go_wp2_with (first | go_big_skip | go_big_guard | fail)
      go_ret
      refine ⟨g, rfl, ?_⟩
      have e : bytesV (lentB bs) = bytesV bs ++ lentT n 3 := by rw [lentB_V, Hn.out]
      rw [e]; exact hst
theorem kept_any (ao : Option Addr) (g n c : Nat) (bs : List UInt8) (w : World) (L : List HA) (w0 : World) (hst0 : St w0 [] w L) (hg : HA.blk g 5 (bytesV (lentB bs)) ∈ L) (hA : Rd w (.slice ao n c) 1 n (bytesV bs)) (hn : bs.length = n) (hb : n ≤ 100000) :
    Calls Try.prog 14 #[.slice (some ⟨g, 0, none⟩) n (n + 3), .slice ao n c] w fun e w' => e = .returned (.bool true) ∧ St w [] w' [] := by
  have hl : Rd w (.slice (some ⟨g, 0, none⟩) (n + 3) (n + 3)) 1 (n + 3) (bytesV (lentB bs)) := Rd.blk hst0 hg (Nat.le_refl _) (by unfold maxLen; omega) (by rw [length_bytesV, length_lentB, hn]; omega) (by rw [List.drop_zero, List.take_length])
  clear hst0 hg
  have Hn := hid hn; clear hn
  have hst := St.refl w
  have hq : (lentB bs == lentB bs) = true := by simp
  have a0 : (0 : Int) ≤ (n : Int) + 3 := by omega
  have a1 : ((n : Int) + 3).toNat = n + 3 := by omega
  have a2 : IntKind.i64.wrap ((n : Int) + 3) = (n : Int) + 3 := IntWalk.i64_in _ (by omega)
  have a3 : ((n + 3 : Nat) : Int) = (n : Int) + 3 := by omega
  have a4 : (n : Int) + 3 ≤ 9223372036854775807 := by omega
  go_enter Try.func14, Try.ntmps14
  go_wp2_with (first | go_big_skip | go_big_guard | fail)
  have hD := hst.drew; clear hst
  go_region_held3 (fun _ => True) (trivial) (first
    | (go_at_call 9; refine (lent_any ao n c bs _ (Rd.old hD hA) Hn.out hb).mono ?_; rintro _ _ ⟨g2, rfl, h4⟩; have hst2 := St.call hD h4; clear h4 hD)
    | (go_at_call 26; refine (sameBytes_any _ _ (n + 3) (n + 3) (lentB bs) (lentB bs) _ (Rd.old hst2 hl) (Rd.blk0 hst2 (by rw [length_bytesV, length_lentB, Hn.out]; omega) (by omega))).mono ?_; rw [hq]; rintro _ _ ⟨rfl, h4⟩; have hst3 := St.call0 hst2 h4; clear h4 hst2))
  go_goals
  all_goals (go_wp2; go_ret; exact ⟨rfl, hst3.nil⟩)
end Go.Proofs.Ytkpkaoiafppimaa
