import Derived.Test.YtlgioloanjjndaaKB
namespace Go.Proofs.Ytlgioloanjjndaa
set_option linter.unusedVariables false
set_option linter.unusedSimpArgs false
open Go.RowKit Hp
attribute [local irreducible] Go.Calls
set_option maxHeartbeats 1000000
theorem kept_m (ao : Option Addr) (g n c : Nat) (bs : List UInt8) (w : World) (M : List Nat) (L : List HA) (w0 : World) (hst0 : St w0 M w L) (hg : HA.blk g 5 (bytesV (lentB bs)) ∈ L) (hA : Rd w (.slice ao n c) 1 n (bytesV bs)) (hn : bs.length = n) (hb : n ≤ 100000) :
    Calls Try.prog 35 #[.slice (some ⟨g, 0, none⟩) n (n + 3), .slice ao n c] w fun e w' => e = .returned (.bool true) ∧ St w [] w' [] := by
  have hl : Rd w (.slice (some ⟨g, 0, none⟩) (n + 3) (n + 3)) 1 (n + 3) (bytesV (lentB bs)) := Rd.blk hst0 hg (Nat.le_refl _) (by unfold maxLen; omega) (by rw [length_bytesV, length_lentB, hn]; omega) (by rw [List.drop_zero, List.take_length])
  clear hst0 hg
  have Hn := hid hn; clear hn
  have hst := St.refl w
  have hq : (lentB bs == lentB bs) = true := by simp
  have a0 : (0 : Int) ≤ (n : Int) + 3 := by omega
  have a1 : ((n : Int) + 3).toNat = n + 3 := by omega
  have a2 : IntKind.i64.wrap ((n : Int) + 3) = (n : Int) + 3 := IntWalk.i64_in _ (by omega)
  have a3 : ((n + 3 : Nat) : Int) = (n : Int) + 3 := by omega
  have a4 : (n : Int) + 3 ≤ 9223372036854775807 := by omega
  go_enter Try.func35, Try.ntmps35
  go_wp2_with (first | go_big_skip | go_big_guard | fail)
  have hD := hst.drew; clear hst
  go_region_held3 (fun _ => True) (trivial) (first
    | (go_at_call 28; refine (lent_any ao n c bs _ (Rd.old hD hA) Hn.out hb).mono ?_; rintro _ _ ⟨g2, rfl, h4⟩; have hst2 := St.call hD h4; clear h4 hD)
    | (go_at_call 17; refine (sameBytes_any _ _ (n + 3) (n + 3) (lentB bs) (lentB bs) _ (Rd.old hst2 hl) (Rd.blk0 hst2 (by rw [length_bytesV, length_lentB, Hn.out]; omega) (by omega))).mono ?_; rw [hq]; rintro _ _ ⟨rfl, h4⟩; have hst3 := St.call0 hst2 h4; clear h4 hst2))
  go_goals
  all_goals (go_wp2; go_ret; exact ⟨rfl, hst3.nil⟩)
theorem kept_blk (ao : Option Addr) (g n c : Nat) (bs : List UInt8) (w : World) (hg : w.heap[g]? = some (.cells (bytesV (lentB bs)).toArray 5 (0, 0))) (hA : Rd w (.slice ao n c) 1 n (bytesV bs)) (hn : bs.length = n) (hb : n ≤ 100000) :
    Calls Try.prog 35 #[.slice (some ⟨g, 0, none⟩) n (n + 3), .slice ao n c] w fun e w' => e = .returned (.bool true) ∧ St w [] w' [] :=
  kept_m ao g n c bs w _ _ w (St.one w g _ _ hg) (.head _) hA hn hb
end Go.Proofs.Ytlgioloanjjndaa
