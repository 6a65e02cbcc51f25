/- The reference: a table's bytes. -/
import Derived.Test.YtkpkaoiafppimaaJRecordReadsc
import Derived.Test.YtkpkaoiafppimaaSepK
import Derived.Test.YtkpkaoiafppimaaJRecordReadsb
import Derived.Test.YtkpkaoiafppimaaJRecordReadsd
import Derived.Test.YtkpkaoiafppimaaSepQ
import Derived.Lib.AppendStr
import Derived.Lib.BufferWrite
import Derived.Test.YtkpkaoiafppimaaJRecordReadse
namespace Go.Proofs.Ytkpkaoiafppimaa
set_option linter.unusedVariables false
set_option linter.unusedSimpArgs false
open Go.RowKit Hp
attribute [local irreducible] Go.Calls Go.wpList
set_option maxRecDepth 100000
set_option maxHeartbeats 4000000
attribute [local go_sem ↓] heldInt heldBool heldBytes
/-- The reference's reader, as cells: the bytes, how far it has come, whether they ended within a field, whether one has what no table has. -/
def rqC (bv : Value) (s : GS) (q : Bool) : List Value := [bv, .int .i64 (s.pos : Int), .bool s.short, .bool q]
theorem bytesV_zeros (n : Nat) : bytesV (List.replicate n 0) = List.replicate n (.int .u8 0) := by simp [bytesV]
theorem qsome12_was {w0 w : World} {R : List HA} {gr : Nat} {q : Bool} (ao : Option Addr) (N c : Nat) (p n : Nat) (hS : St w0 [] w (.blk gr 69 [.slice ao N c, .int .i64 p, .bool true, .bool q] :: R)) (hn : n ≤ 100000) :
    Calls Try.prog 65 #[.pointer (some ⟨gr, 0, none⟩), .int .i64 n] w fun e w' => ∃ ao' c', e = .returned (.slice ao' n c') ∧ Rd w' (.slice ao' n c') 1 n (bytesV (List.replicate n 0)) ∧ St w0 [] w' (.blk gr 69 [.slice ao N c, .int .i64 p, .bool true, .bool q] :: R) := by
  have hst := hS
  clear hS
  go_enter Try.func65, Try.ntmps65
  go_wp2_with (first | go_big_skip | go_big_guard | fail)
  have hX := hst.drew
  clear hst
  refine wp_region_held_drew (S := (fun w' => (loadVarH 22 ⟨gr, 0, none⟩).run Try.prog w' = .ok (.slice ao N c) w' ∧ (loadVarH 3 ⟨gr, 1, none⟩).run Try.prog w' = .ok (.int .i64 p) w' ∧ (loadVarH 4 ⟨gr, 2, none⟩).run Try.prog w' = .ok (.bool true) w')) (by kernel_rfl) (by exact ⟨ldS [] hX rfl, ldS [] hX rfl, ldS [] hX rfl⟩) (fun hHeld => ?_)
  refine tk 0 5 ?_
  (try simp only [Act.put, List.setIfInBounds_toArray, List.set_cons_zero, List.set_cons_succ])
  refine tk 1 6 ?_
  (try simp only [Act.put, List.setIfInBounds_toArray, List.set_cons_zero, List.set_cons_succ])
  refine tk 2 7 ?_
  (try simp only [Act.put, List.setIfInBounds_toArray, List.set_cons_zero, List.set_cons_succ])
  refine tk 3 8 ?_
  (try simp only [Act.put, List.setIfInBounds_toArray, List.set_cons_zero, List.set_cons_succ])
  refine tk 4 9 ?_
  (try simp only [Act.put, List.setIfInBounds_toArray, List.set_cons_zero, List.set_cons_succ])
  refine wpAnyH_take (i := 5) (oi := ⟨some 10, _, _, _, _, _⟩) (v := undef) rfl (by kernel_rfl) (by kernel_rfl) (by kernel_rfl) (fun _ _ _ h => h) (Or.inr ⟨by rfl, rfl⟩) (by assumption) ?_
  (try simp only [Act.put, List.setIfInBounds_toArray, List.set_cons_zero, List.set_cons_succ])
  refine wpAnyH_take (i := 10) (oi := ⟨some 15, _, _, _, _, _⟩) (v := undef) rfl (by kernel_rfl) (by kernel_rfl) (by kernel_rfl) (fun _ _ _ h => h) (Or.inr ⟨by rfl, rfl⟩) (by assumption) ?_
  (try simp only [Act.put, List.setIfInBounds_toArray, List.set_cons_zero, List.set_cons_succ])
  refine wpAnyH_take (i := 15) (oi := ⟨some 20, _, _, _, _, _⟩) (v := undef) rfl (by kernel_rfl) (by kernel_rfl) (by kernel_rfl) (fun _ _ _ h => h) (Or.inr ⟨by rfl, rfl⟩) (by assumption) ?_
  (try simp only [Act.put, List.setIfInBounds_toArray, List.set_cons_zero, List.set_cons_succ])
  refine wpAnyH_take (i := 6) (oi := ⟨some 11, _, _, _, _, _⟩) (v := undef) rfl (by kernel_rfl) (by kernel_rfl) (by kernel_rfl) (fun _ _ _ h => h) (Or.inr ⟨by rfl, rfl⟩) (by assumption) ?_
  (try simp only [Act.put, List.setIfInBounds_toArray, List.set_cons_zero, List.set_cons_succ])
  refine wpAnyH_take (i := 11) (oi := ⟨some 16, _, _, _, _, _⟩) (v := undef) rfl (by kernel_rfl) (by kernel_rfl) (by kernel_rfl) (fun _ _ _ h => h) (Or.inr ⟨by rfl, rfl⟩) (by assumption) ?_
  (try simp only [Act.put, List.setIfInBounds_toArray, List.set_cons_zero, List.set_cons_succ])
  refine wpAnyH_take (i := 7) (oi := ⟨some 12, _, _, _, _, _⟩) (v := undef) rfl (by kernel_rfl) (by kernel_rfl) (by kernel_rfl) (fun _ _ _ h => h) (Or.inr ⟨by rfl, rfl⟩) (by assumption) ?_
  (try simp only [Act.put, List.setIfInBounds_toArray, List.set_cons_zero, List.set_cons_succ])
  refine wpAnyH_take (i := 12) (oi := ⟨some 17, _, _, _, _, _⟩) (v := undef) rfl (by kernel_rfl) (by kernel_rfl) (by kernel_rfl) (fun _ _ _ h => h) (Or.inr ⟨by rfl, rfl⟩) (by assumption) ?_
  (try simp only [Act.put, List.setIfInBounds_toArray, List.set_cons_zero, List.set_cons_succ])
  refine wpAnyH_take (i := 8) (oi := ⟨some 13, _, _, _, _, _⟩) (v := undef) rfl (by kernel_rfl) (by kernel_rfl) (by kernel_rfl) (fun _ _ _ h => h) (Or.inr ⟨by rfl, rfl⟩) (by assumption) ?_
  (try simp only [Act.put, List.setIfInBounds_toArray, List.set_cons_zero, List.set_cons_succ])
  refine wpAnyH_take (i := 13) (oi := ⟨some 18, _, _, _, _, _⟩) (v := undef) rfl (by kernel_rfl) (by kernel_rfl) (by kernel_rfl) (fun _ _ _ h => h) (Or.inr ⟨by rfl, rfl⟩) (by assumption) ?_
  (try simp only [Act.put, List.setIfInBounds_toArray, List.set_cons_zero, List.set_cons_succ])
  refine wpAnyH_take (i := 9) (oi := ⟨some 14, _, _, _, _, _⟩) (v := undef) rfl (by kernel_rfl) (by kernel_rfl) (by kernel_rfl) (fun _ _ _ h => h) (Or.inr ⟨by rfl, rfl⟩) (by assumption) ?_
  (try simp only [Act.put, List.setIfInBounds_toArray, List.set_cons_zero, List.set_cons_succ])
  refine wpAnyH_take (i := 14) (oi := ⟨some 19, _, _, _, _, _⟩) (v := undef) rfl (by kernel_rfl) (by kernel_rfl) (by kernel_rfl) (fun _ _ _ h => h) (Or.inr ⟨by rfl, rfl⟩) (by assumption) ?_
  (try simp only [Act.put, List.setIfInBounds_toArray, List.set_cons_zero, List.set_cons_succ])
  refine wpAnyH_take (i := 16) (oi := ⟨some 21, _, _, _, _, _⟩) (v := undef) rfl (by kernel_rfl) (by kernel_rfl) (by kernel_rfl) (fun _ _ _ h => h) (Or.inr ⟨by rfl, rfl⟩) (by assumption) ?_
  (try simp only [Act.put, List.setIfInBounds_toArray, List.set_cons_zero, List.set_cons_succ])
  refine tk 17 22 ?_
  (try simp only [Act.put, List.setIfInBounds_toArray, List.set_cons_zero, List.set_cons_succ])
  refine wpAnyH_done (by kernel_rfl) ?_ _
  clear hHeld
  go_wp2_with (first | go_big_skip | go_big_guard | (refine wl_store [] hX rfl rfl rfl (v := .bool true) rfl rfl rfl (by show (2 : Nat) + 1 ≤ 4; decide) ?_; intro w7 hst7; clear hX) | (apply wl_make n n hst7; rfl; rfl; exact rfl; exact rfl; infer_instance; infer_instance; infer_instance; exact rfl; exact rfl; exact Nat.le_refl _; (refine ⟨by omega, by omega⟩); intro gz w8 hst8; clear hst7))
  go_ret
  refine ⟨_, _, rfl, ?_, St.drop (L1 := []) hst8⟩
  rw [bytesV_zeros]
  exact Rd.blk hst8 (.head _) (Nat.le_refl _) (by unfold maxLen; omega) (by simp) (by simp)
theorem qsome12_ends {w0 w : World} {R : List HA} {gr : Nat} {q : Bool} (ao : Option Addr) (N c p n : Nat) (hS : St w0 [] w (.blk gr 69 [.slice ao N c, .int .i64 p, .bool false, .bool q] :: R)) (hp : p ≤ N) (hN : N ≤ 100000) (hn : n ≤ 100000) (hs : N < p + n) :
    Calls Try.prog 65 #[.pointer (some ⟨gr, 0, none⟩), .int .i64 n] w fun e w' => ∃ ao' c', e = .returned (.slice ao' n c') ∧ Rd w' (.slice ao' n c') 1 n (bytesV (List.replicate n 0)) ∧ St w0 [] w' (.blk gr 69 [.slice ao N c, .int .i64 p, .bool true, .bool q] :: R) := by
  have hst := hS
  clear hS
  have z1 : IntKind.i64.wrap ((N : Int) - (p : Int)) = (N : Int) - (p : Int) := IntWalk.i64_in _ (by omega)
  have d2 : decide ((N : Int) - (p : Int) < (n : Int)) = true := decide_eq_true (by omega)
  go_enter Try.func65, Try.ntmps65
  go_wp2_with (first | go_big_skip | go_big_guard | fail)
  have hX := hst.drew
  clear hst
  refine wp_region_held_drew (S := (fun w' => (loadVarH 22 ⟨gr, 0, none⟩).run Try.prog w' = .ok (.slice ao N c) w' ∧ (loadVarH 3 ⟨gr, 1, none⟩).run Try.prog w' = .ok (.int .i64 p) w' ∧ (loadVarH 4 ⟨gr, 2, none⟩).run Try.prog w' = .ok (.bool false) w')) (by kernel_rfl) (by exact ⟨ldS [] hX rfl, ldS [] hX rfl, ldS [] hX rfl⟩) (fun hHeld => ?_)
  refine tk 0 5 ?_
  (try simp only [Act.put, List.setIfInBounds_toArray, List.set_cons_zero, List.set_cons_succ])
  refine tk 1 6 ?_
  (try simp only [Act.put, List.setIfInBounds_toArray, List.set_cons_zero, List.set_cons_succ])
  refine tk 2 7 ?_
  (try simp only [Act.put, List.setIfInBounds_toArray, List.set_cons_zero, List.set_cons_succ])
  refine tk 3 8 ?_
  (try simp only [Act.put, List.setIfInBounds_toArray, List.set_cons_zero, List.set_cons_succ])
  refine tk 4 9 ?_
  (try simp only [Act.put, List.setIfInBounds_toArray, List.set_cons_zero, List.set_cons_succ])
  refine tk 5 10 ?_
  (try simp only [Act.put, List.setIfInBounds_toArray, List.set_cons_zero, List.set_cons_succ])
  refine tk 10 15 ?_
  (try simp only [Act.put, List.setIfInBounds_toArray, List.set_cons_zero, List.set_cons_succ])
  refine tk 15 20 ?_
  (try simp only [Act.put, List.setIfInBounds_toArray, List.set_cons_zero, List.set_cons_succ])
  refine tk 6 11 ?_
  (try simp only [Act.put, List.setIfInBounds_toArray, List.set_cons_zero, List.set_cons_succ])
  refine tk 11 16 ?_
  (try simp only [Act.put, List.setIfInBounds_toArray, List.set_cons_zero, List.set_cons_succ])
  refine tk 7 12 ?_
  (try simp only [Act.put, List.setIfInBounds_toArray, List.set_cons_zero, List.set_cons_succ])
  refine tk 12 17 ?_
  (try simp only [Act.put, List.setIfInBounds_toArray, List.set_cons_zero, List.set_cons_succ])
  refine tk 8 13 ?_
  (try simp only [Act.put, List.setIfInBounds_toArray, List.set_cons_zero, List.set_cons_succ])
  refine tk 13 18 ?_
  (try simp only [Act.put, List.setIfInBounds_toArray, List.set_cons_zero, List.set_cons_succ])
  refine tk 9 14 ?_
  (try simp only [Act.put, List.setIfInBounds_toArray, List.set_cons_zero, List.set_cons_succ])
  refine tk 14 19 ?_
  (try simp only [Act.put, List.setIfInBounds_toArray, List.set_cons_zero, List.set_cons_succ])
  refine tk 16 21 ?_
  (try simp only [Act.put, List.setIfInBounds_toArray, List.set_cons_zero, List.set_cons_succ])
  refine tk 17 22 ?_
  (try simp only [Act.put, List.setIfInBounds_toArray, List.set_cons_zero, List.set_cons_succ])
  refine wpAnyH_done (by kernel_rfl) ?_ _
  clear hHeld
  go_wp2_with (first | go_big_skip | go_big_guard | (refine wl_store [] hX rfl rfl rfl (v := .bool true) rfl rfl rfl (by show (2 : Nat) + 1 ≤ 4; decide) ?_; intro w7 hst7; clear hX) | (apply wl_make n n hst7; rfl; rfl; exact rfl; exact rfl; infer_instance; infer_instance; infer_instance; exact rfl; exact rfl; exact Nat.le_refl _; (refine ⟨by omega, by omega⟩); intro gz w8 hst8; clear hst7))
  go_ret
  refine ⟨_, _, rfl, ?_, St.drop (L1 := []) hst8⟩
  rw [bytesV_zeros]
  exact Rd.blk hst8 (.head _) (Nat.le_refl _) (by unfold maxLen; omega) (by simp) (by simp)
theorem qsome12_nil {w0 w : World} {R : List HA} {gr : Nat} {q : Bool}  (hS : St w0 [] w (.blk gr 69 [.slice none 0 0, .int .i64 0, .bool false, .bool q] :: R))  :
    Calls Try.prog 65 #[.pointer (some ⟨gr, 0, none⟩), .int .i64 0] w fun e w' => e = .returned (.slice none 0 0) ∧ St w0 [] w' (.blk gr 69 [.slice none 0 0, .int .i64 0, .bool false, .bool q] :: R) := by
  have hst := hS
  clear hS
  have zw : IntKind.i64.wrap 0 = 0 := rfl
  go_enter Try.func65, Try.ntmps65
  go_wp2_with (first | go_big_skip | go_big_guard | fail)
  have hX := hst.drew
  clear hst
  refine wp_region_held_drew (S := (fun w' => (loadVarH 22 ⟨gr, 0, none⟩).run Try.prog w' = .ok (.slice none 0 0) w' ∧ (loadVarH 3 ⟨gr, 1, none⟩).run Try.prog w' = .ok (.int .i64 0) w' ∧ (loadVarH 4 ⟨gr, 2, none⟩).run Try.prog w' = .ok (.bool false) w')) (by kernel_rfl) (by exact ⟨ldS [] hX rfl, ldS [] hX rfl, ldS [] hX rfl⟩) (fun hHeld => ?_)
  refine tk 0 5 ?_
  (try simp only [Act.put, List.setIfInBounds_toArray, List.set_cons_zero, List.set_cons_succ])
  refine tk 1 6 ?_
  (try simp only [Act.put, List.setIfInBounds_toArray, List.set_cons_zero, List.set_cons_succ])
  refine tk 2 7 ?_
  (try simp only [Act.put, List.setIfInBounds_toArray, List.set_cons_zero, List.set_cons_succ])
  refine tk 3 8 ?_
  (try simp only [Act.put, List.setIfInBounds_toArray, List.set_cons_zero, List.set_cons_succ])
  refine tk 4 9 ?_
  (try simp only [Act.put, List.setIfInBounds_toArray, List.set_cons_zero, List.set_cons_succ])
  refine tk 5 10 ?_
  (try simp only [Act.put, List.setIfInBounds_toArray, List.set_cons_zero, List.set_cons_succ])
  refine tk 10 15 ?_
  (try simp only [Act.put, List.setIfInBounds_toArray, List.set_cons_zero, List.set_cons_succ])
  refine tk 15 20 ?_
  (try simp only [Act.put, List.setIfInBounds_toArray, List.set_cons_zero, List.set_cons_succ])
  refine tk 6 11 ?_
  (try simp only [Act.put, List.setIfInBounds_toArray, List.set_cons_zero, List.set_cons_succ])
  refine tk 11 16 ?_
  (try simp only [Act.put, List.setIfInBounds_toArray, List.set_cons_zero, List.set_cons_succ])
  refine tk 7 12 ?_
  (try simp only [Act.put, List.setIfInBounds_toArray, List.set_cons_zero, List.set_cons_succ])
  refine tk 12 17 ?_
  (try simp only [Act.put, List.setIfInBounds_toArray, List.set_cons_zero, List.set_cons_succ])
  refine tk 8 13 ?_
  (try simp only [Act.put, List.setIfInBounds_toArray, List.set_cons_zero, List.set_cons_succ])
  refine tk 13 18 ?_
  (try simp only [Act.put, List.setIfInBounds_toArray, List.set_cons_zero, List.set_cons_succ])
  refine tk 9 14 ?_
  (try simp only [Act.put, List.setIfInBounds_toArray, List.set_cons_zero, List.set_cons_succ])
  refine tk 14 19 ?_
  (try simp only [Act.put, List.setIfInBounds_toArray, List.set_cons_zero, List.set_cons_succ])
  refine tk 16 21 ?_
  (try simp only [Act.put, List.setIfInBounds_toArray, List.set_cons_zero, List.set_cons_succ])
  refine tk 17 22 ?_
  (try simp only [Act.put, List.setIfInBounds_toArray, List.set_cons_zero, List.set_cons_succ])
  refine wpAnyH_done (by kernel_rfl) ?_ _
  clear hHeld
  go_wp2_with (first | go_big_skip | go_big_guard | (refine wl_loadE rfl rfl rfl ?_; first | refine ⟨_, Loads.at [] hX rfl, ?_⟩) | (refine wl_store [] hX rfl rfl rfl (v := .int .i64 0) rfl rfl rfl (by show (1 : Nat) + 1 ≤ 4; decide) ?_; intro w7 hst7; clear hX))
  have hst8 : St w0 [] w7 (.blk gr 69 [.slice none 0 0, .int .i64 0, .bool false, .bool q] :: R) := hst7
  clear hst7
  have hY := hst8.drew
  clear hst8
  refine wp_region_held_drew (S := (fun w' => (loadVarH 22 ⟨gr, 0, none⟩).run Try.prog w' = .ok (.slice none 0 0) w' ∧ (loadVarH 3 ⟨gr, 1, none⟩).run Try.prog w' = .ok (.int .i64 0) w' ∧ (loadVarH 4 ⟨gr, 2, none⟩).run Try.prog w' = .ok (.bool false) w')) (by kernel_rfl) (by exact ⟨ldS [] hY rfl, ldS [] hY rfl, ldS [] hY rfl⟩) (fun hHeld => ?_)
  refine tk 0 37 ?_
  (try simp only [Act.put, List.setIfInBounds_toArray, List.set_cons_zero, List.set_cons_succ])
  refine tk 4 41 ?_
  (try simp only [Act.put, List.setIfInBounds_toArray, List.set_cons_zero, List.set_cons_succ])
  refine tk 8 45 ?_
  (try simp only [Act.put, List.setIfInBounds_toArray, List.set_cons_zero, List.set_cons_succ])
  refine tk 10 47 ?_
  (try simp only [Act.put, List.setIfInBounds_toArray, List.set_cons_zero, List.set_cons_succ])
  refine tk 1 38 ?_
  (try simp only [Act.put, List.setIfInBounds_toArray, List.set_cons_zero, List.set_cons_succ])
  refine tk 5 42 ?_
  (try simp only [Act.put, List.setIfInBounds_toArray, List.set_cons_zero, List.set_cons_succ])
  refine tk 11 48 ?_
  (try simp only [Act.put, List.setIfInBounds_toArray, List.set_cons_zero, List.set_cons_succ])
  refine tk 2 39 ?_
  (try simp only [Act.put, List.setIfInBounds_toArray, List.set_cons_zero, List.set_cons_succ])
  refine tk 6 43 ?_
  (try simp only [Act.put, List.setIfInBounds_toArray, List.set_cons_zero, List.set_cons_succ])
  refine tk 12 49 ?_
  (try simp only [Act.put, List.setIfInBounds_toArray, List.set_cons_zero, List.set_cons_succ])
  refine tk 3 40 ?_
  (try simp only [Act.put, List.setIfInBounds_toArray, List.set_cons_zero, List.set_cons_succ])
  refine tk 7 44 ?_
  (try simp only [Act.put, List.setIfInBounds_toArray, List.set_cons_zero, List.set_cons_succ])
  refine tk 13 50 ?_
  (try simp only [Act.put, List.setIfInBounds_toArray, List.set_cons_zero, List.set_cons_succ])
  refine tk 9 46 ?_
  (try simp only [Act.put, List.setIfInBounds_toArray, List.set_cons_zero, List.set_cons_succ])
  refine tk 14 51 ?_
  (try simp only [Act.put, List.setIfInBounds_toArray, List.set_cons_zero, List.set_cons_succ])
  refine tk 15 4 ?_
  (try simp only [Act.put, List.setIfInBounds_toArray, List.set_cons_zero, List.set_cons_succ])
  refine wpAnyH_done (by kernel_rfl) ?_ _
  clear hHeld
  go_wp2_with (first | go_big_skip | go_big_guard | fail)
  go_ret
  exact ⟨rfl, hY⟩
theorem qsome12_end {w0 w : World} {R : List HA} {gr : Nat} {q : Bool} (AA : Addr) (N c : Nat) (hS : St w0 [] w (.blk gr 69 [.slice (some AA) N c, .int .i64 (c : Int), .bool false, .bool q] :: R)) (hp : c ≤ N) (hN : N ≤ 100000) :
    Calls Try.prog 65 #[.pointer (some ⟨gr, 0, none⟩), .int .i64 0] w fun e w' => e = .returned (.slice (some AA) 0 0) ∧ St w0 [] w' (.blk gr 69 [.slice (some AA) N c, .int .i64 (c : Int), .bool false, .bool q] :: R) := by
  have hst := hS
  clear hS
  have z0 : IntKind.i64.wrap (c : Int) = (c : Int) := IntWalk.i64_in _ (by omega)
  have z1 : IntKind.i64.wrap ((N : Int) - (c : Int)) = (N : Int) - (c : Int) := IntWalk.i64_in _ (by omega)
  have d1 : decide ((0 : Int) > (N : Int) - (c : Int)) = false := decide_eq_false (by omega)
  have d2 : decide ((N : Int) - (c : Int) < (0 : Int)) = false := d1
  have d3 : decide ((N : Int) < (c : Int)) = false := decide_eq_false (by omega)
  have d4 : decide (N < c) = false := decide_eq_false (by omega)
  have n1 : (c : Int).toNat = c := by omega
  have n5 : 0 ≤ (c : Int) := by omega
  have n8 : (c : Int) ≤ (c : Int) := Int.le_refl _
  have zp0 : IntKind.i64.wrap ((c : Int) + 0) = (c : Int) := by rw [Int.add_zero]; exact z0
  have zp1 : IntKind.i64.wrap ((c : Int) - 0) = (c : Int) := by rw [Int.sub_zero]; exact z0
  go_enter Try.func65, Try.ntmps65
  go_wp2_with (first | go_big_skip | go_big_guard | fail)
  have hX := hst.drew
  clear hst
  refine wp_region_held_drew (S := (fun w' => (loadVarH 22 ⟨gr, 0, none⟩).run Try.prog w' = .ok (.slice (some AA) N c) w' ∧ (loadVarH 3 ⟨gr, 1, none⟩).run Try.prog w' = .ok (.int .i64 (c : Int)) w' ∧ (loadVarH 4 ⟨gr, 2, none⟩).run Try.prog w' = .ok (.bool false) w')) (by kernel_rfl) (by exact ⟨ldS [] hX rfl, ldS [] hX rfl, ldS [] hX rfl⟩) (fun hHeld => ?_)
  refine tk 0 5 ?_
  (try simp only [Act.put, List.setIfInBounds_toArray, List.set_cons_zero, List.set_cons_succ])
  refine tk 1 6 ?_
  (try simp only [Act.put, List.setIfInBounds_toArray, List.set_cons_zero, List.set_cons_succ])
  refine tk 2 7 ?_
  (try simp only [Act.put, List.setIfInBounds_toArray, List.set_cons_zero, List.set_cons_succ])
  refine tk 3 8 ?_
  (try simp only [Act.put, List.setIfInBounds_toArray, List.set_cons_zero, List.set_cons_succ])
  refine tk 4 9 ?_
  (try simp only [Act.put, List.setIfInBounds_toArray, List.set_cons_zero, List.set_cons_succ])
  refine tk 5 10 ?_
  (try simp only [Act.put, List.setIfInBounds_toArray, List.set_cons_zero, List.set_cons_succ])
  refine tk 10 15 ?_
  (try simp only [Act.put, List.setIfInBounds_toArray, List.set_cons_zero, List.set_cons_succ])
  refine tk 15 20 ?_
  (try simp only [Act.put, List.setIfInBounds_toArray, List.set_cons_zero, List.set_cons_succ])
  refine tk 6 11 ?_
  (try simp only [Act.put, List.setIfInBounds_toArray, List.set_cons_zero, List.set_cons_succ])
  refine tk 11 16 ?_
  (try simp only [Act.put, List.setIfInBounds_toArray, List.set_cons_zero, List.set_cons_succ])
  refine tk 7 12 ?_
  (try simp only [Act.put, List.setIfInBounds_toArray, List.set_cons_zero, List.set_cons_succ])
  refine tk 12 17 ?_
  (try simp only [Act.put, List.setIfInBounds_toArray, List.set_cons_zero, List.set_cons_succ])
  refine tk 8 13 ?_
  (try simp only [Act.put, List.setIfInBounds_toArray, List.set_cons_zero, List.set_cons_succ])
  refine tk 13 18 ?_
  (try simp only [Act.put, List.setIfInBounds_toArray, List.set_cons_zero, List.set_cons_succ])
  refine tk 9 14 ?_
  (try simp only [Act.put, List.setIfInBounds_toArray, List.set_cons_zero, List.set_cons_succ])
  refine tk 14 19 ?_
  (try simp only [Act.put, List.setIfInBounds_toArray, List.set_cons_zero, List.set_cons_succ])
  refine tk 16 21 ?_
  (try simp only [Act.put, List.setIfInBounds_toArray, List.set_cons_zero, List.set_cons_succ])
  refine tk 17 22 ?_
  (try simp only [Act.put, List.setIfInBounds_toArray, List.set_cons_zero, List.set_cons_succ])
  refine wpAnyH_done (by kernel_rfl) ?_ _
  clear hHeld
  go_wp2_with (first | go_big_skip | go_big_guard | (refine wl_loadE rfl rfl rfl ?_; first | refine ⟨_, Loads.at [] hX rfl, ?_⟩) | (refine wl_store [] hX rfl rfl rfl (v := .int .i64 (c : Int)) rfl rfl rfl (by show (1 : Nat) + 1 ≤ 4; decide) ?_; intro w7 hst7; clear hX))
  have hst8 : St w0 [] w7 (.blk gr 69 [.slice (some AA) N c, .int .i64 (c : Int), .bool false, .bool q] :: R) := hst7
  clear hst7
  have hY := hst8.drew
  clear hst8
  refine wp_region_held_drew (S := (fun w' => (loadVarH 22 ⟨gr, 0, none⟩).run Try.prog w' = .ok (.slice (some AA) N c) w' ∧ (loadVarH 3 ⟨gr, 1, none⟩).run Try.prog w' = .ok (.int .i64 (c : Int)) w' ∧ (loadVarH 4 ⟨gr, 2, none⟩).run Try.prog w' = .ok (.bool false) w')) (by kernel_rfl) (by exact ⟨ldS [] hY rfl, ldS [] hY rfl, ldS [] hY rfl⟩) (fun hHeld => ?_)
  refine tk 0 37 ?_
  (try simp only [Act.put, List.setIfInBounds_toArray, List.set_cons_zero, List.set_cons_succ])
  refine tk 4 41 ?_
  (try simp only [Act.put, List.setIfInBounds_toArray, List.set_cons_zero, List.set_cons_succ])
  refine tk 8 45 ?_
  (try simp only [Act.put, List.setIfInBounds_toArray, List.set_cons_zero, List.set_cons_succ])
  refine tk 10 47 ?_
  (try simp only [Act.put, List.setIfInBounds_toArray, List.set_cons_zero, List.set_cons_succ])
  refine tk 1 38 ?_
  (try simp only [Act.put, List.setIfInBounds_toArray, List.set_cons_zero, List.set_cons_succ])
  refine tk 5 42 ?_
  (try simp only [Act.put, List.setIfInBounds_toArray, List.set_cons_zero, List.set_cons_succ])
  refine tk 11 48 ?_
  (try simp only [Act.put, List.setIfInBounds_toArray, List.set_cons_zero, List.set_cons_succ])
  refine tk 2 39 ?_
  (try simp only [Act.put, List.setIfInBounds_toArray, List.set_cons_zero, List.set_cons_succ])
  refine tk 6 43 ?_
  (try simp only [Act.put, List.setIfInBounds_toArray, List.set_cons_zero, List.set_cons_succ])
  refine tk 12 49 ?_
  (try simp only [Act.put, List.setIfInBounds_toArray, List.set_cons_zero, List.set_cons_succ])
  refine tk 3 40 ?_
  (try simp only [Act.put, List.setIfInBounds_toArray, List.set_cons_zero, List.set_cons_succ])
  refine tk 7 44 ?_
  (try simp only [Act.put, List.setIfInBounds_toArray, List.set_cons_zero, List.set_cons_succ])
  refine tk 13 50 ?_
  (try simp only [Act.put, List.setIfInBounds_toArray, List.set_cons_zero, List.set_cons_succ])
  refine tk 9 46 ?_
  (try simp only [Act.put, List.setIfInBounds_toArray, List.set_cons_zero, List.set_cons_succ])
  refine tk 14 51 ?_
  (try simp only [Act.put, List.setIfInBounds_toArray, List.set_cons_zero, List.set_cons_succ])
  refine tk 15 4 ?_
  (try simp only [Act.put, List.setIfInBounds_toArray, List.set_cons_zero, List.set_cons_succ])
  refine wpAnyH_done (by kernel_rfl) ?_ _
  clear hHeld
  go_wp2_with (first | go_big_skip | go_big_guard | fail)
  go_ret
  exact ⟨rfl, hY⟩
theorem qsome12_ok {w0 w : World} {R : List HA} {gr : Nat} {q : Bool} (b off N c p n : Nat) (hS : St w0 [] w (.blk gr 69 [.slice (some ⟨b, off, none⟩) N c, .int .i64 (p : Int), .bool false, .bool q] :: R)) (hN : N ≤ 100000) (hc : N ≤ c) (hc2 : c ≤ 9223372036854775807) (hs : p + n ≤ N) (hcp : ¬ c = p) :
    Calls Try.prog 65 #[.pointer (some ⟨gr, 0, none⟩), .int .i64 n] w fun e w' => e = .returned (.slice (some ⟨b, off + p, none⟩) n (c - p)) ∧ St w0 [] w' (.blk gr 69 [.slice (some ⟨b, off, none⟩) N c, .int .i64 ((p : Int) + (n : Int)), .bool false, .bool q] :: R) := by
  have hst := hS
  clear hS
  have z1 : IntKind.i64.wrap ((N : Int) - (p : Int)) = (N : Int) - (p : Int) := IntWalk.i64_in _ (by omega)
  have z2 : IntKind.i64.wrap ((p : Int) + (n : Int)) = (p : Int) + (n : Int) := IntWalk.i64_in _ (by omega)
  have z3 : IntKind.i64.wrap (p : Int) = (p : Int) := IntWalk.i64_in _ (by omega)
  have z4 : IntKind.i64.wrap ((p : Int) + (n : Int) - (n : Int)) = (p : Int) := by rw [show (p : Int) + (n : Int) - (n : Int) = (p : Int) by omega]; exact z3
  have d1 : decide ((n : Int) > (N : Int) - (p : Int)) = false := decide_eq_false (by omega)
  have d2 : decide ((N : Int) - (p : Int) < (n : Int)) = false := d1
  have n1 : (p : Int).toNat = p := by omega
  have n2 : ((p : Int) + (n : Int)).toNat = p + n := by omega
  have n3 : (p : Int) + (n : Int) ≤ (c : Int) := by omega
  have n4 : (p : Int) ≤ (p : Int) + (n : Int) := by omega
  have n5 : 0 ≤ (p : Int) := by omega
  have n6 : 0 ≤ (p : Int) + (n : Int) := by omega
  have n7 : p + n - p = n := by omega
  go_enter Try.func65, Try.ntmps65
  go_wp2_with (first | go_big_skip | go_big_guard | fail)
  have hX := hst.drew
  clear hst
  refine wp_region_held_drew (S := (fun w' => (loadVarH 22 ⟨gr, 0, none⟩).run Try.prog w' = .ok (.slice (some ⟨b, off, none⟩) N c) w' ∧ (loadVarH 3 ⟨gr, 1, none⟩).run Try.prog w' = .ok (.int .i64 (p : Int)) w' ∧ (loadVarH 4 ⟨gr, 2, none⟩).run Try.prog w' = .ok (.bool false) w')) (by kernel_rfl) (by exact ⟨ldS [] hX rfl, ldS [] hX rfl, ldS [] hX rfl⟩) (fun hHeld => ?_)
  refine tk 0 5 ?_
  (try simp only [Act.put, List.setIfInBounds_toArray, List.set_cons_zero, List.set_cons_succ])
  refine tk 1 6 ?_
  (try simp only [Act.put, List.setIfInBounds_toArray, List.set_cons_zero, List.set_cons_succ])
  refine tk 2 7 ?_
  (try simp only [Act.put, List.setIfInBounds_toArray, List.set_cons_zero, List.set_cons_succ])
  refine tk 3 8 ?_
  (try simp only [Act.put, List.setIfInBounds_toArray, List.set_cons_zero, List.set_cons_succ])
  refine tk 4 9 ?_
  (try simp only [Act.put, List.setIfInBounds_toArray, List.set_cons_zero, List.set_cons_succ])
  refine tk 5 10 ?_
  (try simp only [Act.put, List.setIfInBounds_toArray, List.set_cons_zero, List.set_cons_succ])
  refine tk 10 15 ?_
  (try simp only [Act.put, List.setIfInBounds_toArray, List.set_cons_zero, List.set_cons_succ])
  refine tk 15 20 ?_
  (try simp only [Act.put, List.setIfInBounds_toArray, List.set_cons_zero, List.set_cons_succ])
  refine tk 6 11 ?_
  (try simp only [Act.put, List.setIfInBounds_toArray, List.set_cons_zero, List.set_cons_succ])
  refine tk 11 16 ?_
  (try simp only [Act.put, List.setIfInBounds_toArray, List.set_cons_zero, List.set_cons_succ])
  refine tk 7 12 ?_
  (try simp only [Act.put, List.setIfInBounds_toArray, List.set_cons_zero, List.set_cons_succ])
  refine tk 12 17 ?_
  (try simp only [Act.put, List.setIfInBounds_toArray, List.set_cons_zero, List.set_cons_succ])
  refine tk 8 13 ?_
  (try simp only [Act.put, List.setIfInBounds_toArray, List.set_cons_zero, List.set_cons_succ])
  refine tk 13 18 ?_
  (try simp only [Act.put, List.setIfInBounds_toArray, List.set_cons_zero, List.set_cons_succ])
  refine tk 9 14 ?_
  (try simp only [Act.put, List.setIfInBounds_toArray, List.set_cons_zero, List.set_cons_succ])
  refine tk 14 19 ?_
  (try simp only [Act.put, List.setIfInBounds_toArray, List.set_cons_zero, List.set_cons_succ])
  refine tk 16 21 ?_
  (try simp only [Act.put, List.setIfInBounds_toArray, List.set_cons_zero, List.set_cons_succ])
  refine tk 17 22 ?_
  (try simp only [Act.put, List.setIfInBounds_toArray, List.set_cons_zero, List.set_cons_succ])
  refine wpAnyH_done (by kernel_rfl) ?_ _
  clear hHeld
  go_wp2_with (first | go_big_skip | go_big_guard | (refine wl_loadE rfl rfl rfl ?_; first | refine ⟨_, Loads.at [] hX rfl, ?_⟩) | (refine wl_store [] hX rfl rfl rfl (v := .int .i64 ((p : Int) + (n : Int))) rfl rfl rfl (by show (1 : Nat) + 1 ≤ 4; decide) ?_; intro w7 hst7; clear hX))
  have hst8 : St w0 [] w7 (.blk gr 69 [.slice (some ⟨b, off, none⟩) N c, .int .i64 ((p : Int) + (n : Int)), .bool false, .bool q] :: R) := hst7
  clear hst7
  have hY := hst8.drew
  clear hst8
  refine wp_region_held_drew (S := (fun w' => (loadVarH 22 ⟨gr, 0, none⟩).run Try.prog w' = .ok (.slice (some ⟨b, off, none⟩) N c) w' ∧ (loadVarH 3 ⟨gr, 1, none⟩).run Try.prog w' = .ok (.int .i64 ((p : Int) + (n : Int))) w' ∧ (loadVarH 4 ⟨gr, 2, none⟩).run Try.prog w' = .ok (.bool false) w')) (by kernel_rfl) (by exact ⟨ldS [] hY rfl, ldS [] hY rfl, ldS [] hY rfl⟩) (fun hHeld => ?_)
  refine tk 0 37 ?_
  (try simp only [Act.put, List.setIfInBounds_toArray, List.set_cons_zero, List.set_cons_succ])
  refine tk 4 41 ?_
  (try simp only [Act.put, List.setIfInBounds_toArray, List.set_cons_zero, List.set_cons_succ])
  refine tk 8 45 ?_
  (try simp only [Act.put, List.setIfInBounds_toArray, List.set_cons_zero, List.set_cons_succ])
  refine tk 10 47 ?_
  (try simp only [Act.put, List.setIfInBounds_toArray, List.set_cons_zero, List.set_cons_succ])
  refine tk 1 38 ?_
  (try simp only [Act.put, List.setIfInBounds_toArray, List.set_cons_zero, List.set_cons_succ])
  refine tk 5 42 ?_
  (try simp only [Act.put, List.setIfInBounds_toArray, List.set_cons_zero, List.set_cons_succ])
  refine tk 11 48 ?_
  (try simp only [Act.put, List.setIfInBounds_toArray, List.set_cons_zero, List.set_cons_succ])
  refine tk 2 39 ?_
  (try simp only [Act.put, List.setIfInBounds_toArray, List.set_cons_zero, List.set_cons_succ])
  refine tk 6 43 ?_
  (try simp only [Act.put, List.setIfInBounds_toArray, List.set_cons_zero, List.set_cons_succ])
  refine tk 12 49 ?_
  (try simp only [Act.put, List.setIfInBounds_toArray, List.set_cons_zero, List.set_cons_succ])
  refine tk 3 40 ?_
  (try simp only [Act.put, List.setIfInBounds_toArray, List.set_cons_zero, List.set_cons_succ])
  refine tk 7 44 ?_
  (try simp only [Act.put, List.setIfInBounds_toArray, List.set_cons_zero, List.set_cons_succ])
  refine tk 13 50 ?_
  (try simp only [Act.put, List.setIfInBounds_toArray, List.set_cons_zero, List.set_cons_succ])
  refine tk 9 46 ?_
  (try simp only [Act.put, List.setIfInBounds_toArray, List.set_cons_zero, List.set_cons_succ])
  refine tk 14 51 ?_
  (try simp only [Act.put, List.setIfInBounds_toArray, List.set_cons_zero, List.set_cons_succ])
  refine tk 15 4 ?_
  (try simp only [Act.put, List.setIfInBounds_toArray, List.set_cons_zero, List.set_cons_succ])
  refine wpAnyH_done (by kernel_rfl) ?_ _
  clear hHeld
  go_wp2_with (first | go_big_skip | go_big_guard | fail)
  go_ret
  exact ⟨rfl, hY⟩
theorem qsome12_any {w0 w : World} {R : List HA} {gr : Nat} {q : Bool} (ao : Option Addr) (N c : Nat) (B : List UInt8) (s : GS) (n : Nat) (z : Int) (hz : z = (n : Int)) (hS : St w0 [] w (.blk gr 69 (rqC (.slice ao N c) s q) :: R)) (hB : Rd w0 (.slice ao N c) 1 N (bytesV B)) (hL : B.length = N) (hN : N ≤ 100000) (hn : n ≤ 100000) (hp : s.pos ≤ N) :
    Calls Try.prog 65 #[.pointer (some ⟨gr, 0, none⟩), .int .i64 z] w fun e w' => ∃ ao' c', e = .returned (.slice ao' (gotG true B n s).length c') ∧ Rd w' (.slice ao' (gotG true B n s).length c') 1 (gotG true B n s).length (bytesV (gotG true B n s)) ∧ St w0 [] w' (.blk gr 69 (rqC (.slice ao N c) (s.go N n) q) :: R) := by
  subst hz
  obtain ⟨p, sh⟩ := s
  have hp' : p ≤ N := hp
  cases hst : (GS.mk p sh).stop N n with
  | true =>
    have e1 : (GS.mk p sh).go N n = ⟨p, true⟩ := GS.go_stop hst
    have e2 : gotG true B n ⟨p, sh⟩ = List.replicate n 0 := by rw [gotG_stop (by rw [hL]; exact hst)]; rfl
    rw [e1, e2, List.length_replicate]
    cases sh with
    | true => exact qsome12_was ao N c p n hS hn
    | false =>
      have hs : N < p + n := by
        unfold GS.stop at hst
        simpa using hst
      exact qsome12_ends ao N c p n hS hp' hN hn hs
  | false =>
    obtain ⟨h0, hs⟩ := GS.stop_yes hst
    have h0' : sh = false := h0
    subst h0'
    have hs' : p + n ≤ N := hs
    have e1 : (GS.mk p false).go N n = ⟨p + n, false⟩ := GS.go_go hst
    have e2 : gotG true B n ⟨p, false⟩ = (B.drop p).take n := gotG_go (by rw [hL]; exact hst)
    have hlen : ((B.drop p).take n).length = n := by rw [List.length_take, List.length_drop]; omega
    rw [e1, e2, hlen]
    rcases hB.casesF with ⟨he, hn0, hb0⟩ | ⟨AA, c', he, hnc9, hcm, _⟩
    · simp only [Value.slice.injEq] at he
      obtain ⟨rfl, rfl, rfl⟩ := he
      have hB0 : B = [] := by simpa [bytesV] using hb0
      subst hB0
      have hp0 : p = 0 := by omega
      have hk0 : n = 0 := by omega
      subst hp0
      subst hk0
      exact (qsome12_nil hS).mono fun e w' ⟨he, h⟩ => ⟨none, 0, he, Rd.nil _ _, h⟩
    · simp only [Value.slice.injEq, true_and] at he
      obtain ⟨rfl, rfl⟩ := he
      by_cases hcp : c = p
      · subst hcp
        have hk0 : n = 0 := by omega
        subst hk0
        exact (qsome12_end AA N c hS hp' hN).mono fun e w' ⟨he, h⟩ => ⟨some AA, 0, he, Rd.empty _ _ _, h⟩
      · obtain ⟨b, off, rfl⟩ := hB.addr (by omega)
        unfold maxLen at hcm
        exact (qsome12_ok b off N c p n hS hN hnc9 hcm hs' hcp).mono fun e w' ⟨he, h⟩ => ⟨_, _, he, Rd.old h (Rd.win (m := n) p hB rfl (by omega) (by omega)), h⟩
end Go.Proofs.Ytkpkaoiafppimaa
namespace Go.Proofs.Ytkpkaoiafppimaa
set_option linter.unusedVariables false
set_option linter.unusedSimpArgs false
open Go.RowKit Hp
attribute [local irreducible] Go.Calls Go.wpList
set_option maxRecDepth 100000
set_option maxHeartbeats 4000000
theorem qnum12_any {w0 w : World} {R : List HA} {gr : Nat} {q : Bool} (ao : Option Addr) (N c : Nat) (B : List UInt8) (s : GS) (n : Nat) (z : Int) (hz : z = (n : Int)) (hS : St w0 [] w (.blk gr 69 (rqC (.slice ao N c) s q) :: R)) (hB : Rd w0 (.slice ao N c) 1 N (bytesV B)) (hL : B.length = N) (hN : N ≤ 100000) (hn : n ≤ 4) (hp : s.pos ≤ N) :
    Calls Try.prog 35 #[.pointer (some ⟨gr, 0, none⟩), .int .i64 z] w fun e w' => e = .returned (.int .i64 (numG B n s : Nat)) ∧ St w0 [] w' (.blk gr 69 (rqC (.slice ao N c) (s.go N n) q) :: R) := by
  subst hz
  have hst := hS
  have HB := hid hB
  have HL := hid hL
  have HP := hid hp
  obtain ⟨l, hl⟩ : ∃ l, l = gotG true B n s := ⟨_, rfl⟩
  obtain ⟨m, hm⟩ : ∃ m, m = l.length := ⟨_, rfl⟩
  obtain ⟨k, hk⟩ : ∃ k, k = numG B n s := ⟨_, rfl⟩
  have hm4 : m ≤ 4 := by
    rw [hm, hl]
    unfold gotG
    split
    · simp; omega
    · rw [List.length_take]; omega
  have HLL := hid hl
  have HM := hid hm
  have HQ2 := hid (show beN l = k by rw [hk, hl, numG_z])
  rw [← hk]
  clear hS hB hL hp hl hm hk
  go_enter Try.func35, Try.ntmps35
  go_wp2_with (first | go_big_skip | go_big_guard | (go_at_call 65; refine (qsome12_any ao N c B s n n rfl hst HB.out HL.out hN (by omega) HP.out).mono ?_; rw [← HLL.out, ← HM.out]; rintro _ w3 ⟨ao', c', rfl, hrd, h4⟩; have HRD := hid hrd; have hst2 := h4; clear hrd h4 hst))
  go_loopw [5, 7] (fun v i wr => ∃ j : Nat, j ≤ m ∧ i = .int .i64 (j : Int) ∧ v = .int .i64 (beN (l.take j) : Nat) ∧ St w0 [] wr (.blk gr 69 (rqC (.slice ao N c) (s.go N n) q) :: R) ∧ Hid (Rd wr (.slice ao' m c') 1 m (bytesV l))) (fun _ i _ => m - (intOf i).toNat)
  case atStart => exact ⟨0, Nat.zero_le _, rfl, by simp [beN], hst2, HRD⟩
  case round =>
    clear hst2 HRD
    obtain ⟨j, hj, rfl, rfl, hst, HRD⟩ := hrel
    by_cases hlt : j < m
    · have e1 : decide ((j : Int) < (m : Int)) = true := decide_eq_true (by omega)
      have y1 : IntKind.i64.wrap ((j : Int) + 1) = (j : Int) + 1 := IntWalk.i64_in _ (by omega)
      have hjl : j < l.length := by rw [← HM.out]; exact hlt
      obtain ⟨b, o, rfl, hr⟩ := HRD.out.at hlt
      have hx := byte_cell hr (k := j) hjl
      have hsucc := beN_take_succ l j hjl
      have hqlt := beN_lt (l.take j)
      have hq3 : beN (l.take j) < 16777216 := by
        refine Nat.lt_of_lt_of_le hqlt ?_
        have : (l.take j).length ≤ 3 := by rw [List.length_take]; omega
        calc 256 ^ (l.take j).length ≤ 256 ^ 3 := Nat.pow_le_pow_right (by decide) this
          _ = 16777216 := by decide
      obtain ⟨x, hxx⟩ : ∃ x, x = l.getD j 0 := ⟨_, rfl⟩
      rw [← hxx] at hx hsucc
      obtain ⟨u, hqq⟩ : ∃ u, u = beN (l.take j) := ⟨_, rfl⟩
      rw [← hqq] at hsucc hq3
      rw [← hqq]
      have Hs := hid hsucc
      have HX := hid hx
      clear hsucc hqq hxx hqlt hr hjl hx
      have hxb := x.toNat_lt
      have y2 : IntKind.i64.wrap (256 * (u : Int)) = 256 * (u : Int) := IntWalk.i64_in _ (by omega)
      have y3 : IntKind.i64.wrap (256 * (u : Int) + (x.toNat : Int)) = 256 * (u : Int) + (x.toNat : Int) := IntWalk.i64_in _ (by omega)
      go_wp2_with (first | go_big_skip | go_big_guard | (refine wl_index rfl rfl rfl rfl hlt ?_) | (refine wl_loadE rfl rfl rfl ?_; refine ⟨_, Loads.cell (TyS.out (P := Try.prog)) (by rw [Nat.mul_one]; exact HX.out), ?_⟩))
      go_roundw
      case rel => exact ⟨j + 1, by omega, rfl, by rw [Hs.out]; congr 1; push_cast; omega, hst, HRD⟩
      case measure => simp [intOf]; omega
    · have e1 : decide ((j : Int) < (m : Int)) = false := decide_eq_false (by omega)
      have e2 : beN (l.take j) = k := by rw [List.take_of_length_le (by rw [← HM.out]; omega), HQ2.out]
      rw [e2]
      clear e2
      go_wp2_with (first | go_big_skip | go_big_guard | fail)
      go_ret
      exact ⟨rfl, hst⟩
end Go.Proofs.Ytkpkaoiafppimaa
namespace Go.Proofs.Ytkpkaoiafppimaa
set_option linter.unusedVariables false
set_option linter.unusedSimpArgs false
open Go.RowKit Hp
attribute [local irreducible] Go.Calls
set_option maxHeartbeats 2000000
set_option maxRecDepth 100000 in
theorem refRead_short (ao : Option Addr) (n c : Nat) (bs : List UInt8) (w : World) (hA : Rd w (.slice ao n c) 1 n (bytesV bs)) (hn : bs.length = n) (h47 : n ≠ 47) :
    Calls Try.prog 66 #[.slice ao n c] w (readOut bs w 98) := by
  have hst := St.refl w
  have Hn := hid hn; clear hn
  have hno : ¬ rOK bs = true := fun h => h47 (Hn.out.symm.trans (rOK_len h))
  
  have Hne := hid h47
  replace hno := hid hno
  by_cases hl : n < 47
  · have d1 : decide ((n : Int) < 47) = true := by simp; omega
    clear h47
    go_enter Try.func66, Try.ntmps66
    go_wp2_with (first | go_big_skip | go_big_guard | (refine wl_loadE rfl rfl rfl ?_; first | refine ⟨_, Loads.at [] hst100 rfl, ?_⟩ | refine ⟨_, Loads.at [] hst101 rfl, ?_⟩ | refine ⟨_, Loads.at [_] hst101 rfl, ?_⟩ | refine ⟨_, Loads.at [] hst102 rfl, ?_⟩ | refine ⟨_, Loads.at [_] hst102 rfl, ?_⟩ | refine ⟨_, Loads.at [] hst103 rfl, ?_⟩ | refine ⟨_, Loads.at [_] hst103 rfl, ?_⟩) | (refine wl_alloc hst rfl rfl ?_; intro g0 _ hst100; clear hst) | (refine wl_alloc hst100 rfl rfl ?_; intro gf _ hst101; clear hst100) | (refine wl_build0 rfl rfl ?_) | (refine wl_storeA [_] hst101 rfl rfl rfl rfl (rfl) (rfl) (rfl) ?_; intro _ hst102; clear hst101) | (refine wl_storeA [] hst102 rfl rfl rfl rfl (rfl) (rfl) (rfl) ?_; intro _ hst103; clear hst102))
    have hl1 := Loads.atA (P := Try.prog) (off := 0) (T := 45) (ptrCells (.slice none 0 0) 0 0 nones) [_] hst103 rfl rfl
    have hl2 := Loads.atA (P := Try.prog) (off := 0) (T := 33) [.int .i64 4, .int .i64 n] [] hst103 rfl rfl
    refine bodyPost_ret (results_cell2L rfl rfl rfl hl1 hl2) rfl ?_
    unfold readOut
    rw [if_neg hno.out]
    exact ⟨by rw [rErr, rAt, if_neg (by rw [Hn.out]; exact Hne.out), if_neg (by rw [Hn.out]; exact Hne.out), if_pos (by rw [Hn.out]; omega), Hn.out], hst103.nil⟩
  · have d1 : decide ((n : Int) < 47) = false := by simp; omega
    have d2 : decide ((47 : Int) < n) = true := by simp; omega
    clear h47
    go_enter Try.func66, Try.ntmps66
    go_wp2_with (first | go_big_skip | go_big_guard | (refine wl_loadE rfl rfl rfl ?_; first | refine ⟨_, Loads.at [] hst104 rfl, ?_⟩ | refine ⟨_, Loads.at [] hst105 rfl, ?_⟩ | refine ⟨_, Loads.at [_] hst105 rfl, ?_⟩ | refine ⟨_, Loads.at [] hst106 rfl, ?_⟩ | refine ⟨_, Loads.at [_] hst106 rfl, ?_⟩ | refine ⟨_, Loads.at [] hst107 rfl, ?_⟩ | refine ⟨_, Loads.at [_] hst107 rfl, ?_⟩) | (refine wl_alloc hst rfl rfl ?_; intro g0 _ hst104; clear hst) | (refine wl_alloc hst104 rfl rfl ?_; intro gf _ hst105; clear hst104) | (refine wl_build0 rfl rfl ?_) | (refine wl_storeA [_] hst105 rfl rfl rfl rfl (rfl) (rfl) (rfl) ?_; intro _ hst106; clear hst105) | (refine wl_storeA [] hst106 rfl rfl rfl rfl (rfl) (rfl) (rfl) ?_; intro _ hst107; clear hst106))
    have hl1 := Loads.atA (P := Try.prog) (off := 0) (T := 45) (ptrCells (.slice none 0 0) 0 0 nones) [_] hst107 rfl rfl
    have hl2 := Loads.atA (P := Try.prog) (off := 0) (T := 33) [.int .i64 4, .int .i64 47] [] hst107 rfl rfl
    refine bodyPost_ret (results_cell2L rfl rfl rfl hl1 hl2) rfl ?_
    unfold readOut
    rw [if_neg hno.out]
    exact ⟨by rw [rErr, rAt, if_neg (by rw [Hn.out]; exact Hne.out), if_neg (by rw [Hn.out]; exact Hne.out), if_neg (by rw [Hn.out]; omega)], hst107.nil⟩
theorem refRead_any (ao : Option Addr) (n c : Nat) (bs : List UInt8) (w : World) (hA : Rd w (.slice ao n c) 1 n (bytesV bs)) (hn : bs.length = n) :
    Calls Try.prog 66 #[.slice ao n c] w (readOut bs w 98) := by
  by_cases h47 : n = 47
  · exact refRead_full ao n c bs w hA hn h47
  · exact refRead_short ao n c bs w hA hn h47
theorem lent_take {bs : List UInt8} {m : Nat} (h : bs.length = m) : ((bytesV (lentB bs)).drop 0).take (bytesV bs).length = bytesV bs := by
  rw [List.drop_zero, lentB_V, List.take_left]
end Go.Proofs.Ytkpkaoiafppimaa
namespace Go.Proofs.Ytkpkaoiafppimaa
set_option linter.unusedVariables false
set_option linter.unusedSimpArgs false
open Go.RowKit Hp
attribute [local irreducible] Go.Calls Go.wpList
set_option maxRecDepth 100000
set_option maxHeartbeats 8000000
theorem results_cell1 {fn : Func} {p : Tmp} {ty : TypeId} {tmps : Array Value} {P : Program} {w : World} {A : Addr} {v : Value} (h : fn.results = #[.cell p ty]) (hp : tmps.getD p undef = .pointer (some A)) (hl : Loads P w ty A v) :
    (results fn tmps).run P w = .ok v w := by
  have hl' : (loadVar ty A).run P w = .ok v w := hl
  have hp' : tmps[p]?.getD undef = .pointer (some A) := by simpa using hp
  simp [results, h, hp', asAddr, hl', Sem.run_bind]
theorem qrec_ok_true {w0 w : World} {R : List HA} {gr : Nat} (ao : Option Addr) (c : Nat) (B : List UInt8) (s : GS) (hS : St w0 [] w (.blk gr 69 (rqC (.slice ao B.length c) s true) :: R)) (hB : Rd w0 (.slice ao B.length c) 1 B.length (bytesV B)) (hN : B.length ≤ 100000) (hp : s.pos ≤ B.length) (hok : rOK (gotG true B 47 (rS5 B s)) = true) :
    Calls Try.prog 36 #[.pointer (some ⟨gr, 0, none⟩)] w fun e w' => ∃ sv, e = .returned (.agg (cellsR (sv, recG true B s)).toArray) ∧ St w0 [] w' (.blk gr 69 (rqC (.slice ao B.length c) (recE B s) (true || !(rootOk true B s))) :: .row sv 98 2 (recG true B s).l.length (addrsV (recG true B s).l) :: R) := by
  have hst0 := hS
  have HB := hid hB
  have HP := hid hp
  obtain ⟨p1, p2, p3, p4, p5, p6, p7, p8, p9, p10⟩ := rS_le hp
  have HP1 := hid p1
  have HP2 := hid p2
  have HP3 := hid p3
  have HP4 := hid p4
  have HP5 := hid p5
  have HP6 := hid p6
  have HP7 := hid p7
  have HP8 := hid p8
  have HP9 := hid p9
  have HP10 := hid p10
  have HOK := hid hok
  have HZ := hid (show L32 zP.S from L32.nones)
  have HS := hid (rSum_len (rOK_len hok))
  clear hS hB hp p1 p2 p3 p4 p5 p6 p7 p8 p9 p10 hok
  go_enter Try.func36, Try.ntmps36
  go_wp2_with (first | go_big_skip | go_big_guard | (refine wl_alloc hst0 rfl rfl ?_; intro g2 w1 hA1; clear hst0) | (refine wl_alloc hA1 rfl rfl ?_; intro g3 w1 hA2; clear hA1) | (go_at_call 35; refine (qnum12_any ao B.length c B s 4 4 rfl (St.front (L1 := [_, _]) hA2) HB.out rfl hN (by decide) HP.out).mono ?_; rintro _ w9 ⟨rfl, h4⟩; have hA3 : St w0 [] w9 (.blk gr 69 (rqC (.slice ao B.length c) (rS1 B s) true) :: .blk g3 47 (xC 0 [] 0 0 zP 0 0 0 0 0) :: .blk g2 47 (rec0) :: R) := h4; clear h4 hA2) | (refine wl_store [_] hA3 rfl rfl rfl (off := 0) (v := .int .i64 (numG B 4 s : Nat)) rfl rfl rfl (by rw [xC_len HZ.out]; show (0 : Nat) + 1 ≤ 44; decide) ?_; intro w1 h4; have h5 := h4; clear h4; (rw [show putAt (xC _ _ _ _ _ _ _ _ _ _) 0 (Value.int IntKind.i64 (numG B 4 s : Nat)).cells.toList = xC _ _ _ _ _ _ _ _ _ _ from xC_put0 _] at h5); have hA4 : St w0 [] w1 (.blk gr 69 (rqC (.slice ao B.length c) (rS1 B s) true) :: .blk g3 47 (xC (numG B 4 s : Nat) [] 0 0 zP 0 0 0 0 0) :: .blk g2 47 (rec0) :: R) := h5; clear h5 hA3) | (go_at_call 35; refine (qnum12_any ao B.length c B (rS1 B s) 1 1 rfl hA4 HB.out rfl hN (by decide) HP1.out).mono ?_; rintro _ w9 ⟨rfl, h4⟩; have hA5 : St w0 [] w9 (.blk gr 69 (rqC (.slice ao B.length c) (rS2 B s) true) :: .blk g3 47 (xC (numG B 4 s : Nat) [] 0 0 zP 0 0 0 0 0) :: .blk g2 47 (rec0) :: R) := h4; clear h4 hA4) | (go_at_call 65; refine (qsome12_any ao B.length c B (rS2 B s) (numG B 1 (rS1 B s)) _ rfl hA5 HB.out rfl hN (by have := numG1_lt B (rS1 B s); omega) HP2.out).mono ?_; rintro _ w9 ⟨ao1, c1, rfl, hrd, h4⟩; have HR1 := hid hrd; have hA6 : St w0 [] w9 (.blk gr 69 (rqC (.slice ao B.length c) (rS3 B s) true) :: .blk g3 47 (xC (numG B 4 s : Nat) [] 0 0 zP 0 0 0 0 0) :: .blk g2 47 (rec0) :: R) := h4; clear hrd h4 hA5) | (refine wl_bytes_string rfl rfl rfl HR1.out ?_) | (refine wl_store [_] hA6 rfl rfl rfl (off := 1) (v := .string ⟨(gotG true B (numG B 1 (rS1 B s)) (rS2 B s)).toArray⟩) rfl rfl rfl (by rw [xC_len HZ.out]; show (1 : Nat) + 1 ≤ 44; decide) ?_; intro w1 h4; have hA7 : St w0 [] w1 (.blk gr 69 (rqC (.slice ao B.length c) (rS3 B s) true) :: .blk g3 47 (xC (numG B 4 s : Nat) (gotG true B (numG B 1 (rS1 B s)) (rS2 B s)) 0 0 zP 0 0 0 0 0) :: .blk g2 47 (rec0) :: R) := h4; clear h4 hA6) | (go_at_call 35; refine (qnum12_any ao B.length c B (rS3 B s) 1 1 rfl hA7 HB.out rfl hN (by decide) HP3.out).mono ?_; rintro _ w9 ⟨rfl, h4⟩; have hA8 : St w0 [] w9 (.blk gr 69 (rqC (.slice ao B.length c) (rS4 B s) true) :: .blk g3 47 (xC (numG B 4 s : Nat) (gotG true B (numG B 1 (rS1 B s)) (rS2 B s)) 0 0 zP 0 0 0 0 0) :: .blk g2 47 (rec0) :: R) := h4; clear h4 hA7) | (refine wl_store [_] hA8 rfl rfl rfl (off := 2) (v := .int .i64 (numG B 1 (rS3 B s) : Nat)) rfl rfl rfl (by rw [xC_len HZ.out]; show (2 : Nat) + 1 ≤ 44; decide) ?_; intro w1 h4; have h5 := h4; clear h4; (rw [show putAt (xC _ _ _ _ _ _ _ _ _ _) 2 (Value.int IntKind.i64 (numG B 1 (rS3 B s) : Nat)).cells.toList = xC _ _ _ _ _ _ _ _ _ _ from xC_put2 _] at h5); have hA9 : St w0 [] w1 (.blk gr 69 (rqC (.slice ao B.length c) (rS4 B s) true) :: .blk g3 47 (xC (numG B 4 s : Nat) (gotG true B (numG B 1 (rS1 B s)) (rS2 B s)) (numG B 1 (rS3 B s) : Nat) 0 zP 0 0 0 0 0) :: .blk g2 47 (rec0) :: R) := h5; clear h5 hA8) | (go_at_call 35; refine (qnum12_any ao B.length c B (rS4 B s) 1 1 rfl hA9 HB.out rfl hN (by decide) HP4.out).mono ?_; rintro _ w9 ⟨rfl, h4⟩; have hA10 : St w0 [] w9 (.blk gr 69 (rqC (.slice ao B.length c) (rS5 B s) true) :: .blk g3 47 (xC (numG B 4 s : Nat) (gotG true B (numG B 1 (rS1 B s)) (rS2 B s)) (numG B 1 (rS3 B s) : Nat) 0 zP 0 0 0 0 0) :: .blk g2 47 (rec0) :: R) := h4; clear h4 hA9) | (refine wl_store [_] hA10 rfl rfl rfl (off := 3) (v := .int .i64 (numG B 1 (rS4 B s) : Nat)) rfl rfl rfl (by rw [xC_len HZ.out]; show (3 : Nat) + 1 ≤ 44; decide) ?_; intro w1 h4; have h5 := h4; clear h4; (rw [show putAt (xC _ _ _ _ _ _ _ _ _ _) 3 (Value.int IntKind.i64 (numG B 1 (rS4 B s) : Nat)).cells.toList = xC _ _ _ _ _ _ _ _ _ _ from xC_put3 _] at h5); have hA11 : St w0 [] w1 (.blk gr 69 (rqC (.slice ao B.length c) (rS5 B s) true) :: .blk g3 47 (xC (numG B 4 s : Nat) (gotG true B (numG B 1 (rS1 B s)) (rS2 B s)) (numG B 1 (rS3 B s) : Nat) (numG B 1 (rS4 B s) : Nat) zP 0 0 0 0 0) :: .blk g2 47 (rec0) :: R) := h5; clear h5 hA10) | (go_at_call 65; refine (qsome12_any ao B.length c B (rS5 B s) 47 _ rfl hA11 HB.out rfl hN (by decide) HP5.out).mono ?_; rintro _ w9 ⟨ao2, c2, rfl, hrd, h4⟩; have HR2 := hid hrd; have hA12 : St w0 [] w9 (.blk gr 69 (rqC (.slice ao B.length c) (rS6 B s) true) :: .blk g3 47 (xC (numG B 4 s : Nat) (gotG true B (numG B 1 (rS1 B s)) (rS2 B s)) (numG B 1 (rS3 B s) : Nat) (numG B 1 (rS4 B s) : Nat) zP 0 0 0 0 0) :: .blk g2 47 (rec0) :: R) := h4; clear hrd h4 hA11) | (go_at_call 66; refine (refRead_any ao2 _ c2 (gotG true B 47 (rS5 B s)) _ HR2.out rfl).mono ?_; intro e9 w9 hr9; obtain ⟨ao3, n3, c3, rfl, h4, hl9⟩ := readOut.ok HOK.out hr9; have HL3 := hid hl9; have hA13 := St.call hA12 h4; clear hr9 h4 hl9 hA12) | (refine wl_alloc hA13 rfl rfl ?_; intro g5 w1 hA14; clear hA13) | (refine wl_alloc hA14 rfl rfl ?_; intro g6 w1 hA15; clear hA14) | (refine wl_storeA [_] hA15 rfl rfl rfl rfl (PV.len (p := ⟨.slice ao3 n3 c3, rAddrs (gotG true B 47 (rS5 B s)) 3, rBirth (gotG true B 47 (rS5 B s)), rLevel (gotG true B 47 (rS5 B s)), rSum (gotG true B 47 (rS5 B s))⟩) HS.out) (ptr_ones _ _ _ _ _ _) rfl ?_; intro w1 h4; have hA16 : St w0 [] w1 (.blk g6 33 ([.int .i64 0, .int .i64 0]) :: .blk g5 45 (PV.cells ⟨.slice ao3 n3 c3, rAddrs (gotG true B 47 (rS5 B s)) 3, rBirth (gotG true B 47 (rS5 B s)), rLevel (gotG true B 47 (rS5 B s)), rSum (gotG true B 47 (rS5 B s))⟩) :: .row (.slice ao3 n3 c3) 98 2 n3 (addrsV (rAddrs (gotG true B 47 (rS5 B s)) 3)) :: .blk gr 69 (rqC (.slice ao B.length c) (rS6 B s) true) :: .blk g3 47 (xC (numG B 4 s : Nat) (gotG true B (numG B 1 (rS1 B s)) (rS2 B s)) (numG B 1 (rS3 B s) : Nat) (numG B 1 (rS4 B s) : Nat) zP 0 0 0 0 0) :: .blk g2 47 (rec0) :: R) := h4; clear h4 hA15) | (refine wl_storeA [] hA16 rfl rfl rfl rfl (by rfl) (by rfl) rfl ?_; intro w1 h4; have hA17 : St w0 [] w1 (.blk g6 33 ([.int .i64 0, .int .i64 0]) :: .blk g5 45 (PV.cells ⟨.slice ao3 n3 c3, rAddrs (gotG true B 47 (rS5 B s)) 3, rBirth (gotG true B 47 (rS5 B s)), rLevel (gotG true B 47 (rS5 B s)), rSum (gotG true B 47 (rS5 B s))⟩) :: .row (.slice ao3 n3 c3) 98 2 n3 (addrsV (rAddrs (gotG true B 47 (rS5 B s)) 3)) :: .blk gr 69 (rqC (.slice ao B.length c) (rS6 B s) true) :: .blk g3 47 (xC (numG B 4 s : Nat) (gotG true B (numG B 1 (rS1 B s)) (rS2 B s)) (numG B 1 (rS3 B s) : Nat) (numG B 1 (rS4 B s) : Nat) zP 0 0 0 0 0) :: .blk g2 47 (rec0) :: R) := h4; clear h4 hA16) | (refine wl_loadE rfl rfl rfl ?_; first | refine ⟨_, Loads.at [_, _, _] hA17 rfl, ?_⟩ | refine ⟨_, Loads.at [] hA17 rfl, ?_⟩) | (refine wl_store [_, _, _] hA17 rfl rfl rfl (off := 3) (v := .bool true) rfl rfl rfl (by show (3 : Nat) + 1 ≤ 4; decide) ?_; intro w1 h4; have hA18 : St w0 [] w1 (.blk g6 33 ([.int .i64 0, .int .i64 0]) :: .blk g5 45 (PV.cells ⟨.slice ao3 n3 c3, rAddrs (gotG true B 47 (rS5 B s)) 3, rBirth (gotG true B 47 (rS5 B s)), rLevel (gotG true B 47 (rS5 B s)), rSum (gotG true B 47 (rS5 B s))⟩) :: .row (.slice ao3 n3 c3) 98 2 n3 (addrsV (rAddrs (gotG true B 47 (rS5 B s)) 3)) :: .blk gr 69 (rqC (.slice ao B.length c) (rS6 B s) true) :: .blk g3 47 (xC (numG B 4 s : Nat) (gotG true B (numG B 1 (rS1 B s)) (rS2 B s)) (numG B 1 (rS3 B s) : Nat) (numG B 1 (rS4 B s) : Nat) zP 0 0 0 0 0) :: .blk g2 47 (rec0) :: R) := h4; clear h4 hA17) | (refine wl_loadE rfl rfl rfl ?_; refine ⟨_, Loads.atA (PV.cells ⟨.slice ao3 n3 c3, rAddrs (gotG true B 47 (rS5 B s)) 3, rBirth (gotG true B 47 (rS5 B s)), rLevel (gotG true B 47 (rS5 B s)), rSum (gotG true B 47 (rS5 B s))⟩) [_] hA18 (PV.len HS.out) (by simp), ?_⟩) | (refine wl_storeO [_, _, _, _] hA18 rfl rfl rfl rfl (off := 4) (PV.len (p := ⟨.slice ao3 n3 c3, rAddrs (gotG true B 47 (rS5 B s)) 3, rBirth (gotG true B 47 (rS5 B s)), rLevel (gotG true B 47 (rS5 B s)), rSum (gotG true B 47 (rS5 B s))⟩) HS.out) (ptr_ones _ _ _ _ _ _) (by rw [xC_len HZ.out]; decide) (xC_put4 (q := ⟨.slice ao3 n3 c3, rAddrs (gotG true B 47 (rS5 B s)) 3, rBirth (gotG true B 47 (rS5 B s)), rLevel (gotG true B 47 (rS5 B s)), rSum (gotG true B 47 (rS5 B s))⟩) HZ.out HS.out) ?_; intro w1 h4; have hA19 : St w0 [] w1 (.blk g6 33 ([.int .i64 0, .int .i64 0]) :: .blk g5 45 (PV.cells ⟨.slice ao3 n3 c3, rAddrs (gotG true B 47 (rS5 B s)) 3, rBirth (gotG true B 47 (rS5 B s)), rLevel (gotG true B 47 (rS5 B s)), rSum (gotG true B 47 (rS5 B s))⟩) :: .row (.slice ao3 n3 c3) 98 2 n3 (addrsV (rAddrs (gotG true B 47 (rS5 B s)) 3)) :: .blk gr 69 (rqC (.slice ao B.length c) (rS6 B s) true) :: .blk g3 47 (xC (numG B 4 s : Nat) (gotG true B (numG B 1 (rS1 B s)) (rS2 B s)) (numG B 1 (rS3 B s) : Nat) (numG B 1 (rS4 B s) : Nat) ⟨.slice ao3 n3 c3, rAddrs (gotG true B 47 (rS5 B s)) 3, rBirth (gotG true B 47 (rS5 B s)), rLevel (gotG true B 47 (rS5 B s)), rSum (gotG true B 47 (rS5 B s))⟩ 0 0 0 0 0) :: .blk g2 47 (rec0) :: R) := h4; clear h4 hA18) | (go_at_call 35; refine (qnum12_any ao B.length c B (rS6 B s) 4 4 rfl (St.front (L1 := [_, _, _]) hA19) HB.out rfl hN (by decide) HP6.out).mono ?_; rintro _ w9 ⟨rfl, h4⟩; have hA20 : St w0 [] w9 (.blk gr 69 (rqC (.slice ao B.length c) (rS7 B s) true) :: .blk g6 33 ([.int .i64 0, .int .i64 0]) :: .blk g5 45 (PV.cells ⟨.slice ao3 n3 c3, rAddrs (gotG true B 47 (rS5 B s)) 3, rBirth (gotG true B 47 (rS5 B s)), rLevel (gotG true B 47 (rS5 B s)), rSum (gotG true B 47 (rS5 B s))⟩) :: .row (.slice ao3 n3 c3) 98 2 n3 (addrsV (rAddrs (gotG true B 47 (rS5 B s)) 3)) :: .blk g3 47 (xC (numG B 4 s : Nat) (gotG true B (numG B 1 (rS1 B s)) (rS2 B s)) (numG B 1 (rS3 B s) : Nat) (numG B 1 (rS4 B s) : Nat) ⟨.slice ao3 n3 c3, rAddrs (gotG true B 47 (rS5 B s)) 3, rBirth (gotG true B 47 (rS5 B s)), rLevel (gotG true B 47 (rS5 B s)), rSum (gotG true B 47 (rS5 B s))⟩ 0 0 0 0 0) :: .blk g2 47 (rec0) :: R) := h4; clear h4 hA19) | (refine wl_store [_, _, _, _] hA20 rfl rfl rfl (off := 39) (v := .int .i64 (numG B 4 (rS6 B s) : Nat)) rfl rfl rfl (by rw [xC_len HS.out]; show (39 : Nat) + 1 ≤ 44; decide) ?_; intro w1 h4; have h5 := h4; clear h4; (rw [show putAt (xC _ _ _ _ _ _ _ _ _ _) 39 (Value.int IntKind.i64 (numG B 4 (rS6 B s) : Nat)).cells.toList = xC _ _ _ _ _ _ _ _ _ _ from xC_put39 HS.out _] at h5); have hA21 : St w0 [] w1 (.blk gr 69 (rqC (.slice ao B.length c) (rS7 B s) true) :: .blk g6 33 ([.int .i64 0, .int .i64 0]) :: .blk g5 45 (PV.cells ⟨.slice ao3 n3 c3, rAddrs (gotG true B 47 (rS5 B s)) 3, rBirth (gotG true B 47 (rS5 B s)), rLevel (gotG true B 47 (rS5 B s)), rSum (gotG true B 47 (rS5 B s))⟩) :: .row (.slice ao3 n3 c3) 98 2 n3 (addrsV (rAddrs (gotG true B 47 (rS5 B s)) 3)) :: .blk g3 47 (xC (numG B 4 s : Nat) (gotG true B (numG B 1 (rS1 B s)) (rS2 B s)) (numG B 1 (rS3 B s) : Nat) (numG B 1 (rS4 B s) : Nat) ⟨.slice ao3 n3 c3, rAddrs (gotG true B 47 (rS5 B s)) 3, rBirth (gotG true B 47 (rS5 B s)), rLevel (gotG true B 47 (rS5 B s)), rSum (gotG true B 47 (rS5 B s))⟩ (numG B 4 (rS6 B s) : Nat) 0 0 0 0) :: .blk g2 47 (rec0) :: R) := h5; clear h5 hA20) | (go_at_call 35; refine (qnum12_any ao B.length c B (rS7 B s) 4 4 rfl hA21 HB.out rfl hN (by decide) HP7.out).mono ?_; rintro _ w9 ⟨rfl, h4⟩; have hA22 : St w0 [] w9 (.blk gr 69 (rqC (.slice ao B.length c) (rS8 B s) true) :: .blk g6 33 ([.int .i64 0, .int .i64 0]) :: .blk g5 45 (PV.cells ⟨.slice ao3 n3 c3, rAddrs (gotG true B 47 (rS5 B s)) 3, rBirth (gotG true B 47 (rS5 B s)), rLevel (gotG true B 47 (rS5 B s)), rSum (gotG true B 47 (rS5 B s))⟩) :: .row (.slice ao3 n3 c3) 98 2 n3 (addrsV (rAddrs (gotG true B 47 (rS5 B s)) 3)) :: .blk g3 47 (xC (numG B 4 s : Nat) (gotG true B (numG B 1 (rS1 B s)) (rS2 B s)) (numG B 1 (rS3 B s) : Nat) (numG B 1 (rS4 B s) : Nat) ⟨.slice ao3 n3 c3, rAddrs (gotG true B 47 (rS5 B s)) 3, rBirth (gotG true B 47 (rS5 B s)), rLevel (gotG true B 47 (rS5 B s)), rSum (gotG true B 47 (rS5 B s))⟩ (numG B 4 (rS6 B s) : Nat) 0 0 0 0) :: .blk g2 47 (rec0) :: R) := h4; clear h4 hA21) | (refine wl_store [_, _, _, _] hA22 rfl rfl rfl (off := 40) (v := .int .i64 (numG B 4 (rS7 B s) : Nat)) rfl rfl rfl (by rw [xC_len HS.out]; show (40 : Nat) + 1 ≤ 44; decide) ?_; intro w1 h4; have h5 := h4; clear h4; (rw [show putAt (xC _ _ _ _ _ _ _ _ _ _) 40 (Value.int IntKind.i64 (numG B 4 (rS7 B s) : Nat)).cells.toList = xC _ _ _ _ _ _ _ _ _ _ from xC_put40 HS.out _] at h5); have hA23 : St w0 [] w1 (.blk gr 69 (rqC (.slice ao B.length c) (rS8 B s) true) :: .blk g6 33 ([.int .i64 0, .int .i64 0]) :: .blk g5 45 (PV.cells ⟨.slice ao3 n3 c3, rAddrs (gotG true B 47 (rS5 B s)) 3, rBirth (gotG true B 47 (rS5 B s)), rLevel (gotG true B 47 (rS5 B s)), rSum (gotG true B 47 (rS5 B s))⟩) :: .row (.slice ao3 n3 c3) 98 2 n3 (addrsV (rAddrs (gotG true B 47 (rS5 B s)) 3)) :: .blk g3 47 (xC (numG B 4 s : Nat) (gotG true B (numG B 1 (rS1 B s)) (rS2 B s)) (numG B 1 (rS3 B s) : Nat) (numG B 1 (rS4 B s) : Nat) ⟨.slice ao3 n3 c3, rAddrs (gotG true B 47 (rS5 B s)) 3, rBirth (gotG true B 47 (rS5 B s)), rLevel (gotG true B 47 (rS5 B s)), rSum (gotG true B 47 (rS5 B s))⟩ (numG B 4 (rS6 B s) : Nat) (numG B 4 (rS7 B s) : Nat) 0 0 0) :: .blk g2 47 (rec0) :: R) := h5; clear h5 hA22) | (go_at_call 35; refine (qnum12_any ao B.length c B (rS8 B s) 4 4 rfl hA23 HB.out rfl hN (by decide) HP8.out).mono ?_; rintro _ w9 ⟨rfl, h4⟩; have hA24 : St w0 [] w9 (.blk gr 69 (rqC (.slice ao B.length c) (rS9 B s) true) :: .blk g6 33 ([.int .i64 0, .int .i64 0]) :: .blk g5 45 (PV.cells ⟨.slice ao3 n3 c3, rAddrs (gotG true B 47 (rS5 B s)) 3, rBirth (gotG true B 47 (rS5 B s)), rLevel (gotG true B 47 (rS5 B s)), rSum (gotG true B 47 (rS5 B s))⟩) :: .row (.slice ao3 n3 c3) 98 2 n3 (addrsV (rAddrs (gotG true B 47 (rS5 B s)) 3)) :: .blk g3 47 (xC (numG B 4 s : Nat) (gotG true B (numG B 1 (rS1 B s)) (rS2 B s)) (numG B 1 (rS3 B s) : Nat) (numG B 1 (rS4 B s) : Nat) ⟨.slice ao3 n3 c3, rAddrs (gotG true B 47 (rS5 B s)) 3, rBirth (gotG true B 47 (rS5 B s)), rLevel (gotG true B 47 (rS5 B s)), rSum (gotG true B 47 (rS5 B s))⟩ (numG B 4 (rS6 B s) : Nat) (numG B 4 (rS7 B s) : Nat) 0 0 0) :: .blk g2 47 (rec0) :: R) := h4; clear h4 hA23) | (refine wl_store [_, _, _, _] hA24 rfl rfl rfl (off := 41) (v := .int .i64 (numG B 4 (rS8 B s) : Nat)) rfl rfl rfl (by rw [xC_len HS.out]; show (41 : Nat) + 1 ≤ 44; decide) ?_; intro w1 h4; have h5 := h4; clear h4; (rw [show putAt (xC _ _ _ _ _ _ _ _ _ _) 41 (Value.int IntKind.i64 (numG B 4 (rS8 B s) : Nat)).cells.toList = xC _ _ _ _ _ _ _ _ _ _ from xC_put41 HS.out _] at h5); have hA25 : St w0 [] w1 (.blk gr 69 (rqC (.slice ao B.length c) (rS9 B s) true) :: .blk g6 33 ([.int .i64 0, .int .i64 0]) :: .blk g5 45 (PV.cells ⟨.slice ao3 n3 c3, rAddrs (gotG true B 47 (rS5 B s)) 3, rBirth (gotG true B 47 (rS5 B s)), rLevel (gotG true B 47 (rS5 B s)), rSum (gotG true B 47 (rS5 B s))⟩) :: .row (.slice ao3 n3 c3) 98 2 n3 (addrsV (rAddrs (gotG true B 47 (rS5 B s)) 3)) :: .blk g3 47 (xC (numG B 4 s : Nat) (gotG true B (numG B 1 (rS1 B s)) (rS2 B s)) (numG B 1 (rS3 B s) : Nat) (numG B 1 (rS4 B s) : Nat) ⟨.slice ao3 n3 c3, rAddrs (gotG true B 47 (rS5 B s)) 3, rBirth (gotG true B 47 (rS5 B s)), rLevel (gotG true B 47 (rS5 B s)), rSum (gotG true B 47 (rS5 B s))⟩ (numG B 4 (rS6 B s) : Nat) (numG B 4 (rS7 B s) : Nat) (numG B 4 (rS8 B s) : Nat) 0 0) :: .blk g2 47 (rec0) :: R) := h5; clear h5 hA24) | (go_at_call 35; refine (qnum12_any ao B.length c B (rS9 B s) 1 1 rfl hA25 HB.out rfl hN (by decide) HP9.out).mono ?_; rintro _ w9 ⟨rfl, h4⟩; have hA26 : St w0 [] w9 (.blk gr 69 (rqC (.slice ao B.length c) (rS10 B s) true) :: .blk g6 33 ([.int .i64 0, .int .i64 0]) :: .blk g5 45 (PV.cells ⟨.slice ao3 n3 c3, rAddrs (gotG true B 47 (rS5 B s)) 3, rBirth (gotG true B 47 (rS5 B s)), rLevel (gotG true B 47 (rS5 B s)), rSum (gotG true B 47 (rS5 B s))⟩) :: .row (.slice ao3 n3 c3) 98 2 n3 (addrsV (rAddrs (gotG true B 47 (rS5 B s)) 3)) :: .blk g3 47 (xC (numG B 4 s : Nat) (gotG true B (numG B 1 (rS1 B s)) (rS2 B s)) (numG B 1 (rS3 B s) : Nat) (numG B 1 (rS4 B s) : Nat) ⟨.slice ao3 n3 c3, rAddrs (gotG true B 47 (rS5 B s)) 3, rBirth (gotG true B 47 (rS5 B s)), rLevel (gotG true B 47 (rS5 B s)), rSum (gotG true B 47 (rS5 B s))⟩ (numG B 4 (rS6 B s) : Nat) (numG B 4 (rS7 B s) : Nat) (numG B 4 (rS8 B s) : Nat) 0 0) :: .blk g2 47 (rec0) :: R) := h4; clear h4 hA25) | (refine wl_store [_, _, _, _] hA26 rfl rfl rfl (off := 42) (v := .int .i64 (numG B 1 (rS9 B s) : Nat)) rfl rfl rfl (by rw [xC_len HS.out]; show (42 : Nat) + 1 ≤ 44; decide) ?_; intro w1 h4; have h5 := h4; clear h4; (rw [show putAt (xC _ _ _ _ _ _ _ _ _ _) 42 (Value.int IntKind.i64 (numG B 1 (rS9 B s) : Nat)).cells.toList = xC _ _ _ _ _ _ _ _ _ _ from xC_put42 HS.out _] at h5); have hA27 : St w0 [] w1 (.blk gr 69 (rqC (.slice ao B.length c) (rS10 B s) true) :: .blk g6 33 ([.int .i64 0, .int .i64 0]) :: .blk g5 45 (PV.cells ⟨.slice ao3 n3 c3, rAddrs (gotG true B 47 (rS5 B s)) 3, rBirth (gotG true B 47 (rS5 B s)), rLevel (gotG true B 47 (rS5 B s)), rSum (gotG true B 47 (rS5 B s))⟩) :: .row (.slice ao3 n3 c3) 98 2 n3 (addrsV (rAddrs (gotG true B 47 (rS5 B s)) 3)) :: .blk g3 47 (xC (numG B 4 s : Nat) (gotG true B (numG B 1 (rS1 B s)) (rS2 B s)) (numG B 1 (rS3 B s) : Nat) (numG B 1 (rS4 B s) : Nat) ⟨.slice ao3 n3 c3, rAddrs (gotG true B 47 (rS5 B s)) 3, rBirth (gotG true B 47 (rS5 B s)), rLevel (gotG true B 47 (rS5 B s)), rSum (gotG true B 47 (rS5 B s))⟩ (numG B 4 (rS6 B s) : Nat) (numG B 4 (rS7 B s) : Nat) (numG B 4 (rS8 B s) : Nat) (numG B 1 (rS9 B s) : Nat) 0) :: .blk g2 47 (rec0) :: R) := h5; clear h5 hA26) | (go_at_call 35; refine (qnum12_any ao B.length c B (rS10 B s) 1 1 rfl hA27 HB.out rfl hN (by decide) HP10.out).mono ?_; rintro _ w9 ⟨rfl, h4⟩; have hA28 : St w0 [] w9 (.blk gr 69 (rqC (.slice ao B.length c) (rS11 B s) true) :: .blk g6 33 ([.int .i64 0, .int .i64 0]) :: .blk g5 45 (PV.cells ⟨.slice ao3 n3 c3, rAddrs (gotG true B 47 (rS5 B s)) 3, rBirth (gotG true B 47 (rS5 B s)), rLevel (gotG true B 47 (rS5 B s)), rSum (gotG true B 47 (rS5 B s))⟩) :: .row (.slice ao3 n3 c3) 98 2 n3 (addrsV (rAddrs (gotG true B 47 (rS5 B s)) 3)) :: .blk g3 47 (xC (numG B 4 s : Nat) (gotG true B (numG B 1 (rS1 B s)) (rS2 B s)) (numG B 1 (rS3 B s) : Nat) (numG B 1 (rS4 B s) : Nat) ⟨.slice ao3 n3 c3, rAddrs (gotG true B 47 (rS5 B s)) 3, rBirth (gotG true B 47 (rS5 B s)), rLevel (gotG true B 47 (rS5 B s)), rSum (gotG true B 47 (rS5 B s))⟩ (numG B 4 (rS6 B s) : Nat) (numG B 4 (rS7 B s) : Nat) (numG B 4 (rS8 B s) : Nat) (numG B 1 (rS9 B s) : Nat) 0) :: .blk g2 47 (rec0) :: R) := h4; clear h4 hA27) | (refine wl_store [_, _, _, _] hA28 rfl rfl rfl (off := 43) (v := .int .i64 (numG B 1 (rS10 B s) : Nat)) rfl rfl rfl (by rw [xC_len HS.out]; show (43 : Nat) + 1 ≤ 44; decide) ?_; intro w1 h4; have h5 := h4; clear h4; (rw [show putAt (xC _ _ _ _ _ _ _ _ _ _) 43 (Value.int IntKind.i64 (numG B 1 (rS10 B s) : Nat)).cells.toList = xC _ _ _ _ _ _ _ _ _ _ from xC_put43 HS.out _] at h5); have hA29 : St w0 [] w1 (.blk gr 69 (rqC (.slice ao B.length c) (rS11 B s) true) :: .blk g6 33 ([.int .i64 0, .int .i64 0]) :: .blk g5 45 (PV.cells ⟨.slice ao3 n3 c3, rAddrs (gotG true B 47 (rS5 B s)) 3, rBirth (gotG true B 47 (rS5 B s)), rLevel (gotG true B 47 (rS5 B s)), rSum (gotG true B 47 (rS5 B s))⟩) :: .row (.slice ao3 n3 c3) 98 2 n3 (addrsV (rAddrs (gotG true B 47 (rS5 B s)) 3)) :: .blk g3 47 (xC (numG B 4 s : Nat) (gotG true B (numG B 1 (rS1 B s)) (rS2 B s)) (numG B 1 (rS3 B s) : Nat) (numG B 1 (rS4 B s) : Nat) ⟨.slice ao3 n3 c3, rAddrs (gotG true B 47 (rS5 B s)) 3, rBirth (gotG true B 47 (rS5 B s)), rLevel (gotG true B 47 (rS5 B s)), rSum (gotG true B 47 (rS5 B s))⟩ (numG B 4 (rS6 B s) : Nat) (numG B 4 (rS7 B s) : Nat) (numG B 4 (rS8 B s) : Nat) (numG B 1 (rS9 B s) : Nat) (numG B 1 (rS10 B s) : Nat)) :: .blk g2 47 (rec0) :: R) := h5; clear h5 hA28) | (refine wl_loadE rfl rfl rfl ?_; refine ⟨_, Loads.atA (xC (numG B 4 s : Nat) (gotG true B (numG B 1 (rS1 B s)) (rS2 B s)) (numG B 1 (rS3 B s) : Nat) (numG B 1 (rS4 B s) : Nat) ⟨.slice ao3 n3 c3, rAddrs (gotG true B 47 (rS5 B s)) 3, rBirth (gotG true B 47 (rS5 B s)), rLevel (gotG true B 47 (rS5 B s)), rSum (gotG true B 47 (rS5 B s))⟩ (numG B 4 (rS6 B s) : Nat) (numG B 4 (rS7 B s) : Nat) (numG B 4 (rS8 B s) : Nat) (numG B 1 (rS9 B s) : Nat) (numG B 1 (rS10 B s) : Nat)) [_, _, _, _] hA29 (xC_len HS.out) (by simp), ?_⟩) | (refine wl_storeA [_, _, _, _, _] hA29 rfl rfl rfl rfl (xC_len HS.out) (xC_ones (ptr_ones _ _ _ _ _ _)) (by rfl) ?_; intro w7 hA30; clear hA29))
  have hl := Loads.atA (P := Try.prog) (off := 0) (T := 47) (xC (numG B 4 s : Nat) (gotG true B (numG B 1 (rS1 B s)) (rS2 B s)) (numG B 1 (rS3 B s) : Nat) (numG B 1 (rS4 B s) : Nat) ⟨.slice ao3 n3 c3, rAddrs (gotG true B 47 (rS5 B s)) 3, rBirth (gotG true B 47 (rS5 B s)), rLevel (gotG true B 47 (rS5 B s)), rSum (gotG true B 47 (rS5 B s))⟩ (numG B 4 (rS6 B s) : Nat) (numG B 4 (rS7 B s) : Nat) (numG B 4 (rS8 B s) : Nat) (numG B 1 (rS9 B s) : Nat) (numG B 1 (rS10 B s) : Nat)) [_, _, _, _, _] hA30 (xC_len HS.out) (by simp)
  refine bodyPost_ret (results_cell1 rfl rfl hl) rfl ?_
  refine ⟨.slice ao3 n3 c3, ?_, ?_⟩
  · rw [rec_cells (sv := .slice ao3 n3 c3) (rootG_yes HOK.out)]
  · rw [rec_l (rootG_yes HOK.out), HL3.out, show rootOk true B s = true from HOK.out]
    exact St.sub (St.front (L1 := [_]) (St.front (L1 := [_, _, _]) hA30)) (List.Sublist.cons_cons _ (List.Sublist.cons_cons _ (List.Sublist.cons _ (List.Sublist.cons _ (List.Sublist.cons _ (List.Sublist.cons _ (List.Sublist.refl _)))))))
theorem qrec_ok_false {w0 w : World} {R : List HA} {gr : Nat} (ao : Option Addr) (c : Nat) (B : List UInt8) (s : GS) (hS : St w0 [] w (.blk gr 69 (rqC (.slice ao B.length c) s false) :: R)) (hB : Rd w0 (.slice ao B.length c) 1 B.length (bytesV B)) (hN : B.length ≤ 100000) (hp : s.pos ≤ B.length) (hok : rOK (gotG true B 47 (rS5 B s)) = true) :
    Calls Try.prog 36 #[.pointer (some ⟨gr, 0, none⟩)] w fun e w' => ∃ sv, e = .returned (.agg (cellsR (sv, recG true B s)).toArray) ∧ St w0 [] w' (.blk gr 69 (rqC (.slice ao B.length c) (recE B s) (false || !(rootOk true B s))) :: .row sv 98 2 (recG true B s).l.length (addrsV (recG true B s).l) :: R) := by
  have hst0 := hS
  have HB := hid hB
  have HP := hid hp
  obtain ⟨p1, p2, p3, p4, p5, p6, p7, p8, p9, p10⟩ := rS_le hp
  have HP1 := hid p1
  have HP2 := hid p2
  have HP3 := hid p3
  have HP4 := hid p4
  have HP5 := hid p5
  have HP6 := hid p6
  have HP7 := hid p7
  have HP8 := hid p8
  have HP9 := hid p9
  have HP10 := hid p10
  have HOK := hid hok
  have HZ := hid (show L32 zP.S from L32.nones)
  have HS := hid (rSum_len (rOK_len hok))
  clear hS hB hp p1 p2 p3 p4 p5 p6 p7 p8 p9 p10 hok
  go_enter Try.func36, Try.ntmps36
  go_wp2_with (first | go_big_skip | go_big_guard | (refine wl_alloc hst0 rfl rfl ?_; intro g2 w1 hA1; clear hst0) | (refine wl_alloc hA1 rfl rfl ?_; intro g3 w1 hA2; clear hA1) | (go_at_call 35; refine (qnum12_any ao B.length c B s 4 4 rfl (St.front (L1 := [_, _]) hA2) HB.out rfl hN (by decide) HP.out).mono ?_; rintro _ w9 ⟨rfl, h4⟩; have hA3 : St w0 [] w9 (.blk gr 69 (rqC (.slice ao B.length c) (rS1 B s) false) :: .blk g3 47 (xC 0 [] 0 0 zP 0 0 0 0 0) :: .blk g2 47 (rec0) :: R) := h4; clear h4 hA2) | (refine wl_store [_] hA3 rfl rfl rfl (off := 0) (v := .int .i64 (numG B 4 s : Nat)) rfl rfl rfl (by rw [xC_len HZ.out]; show (0 : Nat) + 1 ≤ 44; decide) ?_; intro w1 h4; have h5 := h4; clear h4; (rw [show putAt (xC _ _ _ _ _ _ _ _ _ _) 0 (Value.int IntKind.i64 (numG B 4 s : Nat)).cells.toList = xC _ _ _ _ _ _ _ _ _ _ from xC_put0 _] at h5); have hA4 : St w0 [] w1 (.blk gr 69 (rqC (.slice ao B.length c) (rS1 B s) false) :: .blk g3 47 (xC (numG B 4 s : Nat) [] 0 0 zP 0 0 0 0 0) :: .blk g2 47 (rec0) :: R) := h5; clear h5 hA3) | (go_at_call 35; refine (qnum12_any ao B.length c B (rS1 B s) 1 1 rfl hA4 HB.out rfl hN (by decide) HP1.out).mono ?_; rintro _ w9 ⟨rfl, h4⟩; have hA5 : St w0 [] w9 (.blk gr 69 (rqC (.slice ao B.length c) (rS2 B s) false) :: .blk g3 47 (xC (numG B 4 s : Nat) [] 0 0 zP 0 0 0 0 0) :: .blk g2 47 (rec0) :: R) := h4; clear h4 hA4) | (go_at_call 65; refine (qsome12_any ao B.length c B (rS2 B s) (numG B 1 (rS1 B s)) _ rfl hA5 HB.out rfl hN (by have := numG1_lt B (rS1 B s); omega) HP2.out).mono ?_; rintro _ w9 ⟨ao1, c1, rfl, hrd, h4⟩; have HR1 := hid hrd; have hA6 : St w0 [] w9 (.blk gr 69 (rqC (.slice ao B.length c) (rS3 B s) false) :: .blk g3 47 (xC (numG B 4 s : Nat) [] 0 0 zP 0 0 0 0 0) :: .blk g2 47 (rec0) :: R) := h4; clear hrd h4 hA5) | (refine wl_bytes_string rfl rfl rfl HR1.out ?_) | (refine wl_store [_] hA6 rfl rfl rfl (off := 1) (v := .string ⟨(gotG true B (numG B 1 (rS1 B s)) (rS2 B s)).toArray⟩) rfl rfl rfl (by rw [xC_len HZ.out]; show (1 : Nat) + 1 ≤ 44; decide) ?_; intro w1 h4; have hA7 : St w0 [] w1 (.blk gr 69 (rqC (.slice ao B.length c) (rS3 B s) false) :: .blk g3 47 (xC (numG B 4 s : Nat) (gotG true B (numG B 1 (rS1 B s)) (rS2 B s)) 0 0 zP 0 0 0 0 0) :: .blk g2 47 (rec0) :: R) := h4; clear h4 hA6) | (go_at_call 35; refine (qnum12_any ao B.length c B (rS3 B s) 1 1 rfl hA7 HB.out rfl hN (by decide) HP3.out).mono ?_; rintro _ w9 ⟨rfl, h4⟩; have hA8 : St w0 [] w9 (.blk gr 69 (rqC (.slice ao B.length c) (rS4 B s) false) :: .blk g3 47 (xC (numG B 4 s : Nat) (gotG true B (numG B 1 (rS1 B s)) (rS2 B s)) 0 0 zP 0 0 0 0 0) :: .blk g2 47 (rec0) :: R) := h4; clear h4 hA7) | (refine wl_store [_] hA8 rfl rfl rfl (off := 2) (v := .int .i64 (numG B 1 (rS3 B s) : Nat)) rfl rfl rfl (by rw [xC_len HZ.out]; show (2 : Nat) + 1 ≤ 44; decide) ?_; intro w1 h4; have h5 := h4; clear h4; (rw [show putAt (xC _ _ _ _ _ _ _ _ _ _) 2 (Value.int IntKind.i64 (numG B 1 (rS3 B s) : Nat)).cells.toList = xC _ _ _ _ _ _ _ _ _ _ from xC_put2 _] at h5); have hA9 : St w0 [] w1 (.blk gr 69 (rqC (.slice ao B.length c) (rS4 B s) false) :: .blk g3 47 (xC (numG B 4 s : Nat) (gotG true B (numG B 1 (rS1 B s)) (rS2 B s)) (numG B 1 (rS3 B s) : Nat) 0 zP 0 0 0 0 0) :: .blk g2 47 (rec0) :: R) := h5; clear h5 hA8) | (go_at_call 35; refine (qnum12_any ao B.length c B (rS4 B s) 1 1 rfl hA9 HB.out rfl hN (by decide) HP4.out).mono ?_; rintro _ w9 ⟨rfl, h4⟩; have hA10 : St w0 [] w9 (.blk gr 69 (rqC (.slice ao B.length c) (rS5 B s) false) :: .blk g3 47 (xC (numG B 4 s : Nat) (gotG true B (numG B 1 (rS1 B s)) (rS2 B s)) (numG B 1 (rS3 B s) : Nat) 0 zP 0 0 0 0 0) :: .blk g2 47 (rec0) :: R) := h4; clear h4 hA9) | (refine wl_store [_] hA10 rfl rfl rfl (off := 3) (v := .int .i64 (numG B 1 (rS4 B s) : Nat)) rfl rfl rfl (by rw [xC_len HZ.out]; show (3 : Nat) + 1 ≤ 44; decide) ?_; intro w1 h4; have h5 := h4; clear h4; (rw [show putAt (xC _ _ _ _ _ _ _ _ _ _) 3 (Value.int IntKind.i64 (numG B 1 (rS4 B s) : Nat)).cells.toList = xC _ _ _ _ _ _ _ _ _ _ from xC_put3 _] at h5); have hA11 : St w0 [] w1 (.blk gr 69 (rqC (.slice ao B.length c) (rS5 B s) false) :: .blk g3 47 (xC (numG B 4 s : Nat) (gotG true B (numG B 1 (rS1 B s)) (rS2 B s)) (numG B 1 (rS3 B s) : Nat) (numG B 1 (rS4 B s) : Nat) zP 0 0 0 0 0) :: .blk g2 47 (rec0) :: R) := h5; clear h5 hA10) | (go_at_call 65; refine (qsome12_any ao B.length c B (rS5 B s) 47 _ rfl hA11 HB.out rfl hN (by decide) HP5.out).mono ?_; rintro _ w9 ⟨ao2, c2, rfl, hrd, h4⟩; have HR2 := hid hrd; have hA12 : St w0 [] w9 (.blk gr 69 (rqC (.slice ao B.length c) (rS6 B s) false) :: .blk g3 47 (xC (numG B 4 s : Nat) (gotG true B (numG B 1 (rS1 B s)) (rS2 B s)) (numG B 1 (rS3 B s) : Nat) (numG B 1 (rS4 B s) : Nat) zP 0 0 0 0 0) :: .blk g2 47 (rec0) :: R) := h4; clear hrd h4 hA11) | (go_at_call 66; refine (refRead_any ao2 _ c2 (gotG true B 47 (rS5 B s)) _ HR2.out rfl).mono ?_; intro e9 w9 hr9; obtain ⟨ao3, n3, c3, rfl, h4, hl9⟩ := readOut.ok HOK.out hr9; have HL3 := hid hl9; have hA13 := St.call hA12 h4; clear hr9 h4 hl9 hA12) | (refine wl_alloc hA13 rfl rfl ?_; intro g5 w1 hA14; clear hA13) | (refine wl_alloc hA14 rfl rfl ?_; intro g6 w1 hA15; clear hA14) | (refine wl_storeA [_] hA15 rfl rfl rfl rfl (PV.len (p := ⟨.slice ao3 n3 c3, rAddrs (gotG true B 47 (rS5 B s)) 3, rBirth (gotG true B 47 (rS5 B s)), rLevel (gotG true B 47 (rS5 B s)), rSum (gotG true B 47 (rS5 B s))⟩) HS.out) (ptr_ones _ _ _ _ _ _) rfl ?_; intro w1 h4; have hA16 : St w0 [] w1 (.blk g6 33 ([.int .i64 0, .int .i64 0]) :: .blk g5 45 (PV.cells ⟨.slice ao3 n3 c3, rAddrs (gotG true B 47 (rS5 B s)) 3, rBirth (gotG true B 47 (rS5 B s)), rLevel (gotG true B 47 (rS5 B s)), rSum (gotG true B 47 (rS5 B s))⟩) :: .row (.slice ao3 n3 c3) 98 2 n3 (addrsV (rAddrs (gotG true B 47 (rS5 B s)) 3)) :: .blk gr 69 (rqC (.slice ao B.length c) (rS6 B s) false) :: .blk g3 47 (xC (numG B 4 s : Nat) (gotG true B (numG B 1 (rS1 B s)) (rS2 B s)) (numG B 1 (rS3 B s) : Nat) (numG B 1 (rS4 B s) : Nat) zP 0 0 0 0 0) :: .blk g2 47 (rec0) :: R) := h4; clear h4 hA15) | (refine wl_storeA [] hA16 rfl rfl rfl rfl (by rfl) (by rfl) rfl ?_; intro w1 h4; have hA17 : St w0 [] w1 (.blk g6 33 ([.int .i64 0, .int .i64 0]) :: .blk g5 45 (PV.cells ⟨.slice ao3 n3 c3, rAddrs (gotG true B 47 (rS5 B s)) 3, rBirth (gotG true B 47 (rS5 B s)), rLevel (gotG true B 47 (rS5 B s)), rSum (gotG true B 47 (rS5 B s))⟩) :: .row (.slice ao3 n3 c3) 98 2 n3 (addrsV (rAddrs (gotG true B 47 (rS5 B s)) 3)) :: .blk gr 69 (rqC (.slice ao B.length c) (rS6 B s) false) :: .blk g3 47 (xC (numG B 4 s : Nat) (gotG true B (numG B 1 (rS1 B s)) (rS2 B s)) (numG B 1 (rS3 B s) : Nat) (numG B 1 (rS4 B s) : Nat) zP 0 0 0 0 0) :: .blk g2 47 (rec0) :: R) := h4; clear h4 hA16) | (refine wl_loadE rfl rfl rfl ?_; first | refine ⟨_, Loads.at [_, _, _] hA17 rfl, ?_⟩ | refine ⟨_, Loads.at [] hA17 rfl, ?_⟩) | (refine wl_store [_, _, _] hA17 rfl rfl rfl (off := 3) (v := .bool false) rfl rfl rfl (by show (3 : Nat) + 1 ≤ 4; decide) ?_; intro w1 h4; have hA18 : St w0 [] w1 (.blk g6 33 ([.int .i64 0, .int .i64 0]) :: .blk g5 45 (PV.cells ⟨.slice ao3 n3 c3, rAddrs (gotG true B 47 (rS5 B s)) 3, rBirth (gotG true B 47 (rS5 B s)), rLevel (gotG true B 47 (rS5 B s)), rSum (gotG true B 47 (rS5 B s))⟩) :: .row (.slice ao3 n3 c3) 98 2 n3 (addrsV (rAddrs (gotG true B 47 (rS5 B s)) 3)) :: .blk gr 69 (rqC (.slice ao B.length c) (rS6 B s) false) :: .blk g3 47 (xC (numG B 4 s : Nat) (gotG true B (numG B 1 (rS1 B s)) (rS2 B s)) (numG B 1 (rS3 B s) : Nat) (numG B 1 (rS4 B s) : Nat) zP 0 0 0 0 0) :: .blk g2 47 (rec0) :: R) := h4; clear h4 hA17) | (refine wl_loadE rfl rfl rfl ?_; refine ⟨_, Loads.atA (PV.cells ⟨.slice ao3 n3 c3, rAddrs (gotG true B 47 (rS5 B s)) 3, rBirth (gotG true B 47 (rS5 B s)), rLevel (gotG true B 47 (rS5 B s)), rSum (gotG true B 47 (rS5 B s))⟩) [_] hA18 (PV.len HS.out) (by simp), ?_⟩) | (refine wl_storeO [_, _, _, _] hA18 rfl rfl rfl rfl (off := 4) (PV.len (p := ⟨.slice ao3 n3 c3, rAddrs (gotG true B 47 (rS5 B s)) 3, rBirth (gotG true B 47 (rS5 B s)), rLevel (gotG true B 47 (rS5 B s)), rSum (gotG true B 47 (rS5 B s))⟩) HS.out) (ptr_ones _ _ _ _ _ _) (by rw [xC_len HZ.out]; decide) (xC_put4 (q := ⟨.slice ao3 n3 c3, rAddrs (gotG true B 47 (rS5 B s)) 3, rBirth (gotG true B 47 (rS5 B s)), rLevel (gotG true B 47 (rS5 B s)), rSum (gotG true B 47 (rS5 B s))⟩) HZ.out HS.out) ?_; intro w1 h4; have hA19 : St w0 [] w1 (.blk g6 33 ([.int .i64 0, .int .i64 0]) :: .blk g5 45 (PV.cells ⟨.slice ao3 n3 c3, rAddrs (gotG true B 47 (rS5 B s)) 3, rBirth (gotG true B 47 (rS5 B s)), rLevel (gotG true B 47 (rS5 B s)), rSum (gotG true B 47 (rS5 B s))⟩) :: .row (.slice ao3 n3 c3) 98 2 n3 (addrsV (rAddrs (gotG true B 47 (rS5 B s)) 3)) :: .blk gr 69 (rqC (.slice ao B.length c) (rS6 B s) false) :: .blk g3 47 (xC (numG B 4 s : Nat) (gotG true B (numG B 1 (rS1 B s)) (rS2 B s)) (numG B 1 (rS3 B s) : Nat) (numG B 1 (rS4 B s) : Nat) ⟨.slice ao3 n3 c3, rAddrs (gotG true B 47 (rS5 B s)) 3, rBirth (gotG true B 47 (rS5 B s)), rLevel (gotG true B 47 (rS5 B s)), rSum (gotG true B 47 (rS5 B s))⟩ 0 0 0 0 0) :: .blk g2 47 (rec0) :: R) := h4; clear h4 hA18) | (go_at_call 35; refine (qnum12_any ao B.length c B (rS6 B s) 4 4 rfl (St.front (L1 := [_, _, _]) hA19) HB.out rfl hN (by decide) HP6.out).mono ?_; rintro _ w9 ⟨rfl, h4⟩; have hA20 : St w0 [] w9 (.blk gr 69 (rqC (.slice ao B.length c) (rS7 B s) false) :: .blk g6 33 ([.int .i64 0, .int .i64 0]) :: .blk g5 45 (PV.cells ⟨.slice ao3 n3 c3, rAddrs (gotG true B 47 (rS5 B s)) 3, rBirth (gotG true B 47 (rS5 B s)), rLevel (gotG true B 47 (rS5 B s)), rSum (gotG true B 47 (rS5 B s))⟩) :: .row (.slice ao3 n3 c3) 98 2 n3 (addrsV (rAddrs (gotG true B 47 (rS5 B s)) 3)) :: .blk g3 47 (xC (numG B 4 s : Nat) (gotG true B (numG B 1 (rS1 B s)) (rS2 B s)) (numG B 1 (rS3 B s) : Nat) (numG B 1 (rS4 B s) : Nat) ⟨.slice ao3 n3 c3, rAddrs (gotG true B 47 (rS5 B s)) 3, rBirth (gotG true B 47 (rS5 B s)), rLevel (gotG true B 47 (rS5 B s)), rSum (gotG true B 47 (rS5 B s))⟩ 0 0 0 0 0) :: .blk g2 47 (rec0) :: R) := h4; clear h4 hA19) | (refine wl_store [_, _, _, _] hA20 rfl rfl rfl (off := 39) (v := .int .i64 (numG B 4 (rS6 B s) : Nat)) rfl rfl rfl (by rw [xC_len HS.out]; show (39 : Nat) + 1 ≤ 44; decide) ?_; intro w1 h4; have h5 := h4; clear h4; (rw [show putAt (xC _ _ _ _ _ _ _ _ _ _) 39 (Value.int IntKind.i64 (numG B 4 (rS6 B s) : Nat)).cells.toList = xC _ _ _ _ _ _ _ _ _ _ from xC_put39 HS.out _] at h5); have hA21 : St w0 [] w1 (.blk gr 69 (rqC (.slice ao B.length c) (rS7 B s) false) :: .blk g6 33 ([.int .i64 0, .int .i64 0]) :: .blk g5 45 (PV.cells ⟨.slice ao3 n3 c3, rAddrs (gotG true B 47 (rS5 B s)) 3, rBirth (gotG true B 47 (rS5 B s)), rLevel (gotG true B 47 (rS5 B s)), rSum (gotG true B 47 (rS5 B s))⟩) :: .row (.slice ao3 n3 c3) 98 2 n3 (addrsV (rAddrs (gotG true B 47 (rS5 B s)) 3)) :: .blk g3 47 (xC (numG B 4 s : Nat) (gotG true B (numG B 1 (rS1 B s)) (rS2 B s)) (numG B 1 (rS3 B s) : Nat) (numG B 1 (rS4 B s) : Nat) ⟨.slice ao3 n3 c3, rAddrs (gotG true B 47 (rS5 B s)) 3, rBirth (gotG true B 47 (rS5 B s)), rLevel (gotG true B 47 (rS5 B s)), rSum (gotG true B 47 (rS5 B s))⟩ (numG B 4 (rS6 B s) : Nat) 0 0 0 0) :: .blk g2 47 (rec0) :: R) := h5; clear h5 hA20) | (go_at_call 35; refine (qnum12_any ao B.length c B (rS7 B s) 4 4 rfl hA21 HB.out rfl hN (by decide) HP7.out).mono ?_; rintro _ w9 ⟨rfl, h4⟩; have hA22 : St w0 [] w9 (.blk gr 69 (rqC (.slice ao B.length c) (rS8 B s) false) :: .blk g6 33 ([.int .i64 0, .int .i64 0]) :: .blk g5 45 (PV.cells ⟨.slice ao3 n3 c3, rAddrs (gotG true B 47 (rS5 B s)) 3, rBirth (gotG true B 47 (rS5 B s)), rLevel (gotG true B 47 (rS5 B s)), rSum (gotG true B 47 (rS5 B s))⟩) :: .row (.slice ao3 n3 c3) 98 2 n3 (addrsV (rAddrs (gotG true B 47 (rS5 B s)) 3)) :: .blk g3 47 (xC (numG B 4 s : Nat) (gotG true B (numG B 1 (rS1 B s)) (rS2 B s)) (numG B 1 (rS3 B s) : Nat) (numG B 1 (rS4 B s) : Nat) ⟨.slice ao3 n3 c3, rAddrs (gotG true B 47 (rS5 B s)) 3, rBirth (gotG true B 47 (rS5 B s)), rLevel (gotG true B 47 (rS5 B s)), rSum (gotG true B 47 (rS5 B s))⟩ (numG B 4 (rS6 B s) : Nat) 0 0 0 0) :: .blk g2 47 (rec0) :: R) := h4; clear h4 hA21) | (refine wl_store [_, _, _, _] hA22 rfl rfl rfl (off := 40) (v := .int .i64 (numG B 4 (rS7 B s) : Nat)) rfl rfl rfl (by rw [xC_len HS.out]; show (40 : Nat) + 1 ≤ 44; decide) ?_; intro w1 h4; have h5 := h4; clear h4; (rw [show putAt (xC _ _ _ _ _ _ _ _ _ _) 40 (Value.int IntKind.i64 (numG B 4 (rS7 B s) : Nat)).cells.toList = xC _ _ _ _ _ _ _ _ _ _ from xC_put40 HS.out _] at h5); have hA23 : St w0 [] w1 (.blk gr 69 (rqC (.slice ao B.length c) (rS8 B s) false) :: .blk g6 33 ([.int .i64 0, .int .i64 0]) :: .blk g5 45 (PV.cells ⟨.slice ao3 n3 c3, rAddrs (gotG true B 47 (rS5 B s)) 3, rBirth (gotG true B 47 (rS5 B s)), rLevel (gotG true B 47 (rS5 B s)), rSum (gotG true B 47 (rS5 B s))⟩) :: .row (.slice ao3 n3 c3) 98 2 n3 (addrsV (rAddrs (gotG true B 47 (rS5 B s)) 3)) :: .blk g3 47 (xC (numG B 4 s : Nat) (gotG true B (numG B 1 (rS1 B s)) (rS2 B s)) (numG B 1 (rS3 B s) : Nat) (numG B 1 (rS4 B s) : Nat) ⟨.slice ao3 n3 c3, rAddrs (gotG true B 47 (rS5 B s)) 3, rBirth (gotG true B 47 (rS5 B s)), rLevel (gotG true B 47 (rS5 B s)), rSum (gotG true B 47 (rS5 B s))⟩ (numG B 4 (rS6 B s) : Nat) (numG B 4 (rS7 B s) : Nat) 0 0 0) :: .blk g2 47 (rec0) :: R) := h5; clear h5 hA22) | (go_at_call 35; refine (qnum12_any ao B.length c B (rS8 B s) 4 4 rfl hA23 HB.out rfl hN (by decide) HP8.out).mono ?_; rintro _ w9 ⟨rfl, h4⟩; have hA24 : St w0 [] w9 (.blk gr 69 (rqC (.slice ao B.length c) (rS9 B s) false) :: .blk g6 33 ([.int .i64 0, .int .i64 0]) :: .blk g5 45 (PV.cells ⟨.slice ao3 n3 c3, rAddrs (gotG true B 47 (rS5 B s)) 3, rBirth (gotG true B 47 (rS5 B s)), rLevel (gotG true B 47 (rS5 B s)), rSum (gotG true B 47 (rS5 B s))⟩) :: .row (.slice ao3 n3 c3) 98 2 n3 (addrsV (rAddrs (gotG true B 47 (rS5 B s)) 3)) :: .blk g3 47 (xC (numG B 4 s : Nat) (gotG true B (numG B 1 (rS1 B s)) (rS2 B s)) (numG B 1 (rS3 B s) : Nat) (numG B 1 (rS4 B s) : Nat) ⟨.slice ao3 n3 c3, rAddrs (gotG true B 47 (rS5 B s)) 3, rBirth (gotG true B 47 (rS5 B s)), rLevel (gotG true B 47 (rS5 B s)), rSum (gotG true B 47 (rS5 B s))⟩ (numG B 4 (rS6 B s) : Nat) (numG B 4 (rS7 B s) : Nat) 0 0 0) :: .blk g2 47 (rec0) :: R) := h4; clear h4 hA23) | (refine wl_store [_, _, _, _] hA24 rfl rfl rfl (off := 41) (v := .int .i64 (numG B 4 (rS8 B s) : Nat)) rfl rfl rfl (by rw [xC_len HS.out]; show (41 : Nat) + 1 ≤ 44; decide) ?_; intro w1 h4; have h5 := h4; clear h4; (rw [show putAt (xC _ _ _ _ _ _ _ _ _ _) 41 (Value.int IntKind.i64 (numG B 4 (rS8 B s) : Nat)).cells.toList = xC _ _ _ _ _ _ _ _ _ _ from xC_put41 HS.out _] at h5); have hA25 : St w0 [] w1 (.blk gr 69 (rqC (.slice ao B.length c) (rS9 B s) false) :: .blk g6 33 ([.int .i64 0, .int .i64 0]) :: .blk g5 45 (PV.cells ⟨.slice ao3 n3 c3, rAddrs (gotG true B 47 (rS5 B s)) 3, rBirth (gotG true B 47 (rS5 B s)), rLevel (gotG true B 47 (rS5 B s)), rSum (gotG true B 47 (rS5 B s))⟩) :: .row (.slice ao3 n3 c3) 98 2 n3 (addrsV (rAddrs (gotG true B 47 (rS5 B s)) 3)) :: .blk g3 47 (xC (numG B 4 s : Nat) (gotG true B (numG B 1 (rS1 B s)) (rS2 B s)) (numG B 1 (rS3 B s) : Nat) (numG B 1 (rS4 B s) : Nat) ⟨.slice ao3 n3 c3, rAddrs (gotG true B 47 (rS5 B s)) 3, rBirth (gotG true B 47 (rS5 B s)), rLevel (gotG true B 47 (rS5 B s)), rSum (gotG true B 47 (rS5 B s))⟩ (numG B 4 (rS6 B s) : Nat) (numG B 4 (rS7 B s) : Nat) (numG B 4 (rS8 B s) : Nat) 0 0) :: .blk g2 47 (rec0) :: R) := h5; clear h5 hA24) | (go_at_call 35; refine (qnum12_any ao B.length c B (rS9 B s) 1 1 rfl hA25 HB.out rfl hN (by decide) HP9.out).mono ?_; rintro _ w9 ⟨rfl, h4⟩; have hA26 : St w0 [] w9 (.blk gr 69 (rqC (.slice ao B.length c) (rS10 B s) false) :: .blk g6 33 ([.int .i64 0, .int .i64 0]) :: .blk g5 45 (PV.cells ⟨.slice ao3 n3 c3, rAddrs (gotG true B 47 (rS5 B s)) 3, rBirth (gotG true B 47 (rS5 B s)), rLevel (gotG true B 47 (rS5 B s)), rSum (gotG true B 47 (rS5 B s))⟩) :: .row (.slice ao3 n3 c3) 98 2 n3 (addrsV (rAddrs (gotG true B 47 (rS5 B s)) 3)) :: .blk g3 47 (xC (numG B 4 s : Nat) (gotG true B (numG B 1 (rS1 B s)) (rS2 B s)) (numG B 1 (rS3 B s) : Nat) (numG B 1 (rS4 B s) : Nat) ⟨.slice ao3 n3 c3, rAddrs (gotG true B 47 (rS5 B s)) 3, rBirth (gotG true B 47 (rS5 B s)), rLevel (gotG true B 47 (rS5 B s)), rSum (gotG true B 47 (rS5 B s))⟩ (numG B 4 (rS6 B s) : Nat) (numG B 4 (rS7 B s) : Nat) (numG B 4 (rS8 B s) : Nat) 0 0) :: .blk g2 47 (rec0) :: R) := h4; clear h4 hA25) | (refine wl_store [_, _, _, _] hA26 rfl rfl rfl (off := 42) (v := .int .i64 (numG B 1 (rS9 B s) : Nat)) rfl rfl rfl (by rw [xC_len HS.out]; show (42 : Nat) + 1 ≤ 44; decide) ?_; intro w1 h4; have h5 := h4; clear h4; (rw [show putAt (xC _ _ _ _ _ _ _ _ _ _) 42 (Value.int IntKind.i64 (numG B 1 (rS9 B s) : Nat)).cells.toList = xC _ _ _ _ _ _ _ _ _ _ from xC_put42 HS.out _] at h5); have hA27 : St w0 [] w1 (.blk gr 69 (rqC (.slice ao B.length c) (rS10 B s) false) :: .blk g6 33 ([.int .i64 0, .int .i64 0]) :: .blk g5 45 (PV.cells ⟨.slice ao3 n3 c3, rAddrs (gotG true B 47 (rS5 B s)) 3, rBirth (gotG true B 47 (rS5 B s)), rLevel (gotG true B 47 (rS5 B s)), rSum (gotG true B 47 (rS5 B s))⟩) :: .row (.slice ao3 n3 c3) 98 2 n3 (addrsV (rAddrs (gotG true B 47 (rS5 B s)) 3)) :: .blk g3 47 (xC (numG B 4 s : Nat) (gotG true B (numG B 1 (rS1 B s)) (rS2 B s)) (numG B 1 (rS3 B s) : Nat) (numG B 1 (rS4 B s) : Nat) ⟨.slice ao3 n3 c3, rAddrs (gotG true B 47 (rS5 B s)) 3, rBirth (gotG true B 47 (rS5 B s)), rLevel (gotG true B 47 (rS5 B s)), rSum (gotG true B 47 (rS5 B s))⟩ (numG B 4 (rS6 B s) : Nat) (numG B 4 (rS7 B s) : Nat) (numG B 4 (rS8 B s) : Nat) (numG B 1 (rS9 B s) : Nat) 0) :: .blk g2 47 (rec0) :: R) := h5; clear h5 hA26) | (go_at_call 35; refine (qnum12_any ao B.length c B (rS10 B s) 1 1 rfl hA27 HB.out rfl hN (by decide) HP10.out).mono ?_; rintro _ w9 ⟨rfl, h4⟩; have hA28 : St w0 [] w9 (.blk gr 69 (rqC (.slice ao B.length c) (rS11 B s) false) :: .blk g6 33 ([.int .i64 0, .int .i64 0]) :: .blk g5 45 (PV.cells ⟨.slice ao3 n3 c3, rAddrs (gotG true B 47 (rS5 B s)) 3, rBirth (gotG true B 47 (rS5 B s)), rLevel (gotG true B 47 (rS5 B s)), rSum (gotG true B 47 (rS5 B s))⟩) :: .row (.slice ao3 n3 c3) 98 2 n3 (addrsV (rAddrs (gotG true B 47 (rS5 B s)) 3)) :: .blk g3 47 (xC (numG B 4 s : Nat) (gotG true B (numG B 1 (rS1 B s)) (rS2 B s)) (numG B 1 (rS3 B s) : Nat) (numG B 1 (rS4 B s) : Nat) ⟨.slice ao3 n3 c3, rAddrs (gotG true B 47 (rS5 B s)) 3, rBirth (gotG true B 47 (rS5 B s)), rLevel (gotG true B 47 (rS5 B s)), rSum (gotG true B 47 (rS5 B s))⟩ (numG B 4 (rS6 B s) : Nat) (numG B 4 (rS7 B s) : Nat) (numG B 4 (rS8 B s) : Nat) (numG B 1 (rS9 B s) : Nat) 0) :: .blk g2 47 (rec0) :: R) := h4; clear h4 hA27) | (refine wl_store [_, _, _, _] hA28 rfl rfl rfl (off := 43) (v := .int .i64 (numG B 1 (rS10 B s) : Nat)) rfl rfl rfl (by rw [xC_len HS.out]; show (43 : Nat) + 1 ≤ 44; decide) ?_; intro w1 h4; have h5 := h4; clear h4; (rw [show putAt (xC _ _ _ _ _ _ _ _ _ _) 43 (Value.int IntKind.i64 (numG B 1 (rS10 B s) : Nat)).cells.toList = xC _ _ _ _ _ _ _ _ _ _ from xC_put43 HS.out _] at h5); have hA29 : St w0 [] w1 (.blk gr 69 (rqC (.slice ao B.length c) (rS11 B s) false) :: .blk g6 33 ([.int .i64 0, .int .i64 0]) :: .blk g5 45 (PV.cells ⟨.slice ao3 n3 c3, rAddrs (gotG true B 47 (rS5 B s)) 3, rBirth (gotG true B 47 (rS5 B s)), rLevel (gotG true B 47 (rS5 B s)), rSum (gotG true B 47 (rS5 B s))⟩) :: .row (.slice ao3 n3 c3) 98 2 n3 (addrsV (rAddrs (gotG true B 47 (rS5 B s)) 3)) :: .blk g3 47 (xC (numG B 4 s : Nat) (gotG true B (numG B 1 (rS1 B s)) (rS2 B s)) (numG B 1 (rS3 B s) : Nat) (numG B 1 (rS4 B s) : Nat) ⟨.slice ao3 n3 c3, rAddrs (gotG true B 47 (rS5 B s)) 3, rBirth (gotG true B 47 (rS5 B s)), rLevel (gotG true B 47 (rS5 B s)), rSum (gotG true B 47 (rS5 B s))⟩ (numG B 4 (rS6 B s) : Nat) (numG B 4 (rS7 B s) : Nat) (numG B 4 (rS8 B s) : Nat) (numG B 1 (rS9 B s) : Nat) (numG B 1 (rS10 B s) : Nat)) :: .blk g2 47 (rec0) :: R) := h5; clear h5 hA28) | (refine wl_loadE rfl rfl rfl ?_; refine ⟨_, Loads.atA (xC (numG B 4 s : Nat) (gotG true B (numG B 1 (rS1 B s)) (rS2 B s)) (numG B 1 (rS3 B s) : Nat) (numG B 1 (rS4 B s) : Nat) ⟨.slice ao3 n3 c3, rAddrs (gotG true B 47 (rS5 B s)) 3, rBirth (gotG true B 47 (rS5 B s)), rLevel (gotG true B 47 (rS5 B s)), rSum (gotG true B 47 (rS5 B s))⟩ (numG B 4 (rS6 B s) : Nat) (numG B 4 (rS7 B s) : Nat) (numG B 4 (rS8 B s) : Nat) (numG B 1 (rS9 B s) : Nat) (numG B 1 (rS10 B s) : Nat)) [_, _, _, _] hA29 (xC_len HS.out) (by simp), ?_⟩) | (refine wl_storeA [_, _, _, _, _] hA29 rfl rfl rfl rfl (xC_len HS.out) (xC_ones (ptr_ones _ _ _ _ _ _)) (by rfl) ?_; intro w7 hA30; clear hA29))
  have hl := Loads.atA (P := Try.prog) (off := 0) (T := 47) (xC (numG B 4 s : Nat) (gotG true B (numG B 1 (rS1 B s)) (rS2 B s)) (numG B 1 (rS3 B s) : Nat) (numG B 1 (rS4 B s) : Nat) ⟨.slice ao3 n3 c3, rAddrs (gotG true B 47 (rS5 B s)) 3, rBirth (gotG true B 47 (rS5 B s)), rLevel (gotG true B 47 (rS5 B s)), rSum (gotG true B 47 (rS5 B s))⟩ (numG B 4 (rS6 B s) : Nat) (numG B 4 (rS7 B s) : Nat) (numG B 4 (rS8 B s) : Nat) (numG B 1 (rS9 B s) : Nat) (numG B 1 (rS10 B s) : Nat)) [_, _, _, _, _] hA30 (xC_len HS.out) (by simp)
  refine bodyPost_ret (results_cell1 rfl rfl hl) rfl ?_
  refine ⟨.slice ao3 n3 c3, ?_, ?_⟩
  · rw [rec_cells (sv := .slice ao3 n3 c3) (rootG_yes HOK.out)]
  · rw [rec_l (rootG_yes HOK.out), HL3.out, show rootOk true B s = true from HOK.out]
    exact St.sub (St.front (L1 := [_]) (St.front (L1 := [_, _, _]) hA30)) (List.Sublist.cons_cons _ (List.Sublist.cons_cons _ (List.Sublist.cons _ (List.Sublist.cons _ (List.Sublist.cons _ (List.Sublist.cons _ (List.Sublist.refl _)))))))
theorem qrec_no_true {w0 w : World} {R : List HA} {gr : Nat} (ao : Option Addr) (c : Nat) (B : List UInt8) (s : GS) (hS : St w0 [] w (.blk gr 69 (rqC (.slice ao B.length c) s true) :: R)) (hB : Rd w0 (.slice ao B.length c) 1 B.length (bytesV B)) (hN : B.length ≤ 100000) (hp : s.pos ≤ B.length) (hok : rOK (gotG true B 47 (rS5 B s)) = false) :
    Calls Try.prog 36 #[.pointer (some ⟨gr, 0, none⟩)] w fun e w' => ∃ sv, e = .returned (.agg (cellsR (sv, recG true B s)).toArray) ∧ St w0 [] w' (.blk gr 69 (rqC (.slice ao B.length c) (recE B s) (true || !(rootOk true B s))) :: .row sv 98 2 (recG true B s).l.length (addrsV (recG true B s).l) :: R) := by
  have hst0 := hS
  have HB := hid hB
  have HP := hid hp
  obtain ⟨p1, p2, p3, p4, p5, p6, p7, p8, p9, p10⟩ := rS_le hp
  have HP1 := hid p1
  have HP2 := hid p2
  have HP3 := hid p3
  have HP4 := hid p4
  have HP5 := hid p5
  have HP6 := hid p6
  have HP7 := hid p7
  have HP8 := hid p8
  have HP9 := hid p9
  have HP10 := hid p10
  have HOK := hid hok
  have HZ := hid (show L32 zP.S from L32.nones)
  clear hS hB hp p1 p2 p3 p4 p5 p6 p7 p8 p9 p10 hok
  have z9 : (rErr (gotG true B 47 (rS5 B s)) != 0) = true := by rw [bne_iff_ne]; exact rErr_ne _
  go_enter Try.func36, Try.ntmps36
  go_wp2_with (first | go_big_skip | go_big_guard | (refine wl_alloc hst0 rfl rfl ?_; intro g2 w1 hA1; clear hst0) | (refine wl_alloc hA1 rfl rfl ?_; intro g3 w1 hA2; clear hA1) | (go_at_call 35; refine (qnum12_any ao B.length c B s 4 4 rfl (St.front (L1 := [_, _]) hA2) HB.out rfl hN (by decide) HP.out).mono ?_; rintro _ w9 ⟨rfl, h4⟩; have hA3 : St w0 [] w9 (.blk gr 69 (rqC (.slice ao B.length c) (rS1 B s) true) :: .blk g3 47 (xC 0 [] 0 0 zP 0 0 0 0 0) :: .blk g2 47 (rec0) :: R) := h4; clear h4 hA2) | (refine wl_store [_] hA3 rfl rfl rfl (off := 0) (v := .int .i64 (numG B 4 s : Nat)) rfl rfl rfl (by rw [xC_len HZ.out]; show (0 : Nat) + 1 ≤ 44; decide) ?_; intro w1 h4; have h5 := h4; clear h4; (rw [show putAt (xC _ _ _ _ _ _ _ _ _ _) 0 (Value.int IntKind.i64 (numG B 4 s : Nat)).cells.toList = xC _ _ _ _ _ _ _ _ _ _ from xC_put0 _] at h5); have hA4 : St w0 [] w1 (.blk gr 69 (rqC (.slice ao B.length c) (rS1 B s) true) :: .blk g3 47 (xC (numG B 4 s : Nat) [] 0 0 zP 0 0 0 0 0) :: .blk g2 47 (rec0) :: R) := h5; clear h5 hA3) | (go_at_call 35; refine (qnum12_any ao B.length c B (rS1 B s) 1 1 rfl hA4 HB.out rfl hN (by decide) HP1.out).mono ?_; rintro _ w9 ⟨rfl, h4⟩; have hA5 : St w0 [] w9 (.blk gr 69 (rqC (.slice ao B.length c) (rS2 B s) true) :: .blk g3 47 (xC (numG B 4 s : Nat) [] 0 0 zP 0 0 0 0 0) :: .blk g2 47 (rec0) :: R) := h4; clear h4 hA4) | (go_at_call 65; refine (qsome12_any ao B.length c B (rS2 B s) (numG B 1 (rS1 B s)) _ rfl hA5 HB.out rfl hN (by have := numG1_lt B (rS1 B s); omega) HP2.out).mono ?_; rintro _ w9 ⟨ao1, c1, rfl, hrd, h4⟩; have HR1 := hid hrd; have hA6 : St w0 [] w9 (.blk gr 69 (rqC (.slice ao B.length c) (rS3 B s) true) :: .blk g3 47 (xC (numG B 4 s : Nat) [] 0 0 zP 0 0 0 0 0) :: .blk g2 47 (rec0) :: R) := h4; clear hrd h4 hA5) | (refine wl_bytes_string rfl rfl rfl HR1.out ?_) | (refine wl_store [_] hA6 rfl rfl rfl (off := 1) (v := .string ⟨(gotG true B (numG B 1 (rS1 B s)) (rS2 B s)).toArray⟩) rfl rfl rfl (by rw [xC_len HZ.out]; show (1 : Nat) + 1 ≤ 44; decide) ?_; intro w1 h4; have hA7 : St w0 [] w1 (.blk gr 69 (rqC (.slice ao B.length c) (rS3 B s) true) :: .blk g3 47 (xC (numG B 4 s : Nat) (gotG true B (numG B 1 (rS1 B s)) (rS2 B s)) 0 0 zP 0 0 0 0 0) :: .blk g2 47 (rec0) :: R) := h4; clear h4 hA6) | (go_at_call 35; refine (qnum12_any ao B.length c B (rS3 B s) 1 1 rfl hA7 HB.out rfl hN (by decide) HP3.out).mono ?_; rintro _ w9 ⟨rfl, h4⟩; have hA8 : St w0 [] w9 (.blk gr 69 (rqC (.slice ao B.length c) (rS4 B s) true) :: .blk g3 47 (xC (numG B 4 s : Nat) (gotG true B (numG B 1 (rS1 B s)) (rS2 B s)) 0 0 zP 0 0 0 0 0) :: .blk g2 47 (rec0) :: R) := h4; clear h4 hA7) | (refine wl_store [_] hA8 rfl rfl rfl (off := 2) (v := .int .i64 (numG B 1 (rS3 B s) : Nat)) rfl rfl rfl (by rw [xC_len HZ.out]; show (2 : Nat) + 1 ≤ 44; decide) ?_; intro w1 h4; have h5 := h4; clear h4; (rw [show putAt (xC _ _ _ _ _ _ _ _ _ _) 2 (Value.int IntKind.i64 (numG B 1 (rS3 B s) : Nat)).cells.toList = xC _ _ _ _ _ _ _ _ _ _ from xC_put2 _] at h5); have hA9 : St w0 [] w1 (.blk gr 69 (rqC (.slice ao B.length c) (rS4 B s) true) :: .blk g3 47 (xC (numG B 4 s : Nat) (gotG true B (numG B 1 (rS1 B s)) (rS2 B s)) (numG B 1 (rS3 B s) : Nat) 0 zP 0 0 0 0 0) :: .blk g2 47 (rec0) :: R) := h5; clear h5 hA8) | (go_at_call 35; refine (qnum12_any ao B.length c B (rS4 B s) 1 1 rfl hA9 HB.out rfl hN (by decide) HP4.out).mono ?_; rintro _ w9 ⟨rfl, h4⟩; have hA10 : St w0 [] w9 (.blk gr 69 (rqC (.slice ao B.length c) (rS5 B s) true) :: .blk g3 47 (xC (numG B 4 s : Nat) (gotG true B (numG B 1 (rS1 B s)) (rS2 B s)) (numG B 1 (rS3 B s) : Nat) 0 zP 0 0 0 0 0) :: .blk g2 47 (rec0) :: R) := h4; clear h4 hA9) | (refine wl_store [_] hA10 rfl rfl rfl (off := 3) (v := .int .i64 (numG B 1 (rS4 B s) : Nat)) rfl rfl rfl (by rw [xC_len HZ.out]; show (3 : Nat) + 1 ≤ 44; decide) ?_; intro w1 h4; have h5 := h4; clear h4; (rw [show putAt (xC _ _ _ _ _ _ _ _ _ _) 3 (Value.int IntKind.i64 (numG B 1 (rS4 B s) : Nat)).cells.toList = xC _ _ _ _ _ _ _ _ _ _ from xC_put3 _] at h5); have hA11 : St w0 [] w1 (.blk gr 69 (rqC (.slice ao B.length c) (rS5 B s) true) :: .blk g3 47 (xC (numG B 4 s : Nat) (gotG true B (numG B 1 (rS1 B s)) (rS2 B s)) (numG B 1 (rS3 B s) : Nat) (numG B 1 (rS4 B s) : Nat) zP 0 0 0 0 0) :: .blk g2 47 (rec0) :: R) := h5; clear h5 hA10) | (go_at_call 65; refine (qsome12_any ao B.length c B (rS5 B s) 47 _ rfl hA11 HB.out rfl hN (by decide) HP5.out).mono ?_; rintro _ w9 ⟨ao2, c2, rfl, hrd, h4⟩; have HR2 := hid hrd; have hA12 : St w0 [] w9 (.blk gr 69 (rqC (.slice ao B.length c) (rS6 B s) true) :: .blk g3 47 (xC (numG B 4 s : Nat) (gotG true B (numG B 1 (rS1 B s)) (rS2 B s)) (numG B 1 (rS3 B s) : Nat) (numG B 1 (rS4 B s) : Nat) zP 0 0 0 0 0) :: .blk g2 47 (rec0) :: R) := h4; clear hrd h4 hA11) | (go_at_call 66; refine (refRead_any ao2 _ c2 (gotG true B 47 (rS5 B s)) _ HR2.out rfl).mono ?_; intro e9 w9 hr9; obtain ⟨rfl, h4⟩ := readOut.no HOK.out hr9; have hA13 := St.nilRow 98 2 (St.call0 hA12 h4); clear hr9 h4 hA12) | (refine wl_alloc hA13 rfl rfl ?_; intro g5 w1 hA14; clear hA13) | (refine wl_alloc hA14 rfl rfl ?_; intro g6 w1 hA15; clear hA14) | (refine wl_storeA [_] hA15 rfl rfl rfl rfl (PV.len (p := zP) HZ.out) (ptr_ones _ _ _ _ _ _) rfl ?_; intro w1 h4; have hA16 : St w0 [] w1 (.blk g6 33 ([.int .i64 0, .int .i64 0]) :: .blk g5 45 (PV.cells zP) :: .row (.slice none 0 0) 98 2 0 [] :: .blk gr 69 (rqC (.slice ao B.length c) (rS6 B s) true) :: .blk g3 47 (xC (numG B 4 s : Nat) (gotG true B (numG B 1 (rS1 B s)) (rS2 B s)) (numG B 1 (rS3 B s) : Nat) (numG B 1 (rS4 B s) : Nat) zP 0 0 0 0 0) :: .blk g2 47 (rec0) :: R) := h4; clear h4 hA15) | (refine wl_storeA [] hA16 rfl rfl rfl rfl (by rfl) (by rfl) rfl ?_; intro w1 h4; have hA17 : St w0 [] w1 (.blk g6 33 ([.int .i64 (rErr (gotG true B 47 (rS5 B s))), .int .i64 (rAt (gotG true B 47 (rS5 B s)))]) :: .blk g5 45 (PV.cells zP) :: .row (.slice none 0 0) 98 2 0 [] :: .blk gr 69 (rqC (.slice ao B.length c) (rS6 B s) true) :: .blk g3 47 (xC (numG B 4 s : Nat) (gotG true B (numG B 1 (rS1 B s)) (rS2 B s)) (numG B 1 (rS3 B s) : Nat) (numG B 1 (rS4 B s) : Nat) zP 0 0 0 0 0) :: .blk g2 47 (rec0) :: R) := h4; clear h4 hA16) | (refine wl_loadE rfl rfl rfl ?_; first | refine ⟨_, Loads.at [_, _, _] hA17 rfl, ?_⟩ | refine ⟨_, Loads.at [] hA17 rfl, ?_⟩) | (refine wl_store [_, _, _] hA17 rfl rfl rfl (off := 3) (v := .bool true) rfl rfl rfl (by show (3 : Nat) + 1 ≤ 4; decide) ?_; intro w1 h4; have hA18 : St w0 [] w1 (.blk g6 33 ([.int .i64 (rErr (gotG true B 47 (rS5 B s))), .int .i64 (rAt (gotG true B 47 (rS5 B s)))]) :: .blk g5 45 (PV.cells zP) :: .row (.slice none 0 0) 98 2 0 [] :: .blk gr 69 (rqC (.slice ao B.length c) (rS6 B s) true) :: .blk g3 47 (xC (numG B 4 s : Nat) (gotG true B (numG B 1 (rS1 B s)) (rS2 B s)) (numG B 1 (rS3 B s) : Nat) (numG B 1 (rS4 B s) : Nat) zP 0 0 0 0 0) :: .blk g2 47 (rec0) :: R) := h4; clear h4 hA17) | (refine wl_loadE rfl rfl rfl ?_; refine ⟨_, Loads.atA (PV.cells zP) [_] hA18 (PV.len HZ.out) (by simp), ?_⟩) | (refine wl_storeO [_, _, _, _] hA18 rfl rfl rfl rfl (off := 4) (PV.len (p := zP) HZ.out) (ptr_ones _ _ _ _ _ _) (by rw [xC_len HZ.out]; decide) (xC_put4 (q := zP) HZ.out HZ.out) ?_; intro w1 h4; have hA19 : St w0 [] w1 (.blk g6 33 ([.int .i64 (rErr (gotG true B 47 (rS5 B s))), .int .i64 (rAt (gotG true B 47 (rS5 B s)))]) :: .blk g5 45 (PV.cells zP) :: .row (.slice none 0 0) 98 2 0 [] :: .blk gr 69 (rqC (.slice ao B.length c) (rS6 B s) true) :: .blk g3 47 (xC (numG B 4 s : Nat) (gotG true B (numG B 1 (rS1 B s)) (rS2 B s)) (numG B 1 (rS3 B s) : Nat) (numG B 1 (rS4 B s) : Nat) zP 0 0 0 0 0) :: .blk g2 47 (rec0) :: R) := h4; clear h4 hA18) | (go_at_call 35; refine (qnum12_any ao B.length c B (rS6 B s) 4 4 rfl (St.front (L1 := [_, _, _]) hA19) HB.out rfl hN (by decide) HP6.out).mono ?_; rintro _ w9 ⟨rfl, h4⟩; have hA20 : St w0 [] w9 (.blk gr 69 (rqC (.slice ao B.length c) (rS7 B s) true) :: .blk g6 33 ([.int .i64 (rErr (gotG true B 47 (rS5 B s))), .int .i64 (rAt (gotG true B 47 (rS5 B s)))]) :: .blk g5 45 (PV.cells zP) :: .row (.slice none 0 0) 98 2 0 [] :: .blk g3 47 (xC (numG B 4 s : Nat) (gotG true B (numG B 1 (rS1 B s)) (rS2 B s)) (numG B 1 (rS3 B s) : Nat) (numG B 1 (rS4 B s) : Nat) zP 0 0 0 0 0) :: .blk g2 47 (rec0) :: R) := h4; clear h4 hA19) | (refine wl_store [_, _, _, _] hA20 rfl rfl rfl (off := 39) (v := .int .i64 (numG B 4 (rS6 B s) : Nat)) rfl rfl rfl (by rw [xC_len HZ.out]; show (39 : Nat) + 1 ≤ 44; decide) ?_; intro w1 h4; have h5 := h4; clear h4; (rw [show putAt (xC _ _ _ _ _ _ _ _ _ _) 39 (Value.int IntKind.i64 (numG B 4 (rS6 B s) : Nat)).cells.toList = xC _ _ _ _ _ _ _ _ _ _ from xC_put39 HZ.out _] at h5); have hA21 : St w0 [] w1 (.blk gr 69 (rqC (.slice ao B.length c) (rS7 B s) true) :: .blk g6 33 ([.int .i64 (rErr (gotG true B 47 (rS5 B s))), .int .i64 (rAt (gotG true B 47 (rS5 B s)))]) :: .blk g5 45 (PV.cells zP) :: .row (.slice none 0 0) 98 2 0 [] :: .blk g3 47 (xC (numG B 4 s : Nat) (gotG true B (numG B 1 (rS1 B s)) (rS2 B s)) (numG B 1 (rS3 B s) : Nat) (numG B 1 (rS4 B s) : Nat) zP (numG B 4 (rS6 B s) : Nat) 0 0 0 0) :: .blk g2 47 (rec0) :: R) := h5; clear h5 hA20) | (go_at_call 35; refine (qnum12_any ao B.length c B (rS7 B s) 4 4 rfl hA21 HB.out rfl hN (by decide) HP7.out).mono ?_; rintro _ w9 ⟨rfl, h4⟩; have hA22 : St w0 [] w9 (.blk gr 69 (rqC (.slice ao B.length c) (rS8 B s) true) :: .blk g6 33 ([.int .i64 (rErr (gotG true B 47 (rS5 B s))), .int .i64 (rAt (gotG true B 47 (rS5 B s)))]) :: .blk g5 45 (PV.cells zP) :: .row (.slice none 0 0) 98 2 0 [] :: .blk g3 47 (xC (numG B 4 s : Nat) (gotG true B (numG B 1 (rS1 B s)) (rS2 B s)) (numG B 1 (rS3 B s) : Nat) (numG B 1 (rS4 B s) : Nat) zP (numG B 4 (rS6 B s) : Nat) 0 0 0 0) :: .blk g2 47 (rec0) :: R) := h4; clear h4 hA21) | (refine wl_store [_, _, _, _] hA22 rfl rfl rfl (off := 40) (v := .int .i64 (numG B 4 (rS7 B s) : Nat)) rfl rfl rfl (by rw [xC_len HZ.out]; show (40 : Nat) + 1 ≤ 44; decide) ?_; intro w1 h4; have h5 := h4; clear h4; (rw [show putAt (xC _ _ _ _ _ _ _ _ _ _) 40 (Value.int IntKind.i64 (numG B 4 (rS7 B s) : Nat)).cells.toList = xC _ _ _ _ _ _ _ _ _ _ from xC_put40 HZ.out _] at h5); have hA23 : St w0 [] w1 (.blk gr 69 (rqC (.slice ao B.length c) (rS8 B s) true) :: .blk g6 33 ([.int .i64 (rErr (gotG true B 47 (rS5 B s))), .int .i64 (rAt (gotG true B 47 (rS5 B s)))]) :: .blk g5 45 (PV.cells zP) :: .row (.slice none 0 0) 98 2 0 [] :: .blk g3 47 (xC (numG B 4 s : Nat) (gotG true B (numG B 1 (rS1 B s)) (rS2 B s)) (numG B 1 (rS3 B s) : Nat) (numG B 1 (rS4 B s) : Nat) zP (numG B 4 (rS6 B s) : Nat) (numG B 4 (rS7 B s) : Nat) 0 0 0) :: .blk g2 47 (rec0) :: R) := h5; clear h5 hA22) | (go_at_call 35; refine (qnum12_any ao B.length c B (rS8 B s) 4 4 rfl hA23 HB.out rfl hN (by decide) HP8.out).mono ?_; rintro _ w9 ⟨rfl, h4⟩; have hA24 : St w0 [] w9 (.blk gr 69 (rqC (.slice ao B.length c) (rS9 B s) true) :: .blk g6 33 ([.int .i64 (rErr (gotG true B 47 (rS5 B s))), .int .i64 (rAt (gotG true B 47 (rS5 B s)))]) :: .blk g5 45 (PV.cells zP) :: .row (.slice none 0 0) 98 2 0 [] :: .blk g3 47 (xC (numG B 4 s : Nat) (gotG true B (numG B 1 (rS1 B s)) (rS2 B s)) (numG B 1 (rS3 B s) : Nat) (numG B 1 (rS4 B s) : Nat) zP (numG B 4 (rS6 B s) : Nat) (numG B 4 (rS7 B s) : Nat) 0 0 0) :: .blk g2 47 (rec0) :: R) := h4; clear h4 hA23) | (refine wl_store [_, _, _, _] hA24 rfl rfl rfl (off := 41) (v := .int .i64 (numG B 4 (rS8 B s) : Nat)) rfl rfl rfl (by rw [xC_len HZ.out]; show (41 : Nat) + 1 ≤ 44; decide) ?_; intro w1 h4; have h5 := h4; clear h4; (rw [show putAt (xC _ _ _ _ _ _ _ _ _ _) 41 (Value.int IntKind.i64 (numG B 4 (rS8 B s) : Nat)).cells.toList = xC _ _ _ _ _ _ _ _ _ _ from xC_put41 HZ.out _] at h5); have hA25 : St w0 [] w1 (.blk gr 69 (rqC (.slice ao B.length c) (rS9 B s) true) :: .blk g6 33 ([.int .i64 (rErr (gotG true B 47 (rS5 B s))), .int .i64 (rAt (gotG true B 47 (rS5 B s)))]) :: .blk g5 45 (PV.cells zP) :: .row (.slice none 0 0) 98 2 0 [] :: .blk g3 47 (xC (numG B 4 s : Nat) (gotG true B (numG B 1 (rS1 B s)) (rS2 B s)) (numG B 1 (rS3 B s) : Nat) (numG B 1 (rS4 B s) : Nat) zP (numG B 4 (rS6 B s) : Nat) (numG B 4 (rS7 B s) : Nat) (numG B 4 (rS8 B s) : Nat) 0 0) :: .blk g2 47 (rec0) :: R) := h5; clear h5 hA24) | (go_at_call 35; refine (qnum12_any ao B.length c B (rS9 B s) 1 1 rfl hA25 HB.out rfl hN (by decide) HP9.out).mono ?_; rintro _ w9 ⟨rfl, h4⟩; have hA26 : St w0 [] w9 (.blk gr 69 (rqC (.slice ao B.length c) (rS10 B s) true) :: .blk g6 33 ([.int .i64 (rErr (gotG true B 47 (rS5 B s))), .int .i64 (rAt (gotG true B 47 (rS5 B s)))]) :: .blk g5 45 (PV.cells zP) :: .row (.slice none 0 0) 98 2 0 [] :: .blk g3 47 (xC (numG B 4 s : Nat) (gotG true B (numG B 1 (rS1 B s)) (rS2 B s)) (numG B 1 (rS3 B s) : Nat) (numG B 1 (rS4 B s) : Nat) zP (numG B 4 (rS6 B s) : Nat) (numG B 4 (rS7 B s) : Nat) (numG B 4 (rS8 B s) : Nat) 0 0) :: .blk g2 47 (rec0) :: R) := h4; clear h4 hA25) | (refine wl_store [_, _, _, _] hA26 rfl rfl rfl (off := 42) (v := .int .i64 (numG B 1 (rS9 B s) : Nat)) rfl rfl rfl (by rw [xC_len HZ.out]; show (42 : Nat) + 1 ≤ 44; decide) ?_; intro w1 h4; have h5 := h4; clear h4; (rw [show putAt (xC _ _ _ _ _ _ _ _ _ _) 42 (Value.int IntKind.i64 (numG B 1 (rS9 B s) : Nat)).cells.toList = xC _ _ _ _ _ _ _ _ _ _ from xC_put42 HZ.out _] at h5); have hA27 : St w0 [] w1 (.blk gr 69 (rqC (.slice ao B.length c) (rS10 B s) true) :: .blk g6 33 ([.int .i64 (rErr (gotG true B 47 (rS5 B s))), .int .i64 (rAt (gotG true B 47 (rS5 B s)))]) :: .blk g5 45 (PV.cells zP) :: .row (.slice none 0 0) 98 2 0 [] :: .blk g3 47 (xC (numG B 4 s : Nat) (gotG true B (numG B 1 (rS1 B s)) (rS2 B s)) (numG B 1 (rS3 B s) : Nat) (numG B 1 (rS4 B s) : Nat) zP (numG B 4 (rS6 B s) : Nat) (numG B 4 (rS7 B s) : Nat) (numG B 4 (rS8 B s) : Nat) (numG B 1 (rS9 B s) : Nat) 0) :: .blk g2 47 (rec0) :: R) := h5; clear h5 hA26) | (go_at_call 35; refine (qnum12_any ao B.length c B (rS10 B s) 1 1 rfl hA27 HB.out rfl hN (by decide) HP10.out).mono ?_; rintro _ w9 ⟨rfl, h4⟩; have hA28 : St w0 [] w9 (.blk gr 69 (rqC (.slice ao B.length c) (rS11 B s) true) :: .blk g6 33 ([.int .i64 (rErr (gotG true B 47 (rS5 B s))), .int .i64 (rAt (gotG true B 47 (rS5 B s)))]) :: .blk g5 45 (PV.cells zP) :: .row (.slice none 0 0) 98 2 0 [] :: .blk g3 47 (xC (numG B 4 s : Nat) (gotG true B (numG B 1 (rS1 B s)) (rS2 B s)) (numG B 1 (rS3 B s) : Nat) (numG B 1 (rS4 B s) : Nat) zP (numG B 4 (rS6 B s) : Nat) (numG B 4 (rS7 B s) : Nat) (numG B 4 (rS8 B s) : Nat) (numG B 1 (rS9 B s) : Nat) 0) :: .blk g2 47 (rec0) :: R) := h4; clear h4 hA27) | (refine wl_store [_, _, _, _] hA28 rfl rfl rfl (off := 43) (v := .int .i64 (numG B 1 (rS10 B s) : Nat)) rfl rfl rfl (by rw [xC_len HZ.out]; show (43 : Nat) + 1 ≤ 44; decide) ?_; intro w1 h4; have h5 := h4; clear h4; (rw [show putAt (xC _ _ _ _ _ _ _ _ _ _) 43 (Value.int IntKind.i64 (numG B 1 (rS10 B s) : Nat)).cells.toList = xC _ _ _ _ _ _ _ _ _ _ from xC_put43 HZ.out _] at h5); have hA29 : St w0 [] w1 (.blk gr 69 (rqC (.slice ao B.length c) (rS11 B s) true) :: .blk g6 33 ([.int .i64 (rErr (gotG true B 47 (rS5 B s))), .int .i64 (rAt (gotG true B 47 (rS5 B s)))]) :: .blk g5 45 (PV.cells zP) :: .row (.slice none 0 0) 98 2 0 [] :: .blk g3 47 (xC (numG B 4 s : Nat) (gotG true B (numG B 1 (rS1 B s)) (rS2 B s)) (numG B 1 (rS3 B s) : Nat) (numG B 1 (rS4 B s) : Nat) zP (numG B 4 (rS6 B s) : Nat) (numG B 4 (rS7 B s) : Nat) (numG B 4 (rS8 B s) : Nat) (numG B 1 (rS9 B s) : Nat) (numG B 1 (rS10 B s) : Nat)) :: .blk g2 47 (rec0) :: R) := h5; clear h5 hA28) | (refine wl_loadE rfl rfl rfl ?_; refine ⟨_, Loads.atA (xC (numG B 4 s : Nat) (gotG true B (numG B 1 (rS1 B s)) (rS2 B s)) (numG B 1 (rS3 B s) : Nat) (numG B 1 (rS4 B s) : Nat) zP (numG B 4 (rS6 B s) : Nat) (numG B 4 (rS7 B s) : Nat) (numG B 4 (rS8 B s) : Nat) (numG B 1 (rS9 B s) : Nat) (numG B 1 (rS10 B s) : Nat)) [_, _, _, _] hA29 (xC_len HZ.out) (by simp), ?_⟩) | (refine wl_storeA [_, _, _, _, _] hA29 rfl rfl rfl rfl (xC_len HZ.out) (xC_ones (ptr_ones _ _ _ _ _ _)) (by rfl) ?_; intro w7 hA30; clear hA29))
  have hl := Loads.atA (P := Try.prog) (off := 0) (T := 47) (xC (numG B 4 s : Nat) (gotG true B (numG B 1 (rS1 B s)) (rS2 B s)) (numG B 1 (rS3 B s) : Nat) (numG B 1 (rS4 B s) : Nat) zP (numG B 4 (rS6 B s) : Nat) (numG B 4 (rS7 B s) : Nat) (numG B 4 (rS8 B s) : Nat) (numG B 1 (rS9 B s) : Nat) (numG B 1 (rS10 B s) : Nat)) [_, _, _, _, _] hA30 (xC_len HZ.out) (by simp)
  refine bodyPost_ret (results_cell1 rfl rfl hl) rfl ?_
  refine ⟨.slice none 0 0, ?_, ?_⟩
  · rw [rec_cells (sv := .slice none 0 0) (rootG_no HOK.out)]
    rfl
  · rw [rec_l (rootG_no HOK.out), show rootOk true B s = false from HOK.out]
    exact St.sub (St.front (L1 := [_]) (St.front (L1 := [_, _, _]) hA30)) (List.Sublist.cons_cons _ (List.Sublist.cons_cons _ (List.Sublist.cons _ (List.Sublist.cons _ (List.Sublist.cons _ (List.Sublist.cons _ (List.Sublist.refl _)))))))
theorem qrec_no_false {w0 w : World} {R : List HA} {gr : Nat} (ao : Option Addr) (c : Nat) (B : List UInt8) (s : GS) (hS : St w0 [] w (.blk gr 69 (rqC (.slice ao B.length c) s false) :: R)) (hB : Rd w0 (.slice ao B.length c) 1 B.length (bytesV B)) (hN : B.length ≤ 100000) (hp : s.pos ≤ B.length) (hok : rOK (gotG true B 47 (rS5 B s)) = false) :
    Calls Try.prog 36 #[.pointer (some ⟨gr, 0, none⟩)] w fun e w' => ∃ sv, e = .returned (.agg (cellsR (sv, recG true B s)).toArray) ∧ St w0 [] w' (.blk gr 69 (rqC (.slice ao B.length c) (recE B s) (false || !(rootOk true B s))) :: .row sv 98 2 (recG true B s).l.length (addrsV (recG true B s).l) :: R) := by
  have hst0 := hS
  have HB := hid hB
  have HP := hid hp
  obtain ⟨p1, p2, p3, p4, p5, p6, p7, p8, p9, p10⟩ := rS_le hp
  have HP1 := hid p1
  have HP2 := hid p2
  have HP3 := hid p3
  have HP4 := hid p4
  have HP5 := hid p5
  have HP6 := hid p6
  have HP7 := hid p7
  have HP8 := hid p8
  have HP9 := hid p9
  have HP10 := hid p10
  have HOK := hid hok
  have HZ := hid (show L32 zP.S from L32.nones)
  clear hS hB hp p1 p2 p3 p4 p5 p6 p7 p8 p9 p10 hok
  have z9 : (rErr (gotG true B 47 (rS5 B s)) != 0) = true := by rw [bne_iff_ne]; exact rErr_ne _
  go_enter Try.func36, Try.ntmps36
  go_wp2_with (first | go_big_skip | go_big_guard | (refine wl_alloc hst0 rfl rfl ?_; intro g2 w1 hA1; clear hst0) | (refine wl_alloc hA1 rfl rfl ?_; intro g3 w1 hA2; clear hA1) | (go_at_call 35; refine (qnum12_any ao B.length c B s 4 4 rfl (St.front (L1 := [_, _]) hA2) HB.out rfl hN (by decide) HP.out).mono ?_; rintro _ w9 ⟨rfl, h4⟩; have hA3 : St w0 [] w9 (.blk gr 69 (rqC (.slice ao B.length c) (rS1 B s) false) :: .blk g3 47 (xC 0 [] 0 0 zP 0 0 0 0 0) :: .blk g2 47 (rec0) :: R) := h4; clear h4 hA2) | (refine wl_store [_] hA3 rfl rfl rfl (off := 0) (v := .int .i64 (numG B 4 s : Nat)) rfl rfl rfl (by rw [xC_len HZ.out]; show (0 : Nat) + 1 ≤ 44; decide) ?_; intro w1 h4; have h5 := h4; clear h4; (rw [show putAt (xC _ _ _ _ _ _ _ _ _ _) 0 (Value.int IntKind.i64 (numG B 4 s : Nat)).cells.toList = xC _ _ _ _ _ _ _ _ _ _ from xC_put0 _] at h5); have hA4 : St w0 [] w1 (.blk gr 69 (rqC (.slice ao B.length c) (rS1 B s) false) :: .blk g3 47 (xC (numG B 4 s : Nat) [] 0 0 zP 0 0 0 0 0) :: .blk g2 47 (rec0) :: R) := h5; clear h5 hA3) | (go_at_call 35; refine (qnum12_any ao B.length c B (rS1 B s) 1 1 rfl hA4 HB.out rfl hN (by decide) HP1.out).mono ?_; rintro _ w9 ⟨rfl, h4⟩; have hA5 : St w0 [] w9 (.blk gr 69 (rqC (.slice ao B.length c) (rS2 B s) false) :: .blk g3 47 (xC (numG B 4 s : Nat) [] 0 0 zP 0 0 0 0 0) :: .blk g2 47 (rec0) :: R) := h4; clear h4 hA4) | (go_at_call 65; refine (qsome12_any ao B.length c B (rS2 B s) (numG B 1 (rS1 B s)) _ rfl hA5 HB.out rfl hN (by have := numG1_lt B (rS1 B s); omega) HP2.out).mono ?_; rintro _ w9 ⟨ao1, c1, rfl, hrd, h4⟩; have HR1 := hid hrd; have hA6 : St w0 [] w9 (.blk gr 69 (rqC (.slice ao B.length c) (rS3 B s) false) :: .blk g3 47 (xC (numG B 4 s : Nat) [] 0 0 zP 0 0 0 0 0) :: .blk g2 47 (rec0) :: R) := h4; clear hrd h4 hA5) | (refine wl_bytes_string rfl rfl rfl HR1.out ?_) | (refine wl_store [_] hA6 rfl rfl rfl (off := 1) (v := .string ⟨(gotG true B (numG B 1 (rS1 B s)) (rS2 B s)).toArray⟩) rfl rfl rfl (by rw [xC_len HZ.out]; show (1 : Nat) + 1 ≤ 44; decide) ?_; intro w1 h4; have hA7 : St w0 [] w1 (.blk gr 69 (rqC (.slice ao B.length c) (rS3 B s) false) :: .blk g3 47 (xC (numG B 4 s : Nat) (gotG true B (numG B 1 (rS1 B s)) (rS2 B s)) 0 0 zP 0 0 0 0 0) :: .blk g2 47 (rec0) :: R) := h4; clear h4 hA6) | (go_at_call 35; refine (qnum12_any ao B.length c B (rS3 B s) 1 1 rfl hA7 HB.out rfl hN (by decide) HP3.out).mono ?_; rintro _ w9 ⟨rfl, h4⟩; have hA8 : St w0 [] w9 (.blk gr 69 (rqC (.slice ao B.length c) (rS4 B s) false) :: .blk g3 47 (xC (numG B 4 s : Nat) (gotG true B (numG B 1 (rS1 B s)) (rS2 B s)) 0 0 zP 0 0 0 0 0) :: .blk g2 47 (rec0) :: R) := h4; clear h4 hA7) | (refine wl_store [_] hA8 rfl rfl rfl (off := 2) (v := .int .i64 (numG B 1 (rS3 B s) : Nat)) rfl rfl rfl (by rw [xC_len HZ.out]; show (2 : Nat) + 1 ≤ 44; decide) ?_; intro w1 h4; have h5 := h4; clear h4; (rw [show putAt (xC _ _ _ _ _ _ _ _ _ _) 2 (Value.int IntKind.i64 (numG B 1 (rS3 B s) : Nat)).cells.toList = xC _ _ _ _ _ _ _ _ _ _ from xC_put2 _] at h5); have hA9 : St w0 [] w1 (.blk gr 69 (rqC (.slice ao B.length c) (rS4 B s) false) :: .blk g3 47 (xC (numG B 4 s : Nat) (gotG true B (numG B 1 (rS1 B s)) (rS2 B s)) (numG B 1 (rS3 B s) : Nat) 0 zP 0 0 0 0 0) :: .blk g2 47 (rec0) :: R) := h5; clear h5 hA8) | (go_at_call 35; refine (qnum12_any ao B.length c B (rS4 B s) 1 1 rfl hA9 HB.out rfl hN (by decide) HP4.out).mono ?_; rintro _ w9 ⟨rfl, h4⟩; have hA10 : St w0 [] w9 (.blk gr 69 (rqC (.slice ao B.length c) (rS5 B s) false) :: .blk g3 47 (xC (numG B 4 s : Nat) (gotG true B (numG B 1 (rS1 B s)) (rS2 B s)) (numG B 1 (rS3 B s) : Nat) 0 zP 0 0 0 0 0) :: .blk g2 47 (rec0) :: R) := h4; clear h4 hA9) | (refine wl_store [_] hA10 rfl rfl rfl (off := 3) (v := .int .i64 (numG B 1 (rS4 B s) : Nat)) rfl rfl rfl (by rw [xC_len HZ.out]; show (3 : Nat) + 1 ≤ 44; decide) ?_; intro w1 h4; have h5 := h4; clear h4; (rw [show putAt (xC _ _ _ _ _ _ _ _ _ _) 3 (Value.int IntKind.i64 (numG B 1 (rS4 B s) : Nat)).cells.toList = xC _ _ _ _ _ _ _ _ _ _ from xC_put3 _] at h5); have hA11 : St w0 [] w1 (.blk gr 69 (rqC (.slice ao B.length c) (rS5 B s) false) :: .blk g3 47 (xC (numG B 4 s : Nat) (gotG true B (numG B 1 (rS1 B s)) (rS2 B s)) (numG B 1 (rS3 B s) : Nat) (numG B 1 (rS4 B s) : Nat) zP 0 0 0 0 0) :: .blk g2 47 (rec0) :: R) := h5; clear h5 hA10) | (go_at_call 65; refine (qsome12_any ao B.length c B (rS5 B s) 47 _ rfl hA11 HB.out rfl hN (by decide) HP5.out).mono ?_; rintro _ w9 ⟨ao2, c2, rfl, hrd, h4⟩; have HR2 := hid hrd; have hA12 : St w0 [] w9 (.blk gr 69 (rqC (.slice ao B.length c) (rS6 B s) false) :: .blk g3 47 (xC (numG B 4 s : Nat) (gotG true B (numG B 1 (rS1 B s)) (rS2 B s)) (numG B 1 (rS3 B s) : Nat) (numG B 1 (rS4 B s) : Nat) zP 0 0 0 0 0) :: .blk g2 47 (rec0) :: R) := h4; clear hrd h4 hA11) | (go_at_call 66; refine (refRead_any ao2 _ c2 (gotG true B 47 (rS5 B s)) _ HR2.out rfl).mono ?_; intro e9 w9 hr9; obtain ⟨rfl, h4⟩ := readOut.no HOK.out hr9; have hA13 := St.nilRow 98 2 (St.call0 hA12 h4); clear hr9 h4 hA12) | (refine wl_alloc hA13 rfl rfl ?_; intro g5 w1 hA14; clear hA13) | (refine wl_alloc hA14 rfl rfl ?_; intro g6 w1 hA15; clear hA14) | (refine wl_storeA [_] hA15 rfl rfl rfl rfl (PV.len (p := zP) HZ.out) (ptr_ones _ _ _ _ _ _) rfl ?_; intro w1 h4; have hA16 : St w0 [] w1 (.blk g6 33 ([.int .i64 0, .int .i64 0]) :: .blk g5 45 (PV.cells zP) :: .row (.slice none 0 0) 98 2 0 [] :: .blk gr 69 (rqC (.slice ao B.length c) (rS6 B s) false) :: .blk g3 47 (xC (numG B 4 s : Nat) (gotG true B (numG B 1 (rS1 B s)) (rS2 B s)) (numG B 1 (rS3 B s) : Nat) (numG B 1 (rS4 B s) : Nat) zP 0 0 0 0 0) :: .blk g2 47 (rec0) :: R) := h4; clear h4 hA15) | (refine wl_storeA [] hA16 rfl rfl rfl rfl (by rfl) (by rfl) rfl ?_; intro w1 h4; have hA17 : St w0 [] w1 (.blk g6 33 ([.int .i64 (rErr (gotG true B 47 (rS5 B s))), .int .i64 (rAt (gotG true B 47 (rS5 B s)))]) :: .blk g5 45 (PV.cells zP) :: .row (.slice none 0 0) 98 2 0 [] :: .blk gr 69 (rqC (.slice ao B.length c) (rS6 B s) false) :: .blk g3 47 (xC (numG B 4 s : Nat) (gotG true B (numG B 1 (rS1 B s)) (rS2 B s)) (numG B 1 (rS3 B s) : Nat) (numG B 1 (rS4 B s) : Nat) zP 0 0 0 0 0) :: .blk g2 47 (rec0) :: R) := h4; clear h4 hA16) | (refine wl_loadE rfl rfl rfl ?_; first | refine ⟨_, Loads.at [_, _, _] hA17 rfl, ?_⟩ | refine ⟨_, Loads.at [] hA17 rfl, ?_⟩) | (refine wl_store [_, _, _] hA17 rfl rfl rfl (off := 3) (v := .bool true) rfl rfl rfl (by show (3 : Nat) + 1 ≤ 4; decide) ?_; intro w1 h4; have hA18 : St w0 [] w1 (.blk g6 33 ([.int .i64 (rErr (gotG true B 47 (rS5 B s))), .int .i64 (rAt (gotG true B 47 (rS5 B s)))]) :: .blk g5 45 (PV.cells zP) :: .row (.slice none 0 0) 98 2 0 [] :: .blk gr 69 (rqC (.slice ao B.length c) (rS6 B s) true) :: .blk g3 47 (xC (numG B 4 s : Nat) (gotG true B (numG B 1 (rS1 B s)) (rS2 B s)) (numG B 1 (rS3 B s) : Nat) (numG B 1 (rS4 B s) : Nat) zP 0 0 0 0 0) :: .blk g2 47 (rec0) :: R) := h4; clear h4 hA17) | (refine wl_loadE rfl rfl rfl ?_; refine ⟨_, Loads.atA (PV.cells zP) [_] hA18 (PV.len HZ.out) (by simp), ?_⟩) | (refine wl_storeO [_, _, _, _] hA18 rfl rfl rfl rfl (off := 4) (PV.len (p := zP) HZ.out) (ptr_ones _ _ _ _ _ _) (by rw [xC_len HZ.out]; decide) (xC_put4 (q := zP) HZ.out HZ.out) ?_; intro w1 h4; have hA19 : St w0 [] w1 (.blk g6 33 ([.int .i64 (rErr (gotG true B 47 (rS5 B s))), .int .i64 (rAt (gotG true B 47 (rS5 B s)))]) :: .blk g5 45 (PV.cells zP) :: .row (.slice none 0 0) 98 2 0 [] :: .blk gr 69 (rqC (.slice ao B.length c) (rS6 B s) true) :: .blk g3 47 (xC (numG B 4 s : Nat) (gotG true B (numG B 1 (rS1 B s)) (rS2 B s)) (numG B 1 (rS3 B s) : Nat) (numG B 1 (rS4 B s) : Nat) zP 0 0 0 0 0) :: .blk g2 47 (rec0) :: R) := h4; clear h4 hA18) | (go_at_call 35; refine (qnum12_any ao B.length c B (rS6 B s) 4 4 rfl (St.front (L1 := [_, _, _]) hA19) HB.out rfl hN (by decide) HP6.out).mono ?_; rintro _ w9 ⟨rfl, h4⟩; have hA20 : St w0 [] w9 (.blk gr 69 (rqC (.slice ao B.length c) (rS7 B s) true) :: .blk g6 33 ([.int .i64 (rErr (gotG true B 47 (rS5 B s))), .int .i64 (rAt (gotG true B 47 (rS5 B s)))]) :: .blk g5 45 (PV.cells zP) :: .row (.slice none 0 0) 98 2 0 [] :: .blk g3 47 (xC (numG B 4 s : Nat) (gotG true B (numG B 1 (rS1 B s)) (rS2 B s)) (numG B 1 (rS3 B s) : Nat) (numG B 1 (rS4 B s) : Nat) zP 0 0 0 0 0) :: .blk g2 47 (rec0) :: R) := h4; clear h4 hA19) | (refine wl_store [_, _, _, _] hA20 rfl rfl rfl (off := 39) (v := .int .i64 (numG B 4 (rS6 B s) : Nat)) rfl rfl rfl (by rw [xC_len HZ.out]; show (39 : Nat) + 1 ≤ 44; decide) ?_; intro w1 h4; have h5 := h4; clear h4; (rw [show putAt (xC _ _ _ _ _ _ _ _ _ _) 39 (Value.int IntKind.i64 (numG B 4 (rS6 B s) : Nat)).cells.toList = xC _ _ _ _ _ _ _ _ _ _ from xC_put39 HZ.out _] at h5); have hA21 : St w0 [] w1 (.blk gr 69 (rqC (.slice ao B.length c) (rS7 B s) true) :: .blk g6 33 ([.int .i64 (rErr (gotG true B 47 (rS5 B s))), .int .i64 (rAt (gotG true B 47 (rS5 B s)))]) :: .blk g5 45 (PV.cells zP) :: .row (.slice none 0 0) 98 2 0 [] :: .blk g3 47 (xC (numG B 4 s : Nat) (gotG true B (numG B 1 (rS1 B s)) (rS2 B s)) (numG B 1 (rS3 B s) : Nat) (numG B 1 (rS4 B s) : Nat) zP (numG B 4 (rS6 B s) : Nat) 0 0 0 0) :: .blk g2 47 (rec0) :: R) := h5; clear h5 hA20) | (go_at_call 35; refine (qnum12_any ao B.length c B (rS7 B s) 4 4 rfl hA21 HB.out rfl hN (by decide) HP7.out).mono ?_; rintro _ w9 ⟨rfl, h4⟩; have hA22 : St w0 [] w9 (.blk gr 69 (rqC (.slice ao B.length c) (rS8 B s) true) :: .blk g6 33 ([.int .i64 (rErr (gotG true B 47 (rS5 B s))), .int .i64 (rAt (gotG true B 47 (rS5 B s)))]) :: .blk g5 45 (PV.cells zP) :: .row (.slice none 0 0) 98 2 0 [] :: .blk g3 47 (xC (numG B 4 s : Nat) (gotG true B (numG B 1 (rS1 B s)) (rS2 B s)) (numG B 1 (rS3 B s) : Nat) (numG B 1 (rS4 B s) : Nat) zP (numG B 4 (rS6 B s) : Nat) 0 0 0 0) :: .blk g2 47 (rec0) :: R) := h4; clear h4 hA21) | (refine wl_store [_, _, _, _] hA22 rfl rfl rfl (off := 40) (v := .int .i64 (numG B 4 (rS7 B s) : Nat)) rfl rfl rfl (by rw [xC_len HZ.out]; show (40 : Nat) + 1 ≤ 44; decide) ?_; intro w1 h4; have h5 := h4; clear h4; (rw [show putAt (xC _ _ _ _ _ _ _ _ _ _) 40 (Value.int IntKind.i64 (numG B 4 (rS7 B s) : Nat)).cells.toList = xC _ _ _ _ _ _ _ _ _ _ from xC_put40 HZ.out _] at h5); have hA23 : St w0 [] w1 (.blk gr 69 (rqC (.slice ao B.length c) (rS8 B s) true) :: .blk g6 33 ([.int .i64 (rErr (gotG true B 47 (rS5 B s))), .int .i64 (rAt (gotG true B 47 (rS5 B s)))]) :: .blk g5 45 (PV.cells zP) :: .row (.slice none 0 0) 98 2 0 [] :: .blk g3 47 (xC (numG B 4 s : Nat) (gotG true B (numG B 1 (rS1 B s)) (rS2 B s)) (numG B 1 (rS3 B s) : Nat) (numG B 1 (rS4 B s) : Nat) zP (numG B 4 (rS6 B s) : Nat) (numG B 4 (rS7 B s) : Nat) 0 0 0) :: .blk g2 47 (rec0) :: R) := h5; clear h5 hA22) | (go_at_call 35; refine (qnum12_any ao B.length c B (rS8 B s) 4 4 rfl hA23 HB.out rfl hN (by decide) HP8.out).mono ?_; rintro _ w9 ⟨rfl, h4⟩; have hA24 : St w0 [] w9 (.blk gr 69 (rqC (.slice ao B.length c) (rS9 B s) true) :: .blk g6 33 ([.int .i64 (rErr (gotG true B 47 (rS5 B s))), .int .i64 (rAt (gotG true B 47 (rS5 B s)))]) :: .blk g5 45 (PV.cells zP) :: .row (.slice none 0 0) 98 2 0 [] :: .blk g3 47 (xC (numG B 4 s : Nat) (gotG true B (numG B 1 (rS1 B s)) (rS2 B s)) (numG B 1 (rS3 B s) : Nat) (numG B 1 (rS4 B s) : Nat) zP (numG B 4 (rS6 B s) : Nat) (numG B 4 (rS7 B s) : Nat) 0 0 0) :: .blk g2 47 (rec0) :: R) := h4; clear h4 hA23) | (refine wl_store [_, _, _, _] hA24 rfl rfl rfl (off := 41) (v := .int .i64 (numG B 4 (rS8 B s) : Nat)) rfl rfl rfl (by rw [xC_len HZ.out]; show (41 : Nat) + 1 ≤ 44; decide) ?_; intro w1 h4; have h5 := h4; clear h4; (rw [show putAt (xC _ _ _ _ _ _ _ _ _ _) 41 (Value.int IntKind.i64 (numG B 4 (rS8 B s) : Nat)).cells.toList = xC _ _ _ _ _ _ _ _ _ _ from xC_put41 HZ.out _] at h5); have hA25 : St w0 [] w1 (.blk gr 69 (rqC (.slice ao B.length c) (rS9 B s) true) :: .blk g6 33 ([.int .i64 (rErr (gotG true B 47 (rS5 B s))), .int .i64 (rAt (gotG true B 47 (rS5 B s)))]) :: .blk g5 45 (PV.cells zP) :: .row (.slice none 0 0) 98 2 0 [] :: .blk g3 47 (xC (numG B 4 s : Nat) (gotG true B (numG B 1 (rS1 B s)) (rS2 B s)) (numG B 1 (rS3 B s) : Nat) (numG B 1 (rS4 B s) : Nat) zP (numG B 4 (rS6 B s) : Nat) (numG B 4 (rS7 B s) : Nat) (numG B 4 (rS8 B s) : Nat) 0 0) :: .blk g2 47 (rec0) :: R) := h5; clear h5 hA24) | (go_at_call 35; refine (qnum12_any ao B.length c B (rS9 B s) 1 1 rfl hA25 HB.out rfl hN (by decide) HP9.out).mono ?_; rintro _ w9 ⟨rfl, h4⟩; have hA26 : St w0 [] w9 (.blk gr 69 (rqC (.slice ao B.length c) (rS10 B s) true) :: .blk g6 33 ([.int .i64 (rErr (gotG true B 47 (rS5 B s))), .int .i64 (rAt (gotG true B 47 (rS5 B s)))]) :: .blk g5 45 (PV.cells zP) :: .row (.slice none 0 0) 98 2 0 [] :: .blk g3 47 (xC (numG B 4 s : Nat) (gotG true B (numG B 1 (rS1 B s)) (rS2 B s)) (numG B 1 (rS3 B s) : Nat) (numG B 1 (rS4 B s) : Nat) zP (numG B 4 (rS6 B s) : Nat) (numG B 4 (rS7 B s) : Nat) (numG B 4 (rS8 B s) : Nat) 0 0) :: .blk g2 47 (rec0) :: R) := h4; clear h4 hA25) | (refine wl_store [_, _, _, _] hA26 rfl rfl rfl (off := 42) (v := .int .i64 (numG B 1 (rS9 B s) : Nat)) rfl rfl rfl (by rw [xC_len HZ.out]; show (42 : Nat) + 1 ≤ 44; decide) ?_; intro w1 h4; have h5 := h4; clear h4; (rw [show putAt (xC _ _ _ _ _ _ _ _ _ _) 42 (Value.int IntKind.i64 (numG B 1 (rS9 B s) : Nat)).cells.toList = xC _ _ _ _ _ _ _ _ _ _ from xC_put42 HZ.out _] at h5); have hA27 : St w0 [] w1 (.blk gr 69 (rqC (.slice ao B.length c) (rS10 B s) true) :: .blk g6 33 ([.int .i64 (rErr (gotG true B 47 (rS5 B s))), .int .i64 (rAt (gotG true B 47 (rS5 B s)))]) :: .blk g5 45 (PV.cells zP) :: .row (.slice none 0 0) 98 2 0 [] :: .blk g3 47 (xC (numG B 4 s : Nat) (gotG true B (numG B 1 (rS1 B s)) (rS2 B s)) (numG B 1 (rS3 B s) : Nat) (numG B 1 (rS4 B s) : Nat) zP (numG B 4 (rS6 B s) : Nat) (numG B 4 (rS7 B s) : Nat) (numG B 4 (rS8 B s) : Nat) (numG B 1 (rS9 B s) : Nat) 0) :: .blk g2 47 (rec0) :: R) := h5; clear h5 hA26) | (go_at_call 35; refine (qnum12_any ao B.length c B (rS10 B s) 1 1 rfl hA27 HB.out rfl hN (by decide) HP10.out).mono ?_; rintro _ w9 ⟨rfl, h4⟩; have hA28 : St w0 [] w9 (.blk gr 69 (rqC (.slice ao B.length c) (rS11 B s) true) :: .blk g6 33 ([.int .i64 (rErr (gotG true B 47 (rS5 B s))), .int .i64 (rAt (gotG true B 47 (rS5 B s)))]) :: .blk g5 45 (PV.cells zP) :: .row (.slice none 0 0) 98 2 0 [] :: .blk g3 47 (xC (numG B 4 s : Nat) (gotG true B (numG B 1 (rS1 B s)) (rS2 B s)) (numG B 1 (rS3 B s) : Nat) (numG B 1 (rS4 B s) : Nat) zP (numG B 4 (rS6 B s) : Nat) (numG B 4 (rS7 B s) : Nat) (numG B 4 (rS8 B s) : Nat) (numG B 1 (rS9 B s) : Nat) 0) :: .blk g2 47 (rec0) :: R) := h4; clear h4 hA27) | (refine wl_store [_, _, _, _] hA28 rfl rfl rfl (off := 43) (v := .int .i64 (numG B 1 (rS10 B s) : Nat)) rfl rfl rfl (by rw [xC_len HZ.out]; show (43 : Nat) + 1 ≤ 44; decide) ?_; intro w1 h4; have h5 := h4; clear h4; (rw [show putAt (xC _ _ _ _ _ _ _ _ _ _) 43 (Value.int IntKind.i64 (numG B 1 (rS10 B s) : Nat)).cells.toList = xC _ _ _ _ _ _ _ _ _ _ from xC_put43 HZ.out _] at h5); have hA29 : St w0 [] w1 (.blk gr 69 (rqC (.slice ao B.length c) (rS11 B s) true) :: .blk g6 33 ([.int .i64 (rErr (gotG true B 47 (rS5 B s))), .int .i64 (rAt (gotG true B 47 (rS5 B s)))]) :: .blk g5 45 (PV.cells zP) :: .row (.slice none 0 0) 98 2 0 [] :: .blk g3 47 (xC (numG B 4 s : Nat) (gotG true B (numG B 1 (rS1 B s)) (rS2 B s)) (numG B 1 (rS3 B s) : Nat) (numG B 1 (rS4 B s) : Nat) zP (numG B 4 (rS6 B s) : Nat) (numG B 4 (rS7 B s) : Nat) (numG B 4 (rS8 B s) : Nat) (numG B 1 (rS9 B s) : Nat) (numG B 1 (rS10 B s) : Nat)) :: .blk g2 47 (rec0) :: R) := h5; clear h5 hA28) | (refine wl_loadE rfl rfl rfl ?_; refine ⟨_, Loads.atA (xC (numG B 4 s : Nat) (gotG true B (numG B 1 (rS1 B s)) (rS2 B s)) (numG B 1 (rS3 B s) : Nat) (numG B 1 (rS4 B s) : Nat) zP (numG B 4 (rS6 B s) : Nat) (numG B 4 (rS7 B s) : Nat) (numG B 4 (rS8 B s) : Nat) (numG B 1 (rS9 B s) : Nat) (numG B 1 (rS10 B s) : Nat)) [_, _, _, _] hA29 (xC_len HZ.out) (by simp), ?_⟩) | (refine wl_storeA [_, _, _, _, _] hA29 rfl rfl rfl rfl (xC_len HZ.out) (xC_ones (ptr_ones _ _ _ _ _ _)) (by rfl) ?_; intro w7 hA30; clear hA29))
  have hl := Loads.atA (P := Try.prog) (off := 0) (T := 47) (xC (numG B 4 s : Nat) (gotG true B (numG B 1 (rS1 B s)) (rS2 B s)) (numG B 1 (rS3 B s) : Nat) (numG B 1 (rS4 B s) : Nat) zP (numG B 4 (rS6 B s) : Nat) (numG B 4 (rS7 B s) : Nat) (numG B 4 (rS8 B s) : Nat) (numG B 1 (rS9 B s) : Nat) (numG B 1 (rS10 B s) : Nat)) [_, _, _, _, _] hA30 (xC_len HZ.out) (by simp)
  refine bodyPost_ret (results_cell1 rfl rfl hl) rfl ?_
  refine ⟨.slice none 0 0, ?_, ?_⟩
  · rw [rec_cells (sv := .slice none 0 0) (rootG_no HOK.out)]
    rfl
  · rw [rec_l (rootG_no HOK.out), show rootOk true B s = false from HOK.out]
    exact St.sub (St.front (L1 := [_]) (St.front (L1 := [_, _, _]) hA30)) (List.Sublist.cons_cons _ (List.Sublist.cons_cons _ (List.Sublist.cons _ (List.Sublist.cons _ (List.Sublist.cons _ (List.Sublist.cons _ (List.Sublist.refl _)))))))
theorem qrec_any {w0 w : World} {R : List HA} {gr : Nat} {q : Bool} (ao : Option Addr) (c : Nat) (B : List UInt8) (s : GS) (hS : St w0 [] w (.blk gr 69 (rqC (.slice ao B.length c) s q) :: R)) (hB : Rd w0 (.slice ao B.length c) 1 B.length (bytesV B)) (hN : B.length ≤ 100000) (hp : s.pos ≤ B.length) :
    Calls Try.prog 36 #[.pointer (some ⟨gr, 0, none⟩)] w fun e w' => ∃ sv, e = .returned (.agg (cellsR (sv, recG true B s)).toArray) ∧ St w0 [] w' (.blk gr 69 (rqC (.slice ao B.length c) (recE B s) (q || !(rootOk true B s))) :: .row sv 98 2 (recG true B s).l.length (addrsV (recG true B s).l) :: R) := by
  cases h : rOK (gotG true B 47 (rS5 B s)) <;> cases q
  · exact qrec_no_false ao c B s hS hB hN hp h
  · exact qrec_no_true ao c B s hS hB hN hp h
  · exact qrec_ok_false ao c B s hS hB hN hp h
  · exact qrec_ok_true ao c B s hS hB hN hp h
end Go.Proofs.Ytkpkaoiafppimaa
namespace Go.Proofs.Ytkpkaoiafppimaa
set_option linter.unusedVariables false
set_option linter.unusedSimpArgs false
open Go.RowKit
namespace Hp
variable {P : Program}
theorem strCells_bytes (l : List UInt8) : Lib.strCells ⟨l.toArray⟩ = bytesV l := rfl
theorem byteCells_bytes (l : List UInt8) : Lib.byteCells l = bytesV l := rfl
theorem run_appStr {w0 w : World} {M : List Nat} {L : List HA} {t u ty e : TypeId} {g n cap bytes : Nat} {cs : List Value} {l : List UInt8} (hst : St w0 M w (.blk g e cs :: L)) (ht : P.underlying t = some (.slice e)) (hu : P.underlying u = some .string)
    (he : tyE P e 1 bytes = true) (hz : tyZ P e = some [.int .u8 0]) (hcs : cs.length = cap) (hn : n ≤ cap) (hB : cs.all isB = true) (hb : cap ≤ 1000000000 ∧ l.length ≤ 1000000000 ∧ bytes = 1) :
    ∃ v' w', (Builtin.append_ #[t, u] ty #[.slice (some ⟨g, 0, none⟩) n cap, .string ⟨l.toArray⟩]).run P w = .ok v' w' ∧ St w0 M w' (.rowP isB v' e 1 (n + l.length) (cs.take n ++ bytesV l) :: L) := by
  obtain ⟨i, z, hi, hzz, hs, hbs, hzs⟩ := tyE_spec he
  obtain ⟨hb1, hb2, hb3⟩ := hb
  have hzc : z.cells.toList = [.int .u8 0] := by
    unfold tyZ at hz
    simpa [hi, hzz] using hz
  have hsz : (⟨l.toArray⟩ : ByteArray).size = l.length := by simp [ByteArray.size]
  have hg : w.heap[g]? = some (.cells cs.toArray e (0, 0)) := hst.all _ (.head _)
  by_cases hroom : n + l.length ≤ cap
  · have hr := Lib.run_append_room_string (P := P) w t u ty e i ht hu hi hs g n cap cs.toArray hg ⟨l.toArray⟩ (by rw [hsz]; exact hroom) (by rw [hsz]; simp; omega)
    rw [hsz, strCells_bytes] at hr
    refine ⟨_, _, hr, ?_⟩
    have h1 := St.setRow (L1 := []) hst (cs.take n ++ bytesV l ++ cs.drop (n + l.length))
    have h2 := St.toRowP (n := n + l.length) (cap := cap) (sz := 1) isB h1 (by simp; omega) hroom (by omega) (by
      rw [List.all_append, List.all_append, isB_bytes]
      rw [List.all_eq_true] at hB
      simp only [Bool.and_eq_true, Bool.and_true, List.all_eq_true]
      exact ⟨fun x hx => hB x (List.mem_of_mem_take hx), fun x hx => hB x (List.mem_of_mem_drop hx)⟩)
    have e1 : (cs.take n ++ bytesV l ++ cs.drop (n + l.length)).take ((n + l.length) * 1) = cs.take n ++ bytesV l := by
      rw [Nat.mul_one]
      refine List.take_left' ?_
      simp; omega
    rw [e1] at h2
    exact h2
  · have holds : ∀ j v, (cs.take n)[j]? = some v → w.cell? ((⟨g, 0, none⟩ : Addr).add j) = some v := by
      intro j v hv
      rw [List.getElem?_take] at hv
      split at hv
      · rw [Addr.add_mid]
        exact hst.cell (.head _) (by simpa using hv)
      · cases hv
    have h2c : Builtin.nextslicecap (n + l.length) cap * 1 ≤ 281474976710656 := growslice_fits (by omega) (by omega)
    have hr := Lib.run_append_grow_string (P := P) w t u ty e i z ht hu hi hzz ⟨g, 0, none⟩ n cap (cs.take n) (by rw [hs]; simp; omega) holds ⟨l.toArray⟩ (by rw [hsz]; omega) (by rw [hsz]; omega) (by rw [hsz, hbs, hb3]; exact h2c)
    rw [hsz, strCells_bytes] at hr
    refine ⟨_, _, hr, ?_⟩
    have hge := grownCap_ge w (n + l.length) cap e
    have hcm : grownCap w (n + l.length) cap e ≤ maxLen := grownCap_le_maxLen w (n + l.length) cap e (by unfold maxLen; omega)
    have h3 := St.alloc hst.drew e (cs.take n ++ bytesV l ++ (Builtin.zeroCells z.cells (grownCap w (n + l.length) cap e - (n + l.length))).toList)
    have hzl : (Builtin.zeroCells z.cells (grownCap w (n + l.length) cap e - (n + l.length))).size = grownCap w (n + l.length) cap e - (n + l.length) := by
      rw [size_zeroCells, hzs, Nat.mul_one]
    have h4 := St.toRowP (n := n + l.length) (cap := grownCap w (n + l.length) cap e) (sz := 1) isB h3 (by simp [hzl]; omega) hge hcm (by
      rw [List.all_append, List.all_append, isB_bytes]
      rw [List.all_eq_true] at hB
      simp only [Bool.and_eq_true, Bool.and_true]
      refine ⟨List.all_eq_true.2 fun x hx => hB x (List.mem_of_mem_take hx), all_zeroCells (by rw [hzc]; rfl) _⟩)
    have e1 : (cs.take n ++ bytesV l ++ (Builtin.zeroCells z.cells (grownCap w (n + l.length) cap e - (n + l.length))).toList).take ((n + l.length) * 1) = cs.take n ++ bytesV l := by
      rw [Nat.mul_one]
      refine List.take_left' ?_
      simp; omega
    rw [e1] at h4
    have e2 : (cs.take n ++ bytesV l ++ (Builtin.zeroCells z.cells (grownCap w (n + l.length) cap e - (n + l.length))).toList).toArray = (cs.take n).toArray ++ (bytesV l).toArray ++ Builtin.zeroCells z.cells (grownCap w (n + l.length) cap e - (n + l.length)) := by
      apply Array.ext'
      simp
    rw [e2] at h4
    exact St.sub h4 (.cons_cons _ (.cons _ (List.Sublist.refl _)))
section
variable {ops : Array Oper} {rest : List Oper} {o : Oper} {a : Act} {w0 w : World} {M : List Nat} {Q : Exit → Act → World → Prop}
theorem wl_appStr {s x : Operand} {t u e : TypeId} {g n cap bytes : Nat} {cs : List Value} {l : List UInt8} {L : List HA} (hst : St w0 M w (.blk g e cs :: L))
    (hop : o.op = .call { callee := .builtin .append, args := #[s, x], argTypes := #[t, u] }) (hw : Region.wanted o (yielded ops a.tmps) = true) (hs : a.eval s = .slice (some ⟨g, 0, none⟩) n cap) (hx : a.eval x = .string ⟨l.toArray⟩)
    (ht : TySl P t e) (hu : TyStr P u) (he : TyE P e 1 bytes) (hz : TyZ P e [.int .u8 0]) (hcs : cs.length = cap) (hn : n ≤ cap) (hB : cs.all isB = true) (hb : cap ≤ 1000000000 ∧ l.length ≤ 1000000000 ∧ bytes = 1)
    (h : ∀ v' w', St w0 M w' (.rowP isB v' e 1 (n + l.length) (cs.take n ++ bytesV l) :: L) → wpList P ops Q rest (a.put o.dst v') w') : wpList P ops Q (o :: rest) a w := by
  obtain ⟨v', w', hr, h2⟩ := run_appStr (P := P) (ty := o.type) hst ht.out hu.out he.out hz.out hcs hn hB hb
  refine wl_run hw ?_ (h v' w' h2)
  unfold execOp
  simp only [hop, resolve, invoke, builtin, Sem.run_bind, Sem.run_pure, Result.andThen_ok, List.map_toArray, List.map_cons, List.map_nil, hs, hx]
  rw [hr]
  rfl
theorem run_copyStr {L1 L2 : List HA} {t u ty e : TypeId} {T : TypeId} {g off n c : Nat} {cs : List Value} {l : List UInt8} (hst : St w0 M w (L1 ++ .blk g T cs :: L2)) (ht : P.underlying t = some (.slice e)) (he : (P.info? e).map (·.size) = some 1)
    (hle : l.length ≤ n) (hf : off + l.length ≤ cs.length) :
    (Builtin.copy_ #[t, u] ty #[.slice (some ⟨g, off, none⟩) n c, .string ⟨l.toArray⟩]).run P w = .ok (.int .i64 l.length) (w.setRow g (putAt cs off (bytesV l)).toArray) := by
  have hsz : (⟨l.toArray⟩ : ByteArray).size = l.length := by simp [ByteArray.size]
  have hg : w.heap[g]? = some (.cells cs.toArray T (0, 0)) := hst.all (.blk g T cs) (by simp)
  have h := Lib.run_copy_row_string (P := P) w t u ty e g off n c ⟨l.toArray⟩ cs.toArray T ht he hg (by rw [hsz]; exact hle) (by rw [hsz]; simpa using hf)
  rw [hsz] at h
  rw [h]
  have e1 : (putAt cs off (bytesV l)).toArray = (cs.toArray.toList.take off ++ Lib.byteCells l ++ cs.toArray.toList.drop (off + l.length)).toArray := by
    simp [putAt, byteCells_bytes]
  rw [e1]
  rfl
theorem ow_copyStr {K : Act → World → Prop} {d x : Operand} {g off n c : Nat} {T e t t' : TypeId} {cs : List Value} {l : List UInt8} (L1 : List HA) {L2 : List HA} (hst : St w0 M w (L1 ++ .blk g T cs :: L2))
    (hop : o.op = .call { callee := .builtin .copy, args := #[d, x], argTypes := #[t, t'] }) (hd : a.eval d = .slice (some ⟨g, off, none⟩) n c) (hx : a.eval x = .string ⟨l.toArray⟩)
    (ht : TySl P t e) (he : TyN P e 1) (hm : l.length ≤ n) (hf : off + l.length ≤ cs.length)
    (h : ∀ w', St w0 M w' (L1 ++ .blk g T (putAt cs off (bytesV l)) :: L2) → K (a.put o.dst (.int .i64 l.length)) w') : o.wp P a w K Q := by
  refine ow_run ?_ (h _ (hst.setRow _))
  unfold execOp
  simp only [hop, resolve, invoke, builtin, Sem.run_bind, Sem.run_pure, Result.andThen_ok, List.map_toArray, List.map_cons, List.map_nil, hd, hx]
  rw [run_copyStr hst ht.out he.out hm hf]
  rfl
theorem wl_copyStr {d x : Operand} {g off n c : Nat} {T e t t' : TypeId} {cs : List Value} {l : List UInt8} (L1 : List HA) {L2 : List HA} (hst : St w0 M w (L1 ++ .blk g T cs :: L2))
    (hop : o.op = .call { callee := .builtin .copy, args := #[d, x], argTypes := #[t, t'] }) (hw : Region.wanted o (yielded ops a.tmps) = true) (hd : a.eval d = .slice (some ⟨g, off, none⟩) n c) (hx : a.eval x = .string ⟨l.toArray⟩)
    (ht : TySl P t e) (he : TyN P e 1) (hm : l.length ≤ n) (hf : off + l.length ≤ cs.length)
    (h : ∀ w', St w0 M w' (L1 ++ .blk g T (putAt cs off (bytesV l)) :: L2) → wpList P ops Q rest (a.put o.dst (.int .i64 l.length)) w') : wpList P ops Q (o :: rest) a w := by
  refine wl_run hw ?_ (h _ (hst.setRow _))
  unfold execOp
  simp only [hop, resolve, invoke, builtin, Sem.run_bind, Sem.run_pure, Result.andThen_ok, List.map_toArray, List.map_cons, List.map_nil, hd, hx]
  rw [run_copyStr hst ht.out he.out hm hf]
  rfl
end
end Hp
end Go.Proofs.Ytkpkaoiafppimaa
namespace Go.Proofs.Ytkpkaoiafppimaa
set_option linter.unusedVariables false
set_option linter.unusedSimpArgs false
open Go.RowKit
namespace Hp
variable {P : Program}
theorem run_appStr2 {w0 w : World} {M : List Nat} {L : List HA} {t u ty e : TypeId} {g n cap bytes : Nat} {cs : List Value} {l : List UInt8} (hst : St w0 M w (.blk g e cs :: L)) (ht : P.underlying t = some (.slice e)) (hu : P.underlying u = some .string)
    (he : tyE P e 1 bytes = true) (hz : tyZ P e = some [.int .u8 0]) (hcs : cs.length = cap) (hn : n ≤ cap) (hB : cs.all isB = true) (hb : n ≤ 1000000000 ∧ l.length ≤ 1000000000 ∧ bytes = 1) (hcap : cap ≤ 9223372036854775807) :
    ∃ v' w', (Builtin.append_ #[t, u] ty #[.slice (some ⟨g, 0, none⟩) n cap, .string ⟨l.toArray⟩]).run P w = .ok v' w' ∧ St w0 M w' (.rowP isB v' e 1 (n + l.length) (cs.take n ++ bytesV l) :: L) := by
  obtain ⟨i, z, hi, hzz, hs, hbs, hzs⟩ := tyE_spec he
  obtain ⟨hb1, hb2, hb3⟩ := hb
  have hzc : z.cells.toList = [.int .u8 0] := by
    unfold tyZ at hz
    simpa [hi, hzz] using hz
  have hsz : (⟨l.toArray⟩ : ByteArray).size = l.length := by simp [ByteArray.size]
  have hg : w.heap[g]? = some (.cells cs.toArray e (0, 0)) := hst.all _ (.head _)
  by_cases hroom : n + l.length ≤ cap
  · have hr := Lib.run_append_room_string (P := P) w t u ty e i ht hu hi hs g n cap cs.toArray hg ⟨l.toArray⟩ (by rw [hsz]; exact hroom) (by rw [hsz]; simp; omega)
    rw [hsz, strCells_bytes] at hr
    refine ⟨_, _, hr, ?_⟩
    have h1 := St.setRow (L1 := []) hst (cs.take n ++ bytesV l ++ cs.drop (n + l.length))
    have h2 := St.toRowP (n := n + l.length) (cap := cap) (sz := 1) isB h1 (by simp; omega) hroom (by omega) (by
      rw [List.all_append, List.all_append, isB_bytes]
      rw [List.all_eq_true] at hB
      simp only [Bool.and_eq_true, Bool.and_true, List.all_eq_true]
      exact ⟨fun x hx => hB x (List.mem_of_mem_take hx), fun x hx => hB x (List.mem_of_mem_drop hx)⟩)
    have e1 : (cs.take n ++ bytesV l ++ cs.drop (n + l.length)).take ((n + l.length) * 1) = cs.take n ++ bytesV l := by
      rw [Nat.mul_one]
      refine List.take_left' ?_
      simp; omega
    rw [e1] at h2
    exact h2
  · have holds : ∀ j v, (cs.take n)[j]? = some v → w.cell? ((⟨g, 0, none⟩ : Addr).add j) = some v := by
      intro j v hv
      rw [List.getElem?_take] at hv
      split at hv
      · rw [Addr.add_mid]
        exact hst.cell (.head _) (by simpa using hv)
      · cases hv
    have h2c : Builtin.nextslicecap (n + l.length) cap * 1 ≤ 281474976710656 := growslice_fits (by omega) (by omega)
    have hr := Lib.run_append_grow_string (P := P) w t u ty e i z ht hu hi hzz ⟨g, 0, none⟩ n cap (cs.take n) (by rw [hs]; simp; omega) holds ⟨l.toArray⟩ (by rw [hsz]; omega) (by rw [hsz]; omega) (by rw [hsz, hbs, hb3]; exact h2c)
    rw [hsz, strCells_bytes] at hr
    refine ⟨_, _, hr, ?_⟩
    have hge := grownCap_ge w (n + l.length) cap e
    have hcm : grownCap w (n + l.length) cap e ≤ maxLen := grownCap_le_maxLen w (n + l.length) cap e (by unfold maxLen; omega)
    have h3 := St.alloc hst.drew e (cs.take n ++ bytesV l ++ (Builtin.zeroCells z.cells (grownCap w (n + l.length) cap e - (n + l.length))).toList)
    have hzl : (Builtin.zeroCells z.cells (grownCap w (n + l.length) cap e - (n + l.length))).size = grownCap w (n + l.length) cap e - (n + l.length) := by
      rw [size_zeroCells, hzs, Nat.mul_one]
    have h4 := St.toRowP (n := n + l.length) (cap := grownCap w (n + l.length) cap e) (sz := 1) isB h3 (by simp [hzl]; omega) hge hcm (by
      rw [List.all_append, List.all_append, isB_bytes]
      rw [List.all_eq_true] at hB
      simp only [Bool.and_eq_true, Bool.and_true]
      refine ⟨List.all_eq_true.2 fun x hx => hB x (List.mem_of_mem_take hx), all_zeroCells (by rw [hzc]; rfl) _⟩)
    have e1 : (cs.take n ++ bytesV l ++ (Builtin.zeroCells z.cells (grownCap w (n + l.length) cap e - (n + l.length))).toList).take ((n + l.length) * 1) = cs.take n ++ bytesV l := by
      rw [Nat.mul_one]
      refine List.take_left' ?_
      simp; omega
    rw [e1] at h4
    have e2 : (cs.take n ++ bytesV l ++ (Builtin.zeroCells z.cells (grownCap w (n + l.length) cap e - (n + l.length))).toList).toArray = (cs.take n).toArray ++ (bytesV l).toArray ++ Builtin.zeroCells z.cells (grownCap w (n + l.length) cap e - (n + l.length)) := by
      apply Array.ext'
      simp
    rw [e2] at h4
    exact St.sub h4 (.cons_cons _ (.cons _ (List.Sublist.refl _)))
theorem wl_appStrP {ops : Array Oper} {rest : List Oper} {o : Oper} {a : Act} {w0 w : World} {M : List Nat} {Q : Exit → Act → World → Prop} {s x : Operand} {t u e : TypeId} {v : Value} {n bytes : Nat} {xs : List Value} {l : List UInt8} (L1 : List HA) {L2 : List HA} (hst : St w0 M w (L1 ++ .rowP isB v e 1 n xs :: L2))
    (hop : o.op = .call { callee := .builtin .append, args := #[s, x], argTypes := #[t, u] }) (hw : Region.wanted o (yielded ops a.tmps) = true) (hs : a.eval s = v) (hx : a.eval x = .string ⟨l.toArray⟩)
    (ht : TySl P t e) (hu : TyStr P u) (he : TyE P e 1 bytes) (hz : TyZ P e [.int .u8 0]) (hn0 : 0 < n) (hb : n ≤ 1000000000 ∧ l.length ≤ 1000000000 ∧ bytes = 1)
    (h : ∀ v' w', St w0 M w' (L1 ++ .rowP isB v' e 1 (n + l.length) (xs ++ bytesV l) :: L2) → wpList P ops Q rest (a.put o.dst v') w') : wpList P ops Q (o :: rest) a w := by
  rcases hst.openP with ⟨_, h0, _⟩ | ⟨g, cap, cs, rfl, hn, hc, hl, ht2, hp, h1⟩
  · omega
  · have h1' := St.front L1 h1
    obtain ⟨v', w', hr, h2⟩ := run_appStr2 (P := P) (ty := o.type) h1' ht.out hu.out he.out hz.out (by omega) hn hp hb hc
    rw [Nat.mul_one] at ht2
    rw [ht2] at h2
    refine wl_run hw ?_ (h v' w' (St.perm h2 List.perm_middle.symm))
    unfold execOp
    simp only [hop, resolve, invoke, builtin, Sem.run_bind, Sem.run_pure, Result.andThen_ok, List.map_toArray, List.map_cons, List.map_nil, hs, hx]
    rw [hr]
    rfl
end Hp
end Go.Proofs.Ytkpkaoiafppimaa
namespace Go.Proofs.Ytkpkaoiafppimaa
set_option linter.unusedVariables false
set_option linter.unusedSimpArgs false
open Go.RowKit Hp
attribute [local irreducible] Go.Calls Go.wpList
set_option maxRecDepth 100000
set_option maxHeartbeats 8000000
theorem numB4_cells (z : Int) : [Value.int .u8 (z / 16777216 % 256), .int .u8 (z / 65536 % 256), .int .u8 (z / 256 % 256), .int .u8 (z % 256)] = bytesV (numB z 4) := by
  simp [numB, bytesV, byteAt_int]
theorem numB1_cells (z : Int) : [Value.int .u8 (z % 256)] = bytesV (numB z 1) := num1_cells z rfl
theorem numB11_cells (z y : Int) : [Value.int .u8 (z % 256), .int .u8 (y % 256)] = bytesV (numB z 1 ++ numB y 1) := by
  rw [bytesV_append, ← numB1_cells, ← numB1_cells]
  rfl
theorem four_w {w0 w : World} {M : List Nat} {R : List HA} {m : Nat} {bv : Value} {B : List UInt8} (hS : St w0 M w (.rowP isB bv 5 1 m (bytesV B) :: R)) (z : Int) (hm : m ≤ 100000) (hz : R64 z) :
    Calls Try.prog 51 #[bv, .int .i64 z] w fun e w' => ∃ v', e = .returned v' ∧ St w0 M w' (.rowP isB v' 5 1 (m + 4) (bytesV (B ++ numB z 4)) :: R) := by
  have hst := hS
  obtain ⟨hz1, hz2⟩ := hz
  clear hS
  go_enter Try.func51, Try.ntmps51
  go_wp2_with (first | go_big_skip | go_big_guard | (apply wl_bsX [.int _ _, .int _ _, .int _ _, .int _ _] [.int _ _, .int _ _, .int _ _, .int _ _] hst; rfl; rfl; exact rfl; exact rfl; infer_instance; infer_instance; rfl; rfl; rfl; intro gb w5 hst2; (rw [numB4_cells] at hst2); clear hst) | (apply wl_appP (m := 4) (ys := bytesV (numB z 4)) [_] hst2; rfl; rfl; exact rfl; exact rfl; infer_instance; infer_instance; infer_instance; infer_instance; exact (Rd.blk0 (n := 4) hst2 (by rw [Hp.length_bytesV, length_numB]) (by decide)); exact ones_bytesV _; rfl; exact isB_bytes _; (unfold maxLen; omega); intro v9 w6 hst3 _; clear hst2))
  go_ret
  refine ⟨_, rfl, ?_⟩
  rw [bytesV_append]
  exact St.drop (L1 := []) hst3
end Go.Proofs.Ytkpkaoiafppimaa
namespace Go.Proofs.Ytkpkaoiafppimaa
set_option linter.unusedVariables false
set_option linter.unusedSimpArgs false
open Go.RowKit Hp
attribute [local irreducible] Go.Calls Go.wpList
set_option maxRecDepth 100000
set_option maxHeartbeats 8000000
attribute [local go_sem ↓] heldInt heldRecs heldStr heldInts
theorem refBytes12_no (t : TC) (ar al : Option Addr) (nr cr nl cl : Nat) (xs : List (Value × RC)) (w : World) (hR : RecsIn w (.slice ar nr cr) nr xs) (hx : xs.map (·.2) = t.recs) (hb : nr ≤ 1000000) (hl : Rd w (.slice al nl cl) 1 nl (numsV t.lives)) (hnl : t.lives.length = nl) (hbl : nl ≤ 1000000) (hok : t.ok = false) :
    Calls Try.prog 23 #[.agg (tabC t (.slice ar nr cr) (.slice al nl cl)).toArray] w fun e w' => e = .returned (.tuple #[.slice none 0 0, .int .i64 2]) ∧ St w [] w' [] := by
  have hst0 := St.refl w
  have HE := hid (err_no hok)
  have HR := hid hR
  have HX := hid hx
  have HL := hid hl
  have HN := hid hnl
  clear hR hx hl hnl hok
  go_enter Try.func23, Try.ntmps23
  go_wp2_with (first | go_big_skip | go_big_guard | (refine wl_boxA hst0 rfl rfl rfl ?_; intro g1 w1 hst; clear hst0) | (refine wl_loadE rfl rfl rfl ?_; refine ⟨_, Loads.atA (tabC t (.slice ar nr cr) (.slice al nl cl)) [] hst rfl rfl, ?_⟩) | (go_at_call 27; refine (refCheck12_any t ar al nr cr nl cl xs _ (HR.out.old hst.nil) HX.out hb (Rd.old hst HL.out) HN.out hbl).mono ?_; rw [HE.out]; rintro _ w9 ⟨rfl, h4⟩; replace hst := St.call0 hst h4; clear h4))
  go_ret2
  exact ⟨rfl, hst.nil⟩
theorem refBytes12_ok (t : TC) (ar al : Option Addr) (nr cr nl cl : Nat) (xs : List (Value × RC)) (w : World) (hR : RecsIn w (.slice ar nr cr) nr xs) (hx : xs.map (·.2) = t.recs) (hl : Rd w (.slice al nl cl) 1 nl (numsV t.lives)) (hnl : t.lives.length = nl) (hok : t.ok = true) :
    Calls Try.prog 23 #[.agg (tabC t (.slice ar nr cr) (.slice al nl cl)).toArray] w fun e w' => ∃ u m, e = .returned (.tuple #[u, .int .i64 0]) ∧ m ≤ 3300 ∧ St w [] w' [.rowP isB u 5 1 m (bytesV t.bytes)] := by
  have hst0 := St.refl w
  have hbd := ok_bd hok
  have hlen : t.recs.length = nr := by rw [← hx, List.length_map, hR.len]
  have hnr : nr ≤ 16 := by rw [← hlen]; exact hbd.many
  have hnl8 : nl ≤ 8 := by rw [← hnl]; exact hbd.lives
  have HE := hid (err_yes hok)
  have y1 : IntKind.u8.wrap (nr : Int) = (nr : Int) := IntWalk.u8_in _ (by omega)
  have y2 : IntKind.u8.wrap (nl : Int) = (nl : Int) := IntWalk.u8_in _ (by omega)
  have HR := hid hR
  have HX := hid hx
  have HL := hid hl
  have HN := hid hnl
  have HB := hid hbd
  have HLN := hid hlen
  obtain ⟨T, hT⟩ : ∃ T, T = t.bytes := ⟨_, rfl⟩
  rw [← hT]
  have HT := hid hT
  clear hR hx hl hnl hok hbd hlen hT
  go_enter Try.func23, Try.ntmps23
  go_wp2_with (first | go_big_skip | go_big_guard | (refine wl_boxA hst0 rfl rfl rfl ?_; intro g1 w1 hst1; clear hst0) | (refine wl_loadE rfl rfl rfl ?_; refine ⟨_, Loads.atA (tabC t (.slice ar nr cr) (.slice al nl cl)) [] hst1 rfl rfl, ?_⟩) | (go_at_call 27; refine (refCheck12_any t ar al nr cr nl cl xs _ (HR.out.old hst1.nil) HX.out (by omega) (Rd.old hst1 HL.out) HN.out (by omega)).mono ?_; rw [HE.out]; rintro _ w9 ⟨rfl, h4⟩; have hst2 := St.call0 hst1 h4; clear h4 hst1))
  have hst : St w [] w9 (.rowP isB (.slice none 0 0) 5 1 0 (bytesV []) :: [.blk g1 30 (tabC t (.slice ar nr cr) (.slice al nl cl))]) := St.nilPQ isB 5 1 hst2
  clear hst2
  have hX := hst.drew
  clear hst
  refine wp_region_held_drew (S := (fun w' => (loadVarH 3 ⟨g1, 0, none⟩).run Try.prog w' = .ok (.int .i64 t.next) w' ∧ (loadVarH 25 ⟨g1, 1, none⟩).run Try.prog w' = .ok (.slice ar nr cr) w')) (by kernel_rfl) (by exact ⟨ldS [_] hX rfl, ldS [_] hX rfl⟩) (fun hHeld => ?_)
  refine tk 0 13 ?_
  (try simp only [Act.put, List.setIfInBounds_toArray, List.set_cons_zero, List.set_cons_succ])
  refine tk 3 16 ?_
  (try simp only [Act.put, List.setIfInBounds_toArray, List.set_cons_zero, List.set_cons_succ])
  refine tk 1 14 ?_
  (try simp only [Act.put, List.setIfInBounds_toArray, List.set_cons_zero, List.set_cons_succ])
  refine tk 4 17 ?_
  (try simp only [Act.put, List.setIfInBounds_toArray, List.set_cons_zero, List.set_cons_succ])
  refine tk 5 18 ?_
  (try simp only [Act.put, List.setIfInBounds_toArray, List.set_cons_zero, List.set_cons_succ])
  refine tk 6 19 ?_
  (try simp only [Act.put, List.setIfInBounds_toArray, List.set_cons_zero, List.set_cons_succ])
  refine wpAnyH_ready (rs := [2, 7]) (by kernel_rfl) (by simp) ?_
  refine (AllReadyH.cons (o := ⟨some 15, _, _, _, _, _⟩) rfl (fun K hK => ?_) (AllReadyH.cons (o := ⟨some 20, _, _, _, _, _⟩) rfl (fun K hK => ?_) AllReadyH.nil))
  · rw [if_pos (by rfl)]
    go_simp
    go_at_call 51
    refine (four_w hX (t.next) (by omega) HB.out.next.r64).mono ?_
    rintro _ w4 ⟨v9, rfl, h4⟩
    have hF1 := h4
    clear h4 hX
    refine hK.out _ _ ?_ (fun hHeld => ?_)
    · exact ⟨ldS [_] hF1 rfl, ldS [_] hF1 rfl⟩
    clear hK K
    (try simp only [Act.put, List.setIfInBounds_toArray, List.set_cons_zero, List.set_cons_succ])
    refine wpAnyH_ready (rs := [7]) (by kernel_rfl) (by simp) ?_
    refine (AllReadyH.cons (o := ⟨some 20, _, _, _, _, _⟩) rfl (fun K hK => ?_) AllReadyH.nil)
    rw [if_pos (by rfl)]
    refine ow_of_wl (ops := #[]) (by rfl) ?_
    apply wl_bsX [.int _ _] [.int _ _] hF1
    rfl
    rfl
    exact rfl
    exact rfl
    infer_instance
    infer_instance
    rfl
    rfl
    rfl
    intro gb w5 hF2
    (try simp only [IntKind.wrap_u8] at hF2)
    first | rw [numB1_cells] at hF2 | rw [show [Value.int .u8 ((nr : Int))] = bytesV (numB ((nr : Int)) 1) from num1_cells _ (by omega)] at hF2
    refine q0_nil ?_
    refine hK.out _ _ ?_ (fun hHeld => ?_)
    · exact ⟨ldS [_, _] hF2 rfl, ldS [_, _] hF2 rfl⟩
    clear hK K
    (try simp only [Act.put, List.setIfInBounds_toArray, List.set_cons_zero, List.set_cons_succ])
    refine wpAnyH_ready (rs := [8]) (by kernel_rfl) (by simp) ?_
    refine (AllReadyH.cons (o := ⟨some 21, _, _, _, _, _⟩) rfl (fun K hK => ?_) AllReadyH.nil)
    rw [if_pos (by rfl)]
    refine ow_of_wl (ops := #[]) (by rfl) ?_
    apply wl_appP (m := 1) (ys := bytesV (numB (nr : Int) 1)) [_] hF2
    rfl
    rfl
    exact rfl
    exact rfl
    infer_instance
    infer_instance
    infer_instance
    infer_instance
    exact (Rd.blk (off := 0) (n := 1) (c := 1) hF2 (.head _) (Nat.le_refl _) (by decide) (by rw [Hp.length_bytesV, length_numB]) (by rw [List.drop_zero, List.take_length]))
    exact ones_bytesV _
    rfl
    exact isB_bytes _
    (unfold maxLen; omega)
    intro v9 w6 hF3 _
    rw [← bytesV_append] at hF3
    refine q0_nil ?_
    refine hK.out _ _ ?_ (fun hHeld => ?_)
    · exact ⟨ldS [_, _] hF3 rfl, ldS [_, _] hF3 rfl⟩
    clear hK K
    (try simp only [Act.put, List.setIfInBounds_toArray, List.set_cons_zero, List.set_cons_succ])
    refine tk 9 4 ?_
    (try simp only [Act.put, List.setIfInBounds_toArray, List.set_cons_zero, List.set_cons_succ])
    refine wpAnyH_done (by kernel_rfl) ?_ _
    clear hHeld
    have hV0 := St.sub (L' := [_, _]) (St.front (L1 := [_, _]) (St.front (L1 := [_, _]) hF3)) (List.Sublist.cons_cons _ (List.Sublist.cons_cons _ (List.Sublist.cons _ (List.Sublist.refl _))))
    clear hF3
    go_wp2_with (first | go_big_skip | go_big_guard | fail)
    go_loopw [4, 5] (fun u i wr => ∃ (j m : Nat), j ≤ nr ∧ i = .int .i64 (j : Int) ∧ m ≤ 5 + 200 * j ∧ 5 ≤ m ∧ St w [] wr (.rowP isB u 5 1 m (bytesV ((numB t.next 4 ++ numB (nr : Int) 1) ++ ((xs.map (·.2)).take j).flatMap RC.bytes)) :: [.blk g1 30 (tabC t (.slice ar nr cr) (.slice al nl cl))])) (fun _ i _ => nr - (intOf i).toNat)
    case atStart => exact ⟨0, 0 + 4 + 1, Nat.zero_le _, rfl, by omega, by omega, by simpa using hV0⟩
    case round =>
      clear hV0
      obtain ⟨j, m, hj, rfl, hm, hm5, hst⟩ := hrel
      by_cases hlt : j < nr
      · have e1 : decide ((j : Int) < (nr : Int)) = true := decide_eq_true (by omega)
        have z1 : IntKind.i64.wrap ((j : Int) + 1) = (j : Int) + 1 := IntWalk.i64_in _ (by omega)
        obtain ⟨x, lb, lo, hxj, har, hin, hr⟩ := RecsIn.at HR.out hlt
        subst har
        have hbx := HB.out.recs x.2 (by rw [← HX.out]; exact List.mem_map_of_mem (List.mem_of_getElem? hxj))
        have hn41 := hbx.name
        have hsz : (⟨x.2.name.toArray⟩ : ByteArray).size = x.2.name.length := by simp [ByteArray.size]
        have HXJ := hid hxj
        have HIN := hid hin
        have HLR := hid hin.L
        have HL44 := hid (cellsR_len hin.L)
        have H35 := hid (PV.len (p := x.2.pv x.1) hin.L)
        have HWR := hid hr
        have HBX := hid hbx
        clear hxj hin hr hbx
        go_wp2_with (first | go_big_skip | go_big_guard | (refine wl_loadE rfl rfl rfl ?_; first | refine ⟨_, Loads.at [_] hst rfl, ?_⟩ | refine ⟨_, Loads.oldA (cs := cellsR x) hst HL44.out HWR.out, ?_⟩ | refine ⟨_, Loads.atA ((x.2.pv x.1).cells) [] hst3 H35.out (cellsR_root HLR.out), ?_⟩) | (refine wl_index rfl rfl rfl rfl hlt ?_) | (refine wl_alloc hst rfl rfl ?_; intro gx w2 hst2; clear hst) | (refine wl_storeA [] hst2 rfl rfl rfl rfl (by exact HL44.out) (cellsR_ones HIN.out) rfl ?_; intro w3 hst3; clear hst2) | (go_at_call 52; refine (refBytes_pv (x.2.pv x.1) _ (PV.In.old hst3 HIN.out.1) HBX.out.root).mono ?_; rintro _ w4 ⟨u, rfl, h4⟩; have hst4 := St.call hst3 h4; clear h4 hst3; obtain ⟨uo, uc, rfl, _, _, _⟩ := row_form hst4 (.head _)))
        have hX := hst4.drew
        clear hst4
        refine wp_region_held_drew (S := (fun w' => (loadVarH 3 ⟨gx, 0, none⟩).run Try.prog w' = .ok (.int .i64 x.2.id) w' ∧ (loadVarH 9 ⟨gx, 1, none⟩).run Try.prog w' = .ok (.string ⟨x.2.name.toArray⟩) w')) (by kernel_rfl) (by exact ⟨ldS [_] hX rfl, ldS [_] hX rfl⟩) (fun hHeld => ?_)
        refine tk 0 40 ?_
        (try simp only [Act.put, List.setIfInBounds_toArray, List.set_cons_zero, List.set_cons_succ])
        refine tk 1 41 ?_
        (try simp only [Act.put, List.setIfInBounds_toArray, List.set_cons_zero, List.set_cons_succ])
        refine tk 4 44 ?_
        (try simp only [Act.put, List.setIfInBounds_toArray, List.set_cons_zero, List.set_cons_succ])
        refine tk 2 42 ?_
        (try simp only [Act.put, List.setIfInBounds_toArray, List.set_cons_zero, List.set_cons_succ])
        refine tk 5 45 ?_
        (try simp only [Act.put, List.setIfInBounds_toArray, List.set_cons_zero, List.set_cons_succ])
        refine tk 6 46 ?_
        (try simp only [Act.put, List.setIfInBounds_toArray, List.set_cons_zero, List.set_cons_succ])
        refine tk 7 47 ?_
        (try simp only [Act.put, List.setIfInBounds_toArray, List.set_cons_zero, List.set_cons_succ])
        refine wpAnyH_ready (rs := [3, 8]) (by kernel_rfl) (by simp) ?_
        refine (AllReadyH.cons (o := ⟨some 43, _, _, _, _, _⟩) rfl (fun K hK => ?_) (AllReadyH.cons (o := ⟨some 48, _, _, _, _, _⟩) rfl (fun K hK => ?_) AllReadyH.nil))
        · rw [if_pos (by rfl)]
          go_simp
          go_at_call 51
          refine (four_w (St.front (L1 := [_, _]) hX) (x.2.id) (by omega) HBX.out.id.r64).mono ?_
          rintro _ w4 ⟨v9, rfl, h4⟩
          have hF6 := h4
          clear h4 hX
          refine hK.out _ _ ?_ (fun hHeld => ?_)
          · exact ⟨ldS [_, _] hF6 rfl, ldS [_, _] hF6 rfl⟩
          clear hK K
          (try simp only [Act.put, List.setIfInBounds_toArray, List.set_cons_zero, List.set_cons_succ])
          refine wpAnyH_ready (rs := [8]) (by kernel_rfl) (by simp) ?_
          refine (AllReadyH.cons (o := ⟨some 48, _, _, _, _, _⟩) rfl (fun K hK => ?_) AllReadyH.nil)
          rw [if_pos (by rfl)]
          refine ow_of_wl (ops := #[]) (by rfl) ?_
          apply wl_bsX [.int _ _] [.int _ _] hF6
          rfl
          rfl
          exact rfl
          exact rfl
          infer_instance
          infer_instance
          rfl
          rfl
          rfl
          intro gb w5 hF7
          (try simp only [IntKind.wrap_u8] at hF7)
          first | rw [numB1_cells] at hF7 | rw [show [Value.int .u8 ((x.2.name.length : Int))] = bytesV (numB ((x.2.name.length : Int)) 1) from num1_cells _ (by omega)] at hF7
          refine q0_nil ?_
          refine hK.out _ _ ?_ (fun hHeld => ?_)
          · exact ⟨ldS [_, _, _] hF7 rfl, ldS [_, _, _] hF7 rfl⟩
          clear hK K
          (try simp only [Act.put, List.setIfInBounds_toArray, List.set_cons_zero, List.set_cons_succ])
          refine wpAnyH_ready (rs := [9]) (by kernel_rfl) (by simp) ?_
          refine (AllReadyH.cons (o := ⟨some 49, _, _, _, _, _⟩) rfl (fun K hK => ?_) AllReadyH.nil)
          rw [if_pos (by rfl)]
          refine ow_of_wl (ops := #[]) (by rfl) ?_
          apply wl_appP (m := 1) (ys := bytesV (numB (x.2.name.length : Int) 1)) [_] hF7
          rfl
          rfl
          exact rfl
          exact rfl
          infer_instance
          infer_instance
          infer_instance
          infer_instance
          exact (Rd.blk (off := 0) (n := 1) (c := 1) hF7 (.head _) (Nat.le_refl _) (by decide) (by rw [Hp.length_bytesV, length_numB]) (by rw [List.drop_zero, List.take_length]))
          exact ones_bytesV _
          rfl
          exact isB_bytes _
          (unfold maxLen; omega)
          intro v9 w6 hF8 _
          rw [← bytesV_append] at hF8
          refine q0_nil ?_
          refine hK.out _ _ ?_ (fun hHeld => ?_)
          · exact ⟨ldS [_, _, _] hF8 rfl, ldS [_, _, _] hF8 rfl⟩
          clear hK K
          (try simp only [Act.put, List.setIfInBounds_toArray, List.set_cons_zero, List.set_cons_succ])
          refine tk 10 4 ?_
          (try simp only [Act.put, List.setIfInBounds_toArray, List.set_cons_zero, List.set_cons_succ])
          refine wpAnyH_done (by kernel_rfl) ?_ _
          clear hHeld
          go_wp2_with (first | go_big_skip | go_big_guard | (refine wl_loadE rfl rfl rfl ?_; first | refine ⟨_, Loads.at [_, _, _] hF8 rfl, ?_⟩ | refine ⟨_, Loads.at [_, _, _] hK1 rfl, ?_⟩) | (apply wl_appStrP (l := x.2.name) [_] hF8; rfl; rfl; exact rfl; exact rfl; infer_instance; infer_instance; infer_instance; infer_instance; omega; exact ⟨by omega, by omega, rfl⟩; intro v9 w6 hK1; (rw [← bytesV_append] at hK1); clear hF8) | (apply wl_bsX [.int _ _, .int _ _] [.int _ _, .int _ _] hK1; rfl; rfl; exact rfl; exact rfl; infer_instance; infer_instance; rfl; rfl; rfl; intro gb w5 hK2; (try simp only [IntKind.wrap_u8] at hK2); (rw [numB11_cells] at hK2); clear hK1) | (apply wl_appP (ys := bytesV (numB x.2.kind 1 ++ numB x.2.size 1)) [_, _] hK2; rfl; rfl; exact rfl; exact rfl; infer_instance; infer_instance; infer_instance; infer_instance; exact (Rd.blk (off := 0) (n := 2) (c := 2) hK2 (.head _) (Nat.le_refl _) (by decide) (by rw [Hp.length_bytesV, List.length_append, length_numB, length_numB]) (by rw [List.drop_zero, List.take_length])); exact ones_bytesV _; rfl; exact isB_bytes _; (unfold maxLen; omega); intro v9 w6 hK3 _; (rw [← bytesV_append] at hK3); clear hK2) | (apply wl_appP (ys := bytesV ((x.2.pv x.1).bytes)) [_, _] hK3; rfl; rfl; exact rfl; exact rfl; infer_instance; infer_instance; infer_instance; infer_instance; exact (Rd.row hK3 (.tail _ (.tail _ (.tail _ (.head _))))); exact ones_bytesV _; rfl; exact isB_bytes _; (unfold maxLen; omega); intro v9 w6 hK4 _; (rw [← bytesV_append] at hK4); clear hK3))
          have hZ := hK4.drew
          clear hK4
          refine wp_region_held_drew (S := (fun w' => (loadVarH 3 ⟨gx, 39, none⟩).run Try.prog w' = .ok (.int .i64 x.2.made) w' ∧ (loadVarH 3 ⟨gx, 40, none⟩).run Try.prog w' = .ok (.int .i64 x.2.own) w' ∧ (loadVarH 3 ⟨gx, 41, none⟩).run Try.prog w' = .ok (.int .i64 x.2.origin) w')) (by kernel_rfl) (by exact ⟨ldS [_, _, _, _] hZ (cellsR_39 HLR.out), ldS [_, _, _, _] hZ (cellsR_40 HLR.out), ldS [_, _, _, _] hZ (cellsR_41 HLR.out)⟩) (fun hHeld => ?_)
          refine tk 0 66 ?_
          (try simp only [Act.put, List.setIfInBounds_toArray, List.set_cons_zero, List.set_cons_succ])
          refine tk 1 67 ?_
          (try simp only [Act.put, List.setIfInBounds_toArray, List.set_cons_zero, List.set_cons_succ])
          refine tk 4 70 ?_
          (try simp only [Act.put, List.setIfInBounds_toArray, List.set_cons_zero, List.set_cons_succ])
          refine tk 7 73 ?_
          (try simp only [Act.put, List.setIfInBounds_toArray, List.set_cons_zero, List.set_cons_succ])
          refine tk 2 68 ?_
          (try simp only [Act.put, List.setIfInBounds_toArray, List.set_cons_zero, List.set_cons_succ])
          refine tk 5 71 ?_
          (try simp only [Act.put, List.setIfInBounds_toArray, List.set_cons_zero, List.set_cons_succ])
          refine tk 8 74 ?_
          (try simp only [Act.put, List.setIfInBounds_toArray, List.set_cons_zero, List.set_cons_succ])
          refine wpAnyH_ready (rs := [3]) (by kernel_rfl) (by simp) ?_
          refine (AllReadyH.cons (o := ⟨some 69, _, _, _, _, _⟩) rfl (fun K hK => ?_) AllReadyH.nil)
          rw [if_pos (by rfl)]
          go_simp
          go_at_call 51
          refine (four_w (St.front (L1 := [_, _]) hZ) (x.2.made) (by omega) HBX.out.made.r64).mono ?_
          rintro _ w4 ⟨v9, rfl, h4⟩
          have hF9 := h4
          clear h4 hZ
          refine hK.out _ _ ?_ (fun hHeld => ?_)
          · exact ⟨ldS [_, _, _, _] hF9 (cellsR_39 HLR.out), ldS [_, _, _, _] hF9 (cellsR_40 HLR.out), ldS [_, _, _, _] hF9 (cellsR_41 HLR.out)⟩
          clear hK K
          (try simp only [Act.put, List.setIfInBounds_toArray, List.set_cons_zero, List.set_cons_succ])
          refine wpAnyH_ready (rs := [6]) (by kernel_rfl) (by simp) ?_
          refine (AllReadyH.cons (o := ⟨some 72, _, _, _, _, _⟩) rfl (fun K hK => ?_) AllReadyH.nil)
          rw [if_pos (by rfl)]
          go_simp
          go_at_call 51
          refine (four_w hF9 (x.2.own) (by omega) HBX.out.own.r64).mono ?_
          rintro _ w4 ⟨v9, rfl, h4⟩
          have hF10 := h4
          clear h4 hF9
          refine hK.out _ _ ?_ (fun hHeld => ?_)
          · exact ⟨ldS [_, _, _, _] hF10 (cellsR_39 HLR.out), ldS [_, _, _, _] hF10 (cellsR_40 HLR.out), ldS [_, _, _, _] hF10 (cellsR_41 HLR.out)⟩
          clear hK K
          (try simp only [Act.put, List.setIfInBounds_toArray, List.set_cons_zero, List.set_cons_succ])
          refine wpAnyH_ready (rs := [9]) (by kernel_rfl) (by simp) ?_
          refine (AllReadyH.cons (o := ⟨some 75, _, _, _, _, _⟩) rfl (fun K hK => ?_) AllReadyH.nil)
          rw [if_pos (by rfl)]
          go_simp
          go_at_call 51
          refine (four_w hF10 (x.2.origin) (by omega) HBX.out.origin.r64).mono ?_
          rintro _ w4 ⟨v9, rfl, h4⟩
          have hF11 := h4
          clear h4 hF10
          refine hK.out _ _ ?_ (fun hHeld => ?_)
          · exact ⟨ldS [_, _, _, _] hF11 (cellsR_39 HLR.out), ldS [_, _, _, _] hF11 (cellsR_40 HLR.out), ldS [_, _, _, _] hF11 (cellsR_41 HLR.out)⟩
          clear hK K
          (try simp only [Act.put, List.setIfInBounds_toArray, List.set_cons_zero, List.set_cons_succ])
          refine tk 10 4 ?_
          (try simp only [Act.put, List.setIfInBounds_toArray, List.set_cons_zero, List.set_cons_succ])
          refine wpAnyH_done (by kernel_rfl) ?_ _
          clear hHeld
          go_wp2_with (first | go_big_skip | go_big_guard | (refine wl_loadE rfl rfl rfl ?_; first | refine ⟨_, Loads.at [_, _, _, _] hF11 (cellsR_42 HLR.out), ?_⟩ | refine ⟨_, Loads.at [_, _, _, _] hF11 (cellsR_43 HLR.out), ?_⟩) | (apply wl_bsX [.int _ _, .int _ _] [.int _ _, .int _ _] hF11; rfl; rfl; exact rfl; exact rfl; infer_instance; infer_instance; rfl; rfl; rfl; intro gb w5 hM1; (try simp only [IntKind.wrap_u8] at hM1); (rw [numB11_cells] at hM1); clear hF11) | (apply wl_appP (ys := bytesV (numB x.2.quota 1 ++ numB x.2.reserve 1)) [_] hM1; rfl; rfl; exact rfl; exact rfl; infer_instance; infer_instance; infer_instance; infer_instance; exact (Rd.blk (off := 0) (n := 2) (c := 2) hM1 (.head _) (Nat.le_refl _) (by decide) (by rw [Hp.length_bytesV, List.length_append, length_numB, length_numB]) (by rw [List.drop_zero, List.take_length])); exact ones_bytesV _; rfl; exact isB_bytes _; (unfold maxLen; omega); intro v9 w6 hM2 _; (rw [← bytesV_append] at hM2); clear hM1))
          have h5 := St.sub (L' := [_, _]) (St.front (L1 := [_, _]) (St.front (L1 := [_, _, _, _, _, _]) hM2)) (List.Sublist.cons_cons _ (List.Sublist.cons_cons _ (List.Sublist.cons _ (List.Sublist.cons _ (List.Sublist.cons _ (List.Sublist.cons _ (List.Sublist.cons _ (List.Sublist.refl _))))))))
          clear hM2
          go_wp2_with (first | go_big_skip | go_big_guard | fail)
          go_roundw
          case rel =>
            refine ⟨j + 1, ?_, by omega, rfl, ?_, ?_, ?_⟩
            rotate_left 3
            · rw [flat_step RC.bytes (map_at HXJ.out), RC.bytes]
              simp only [List.append_assoc, List.append_nil] at h5 ⊢
              exact h5
            · omega
            · omega
          case measure => simp [intOf]; omega
        · rw [if_pos (by rfl)]
          refine ow_of_wl (ops := #[]) (by rfl) ?_
          apply wl_bsX [.int _ _] [.int _ _] hX
          rfl
          rfl
          exact rfl
          exact rfl
          infer_instance
          infer_instance
          rfl
          rfl
          rfl
          intro gb w5 hF12
          (try simp only [IntKind.wrap_u8] at hF12)
          first | rw [numB1_cells] at hF12 | rw [show [Value.int .u8 ((x.2.name.length : Int))] = bytesV (numB ((x.2.name.length : Int)) 1) from num1_cells _ (by omega)] at hF12
          refine q0_nil ?_
          refine hK.out _ _ ?_ (fun hHeld => ?_)
          · exact ⟨ldS [_, _] hF12 rfl, ldS [_, _] hF12 rfl⟩
          clear hK K
          (try simp only [Act.put, List.setIfInBounds_toArray, List.set_cons_zero, List.set_cons_succ])
          refine wpAnyH_ready (rs := [3]) (by kernel_rfl) (by simp) ?_
          refine (AllReadyH.cons (o := ⟨some 43, _, _, _, _, _⟩) rfl (fun K hK => ?_) AllReadyH.nil)
          rw [if_pos (by rfl)]
          go_simp
          go_at_call 51
          refine (four_w (St.front (L1 := [_, _, _]) hF12) (x.2.id) (by omega) HBX.out.id.r64).mono ?_
          rintro _ w4 ⟨v9, rfl, h4⟩
          have hF13 := h4
          clear h4 hF12
          refine hK.out _ _ ?_ (fun hHeld => ?_)
          · exact ⟨ldS [_, _, _] hF13 rfl, ldS [_, _, _] hF13 rfl⟩
          clear hK K
          (try simp only [Act.put, List.setIfInBounds_toArray, List.set_cons_zero, List.set_cons_succ])
          refine wpAnyH_ready (rs := [9]) (by kernel_rfl) (by simp) ?_
          refine (AllReadyH.cons (o := ⟨some 49, _, _, _, _, _⟩) rfl (fun K hK => ?_) AllReadyH.nil)
          rw [if_pos (by rfl)]
          refine ow_of_wl (ops := #[]) (by rfl) ?_
          apply wl_appP (m := 1) (ys := bytesV (numB (x.2.name.length : Int) 1)) [] hF13
          rfl
          rfl
          exact rfl
          exact rfl
          infer_instance
          infer_instance
          infer_instance
          infer_instance
          exact (Rd.blk (off := 0) (n := 1) (c := 1) hF13 (.tail _ (.head _)) (Nat.le_refl _) (by decide) (by rw [Hp.length_bytesV, length_numB]) (by rw [List.drop_zero, List.take_length]))
          exact ones_bytesV _
          rfl
          exact isB_bytes _
          (unfold maxLen; omega)
          intro v9 w6 hF14 _
          rw [← bytesV_append] at hF14
          refine q0_nil ?_
          refine hK.out _ _ ?_ (fun hHeld => ?_)
          · exact ⟨ldS [_, _, _] hF14 rfl, ldS [_, _, _] hF14 rfl⟩
          clear hK K
          (try simp only [Act.put, List.setIfInBounds_toArray, List.set_cons_zero, List.set_cons_succ])
          refine tk 10 4 ?_
          (try simp only [Act.put, List.setIfInBounds_toArray, List.set_cons_zero, List.set_cons_succ])
          refine wpAnyH_done (by kernel_rfl) ?_ _
          clear hHeld
          go_wp2_with (first | go_big_skip | go_big_guard | (refine wl_loadE rfl rfl rfl ?_; first | refine ⟨_, Loads.at [_, _, _] hF14 rfl, ?_⟩ | refine ⟨_, Loads.at [_, _, _] hK1 rfl, ?_⟩) | (apply wl_appStrP (l := x.2.name) [] hF14; rfl; rfl; exact rfl; exact rfl; infer_instance; infer_instance; infer_instance; infer_instance; omega; exact ⟨by omega, by omega, rfl⟩; intro v9 w6 hK1; (rw [← bytesV_append] at hK1); clear hF14) | (apply wl_bsX [.int _ _, .int _ _] [.int _ _, .int _ _] hK1; rfl; rfl; exact rfl; exact rfl; infer_instance; infer_instance; rfl; rfl; rfl; intro gb w5 hK2; (try simp only [IntKind.wrap_u8] at hK2); (rw [numB11_cells] at hK2); clear hK1) | (apply wl_appP (ys := bytesV (numB x.2.kind 1 ++ numB x.2.size 1)) [_] hK2; rfl; rfl; exact rfl; exact rfl; infer_instance; infer_instance; infer_instance; infer_instance; exact (Rd.blk (off := 0) (n := 2) (c := 2) hK2 (.head _) (Nat.le_refl _) (by decide) (by rw [Hp.length_bytesV, List.length_append, length_numB, length_numB]) (by rw [List.drop_zero, List.take_length])); exact ones_bytesV _; rfl; exact isB_bytes _; (unfold maxLen; omega); intro v9 w6 hK3 _; (rw [← bytesV_append] at hK3); clear hK2) | (apply wl_appP (ys := bytesV ((x.2.pv x.1).bytes)) [_] hK3; rfl; rfl; exact rfl; exact rfl; infer_instance; infer_instance; infer_instance; infer_instance; exact (Rd.row hK3 (.tail _ (.tail _ (.tail _ (.head _))))); exact ones_bytesV _; rfl; exact isB_bytes _; (unfold maxLen; omega); intro v9 w6 hK4 _; (rw [← bytesV_append] at hK4); clear hK3))
          have hZ := hK4.drew
          clear hK4
          refine wp_region_held_drew (S := (fun w' => (loadVarH 3 ⟨gx, 39, none⟩).run Try.prog w' = .ok (.int .i64 x.2.made) w' ∧ (loadVarH 3 ⟨gx, 40, none⟩).run Try.prog w' = .ok (.int .i64 x.2.own) w' ∧ (loadVarH 3 ⟨gx, 41, none⟩).run Try.prog w' = .ok (.int .i64 x.2.origin) w')) (by kernel_rfl) (by exact ⟨ldS [_, _, _, _] hZ (cellsR_39 HLR.out), ldS [_, _, _, _] hZ (cellsR_40 HLR.out), ldS [_, _, _, _] hZ (cellsR_41 HLR.out)⟩) (fun hHeld => ?_)
          refine tk 0 66 ?_
          (try simp only [Act.put, List.setIfInBounds_toArray, List.set_cons_zero, List.set_cons_succ])
          refine tk 1 67 ?_
          (try simp only [Act.put, List.setIfInBounds_toArray, List.set_cons_zero, List.set_cons_succ])
          refine tk 4 70 ?_
          (try simp only [Act.put, List.setIfInBounds_toArray, List.set_cons_zero, List.set_cons_succ])
          refine tk 7 73 ?_
          (try simp only [Act.put, List.setIfInBounds_toArray, List.set_cons_zero, List.set_cons_succ])
          refine tk 2 68 ?_
          (try simp only [Act.put, List.setIfInBounds_toArray, List.set_cons_zero, List.set_cons_succ])
          refine tk 5 71 ?_
          (try simp only [Act.put, List.setIfInBounds_toArray, List.set_cons_zero, List.set_cons_succ])
          refine tk 8 74 ?_
          (try simp only [Act.put, List.setIfInBounds_toArray, List.set_cons_zero, List.set_cons_succ])
          refine wpAnyH_ready (rs := [3]) (by kernel_rfl) (by simp) ?_
          refine (AllReadyH.cons (o := ⟨some 69, _, _, _, _, _⟩) rfl (fun K hK => ?_) AllReadyH.nil)
          rw [if_pos (by rfl)]
          go_simp
          go_at_call 51
          refine (four_w (St.front (L1 := [_]) hZ) (x.2.made) (by omega) HBX.out.made.r64).mono ?_
          rintro _ w4 ⟨v9, rfl, h4⟩
          have hF15 := h4
          clear h4 hZ
          refine hK.out _ _ ?_ (fun hHeld => ?_)
          · exact ⟨ldS [_, _, _, _] hF15 (cellsR_39 HLR.out), ldS [_, _, _, _] hF15 (cellsR_40 HLR.out), ldS [_, _, _, _] hF15 (cellsR_41 HLR.out)⟩
          clear hK K
          (try simp only [Act.put, List.setIfInBounds_toArray, List.set_cons_zero, List.set_cons_succ])
          refine wpAnyH_ready (rs := [6]) (by kernel_rfl) (by simp) ?_
          refine (AllReadyH.cons (o := ⟨some 72, _, _, _, _, _⟩) rfl (fun K hK => ?_) AllReadyH.nil)
          rw [if_pos (by rfl)]
          go_simp
          go_at_call 51
          refine (four_w hF15 (x.2.own) (by omega) HBX.out.own.r64).mono ?_
          rintro _ w4 ⟨v9, rfl, h4⟩
          have hF16 := h4
          clear h4 hF15
          refine hK.out _ _ ?_ (fun hHeld => ?_)
          · exact ⟨ldS [_, _, _, _] hF16 (cellsR_39 HLR.out), ldS [_, _, _, _] hF16 (cellsR_40 HLR.out), ldS [_, _, _, _] hF16 (cellsR_41 HLR.out)⟩
          clear hK K
          (try simp only [Act.put, List.setIfInBounds_toArray, List.set_cons_zero, List.set_cons_succ])
          refine wpAnyH_ready (rs := [9]) (by kernel_rfl) (by simp) ?_
          refine (AllReadyH.cons (o := ⟨some 75, _, _, _, _, _⟩) rfl (fun K hK => ?_) AllReadyH.nil)
          rw [if_pos (by rfl)]
          go_simp
          go_at_call 51
          refine (four_w hF16 (x.2.origin) (by omega) HBX.out.origin.r64).mono ?_
          rintro _ w4 ⟨v9, rfl, h4⟩
          have hF17 := h4
          clear h4 hF16
          refine hK.out _ _ ?_ (fun hHeld => ?_)
          · exact ⟨ldS [_, _, _, _] hF17 (cellsR_39 HLR.out), ldS [_, _, _, _] hF17 (cellsR_40 HLR.out), ldS [_, _, _, _] hF17 (cellsR_41 HLR.out)⟩
          clear hK K
          (try simp only [Act.put, List.setIfInBounds_toArray, List.set_cons_zero, List.set_cons_succ])
          refine tk 10 4 ?_
          (try simp only [Act.put, List.setIfInBounds_toArray, List.set_cons_zero, List.set_cons_succ])
          refine wpAnyH_done (by kernel_rfl) ?_ _
          clear hHeld
          go_wp2_with (first | go_big_skip | go_big_guard | (refine wl_loadE rfl rfl rfl ?_; first | refine ⟨_, Loads.at [_, _, _, _] hF17 (cellsR_42 HLR.out), ?_⟩ | refine ⟨_, Loads.at [_, _, _, _] hF17 (cellsR_43 HLR.out), ?_⟩) | (apply wl_bsX [.int _ _, .int _ _] [.int _ _, .int _ _] hF17; rfl; rfl; exact rfl; exact rfl; infer_instance; infer_instance; rfl; rfl; rfl; intro gb w5 hM1; (try simp only [IntKind.wrap_u8] at hM1); (rw [numB11_cells] at hM1); clear hF17) | (apply wl_appP (ys := bytesV (numB x.2.quota 1 ++ numB x.2.reserve 1)) [_] hM1; rfl; rfl; exact rfl; exact rfl; infer_instance; infer_instance; infer_instance; infer_instance; exact (Rd.blk (off := 0) (n := 2) (c := 2) hM1 (.head _) (Nat.le_refl _) (by decide) (by rw [Hp.length_bytesV, List.length_append, length_numB, length_numB]) (by rw [List.drop_zero, List.take_length])); exact ones_bytesV _; rfl; exact isB_bytes _; (unfold maxLen; omega); intro v9 w6 hM2 _; (rw [← bytesV_append] at hM2); clear hM1))
          have h5 := St.sub (L' := [_, _]) (St.front (L1 := [_, _]) (St.front (L1 := [_, _, _, _, _, _]) hM2)) (List.Sublist.cons_cons _ (List.Sublist.cons_cons _ (List.Sublist.cons _ (List.Sublist.cons _ (List.Sublist.cons _ (List.Sublist.cons _ (List.Sublist.cons _ (List.Sublist.refl _))))))))
          clear hM2
          go_wp2_with (first | go_big_skip | go_big_guard | fail)
          go_roundw
          case rel =>
            refine ⟨j + 1, ?_, by omega, rfl, ?_, ?_, ?_⟩
            rotate_left 3
            · rw [flat_step RC.bytes (map_at HXJ.out), RC.bytes]
              simp only [List.append_assoc, List.append_nil] at h5 ⊢
              exact h5
            · omega
            · omega
          case measure => simp [intOf]; omega
      · have e1 : decide ((j : Int) < (nr : Int)) = false := decide_eq_false (by omega)
        obtain rfl : j = nr := by omega
        have e9 : (xs.map (·.2)).take j = t.recs := by rw [HX.out, List.take_of_length_le (by rw [HLN.out]; omega)]
        rw [e9] at hst
        clear e9
        go_wp2_with (first | go_big_skip | go_big_guard | (refine wl_loadE rfl rfl rfl ?_; first | refine ⟨_, Loads.at [_] hst rfl, ?_⟩) | (apply wl_bsX [.int _ _, .int _ _] [.int _ _, .int _ _] hst; rfl; rfl; exact rfl; exact rfl; infer_instance; infer_instance; rfl; rfl; rfl; intro gb w5 hP1; (try simp only [IntKind.wrap_u8] at hP1); (rw [numB11_cells] at hP1); clear hst) | (apply wl_appP (ys := bytesV (numB t.kind 1 ++ numB t.dev 1)) [_] hP1; rfl; rfl; exact rfl; exact rfl; infer_instance; infer_instance; infer_instance; infer_instance; exact (Rd.blk (off := 0) (n := 2) (c := 2) hP1 (.head _) (Nat.le_refl _) (by decide) (by rw [Hp.length_bytesV, List.length_append, length_numB, length_numB]) (by rw [List.drop_zero, List.take_length])); exact ones_bytesV _; rfl; exact isB_bytes _; (unfold maxLen; omega); intro v9 w6 hP2 _; (rw [← bytesV_append] at hP2); clear hP1))
        have hX := hP2.drew
        clear hP2
        refine wp_region_held_drew (S := (fun w' => (loadVarH 3 ⟨g1, 4, none⟩).run Try.prog w' = .ok (.int .i64 t.at_) w' ∧ (loadVarH 3 ⟨g1, 5, none⟩).run Try.prog w' = .ok (.int .i64 t.txg) w')) (by kernel_rfl) (by exact ⟨ldS [_, _] hX rfl, ldS [_, _] hX rfl⟩) (fun hHeld => ?_)
        refine tk 0 96 ?_
        (try simp only [Act.put, List.setIfInBounds_toArray, List.set_cons_zero, List.set_cons_succ])
        refine tk 1 97 ?_
        (try simp only [Act.put, List.setIfInBounds_toArray, List.set_cons_zero, List.set_cons_succ])
        refine tk 5 101 ?_
        (try simp only [Act.put, List.setIfInBounds_toArray, List.set_cons_zero, List.set_cons_succ])
        refine tk 2 98 ?_
        (try simp only [Act.put, List.setIfInBounds_toArray, List.set_cons_zero, List.set_cons_succ])
        refine tk 6 102 ?_
        (try simp only [Act.put, List.setIfInBounds_toArray, List.set_cons_zero, List.set_cons_succ])
        refine tk 3 99 ?_
        (try simp only [Act.put, List.setIfInBounds_toArray, List.set_cons_zero, List.set_cons_succ])
        refine tk 7 103 ?_
        (try simp only [Act.put, List.setIfInBounds_toArray, List.set_cons_zero, List.set_cons_succ])
        refine wpAnyH_ready (rs := [4]) (by kernel_rfl) (by simp) ?_
        refine (AllReadyH.cons (o := ⟨some 100, _, _, _, _, _⟩) rfl (fun K hK => ?_) AllReadyH.nil)
        rw [if_pos (by rfl)]
        go_simp
        go_at_call 51
        refine (four_w (St.front (L1 := [_]) hX) (t.at_) (by omega) HB.out.at_.r64).mono ?_
        rintro _ w4 ⟨v9, rfl, h4⟩
        have hF4 := h4
        clear h4 hX
        refine hK.out _ _ ?_ (fun hHeld => ?_)
        · exact ⟨ldS [_, _] hF4 rfl, ldS [_, _] hF4 rfl⟩
        clear hK K
        (try simp only [Act.put, List.setIfInBounds_toArray, List.set_cons_zero, List.set_cons_succ])
        refine wpAnyH_ready (rs := [8]) (by kernel_rfl) (by simp) ?_
        refine (AllReadyH.cons (o := ⟨some 104, _, _, _, _, _⟩) rfl (fun K hK => ?_) AllReadyH.nil)
        rw [if_pos (by rfl)]
        go_simp
        go_at_call 51
        refine (four_w hF4 (t.txg) (by omega) HB.out.txg.r64).mono ?_
        rintro _ w4 ⟨v9, rfl, h4⟩
        have hF5 := h4
        clear h4 hF4
        refine hK.out _ _ ?_ (fun hHeld => ?_)
        · exact ⟨ldS [_, _] hF5 rfl, ldS [_, _] hF5 rfl⟩
        clear hK K
        (try simp only [Act.put, List.setIfInBounds_toArray, List.set_cons_zero, List.set_cons_succ])
        refine tk 9 4 ?_
        (try simp only [Act.put, List.setIfInBounds_toArray, List.set_cons_zero, List.set_cons_succ])
        refine wpAnyH_done (by kernel_rfl) ?_ _
        clear hHeld
        go_wp2_with (first | go_big_skip | go_big_guard | (refine wl_loadE rfl rfl rfl ?_; first | refine ⟨_, Loads.at [_, _] hF5 rfl, ?_⟩) | (apply wl_bsX [.int _ _] [.int _ _] hF5; rfl; rfl; exact rfl; exact rfl; infer_instance; infer_instance; rfl; rfl; rfl; intro gb w5 hQ1; (try simp only [IntKind.wrap_u8] at hQ1); (first | rw [numB1_cells] at hQ1 | rw [show [Value.int .u8 (nl : Int)] = bytesV (numB (nl : Int) 1) from num1_cells _ (by omega)] at hQ1); clear hF5) | (apply wl_appP (ys := bytesV (numB (nl : Int) 1)) [_] hQ1; rfl; rfl; exact rfl; exact rfl; infer_instance; infer_instance; infer_instance; infer_instance; exact (Rd.blk (off := 0) (n := 1) (c := 1) hQ1 (.head _) (Nat.le_refl _) (by decide) (by rw [Hp.length_bytesV, length_numB]) (by rw [List.drop_zero, List.take_length])); exact ones_bytesV _; rfl; exact isB_bytes _; (unfold maxLen; omega); intro v9 w6 hQ2 _; (rw [← bytesV_append] at hQ2); clear hQ1))
        have hV := St.sub (L' := [_, _]) (St.front (L1 := [_, _]) (St.front (L1 := [_, _, _]) hQ2)) (List.Sublist.cons_cons _ (List.Sublist.cons_cons _ (List.Sublist.cons _ (List.Sublist.cons _ (List.Sublist.refl _)))))
        clear hQ2
        go_loopw [4, 9] (fun u i wr => ∃ (k m : Nat), k ≤ nl ∧ i = .int .i64 (k : Int) ∧ m ≤ 3250 + 4 * k ∧ St w [] wr (.rowP isB u 5 1 m (bytesV ((numB t.next 4 ++ numB (t.recs.length : Int) 1 ++ t.recs.flatMap RC.bytes ++ numB t.kind 1 ++ numB t.dev 1 ++ numB t.at_ 4 ++ numB t.txg 4 ++ numB (t.lives.length : Int) 1) ++ (t.lives.take k).flatMap fun n => numB n 4)) :: [.blk g1 30 (tabC t (.slice ar j cr) (.slice al nl cl))])) (fun _ i _ => nl - (intOf i).toNat)
        case atStart => exact ⟨0, m + 2 + 4 + 4 + 1, Nat.zero_le _, rfl, by omega, by have hk : j = t.recs.length := HLN.out.symm; have hk2 : nl = t.lives.length := HN.out.symm; simpa [← hk, ← hk2] using hV⟩
        case round =>
          clear hV
          obtain ⟨k, m, hk, rfl, hm, hst⟩ := hrel
          by_cases hltk : k < nl
          · have e2 : decide ((k : Int) < (nl : Int)) = true := decide_eq_true (by omega)
            have z1 : IntKind.i64.wrap ((k : Int) + 1) = (k : Int) + 1 := IntWalk.i64_in _ (by omega)
            obtain ⟨y, hy⟩ : ∃ y, t.lives[k]? = some y := ⟨_, List.getElem?_eq_getElem (by rw [HN.out]; exact hltk)⟩
            obtain ⟨lb, lo, rfl, hr⟩ := Rd.at HL.out hltk
            have HC := hid (hr k _ (numsV_get hy))
            have HY := hid hy
            have HBY := hid (HB.out.live y (List.mem_of_getElem? hy)).r64
            clear hr hy
            go_wp2_with (first | go_big_skip | go_big_guard | (refine wl_loadE rfl rfl rfl ?_; first | refine ⟨_, Loads.at [_] hst rfl, ?_⟩ | refine ⟨_, Loads.old hst (by rw [Nat.mul_one]; exact HC.out), ?_⟩) | (refine wl_index rfl rfl rfl rfl hltk ?_) | (go_at_call 51; refine (four_w hst y (by omega) HBY.out).mono ?_; rintro _ w4 ⟨v9, rfl, h4⟩; have hst2 := h4; clear h4 hst))
            go_roundw
            case rel =>
              refine ⟨k + 1, ?_, by omega, rfl, ?_, ?_⟩
              rotate_left 2
              · rw [flat_step _ HY.out, ← List.append_assoc]
                exact hst2
              · omega
            case measure => simp [intOf]; omega
          · have e2 : decide ((k : Int) < (nl : Int)) = false := decide_eq_false (by omega)
            obtain rfl : k = nl := by omega
            have e9 : t.lives.take k = t.lives := by rw [List.take_of_length_le (by rw [HN.out]; omega)]
            rw [e9] at hst
            clear e9
            go_wp2_with (first | go_big_skip | go_big_guard | (refine wl_loadE rfl rfl rfl ?_; first | refine ⟨_, Loads.at [_] hst rfl, ?_⟩))
            go_ret2
            refine ⟨_, m, rfl, by omega, ?_⟩
            rw [HT.out]
            exact St.sub hst (.cons_cons _ (.cons _ .slnil))
  · rw [if_pos (by rfl)]
    refine ow_of_wl (ops := #[]) (by rfl) ?_
    apply wl_bsX [.int _ _] [.int _ _] hX
    rfl
    rfl
    exact rfl
    exact rfl
    infer_instance
    infer_instance
    rfl
    rfl
    rfl
    intro gb w5 hF18
    (try simp only [IntKind.wrap_u8] at hF18)
    first | rw [numB1_cells] at hF18 | rw [show [Value.int .u8 ((nr : Int))] = bytesV (numB ((nr : Int)) 1) from num1_cells _ (by omega)] at hF18
    refine q0_nil ?_
    refine hK.out _ _ ?_ (fun hHeld => ?_)
    · exact ⟨ldS [_, _] hF18 rfl, ldS [_, _] hF18 rfl⟩
    clear hK K
    (try simp only [Act.put, List.setIfInBounds_toArray, List.set_cons_zero, List.set_cons_succ])
    refine wpAnyH_ready (rs := [2]) (by kernel_rfl) (by simp) ?_
    refine (AllReadyH.cons (o := ⟨some 15, _, _, _, _, _⟩) rfl (fun K hK => ?_) AllReadyH.nil)
    rw [if_pos (by rfl)]
    go_simp
    go_at_call 51
    refine (four_w (St.front (L1 := [_]) hF18) (t.next) (by omega) HB.out.next.r64).mono ?_
    rintro _ w4 ⟨v9, rfl, h4⟩
    have hF19 := h4
    clear h4 hF18
    refine hK.out _ _ ?_ (fun hHeld => ?_)
    · exact ⟨ldS [_, _] hF19 rfl, ldS [_, _] hF19 rfl⟩
    clear hK K
    (try simp only [Act.put, List.setIfInBounds_toArray, List.set_cons_zero, List.set_cons_succ])
    refine wpAnyH_ready (rs := [8]) (by kernel_rfl) (by simp) ?_
    refine (AllReadyH.cons (o := ⟨some 21, _, _, _, _, _⟩) rfl (fun K hK => ?_) AllReadyH.nil)
    rw [if_pos (by rfl)]
    refine ow_of_wl (ops := #[]) (by rfl) ?_
    apply wl_appP (m := 1) (ys := bytesV (numB (nr : Int) 1)) [] hF19
    rfl
    rfl
    exact rfl
    exact rfl
    infer_instance
    infer_instance
    infer_instance
    infer_instance
    exact (Rd.blk (off := 0) (n := 1) (c := 1) hF19 (.tail _ (.head _)) (Nat.le_refl _) (by decide) (by rw [Hp.length_bytesV, length_numB]) (by rw [List.drop_zero, List.take_length]))
    exact ones_bytesV _
    rfl
    exact isB_bytes _
    (unfold maxLen; omega)
    intro v9 w6 hF20 _
    rw [← bytesV_append] at hF20
    refine q0_nil ?_
    refine hK.out _ _ ?_ (fun hHeld => ?_)
    · exact ⟨ldS [_, _] hF20 rfl, ldS [_, _] hF20 rfl⟩
    clear hK K
    (try simp only [Act.put, List.setIfInBounds_toArray, List.set_cons_zero, List.set_cons_succ])
    refine tk 9 4 ?_
    (try simp only [Act.put, List.setIfInBounds_toArray, List.set_cons_zero, List.set_cons_succ])
    refine wpAnyH_done (by kernel_rfl) ?_ _
    clear hHeld
    have hV0 := St.sub (L' := [_, _]) (St.front (L1 := [_]) (St.front (L1 := [_, _]) hF20)) (List.Sublist.cons_cons _ (List.Sublist.cons_cons _ (List.Sublist.cons _ (List.Sublist.refl _))))
    clear hF20
    go_wp2_with (first | go_big_skip | go_big_guard | fail)
    go_loopw [4, 5] (fun u i wr => ∃ (j m : Nat), j ≤ nr ∧ i = .int .i64 (j : Int) ∧ m ≤ 5 + 200 * j ∧ 5 ≤ m ∧ St w [] wr (.rowP isB u 5 1 m (bytesV ((numB t.next 4 ++ numB (nr : Int) 1) ++ ((xs.map (·.2)).take j).flatMap RC.bytes)) :: [.blk g1 30 (tabC t (.slice ar nr cr) (.slice al nl cl))])) (fun _ i _ => nr - (intOf i).toNat)
    case atStart => exact ⟨0, 0 + 4 + 1, Nat.zero_le _, rfl, by omega, by omega, by simpa using hV0⟩
    case round =>
      clear hV0
      obtain ⟨j, m, hj, rfl, hm, hm5, hst⟩ := hrel
      by_cases hlt : j < nr
      · have e1 : decide ((j : Int) < (nr : Int)) = true := decide_eq_true (by omega)
        have z1 : IntKind.i64.wrap ((j : Int) + 1) = (j : Int) + 1 := IntWalk.i64_in _ (by omega)
        obtain ⟨x, lb, lo, hxj, har, hin, hr⟩ := RecsIn.at HR.out hlt
        subst har
        have hbx := HB.out.recs x.2 (by rw [← HX.out]; exact List.mem_map_of_mem (List.mem_of_getElem? hxj))
        have hn41 := hbx.name
        have hsz : (⟨x.2.name.toArray⟩ : ByteArray).size = x.2.name.length := by simp [ByteArray.size]
        have HXJ := hid hxj
        have HIN := hid hin
        have HLR := hid hin.L
        have HL44 := hid (cellsR_len hin.L)
        have H35 := hid (PV.len (p := x.2.pv x.1) hin.L)
        have HWR := hid hr
        have HBX := hid hbx
        clear hxj hin hr hbx
        go_wp2_with (first | go_big_skip | go_big_guard | (refine wl_loadE rfl rfl rfl ?_; first | refine ⟨_, Loads.at [_] hst rfl, ?_⟩ | refine ⟨_, Loads.oldA (cs := cellsR x) hst HL44.out HWR.out, ?_⟩ | refine ⟨_, Loads.atA ((x.2.pv x.1).cells) [] hst3 H35.out (cellsR_root HLR.out), ?_⟩) | (refine wl_index rfl rfl rfl rfl hlt ?_) | (refine wl_alloc hst rfl rfl ?_; intro gx w2 hst2; clear hst) | (refine wl_storeA [] hst2 rfl rfl rfl rfl (by exact HL44.out) (cellsR_ones HIN.out) rfl ?_; intro w3 hst3; clear hst2) | (go_at_call 52; refine (refBytes_pv (x.2.pv x.1) _ (PV.In.old hst3 HIN.out.1) HBX.out.root).mono ?_; rintro _ w4 ⟨u, rfl, h4⟩; have hst4 := St.call hst3 h4; clear h4 hst3; obtain ⟨uo, uc, rfl, _, _, _⟩ := row_form hst4 (.head _)))
        have hX := hst4.drew
        clear hst4
        refine wp_region_held_drew (S := (fun w' => (loadVarH 3 ⟨gx, 0, none⟩).run Try.prog w' = .ok (.int .i64 x.2.id) w' ∧ (loadVarH 9 ⟨gx, 1, none⟩).run Try.prog w' = .ok (.string ⟨x.2.name.toArray⟩) w')) (by kernel_rfl) (by exact ⟨ldS [_] hX rfl, ldS [_] hX rfl⟩) (fun hHeld => ?_)
        refine tk 0 40 ?_
        (try simp only [Act.put, List.setIfInBounds_toArray, List.set_cons_zero, List.set_cons_succ])
        refine tk 1 41 ?_
        (try simp only [Act.put, List.setIfInBounds_toArray, List.set_cons_zero, List.set_cons_succ])
        refine tk 4 44 ?_
        (try simp only [Act.put, List.setIfInBounds_toArray, List.set_cons_zero, List.set_cons_succ])
        refine tk 2 42 ?_
        (try simp only [Act.put, List.setIfInBounds_toArray, List.set_cons_zero, List.set_cons_succ])
        refine tk 5 45 ?_
        (try simp only [Act.put, List.setIfInBounds_toArray, List.set_cons_zero, List.set_cons_succ])
        refine tk 6 46 ?_
        (try simp only [Act.put, List.setIfInBounds_toArray, List.set_cons_zero, List.set_cons_succ])
        refine tk 7 47 ?_
        (try simp only [Act.put, List.setIfInBounds_toArray, List.set_cons_zero, List.set_cons_succ])
        refine wpAnyH_ready (rs := [3, 8]) (by kernel_rfl) (by simp) ?_
        refine (AllReadyH.cons (o := ⟨some 43, _, _, _, _, _⟩) rfl (fun K hK => ?_) (AllReadyH.cons (o := ⟨some 48, _, _, _, _, _⟩) rfl (fun K hK => ?_) AllReadyH.nil))
        · rw [if_pos (by rfl)]
          go_simp
          go_at_call 51
          refine (four_w (St.front (L1 := [_, _]) hX) (x.2.id) (by omega) HBX.out.id.r64).mono ?_
          rintro _ w4 ⟨v9, rfl, h4⟩
          have hF23 := h4
          clear h4 hX
          refine hK.out _ _ ?_ (fun hHeld => ?_)
          · exact ⟨ldS [_, _] hF23 rfl, ldS [_, _] hF23 rfl⟩
          clear hK K
          (try simp only [Act.put, List.setIfInBounds_toArray, List.set_cons_zero, List.set_cons_succ])
          refine wpAnyH_ready (rs := [8]) (by kernel_rfl) (by simp) ?_
          refine (AllReadyH.cons (o := ⟨some 48, _, _, _, _, _⟩) rfl (fun K hK => ?_) AllReadyH.nil)
          rw [if_pos (by rfl)]
          refine ow_of_wl (ops := #[]) (by rfl) ?_
          apply wl_bsX [.int _ _] [.int _ _] hF23
          rfl
          rfl
          exact rfl
          exact rfl
          infer_instance
          infer_instance
          rfl
          rfl
          rfl
          intro gb w5 hF24
          (try simp only [IntKind.wrap_u8] at hF24)
          first | rw [numB1_cells] at hF24 | rw [show [Value.int .u8 ((x.2.name.length : Int))] = bytesV (numB ((x.2.name.length : Int)) 1) from num1_cells _ (by omega)] at hF24
          refine q0_nil ?_
          refine hK.out _ _ ?_ (fun hHeld => ?_)
          · exact ⟨ldS [_, _, _] hF24 rfl, ldS [_, _, _] hF24 rfl⟩
          clear hK K
          (try simp only [Act.put, List.setIfInBounds_toArray, List.set_cons_zero, List.set_cons_succ])
          refine wpAnyH_ready (rs := [9]) (by kernel_rfl) (by simp) ?_
          refine (AllReadyH.cons (o := ⟨some 49, _, _, _, _, _⟩) rfl (fun K hK => ?_) AllReadyH.nil)
          rw [if_pos (by rfl)]
          refine ow_of_wl (ops := #[]) (by rfl) ?_
          apply wl_appP (m := 1) (ys := bytesV (numB (x.2.name.length : Int) 1)) [_] hF24
          rfl
          rfl
          exact rfl
          exact rfl
          infer_instance
          infer_instance
          infer_instance
          infer_instance
          exact (Rd.blk (off := 0) (n := 1) (c := 1) hF24 (.head _) (Nat.le_refl _) (by decide) (by rw [Hp.length_bytesV, length_numB]) (by rw [List.drop_zero, List.take_length]))
          exact ones_bytesV _
          rfl
          exact isB_bytes _
          (unfold maxLen; omega)
          intro v9 w6 hF25 _
          rw [← bytesV_append] at hF25
          refine q0_nil ?_
          refine hK.out _ _ ?_ (fun hHeld => ?_)
          · exact ⟨ldS [_, _, _] hF25 rfl, ldS [_, _, _] hF25 rfl⟩
          clear hK K
          (try simp only [Act.put, List.setIfInBounds_toArray, List.set_cons_zero, List.set_cons_succ])
          refine tk 10 4 ?_
          (try simp only [Act.put, List.setIfInBounds_toArray, List.set_cons_zero, List.set_cons_succ])
          refine wpAnyH_done (by kernel_rfl) ?_ _
          clear hHeld
          go_wp2_with (first | go_big_skip | go_big_guard | (refine wl_loadE rfl rfl rfl ?_; first | refine ⟨_, Loads.at [_, _, _] hF25 rfl, ?_⟩ | refine ⟨_, Loads.at [_, _, _] hK1 rfl, ?_⟩) | (apply wl_appStrP (l := x.2.name) [_] hF25; rfl; rfl; exact rfl; exact rfl; infer_instance; infer_instance; infer_instance; infer_instance; omega; exact ⟨by omega, by omega, rfl⟩; intro v9 w6 hK1; (rw [← bytesV_append] at hK1); clear hF25) | (apply wl_bsX [.int _ _, .int _ _] [.int _ _, .int _ _] hK1; rfl; rfl; exact rfl; exact rfl; infer_instance; infer_instance; rfl; rfl; rfl; intro gb w5 hK2; (try simp only [IntKind.wrap_u8] at hK2); (rw [numB11_cells] at hK2); clear hK1) | (apply wl_appP (ys := bytesV (numB x.2.kind 1 ++ numB x.2.size 1)) [_, _] hK2; rfl; rfl; exact rfl; exact rfl; infer_instance; infer_instance; infer_instance; infer_instance; exact (Rd.blk (off := 0) (n := 2) (c := 2) hK2 (.head _) (Nat.le_refl _) (by decide) (by rw [Hp.length_bytesV, List.length_append, length_numB, length_numB]) (by rw [List.drop_zero, List.take_length])); exact ones_bytesV _; rfl; exact isB_bytes _; (unfold maxLen; omega); intro v9 w6 hK3 _; (rw [← bytesV_append] at hK3); clear hK2) | (apply wl_appP (ys := bytesV ((x.2.pv x.1).bytes)) [_, _] hK3; rfl; rfl; exact rfl; exact rfl; infer_instance; infer_instance; infer_instance; infer_instance; exact (Rd.row hK3 (.tail _ (.tail _ (.tail _ (.head _))))); exact ones_bytesV _; rfl; exact isB_bytes _; (unfold maxLen; omega); intro v9 w6 hK4 _; (rw [← bytesV_append] at hK4); clear hK3))
          have hZ := hK4.drew
          clear hK4
          refine wp_region_held_drew (S := (fun w' => (loadVarH 3 ⟨gx, 39, none⟩).run Try.prog w' = .ok (.int .i64 x.2.made) w' ∧ (loadVarH 3 ⟨gx, 40, none⟩).run Try.prog w' = .ok (.int .i64 x.2.own) w' ∧ (loadVarH 3 ⟨gx, 41, none⟩).run Try.prog w' = .ok (.int .i64 x.2.origin) w')) (by kernel_rfl) (by exact ⟨ldS [_, _, _, _] hZ (cellsR_39 HLR.out), ldS [_, _, _, _] hZ (cellsR_40 HLR.out), ldS [_, _, _, _] hZ (cellsR_41 HLR.out)⟩) (fun hHeld => ?_)
          refine tk 0 66 ?_
          (try simp only [Act.put, List.setIfInBounds_toArray, List.set_cons_zero, List.set_cons_succ])
          refine tk 1 67 ?_
          (try simp only [Act.put, List.setIfInBounds_toArray, List.set_cons_zero, List.set_cons_succ])
          refine tk 4 70 ?_
          (try simp only [Act.put, List.setIfInBounds_toArray, List.set_cons_zero, List.set_cons_succ])
          refine tk 7 73 ?_
          (try simp only [Act.put, List.setIfInBounds_toArray, List.set_cons_zero, List.set_cons_succ])
          refine tk 2 68 ?_
          (try simp only [Act.put, List.setIfInBounds_toArray, List.set_cons_zero, List.set_cons_succ])
          refine tk 5 71 ?_
          (try simp only [Act.put, List.setIfInBounds_toArray, List.set_cons_zero, List.set_cons_succ])
          refine tk 8 74 ?_
          (try simp only [Act.put, List.setIfInBounds_toArray, List.set_cons_zero, List.set_cons_succ])
          refine wpAnyH_ready (rs := [3]) (by kernel_rfl) (by simp) ?_
          refine (AllReadyH.cons (o := ⟨some 69, _, _, _, _, _⟩) rfl (fun K hK => ?_) AllReadyH.nil)
          rw [if_pos (by rfl)]
          go_simp
          go_at_call 51
          refine (four_w (St.front (L1 := [_, _]) hZ) (x.2.made) (by omega) HBX.out.made.r64).mono ?_
          rintro _ w4 ⟨v9, rfl, h4⟩
          have hF26 := h4
          clear h4 hZ
          refine hK.out _ _ ?_ (fun hHeld => ?_)
          · exact ⟨ldS [_, _, _, _] hF26 (cellsR_39 HLR.out), ldS [_, _, _, _] hF26 (cellsR_40 HLR.out), ldS [_, _, _, _] hF26 (cellsR_41 HLR.out)⟩
          clear hK K
          (try simp only [Act.put, List.setIfInBounds_toArray, List.set_cons_zero, List.set_cons_succ])
          refine wpAnyH_ready (rs := [6]) (by kernel_rfl) (by simp) ?_
          refine (AllReadyH.cons (o := ⟨some 72, _, _, _, _, _⟩) rfl (fun K hK => ?_) AllReadyH.nil)
          rw [if_pos (by rfl)]
          go_simp
          go_at_call 51
          refine (four_w hF26 (x.2.own) (by omega) HBX.out.own.r64).mono ?_
          rintro _ w4 ⟨v9, rfl, h4⟩
          have hF27 := h4
          clear h4 hF26
          refine hK.out _ _ ?_ (fun hHeld => ?_)
          · exact ⟨ldS [_, _, _, _] hF27 (cellsR_39 HLR.out), ldS [_, _, _, _] hF27 (cellsR_40 HLR.out), ldS [_, _, _, _] hF27 (cellsR_41 HLR.out)⟩
          clear hK K
          (try simp only [Act.put, List.setIfInBounds_toArray, List.set_cons_zero, List.set_cons_succ])
          refine wpAnyH_ready (rs := [9]) (by kernel_rfl) (by simp) ?_
          refine (AllReadyH.cons (o := ⟨some 75, _, _, _, _, _⟩) rfl (fun K hK => ?_) AllReadyH.nil)
          rw [if_pos (by rfl)]
          go_simp
          go_at_call 51
          refine (four_w hF27 (x.2.origin) (by omega) HBX.out.origin.r64).mono ?_
          rintro _ w4 ⟨v9, rfl, h4⟩
          have hF28 := h4
          clear h4 hF27
          refine hK.out _ _ ?_ (fun hHeld => ?_)
          · exact ⟨ldS [_, _, _, _] hF28 (cellsR_39 HLR.out), ldS [_, _, _, _] hF28 (cellsR_40 HLR.out), ldS [_, _, _, _] hF28 (cellsR_41 HLR.out)⟩
          clear hK K
          (try simp only [Act.put, List.setIfInBounds_toArray, List.set_cons_zero, List.set_cons_succ])
          refine tk 10 4 ?_
          (try simp only [Act.put, List.setIfInBounds_toArray, List.set_cons_zero, List.set_cons_succ])
          refine wpAnyH_done (by kernel_rfl) ?_ _
          clear hHeld
          go_wp2_with (first | go_big_skip | go_big_guard | (refine wl_loadE rfl rfl rfl ?_; first | refine ⟨_, Loads.at [_, _, _, _] hF28 (cellsR_42 HLR.out), ?_⟩ | refine ⟨_, Loads.at [_, _, _, _] hF28 (cellsR_43 HLR.out), ?_⟩) | (apply wl_bsX [.int _ _, .int _ _] [.int _ _, .int _ _] hF28; rfl; rfl; exact rfl; exact rfl; infer_instance; infer_instance; rfl; rfl; rfl; intro gb w5 hM1; (try simp only [IntKind.wrap_u8] at hM1); (rw [numB11_cells] at hM1); clear hF28) | (apply wl_appP (ys := bytesV (numB x.2.quota 1 ++ numB x.2.reserve 1)) [_] hM1; rfl; rfl; exact rfl; exact rfl; infer_instance; infer_instance; infer_instance; infer_instance; exact (Rd.blk (off := 0) (n := 2) (c := 2) hM1 (.head _) (Nat.le_refl _) (by decide) (by rw [Hp.length_bytesV, List.length_append, length_numB, length_numB]) (by rw [List.drop_zero, List.take_length])); exact ones_bytesV _; rfl; exact isB_bytes _; (unfold maxLen; omega); intro v9 w6 hM2 _; (rw [← bytesV_append] at hM2); clear hM1))
          have h5 := St.sub (L' := [_, _]) (St.front (L1 := [_, _]) (St.front (L1 := [_, _, _, _, _, _]) hM2)) (List.Sublist.cons_cons _ (List.Sublist.cons_cons _ (List.Sublist.cons _ (List.Sublist.cons _ (List.Sublist.cons _ (List.Sublist.cons _ (List.Sublist.cons _ (List.Sublist.refl _))))))))
          clear hM2
          go_wp2_with (first | go_big_skip | go_big_guard | fail)
          go_roundw
          case rel =>
            refine ⟨j + 1, ?_, by omega, rfl, ?_, ?_, ?_⟩
            rotate_left 3
            · rw [flat_step RC.bytes (map_at HXJ.out), RC.bytes]
              simp only [List.append_assoc, List.append_nil] at h5 ⊢
              exact h5
            · omega
            · omega
          case measure => simp [intOf]; omega
        · rw [if_pos (by rfl)]
          refine ow_of_wl (ops := #[]) (by rfl) ?_
          apply wl_bsX [.int _ _] [.int _ _] hX
          rfl
          rfl
          exact rfl
          exact rfl
          infer_instance
          infer_instance
          rfl
          rfl
          rfl
          intro gb w5 hF29
          (try simp only [IntKind.wrap_u8] at hF29)
          first | rw [numB1_cells] at hF29 | rw [show [Value.int .u8 ((x.2.name.length : Int))] = bytesV (numB ((x.2.name.length : Int)) 1) from num1_cells _ (by omega)] at hF29
          refine q0_nil ?_
          refine hK.out _ _ ?_ (fun hHeld => ?_)
          · exact ⟨ldS [_, _] hF29 rfl, ldS [_, _] hF29 rfl⟩
          clear hK K
          (try simp only [Act.put, List.setIfInBounds_toArray, List.set_cons_zero, List.set_cons_succ])
          refine wpAnyH_ready (rs := [3]) (by kernel_rfl) (by simp) ?_
          refine (AllReadyH.cons (o := ⟨some 43, _, _, _, _, _⟩) rfl (fun K hK => ?_) AllReadyH.nil)
          rw [if_pos (by rfl)]
          go_simp
          go_at_call 51
          refine (four_w (St.front (L1 := [_, _, _]) hF29) (x.2.id) (by omega) HBX.out.id.r64).mono ?_
          rintro _ w4 ⟨v9, rfl, h4⟩
          have hF30 := h4
          clear h4 hF29
          refine hK.out _ _ ?_ (fun hHeld => ?_)
          · exact ⟨ldS [_, _, _] hF30 rfl, ldS [_, _, _] hF30 rfl⟩
          clear hK K
          (try simp only [Act.put, List.setIfInBounds_toArray, List.set_cons_zero, List.set_cons_succ])
          refine wpAnyH_ready (rs := [9]) (by kernel_rfl) (by simp) ?_
          refine (AllReadyH.cons (o := ⟨some 49, _, _, _, _, _⟩) rfl (fun K hK => ?_) AllReadyH.nil)
          rw [if_pos (by rfl)]
          refine ow_of_wl (ops := #[]) (by rfl) ?_
          apply wl_appP (m := 1) (ys := bytesV (numB (x.2.name.length : Int) 1)) [] hF30
          rfl
          rfl
          exact rfl
          exact rfl
          infer_instance
          infer_instance
          infer_instance
          infer_instance
          exact (Rd.blk (off := 0) (n := 1) (c := 1) hF30 (.tail _ (.head _)) (Nat.le_refl _) (by decide) (by rw [Hp.length_bytesV, length_numB]) (by rw [List.drop_zero, List.take_length]))
          exact ones_bytesV _
          rfl
          exact isB_bytes _
          (unfold maxLen; omega)
          intro v9 w6 hF31 _
          rw [← bytesV_append] at hF31
          refine q0_nil ?_
          refine hK.out _ _ ?_ (fun hHeld => ?_)
          · exact ⟨ldS [_, _, _] hF31 rfl, ldS [_, _, _] hF31 rfl⟩
          clear hK K
          (try simp only [Act.put, List.setIfInBounds_toArray, List.set_cons_zero, List.set_cons_succ])
          refine tk 10 4 ?_
          (try simp only [Act.put, List.setIfInBounds_toArray, List.set_cons_zero, List.set_cons_succ])
          refine wpAnyH_done (by kernel_rfl) ?_ _
          clear hHeld
          go_wp2_with (first | go_big_skip | go_big_guard | (refine wl_loadE rfl rfl rfl ?_; first | refine ⟨_, Loads.at [_, _, _] hF31 rfl, ?_⟩ | refine ⟨_, Loads.at [_, _, _] hK1 rfl, ?_⟩) | (apply wl_appStrP (l := x.2.name) [] hF31; rfl; rfl; exact rfl; exact rfl; infer_instance; infer_instance; infer_instance; infer_instance; omega; exact ⟨by omega, by omega, rfl⟩; intro v9 w6 hK1; (rw [← bytesV_append] at hK1); clear hF31) | (apply wl_bsX [.int _ _, .int _ _] [.int _ _, .int _ _] hK1; rfl; rfl; exact rfl; exact rfl; infer_instance; infer_instance; rfl; rfl; rfl; intro gb w5 hK2; (try simp only [IntKind.wrap_u8] at hK2); (rw [numB11_cells] at hK2); clear hK1) | (apply wl_appP (ys := bytesV (numB x.2.kind 1 ++ numB x.2.size 1)) [_] hK2; rfl; rfl; exact rfl; exact rfl; infer_instance; infer_instance; infer_instance; infer_instance; exact (Rd.blk (off := 0) (n := 2) (c := 2) hK2 (.head _) (Nat.le_refl _) (by decide) (by rw [Hp.length_bytesV, List.length_append, length_numB, length_numB]) (by rw [List.drop_zero, List.take_length])); exact ones_bytesV _; rfl; exact isB_bytes _; (unfold maxLen; omega); intro v9 w6 hK3 _; (rw [← bytesV_append] at hK3); clear hK2) | (apply wl_appP (ys := bytesV ((x.2.pv x.1).bytes)) [_] hK3; rfl; rfl; exact rfl; exact rfl; infer_instance; infer_instance; infer_instance; infer_instance; exact (Rd.row hK3 (.tail _ (.tail _ (.tail _ (.head _))))); exact ones_bytesV _; rfl; exact isB_bytes _; (unfold maxLen; omega); intro v9 w6 hK4 _; (rw [← bytesV_append] at hK4); clear hK3))
          have hZ := hK4.drew
          clear hK4
          refine wp_region_held_drew (S := (fun w' => (loadVarH 3 ⟨gx, 39, none⟩).run Try.prog w' = .ok (.int .i64 x.2.made) w' ∧ (loadVarH 3 ⟨gx, 40, none⟩).run Try.prog w' = .ok (.int .i64 x.2.own) w' ∧ (loadVarH 3 ⟨gx, 41, none⟩).run Try.prog w' = .ok (.int .i64 x.2.origin) w')) (by kernel_rfl) (by exact ⟨ldS [_, _, _, _] hZ (cellsR_39 HLR.out), ldS [_, _, _, _] hZ (cellsR_40 HLR.out), ldS [_, _, _, _] hZ (cellsR_41 HLR.out)⟩) (fun hHeld => ?_)
          refine tk 0 66 ?_
          (try simp only [Act.put, List.setIfInBounds_toArray, List.set_cons_zero, List.set_cons_succ])
          refine tk 1 67 ?_
          (try simp only [Act.put, List.setIfInBounds_toArray, List.set_cons_zero, List.set_cons_succ])
          refine tk 4 70 ?_
          (try simp only [Act.put, List.setIfInBounds_toArray, List.set_cons_zero, List.set_cons_succ])
          refine tk 7 73 ?_
          (try simp only [Act.put, List.setIfInBounds_toArray, List.set_cons_zero, List.set_cons_succ])
          refine tk 2 68 ?_
          (try simp only [Act.put, List.setIfInBounds_toArray, List.set_cons_zero, List.set_cons_succ])
          refine tk 5 71 ?_
          (try simp only [Act.put, List.setIfInBounds_toArray, List.set_cons_zero, List.set_cons_succ])
          refine tk 8 74 ?_
          (try simp only [Act.put, List.setIfInBounds_toArray, List.set_cons_zero, List.set_cons_succ])
          refine wpAnyH_ready (rs := [3]) (by kernel_rfl) (by simp) ?_
          refine (AllReadyH.cons (o := ⟨some 69, _, _, _, _, _⟩) rfl (fun K hK => ?_) AllReadyH.nil)
          rw [if_pos (by rfl)]
          go_simp
          go_at_call 51
          refine (four_w (St.front (L1 := [_]) hZ) (x.2.made) (by omega) HBX.out.made.r64).mono ?_
          rintro _ w4 ⟨v9, rfl, h4⟩
          have hF32 := h4
          clear h4 hZ
          refine hK.out _ _ ?_ (fun hHeld => ?_)
          · exact ⟨ldS [_, _, _, _] hF32 (cellsR_39 HLR.out), ldS [_, _, _, _] hF32 (cellsR_40 HLR.out), ldS [_, _, _, _] hF32 (cellsR_41 HLR.out)⟩
          clear hK K
          (try simp only [Act.put, List.setIfInBounds_toArray, List.set_cons_zero, List.set_cons_succ])
          refine wpAnyH_ready (rs := [6]) (by kernel_rfl) (by simp) ?_
          refine (AllReadyH.cons (o := ⟨some 72, _, _, _, _, _⟩) rfl (fun K hK => ?_) AllReadyH.nil)
          rw [if_pos (by rfl)]
          go_simp
          go_at_call 51
          refine (four_w hF32 (x.2.own) (by omega) HBX.out.own.r64).mono ?_
          rintro _ w4 ⟨v9, rfl, h4⟩
          have hF33 := h4
          clear h4 hF32
          refine hK.out _ _ ?_ (fun hHeld => ?_)
          · exact ⟨ldS [_, _, _, _] hF33 (cellsR_39 HLR.out), ldS [_, _, _, _] hF33 (cellsR_40 HLR.out), ldS [_, _, _, _] hF33 (cellsR_41 HLR.out)⟩
          clear hK K
          (try simp only [Act.put, List.setIfInBounds_toArray, List.set_cons_zero, List.set_cons_succ])
          refine wpAnyH_ready (rs := [9]) (by kernel_rfl) (by simp) ?_
          refine (AllReadyH.cons (o := ⟨some 75, _, _, _, _, _⟩) rfl (fun K hK => ?_) AllReadyH.nil)
          rw [if_pos (by rfl)]
          go_simp
          go_at_call 51
          refine (four_w hF33 (x.2.origin) (by omega) HBX.out.origin.r64).mono ?_
          rintro _ w4 ⟨v9, rfl, h4⟩
          have hF34 := h4
          clear h4 hF33
          refine hK.out _ _ ?_ (fun hHeld => ?_)
          · exact ⟨ldS [_, _, _, _] hF34 (cellsR_39 HLR.out), ldS [_, _, _, _] hF34 (cellsR_40 HLR.out), ldS [_, _, _, _] hF34 (cellsR_41 HLR.out)⟩
          clear hK K
          (try simp only [Act.put, List.setIfInBounds_toArray, List.set_cons_zero, List.set_cons_succ])
          refine tk 10 4 ?_
          (try simp only [Act.put, List.setIfInBounds_toArray, List.set_cons_zero, List.set_cons_succ])
          refine wpAnyH_done (by kernel_rfl) ?_ _
          clear hHeld
          go_wp2_with (first | go_big_skip | go_big_guard | (refine wl_loadE rfl rfl rfl ?_; first | refine ⟨_, Loads.at [_, _, _, _] hF34 (cellsR_42 HLR.out), ?_⟩ | refine ⟨_, Loads.at [_, _, _, _] hF34 (cellsR_43 HLR.out), ?_⟩) | (apply wl_bsX [.int _ _, .int _ _] [.int _ _, .int _ _] hF34; rfl; rfl; exact rfl; exact rfl; infer_instance; infer_instance; rfl; rfl; rfl; intro gb w5 hM1; (try simp only [IntKind.wrap_u8] at hM1); (rw [numB11_cells] at hM1); clear hF34) | (apply wl_appP (ys := bytesV (numB x.2.quota 1 ++ numB x.2.reserve 1)) [_] hM1; rfl; rfl; exact rfl; exact rfl; infer_instance; infer_instance; infer_instance; infer_instance; exact (Rd.blk (off := 0) (n := 2) (c := 2) hM1 (.head _) (Nat.le_refl _) (by decide) (by rw [Hp.length_bytesV, List.length_append, length_numB, length_numB]) (by rw [List.drop_zero, List.take_length])); exact ones_bytesV _; rfl; exact isB_bytes _; (unfold maxLen; omega); intro v9 w6 hM2 _; (rw [← bytesV_append] at hM2); clear hM1))
          have h5 := St.sub (L' := [_, _]) (St.front (L1 := [_, _]) (St.front (L1 := [_, _, _, _, _, _]) hM2)) (List.Sublist.cons_cons _ (List.Sublist.cons_cons _ (List.Sublist.cons _ (List.Sublist.cons _ (List.Sublist.cons _ (List.Sublist.cons _ (List.Sublist.cons _ (List.Sublist.refl _))))))))
          clear hM2
          go_wp2_with (first | go_big_skip | go_big_guard | fail)
          go_roundw
          case rel =>
            refine ⟨j + 1, ?_, by omega, rfl, ?_, ?_, ?_⟩
            rotate_left 3
            · rw [flat_step RC.bytes (map_at HXJ.out), RC.bytes]
              simp only [List.append_assoc, List.append_nil] at h5 ⊢
              exact h5
            · omega
            · omega
          case measure => simp [intOf]; omega
      · have e1 : decide ((j : Int) < (nr : Int)) = false := decide_eq_false (by omega)
        obtain rfl : j = nr := by omega
        have e9 : (xs.map (·.2)).take j = t.recs := by rw [HX.out, List.take_of_length_le (by rw [HLN.out]; omega)]
        rw [e9] at hst
        clear e9
        go_wp2_with (first | go_big_skip | go_big_guard | (refine wl_loadE rfl rfl rfl ?_; first | refine ⟨_, Loads.at [_] hst rfl, ?_⟩) | (apply wl_bsX [.int _ _, .int _ _] [.int _ _, .int _ _] hst; rfl; rfl; exact rfl; exact rfl; infer_instance; infer_instance; rfl; rfl; rfl; intro gb w5 hP1; (try simp only [IntKind.wrap_u8] at hP1); (rw [numB11_cells] at hP1); clear hst) | (apply wl_appP (ys := bytesV (numB t.kind 1 ++ numB t.dev 1)) [_] hP1; rfl; rfl; exact rfl; exact rfl; infer_instance; infer_instance; infer_instance; infer_instance; exact (Rd.blk (off := 0) (n := 2) (c := 2) hP1 (.head _) (Nat.le_refl _) (by decide) (by rw [Hp.length_bytesV, List.length_append, length_numB, length_numB]) (by rw [List.drop_zero, List.take_length])); exact ones_bytesV _; rfl; exact isB_bytes _; (unfold maxLen; omega); intro v9 w6 hP2 _; (rw [← bytesV_append] at hP2); clear hP1))
        have hX := hP2.drew
        clear hP2
        refine wp_region_held_drew (S := (fun w' => (loadVarH 3 ⟨g1, 4, none⟩).run Try.prog w' = .ok (.int .i64 t.at_) w' ∧ (loadVarH 3 ⟨g1, 5, none⟩).run Try.prog w' = .ok (.int .i64 t.txg) w')) (by kernel_rfl) (by exact ⟨ldS [_, _] hX rfl, ldS [_, _] hX rfl⟩) (fun hHeld => ?_)
        refine tk 0 96 ?_
        (try simp only [Act.put, List.setIfInBounds_toArray, List.set_cons_zero, List.set_cons_succ])
        refine tk 1 97 ?_
        (try simp only [Act.put, List.setIfInBounds_toArray, List.set_cons_zero, List.set_cons_succ])
        refine tk 5 101 ?_
        (try simp only [Act.put, List.setIfInBounds_toArray, List.set_cons_zero, List.set_cons_succ])
        refine tk 2 98 ?_
        (try simp only [Act.put, List.setIfInBounds_toArray, List.set_cons_zero, List.set_cons_succ])
        refine tk 6 102 ?_
        (try simp only [Act.put, List.setIfInBounds_toArray, List.set_cons_zero, List.set_cons_succ])
        refine tk 3 99 ?_
        (try simp only [Act.put, List.setIfInBounds_toArray, List.set_cons_zero, List.set_cons_succ])
        refine tk 7 103 ?_
        (try simp only [Act.put, List.setIfInBounds_toArray, List.set_cons_zero, List.set_cons_succ])
        refine wpAnyH_ready (rs := [4]) (by kernel_rfl) (by simp) ?_
        refine (AllReadyH.cons (o := ⟨some 100, _, _, _, _, _⟩) rfl (fun K hK => ?_) AllReadyH.nil)
        rw [if_pos (by rfl)]
        go_simp
        go_at_call 51
        refine (four_w (St.front (L1 := [_]) hX) (t.at_) (by omega) HB.out.at_.r64).mono ?_
        rintro _ w4 ⟨v9, rfl, h4⟩
        have hF21 := h4
        clear h4 hX
        refine hK.out _ _ ?_ (fun hHeld => ?_)
        · exact ⟨ldS [_, _] hF21 rfl, ldS [_, _] hF21 rfl⟩
        clear hK K
        (try simp only [Act.put, List.setIfInBounds_toArray, List.set_cons_zero, List.set_cons_succ])
        refine wpAnyH_ready (rs := [8]) (by kernel_rfl) (by simp) ?_
        refine (AllReadyH.cons (o := ⟨some 104, _, _, _, _, _⟩) rfl (fun K hK => ?_) AllReadyH.nil)
        rw [if_pos (by rfl)]
        go_simp
        go_at_call 51
        refine (four_w hF21 (t.txg) (by omega) HB.out.txg.r64).mono ?_
        rintro _ w4 ⟨v9, rfl, h4⟩
        have hF22 := h4
        clear h4 hF21
        refine hK.out _ _ ?_ (fun hHeld => ?_)
        · exact ⟨ldS [_, _] hF22 rfl, ldS [_, _] hF22 rfl⟩
        clear hK K
        (try simp only [Act.put, List.setIfInBounds_toArray, List.set_cons_zero, List.set_cons_succ])
        refine tk 9 4 ?_
        (try simp only [Act.put, List.setIfInBounds_toArray, List.set_cons_zero, List.set_cons_succ])
        refine wpAnyH_done (by kernel_rfl) ?_ _
        clear hHeld
        go_wp2_with (first | go_big_skip | go_big_guard | (refine wl_loadE rfl rfl rfl ?_; first | refine ⟨_, Loads.at [_, _] hF22 rfl, ?_⟩) | (apply wl_bsX [.int _ _] [.int _ _] hF22; rfl; rfl; exact rfl; exact rfl; infer_instance; infer_instance; rfl; rfl; rfl; intro gb w5 hQ1; (try simp only [IntKind.wrap_u8] at hQ1); (first | rw [numB1_cells] at hQ1 | rw [show [Value.int .u8 (nl : Int)] = bytesV (numB (nl : Int) 1) from num1_cells _ (by omega)] at hQ1); clear hF22) | (apply wl_appP (ys := bytesV (numB (nl : Int) 1)) [_] hQ1; rfl; rfl; exact rfl; exact rfl; infer_instance; infer_instance; infer_instance; infer_instance; exact (Rd.blk (off := 0) (n := 1) (c := 1) hQ1 (.head _) (Nat.le_refl _) (by decide) (by rw [Hp.length_bytesV, length_numB]) (by rw [List.drop_zero, List.take_length])); exact ones_bytesV _; rfl; exact isB_bytes _; (unfold maxLen; omega); intro v9 w6 hQ2 _; (rw [← bytesV_append] at hQ2); clear hQ1))
        have hV := St.sub (L' := [_, _]) (St.front (L1 := [_, _]) (St.front (L1 := [_, _, _]) hQ2)) (List.Sublist.cons_cons _ (List.Sublist.cons_cons _ (List.Sublist.cons _ (List.Sublist.cons _ (List.Sublist.refl _)))))
        clear hQ2
        go_loopw [4, 9] (fun u i wr => ∃ (k m : Nat), k ≤ nl ∧ i = .int .i64 (k : Int) ∧ m ≤ 3250 + 4 * k ∧ St w [] wr (.rowP isB u 5 1 m (bytesV ((numB t.next 4 ++ numB (t.recs.length : Int) 1 ++ t.recs.flatMap RC.bytes ++ numB t.kind 1 ++ numB t.dev 1 ++ numB t.at_ 4 ++ numB t.txg 4 ++ numB (t.lives.length : Int) 1) ++ (t.lives.take k).flatMap fun n => numB n 4)) :: [.blk g1 30 (tabC t (.slice ar j cr) (.slice al nl cl))])) (fun _ i _ => nl - (intOf i).toNat)
        case atStart => exact ⟨0, m + 2 + 4 + 4 + 1, Nat.zero_le _, rfl, by omega, by have hk : j = t.recs.length := HLN.out.symm; have hk2 : nl = t.lives.length := HN.out.symm; simpa [← hk, ← hk2] using hV⟩
        case round =>
          clear hV
          obtain ⟨k, m, hk, rfl, hm, hst⟩ := hrel
          by_cases hltk : k < nl
          · have e2 : decide ((k : Int) < (nl : Int)) = true := decide_eq_true (by omega)
            have z1 : IntKind.i64.wrap ((k : Int) + 1) = (k : Int) + 1 := IntWalk.i64_in _ (by omega)
            obtain ⟨y, hy⟩ : ∃ y, t.lives[k]? = some y := ⟨_, List.getElem?_eq_getElem (by rw [HN.out]; exact hltk)⟩
            obtain ⟨lb, lo, rfl, hr⟩ := Rd.at HL.out hltk
            have HC := hid (hr k _ (numsV_get hy))
            have HY := hid hy
            have HBY := hid (HB.out.live y (List.mem_of_getElem? hy)).r64
            clear hr hy
            go_wp2_with (first | go_big_skip | go_big_guard | (refine wl_loadE rfl rfl rfl ?_; first | refine ⟨_, Loads.at [_] hst rfl, ?_⟩ | refine ⟨_, Loads.old hst (by rw [Nat.mul_one]; exact HC.out), ?_⟩) | (refine wl_index rfl rfl rfl rfl hltk ?_) | (go_at_call 51; refine (four_w hst y (by omega) HBY.out).mono ?_; rintro _ w4 ⟨v9, rfl, h4⟩; have hst2 := h4; clear h4 hst))
            go_roundw
            case rel =>
              refine ⟨k + 1, ?_, by omega, rfl, ?_, ?_⟩
              rotate_left 2
              · rw [flat_step _ HY.out, ← List.append_assoc]
                exact hst2
              · omega
            case measure => simp [intOf]; omega
          · have e2 : decide ((k : Int) < (nl : Int)) = false := decide_eq_false (by omega)
            obtain rfl : k = nl := by omega
            have e9 : t.lives.take k = t.lives := by rw [List.take_of_length_le (by rw [HN.out]; omega)]
            rw [e9] at hst
            clear e9
            go_wp2_with (first | go_big_skip | go_big_guard | (refine wl_loadE rfl rfl rfl ?_; first | refine ⟨_, Loads.at [_] hst rfl, ?_⟩))
            go_ret2
            refine ⟨_, m, rfl, by omega, ?_⟩
            rw [HT.out]
            exact St.sub hst (.cons_cons _ (.cons _ .slnil))
end Go.Proofs.Ytkpkaoiafppimaa
