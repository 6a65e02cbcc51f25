import Derived.Test.YtlgioloanjjndaaF28
import Derived.Test.YtlgioloanjjndaaF16
import Derived.Test.YtlgioloanjjndaaFA
namespace Go.Proofs.Ytlgioloanjjndaa
set_option linter.unusedVariables false
set_option linter.unusedSimpArgs false
open Go.RowKit Hp
attribute [local irreducible] Go.Calls
set_option maxRecDepth 100000
set_option maxHeartbeats 4000000
instance fAK : TyA Try.prog 58 4 := ⟨by kernel_rfl⟩
instance fNK : TyN Try.prog 58 4 := ⟨by kernel_rfl⟩
/-- What is asked of a reader. -/
structure KV where
  (kind size low high : Int)
def KV.cells (x : KV) : List Value := [.int .i64 x.kind, .int .i64 x.size, .int .i64 x.low, .int .i64 x.high]
def KV.Ok (x : KV) : Prop := -9223372036854775808 ≤ x.size ∧ x.size ≤ 9223372036854775807
def KV.step (B : List UInt8) (x : KV) (s : RS) : RS :=
  if x.kind = 0 then (stepR s (numRR B s.pos x.size x.low x.high) 0).1 else if x.kind = 1 then (stepR s (textRR B s.pos x.size) []).1 else if x.kind = 2 then (stepR s (rawRR B s.pos x.size) []).1 else if x.kind = 3 then (stepR s (restRR B s.pos) ()).1 else s
/-- Both readers, in the same state. -/
def bP (g : Nat) (bv : Value) (q : Nat) (v : Value) (B : List UInt8) (s : RS) : List HA := rP g bv B s ++ qP q v s
def bF (g : Nat) (bv : Value) (q : Nat) (v : Value) (B : List UInt8) (s : RS) : List Nat := (bP g bv q v B s).filterMap HA.foot
section
attribute [local go_sem ↓] loadedInt loadedSl
theorem lread_0 (g : Nat) (bv : Value) (q : Nat) (ao : Option Addr) (N c : Nat) (B : List UInt8) (s : RS) (x : KV) (w : World) (h : St w (bF g bv q (.slice ao N c) B s) w (bP g bv q (.slice ao N c) B s)) (hB : Rd w (.slice ao N c) 1 N (bytesV B)) (ho : Off (.slice ao N c) (bF g bv q (.slice ao N c) B s)) (hq : Off (.slice ao N c) [q]) (hL : B.length = N) (hp : s.pos ≤ N) (hN : N ≤ 100000) (hx : x.Ok) (hk : x.kind = 0) :
    Calls Try.prog 30 #[.pointer (some ⟨g, 0, none⟩), .pointer (some ⟨q, 0, none⟩), .agg x.cells.toArray] w fun e w' => e = .returned (.bool true) ∧ St w (bF g bv q (.slice ao N c) B s) w' (bP g bv q (.slice ao N c) B (x.step B s)) := by
  obtain ⟨T, hT⟩ : ∃ T, T = stepR s (numRR B s.pos x.size x.low x.high) 0 := ⟨_, rfl⟩
  have hR : x.step B s = T.1 := by rw [hT]; simp [KV.step, hk]
  have HT := hid hT
  clear hT
  rw [hR]
  clear hR
  have hst : St w (bF g bv q (.slice ao N c) B s) w (rP g bv B s ++ qP q (.slice ao N c) s) := h
  obtain ⟨F, hF⟩ : ∃ F, F = bF g bv q (.slice ao N c) B s := ⟨_, rfl⟩
  rw [← hF] at hst ho ⊢
  clear h hF
  have HLL := hid hL
  have hpB : s.pos ≤ B.length := by rw [hL]; exact hp
  have hBl : B.length ≤ 100000 := by rw [hL]; exact hN
  clear hL
  obtain ⟨kd, hkd⟩ : ∃ kd, kd = x.kind := ⟨_, rfl⟩
  have d0 : (x.kind == 0) = true := by rw [hk]; rfl
  clear hk hkd
  show Calls Try.prog 30 #[.pointer (some ⟨g, 0, none⟩), .pointer (some ⟨q, 0, none⟩), .agg ([.int .i64 x.kind, .int .i64 x.size, .int .i64 x.low, .int .i64 x.high] : List Value).toArray] w _
  go_enter Try.func30, Try.ntmps30
  go_wp2_with (first | go_big_skip | go_big_guard | (refine wl_loadE rfl rfl rfl ?_; first | refine ⟨_, Loads.at [_, _, _] hst1 rfl, ?_⟩) | (refine wl_boxA hst rfl rfl rfl ?_; intro gx w1 hst0; have hst1 : St w F w1 (rP g bv B s ++ (qP q (.slice ao N c) s ++ [.blk gx 58 [.int .i64 x.kind, .int .i64 x.size, .int .i64 x.low, .int .i64 x.high]])) := St.perm hst0 (List.perm_append_comm (l₁ := [_])); clear hst0 hst))
  have hD := hst1.drew
  clear hst1
  refine wp_region_held_drew (S := (fun w' => (loadVarH 3 ⟨gx, 1, none⟩).run Try.prog w' = .ok (.int .i64 x.size) w' ∧ (loadVarH 3 ⟨gx, 2, none⟩).run Try.prog w' = .ok (.int .i64 x.low) w' ∧ (loadVarH 3 ⟨gx, 3, none⟩).run Try.prog w' = .ok (.int .i64 x.high) w')) (by kernel_rfl) (by exact ⟨Loads.cell kS3.out (St.cell hD (List.mem_append_right _ (List.mem_append_right _ (.head _))) (off := 1) rfl), Loads.cell kS3.out (St.cell hD (List.mem_append_right _ (List.mem_append_right _ (.head _))) (off := 2) rfl), Loads.cell kS3.out (St.cell hD (List.mem_append_right _ (List.mem_append_right _ (.head _))) (off := 3) rfl)⟩) (fun hHeld => ?_)
  refine wpAnyH_take (i := 0) (oi := ⟨some 13, _, _, _, _, _⟩) (v := ?_) rfl (by kernel_rfl) (by kernel_rfl) (by kernel_rfl) (fun _ _ _ h => h) (Or.inl ⟨by rfl, ?_⟩) (by assumption) ?_
  rotate_left
  · intro w hSw; (try dsimp only at hSw); go_simp; try with_reducible rfl
  (try simp only [Act.put, List.setIfInBounds_toArray, List.set_cons_zero, List.set_cons_succ])
  refine wpAnyH_take (i := 1) (oi := ⟨some 14, _, _, _, _, _⟩) (v := ?_) rfl (by kernel_rfl) (by kernel_rfl) (by kernel_rfl) (fun _ _ _ h => h) (Or.inl ⟨by rfl, ?_⟩) (by assumption) ?_
  rotate_left
  · intro w hSw; (try dsimp only at hSw); go_simp; try with_reducible rfl
  (try simp only [Act.put, List.setIfInBounds_toArray, List.set_cons_zero, List.set_cons_succ])
  refine wpAnyH_take (i := 3) (oi := ⟨some 16, _, _, _, _, _⟩) (v := ?_) rfl (by kernel_rfl) (by kernel_rfl) (by kernel_rfl) (fun _ _ _ h => h) (Or.inl ⟨by rfl, ?_⟩) (by assumption) ?_
  rotate_left
  · intro w hSw; (try dsimp only at hSw); go_simp; try with_reducible rfl
  (try simp only [Act.put, List.setIfInBounds_toArray, List.set_cons_zero, List.set_cons_succ])
  refine wpAnyH_take (i := 5) (oi := ⟨some 18, _, _, _, _, _⟩) (v := ?_) rfl (by kernel_rfl) (by kernel_rfl) (by kernel_rfl) (fun _ _ _ h => h) (Or.inl ⟨by rfl, ?_⟩) (by assumption) ?_
  rotate_left
  · intro w hSw; (try dsimp only at hSw); go_simp; try with_reducible rfl
  (try simp only [Act.put, List.setIfInBounds_toArray, List.set_cons_zero, List.set_cons_succ])
  refine wpAnyH_take (i := 8) (oi := ⟨some 21, _, _, _, _, _⟩) (v := ?_) rfl (by kernel_rfl) (by kernel_rfl) (by kernel_rfl) (fun _ _ _ h => h) (Or.inl ⟨by rfl, ?_⟩) (by assumption) ?_
  rotate_left
  · intro w hSw; (try dsimp only at hSw); go_simp; try with_reducible rfl
  (try simp only [Act.put, List.setIfInBounds_toArray, List.set_cons_zero, List.set_cons_succ])
  refine wpAnyH_take (i := 9) (oi := ⟨some 22, _, _, _, _, _⟩) (v := ?_) rfl (by kernel_rfl) (by kernel_rfl) (by kernel_rfl) (fun _ _ _ h => h) (Or.inl ⟨by rfl, ?_⟩) (by assumption) ?_
  rotate_left
  · intro w hSw; (try dsimp only at hSw); go_simp; try with_reducible rfl
  (try simp only [Act.put, List.setIfInBounds_toArray, List.set_cons_zero, List.set_cons_succ])
  refine wpAnyH_take (i := 11) (oi := ⟨some 24, _, _, _, _, _⟩) (v := ?_) rfl (by kernel_rfl) (by kernel_rfl) (by kernel_rfl) (fun _ _ _ h => h) (Or.inl ⟨by rfl, ?_⟩) (by assumption) ?_
  rotate_left
  · intro w hSw; (try dsimp only at hSw); go_simp; try with_reducible rfl
  (try simp only [Act.put, List.setIfInBounds_toArray, List.set_cons_zero, List.set_cons_succ])
  refine wpAnyH_take (i := 13) (oi := ⟨some 26, _, _, _, _, _⟩) (v := ?_) rfl (by kernel_rfl) (by kernel_rfl) (by kernel_rfl) (fun _ _ _ h => h) (Or.inl ⟨by rfl, ?_⟩) (by assumption) ?_
  rotate_left
  · intro w hSw; (try dsimp only at hSw); go_simp; try with_reducible rfl
  (try simp only [Act.put, List.setIfInBounds_toArray, List.set_cons_zero, List.set_cons_succ])
  refine wpAnyH_take (i := 2) (oi := ⟨some 15, _, _, _, _, _⟩) (v := ?_) rfl (by kernel_rfl) (by kernel_rfl) (by kernel_rfl) (fun _ _ _ h => h) (Or.inl ⟨by rfl, ?_⟩) (by assumption) ?_
  rotate_left
  · intro w hSw; (try dsimp only at hSw); go_simp; try with_reducible rfl
  (try simp only [Act.put, List.setIfInBounds_toArray, List.set_cons_zero, List.set_cons_succ])
  refine wpAnyH_take (i := 4) (oi := ⟨some 17, _, _, _, _, _⟩) (v := ?_) rfl (by kernel_rfl) (by kernel_rfl) (by kernel_rfl) (fun _ _ _ h => h) (Or.inl ⟨by rfl, ?_⟩) (by assumption) ?_
  rotate_left
  · intro w hSw; (try dsimp only at hSw); go_simp; try with_reducible rfl
  (try simp only [Act.put, List.setIfInBounds_toArray, List.set_cons_zero, List.set_cons_succ])
  refine wpAnyH_take (i := 6) (oi := ⟨some 19, _, _, _, _, _⟩) (v := ?_) rfl (by kernel_rfl) (by kernel_rfl) (by kernel_rfl) (fun _ _ _ h => h) (Or.inl ⟨by rfl, ?_⟩) (by assumption) ?_
  rotate_left
  · intro w hSw; (try dsimp only at hSw); go_simp; try with_reducible rfl
  (try simp only [Act.put, List.setIfInBounds_toArray, List.set_cons_zero, List.set_cons_succ])
  refine wpAnyH_take (i := 10) (oi := ⟨some 23, _, _, _, _, _⟩) (v := ?_) rfl (by kernel_rfl) (by kernel_rfl) (by kernel_rfl) (fun _ _ _ h => h) (Or.inl ⟨by rfl, ?_⟩) (by assumption) ?_
  rotate_left
  · intro w hSw; (try dsimp only at hSw); go_simp; try with_reducible rfl
  (try simp only [Act.put, List.setIfInBounds_toArray, List.set_cons_zero, List.set_cons_succ])
  refine wpAnyH_take (i := 12) (oi := ⟨some 25, _, _, _, _, _⟩) (v := ?_) rfl (by kernel_rfl) (by kernel_rfl) (by kernel_rfl) (fun _ _ _ h => h) (Or.inl ⟨by rfl, ?_⟩) (by assumption) ?_
  rotate_left
  · intro w hSw; (try dsimp only at hSw); go_simp; try with_reducible rfl
  (try simp only [Act.put, List.setIfInBounds_toArray, List.set_cons_zero, List.set_cons_succ])
  refine wpAnyH_take (i := 14) (oi := ⟨some 27, _, _, _, _, _⟩) (v := ?_) rfl (by kernel_rfl) (by kernel_rfl) (by kernel_rfl) (fun _ _ _ h => h) (Or.inl ⟨by rfl, ?_⟩) (by assumption) ?_
  rotate_left
  · intro w hSw; (try dsimp only at hSw); go_simp; try with_reducible rfl
  (try simp only [Act.put, List.setIfInBounds_toArray, List.set_cons_zero, List.set_cons_succ])
  refine wpAnyH_ready (rs := [7]) (by kernel_rfl) (by simp) ?_
  refine (AllReadyH.cons (o := ⟨some 20, _, _, _, _, _⟩) rfl (fun K hK => ?_) AllReadyH.nil)
  go_simp
  go_at_call 23
  have hShN1 := (St.sub hD (List.sublist_append_left (rP g bv B s) _)).selfF
  refine (rNum_any g bv B s x.size x.low x.high _ hShN1 hpB hBl hx).mono ?_
  rw [← HT.out]
  rintro _ w5 ⟨rfl, h4⟩
  have hmhN1 := St.callF (rP g bv B s) hD h4
  have hN1 : St w F w5 (qP q (.slice ao N c) s ++ ([.blk gx 58 [.int .i64 x.kind, .int .i64 x.size, .int .i64 x.low, .int .i64 x.high]] ++ rP g bv B T.1)) := St.perm hmhN1 (List.perm_append_comm (l₁ := rP g bv B T.1))
  clear h4 hmhN1 hShN1
  refine hK.out _ _ ?_ (fun hHeld => ?_)
  · exact ⟨Loads.cell kS3.out (St.cell hN1 (List.mem_append_right _ (List.mem_append_left _ (.head _))) (off := 1) rfl), Loads.cell kS3.out (St.cell hN1 (List.mem_append_right _ (List.mem_append_left _ (.head _))) (off := 2) rfl), Loads.cell kS3.out (St.cell hN1 (List.mem_append_right _ (List.mem_append_left _ (.head _))) (off := 3) rfl)⟩
  clear hK K
  (try simp only [Act.put, List.setIfInBounds_toArray, List.set_cons_zero, List.set_cons_succ])
  refine wpAnyH_ready (rs := [15]) (by kernel_rfl) (by simp) ?_
  refine (AllReadyH.cons (o := ⟨some 28, _, _, _, _, _⟩) rfl (fun K hK => ?_) AllReadyH.nil)
  go_simp
  go_at_call 55
  refine (qnum_any q ao N c B s x.size x.low x.high _ (St.sub hN1 (List.sublist_append_left (qP q (.slice ao N c) s) _)) (Rd.oldM hN1 hB ho) hq HLL.out hp hN hx).mono ?_
  rw [← HT.out]
  rintro _ w6 ⟨rfl, h4⟩
  have hmhN2 := St.callF (qP q (.slice ao N c) s) hN1 h4
  have hN2 : St w F w6 ([.blk gx 58 [.int .i64 x.kind, .int .i64 x.size, .int .i64 x.low, .int .i64 x.high]] ++ (rP g bv B T.1 ++ qP q (.slice ao N c) T.1)) := St.perm hmhN2 (List.perm_append_comm (l₁ := qP q (.slice ao N c) T.1))
  clear h4 hmhN2
  refine hK.out _ _ ?_ (fun hHeld => ?_)
  · exact ⟨Loads.cell kS3.out (St.cell hN2 (.head _) (off := 1) rfl), Loads.cell kS3.out (St.cell hN2 (.head _) (off := 2) rfl), Loads.cell kS3.out (St.cell hN2 (.head _) (off := 3) rfl)⟩
  clear hK K
  (try simp only [Act.put, List.setIfInBounds_toArray, List.set_cons_zero, List.set_cons_succ])
  refine wpAnyH_take (i := 16) (oi := ⟨some 29, _, _, _, _, _⟩) (v := ?_) rfl (by kernel_rfl) (by kernel_rfl) (by kernel_rfl) (fun _ _ _ h => h) (Or.inl ⟨by rfl, ?_⟩) (by assumption) ?_
  rotate_left
  · intro w hSw; (try dsimp only at hSw); go_simp; try with_reducible rfl
  (try simp only [Act.put, List.setIfInBounds_toArray, List.set_cons_zero, List.set_cons_succ])
  refine wpAnyH_take (i := 17) (oi := ⟨some 6, _, _, _, _, _⟩) (v := ?_) rfl (by kernel_rfl) (by kernel_rfl) (by kernel_rfl) (fun _ _ _ h => h) (Or.inl ⟨by rfl, ?_⟩) (by assumption) ?_
  rotate_left
  · intro w hSw; (try dsimp only at hSw); go_simp; try with_reducible rfl
  (try simp only [Act.put, List.setIfInBounds_toArray, List.set_cons_zero, List.set_cons_succ])
  refine wpAnyH_done (by kernel_rfl) ?_ _
  clear hHeld
  go_wp2_with (first | go_big_skip | go_big_guard | fail)
  go_ret
  exact ⟨by simp, St.sub hN2 (List.sublist_append_right [_] _)⟩
theorem lread_1 (g : Nat) (bv : Value) (q : Nat) (ao : Option Addr) (N c : Nat) (B : List UInt8) (s : RS) (x : KV) (w : World) (h : St w (bF g bv q (.slice ao N c) B s) w (bP g bv q (.slice ao N c) B s)) (hB : Rd w (.slice ao N c) 1 N (bytesV B)) (ho : Off (.slice ao N c) (bF g bv q (.slice ao N c) B s)) (hq : Off (.slice ao N c) [q]) (hL : B.length = N) (hp : s.pos ≤ N) (hN : N ≤ 100000) (hx : x.Ok) (hk : x.kind = 1) :
    Calls Try.prog 30 #[.pointer (some ⟨g, 0, none⟩), .pointer (some ⟨q, 0, none⟩), .agg x.cells.toArray] w fun e w' => e = .returned (.bool true) ∧ St w (bF g bv q (.slice ao N c) B s) w' (bP g bv q (.slice ao N c) B (x.step B s)) := by
  obtain ⟨T, hT⟩ : ∃ T, T = stepR s (textRR B s.pos x.size) [] := ⟨_, rfl⟩
  have hR : x.step B s = T.1 := by rw [hT]; simp [KV.step, hk]
  have HT := hid hT
  clear hT
  rw [hR]
  clear hR
  have hst : St w (bF g bv q (.slice ao N c) B s) w (rP g bv B s ++ qP q (.slice ao N c) s) := h
  obtain ⟨F, hF⟩ : ∃ F, F = bF g bv q (.slice ao N c) B s := ⟨_, rfl⟩
  rw [← hF] at hst ho ⊢
  clear h hF
  have HLL := hid hL
  have hpB : s.pos ≤ B.length := by rw [hL]; exact hp
  have hBl : B.length ≤ 100000 := by rw [hL]; exact hN
  clear hL
  obtain ⟨kd, hkd⟩ : ∃ kd, kd = x.kind := ⟨_, rfl⟩
  have d0 : (x.kind == 0) = false := by rw [hk]; rfl
  have d1 : (x.kind == 1) = true := by rw [hk]; rfl
  clear hk hkd
  show Calls Try.prog 30 #[.pointer (some ⟨g, 0, none⟩), .pointer (some ⟨q, 0, none⟩), .agg ([.int .i64 x.kind, .int .i64 x.size, .int .i64 x.low, .int .i64 x.high] : List Value).toArray] w _
  go_enter Try.func30, Try.ntmps30
  go_wp2_with (first | go_big_skip | go_big_guard | (refine wl_loadE rfl rfl rfl ?_; first | refine ⟨_, Loads.at [_, _, _] hst1 rfl, ?_⟩) | (refine wl_boxA hst rfl rfl rfl ?_; intro gx w1 hst0; have hst1 : St w F w1 (rP g bv B s ++ (qP q (.slice ao N c) s ++ [.blk gx 58 [.int .i64 x.kind, .int .i64 x.size, .int .i64 x.low, .int .i64 x.high]])) := St.perm hst0 (List.perm_append_comm (l₁ := [_])); clear hst0 hst))
  have hD := hst1.drew
  clear hst1
  refine wp_region_held_drew (S := (fun w' => (loadVarH 3 ⟨gx, 1, none⟩).run Try.prog w' = .ok (.int .i64 x.size) w')) (by kernel_rfl) (by exact Loads.cell kS3.out (St.cell hD (List.mem_append_right _ (List.mem_append_right _ (.head _))) (off := 1) rfl)) (fun hHeld => ?_)
  refine wpAnyH_take (i := 0) (oi := ⟨some 32, _, _, _, _, _⟩) (v := ?_) rfl (by kernel_rfl) (by kernel_rfl) (by kernel_rfl) (fun _ _ _ h => h) (Or.inl ⟨by rfl, ?_⟩) (by assumption) ?_
  rotate_left
  · intro w hSw; (try dsimp only at hSw); go_simp; try with_reducible rfl
  (try simp only [Act.put, List.setIfInBounds_toArray, List.set_cons_zero, List.set_cons_succ])
  refine wpAnyH_take (i := 1) (oi := ⟨some 33, _, _, _, _, _⟩) (v := ?_) rfl (by kernel_rfl) (by kernel_rfl) (by kernel_rfl) (fun _ _ _ h => h) (Or.inl ⟨by rfl, ?_⟩) (by assumption) ?_
  rotate_left
  · intro w hSw; (try dsimp only at hSw); go_simp; try with_reducible rfl
  (try simp only [Act.put, List.setIfInBounds_toArray, List.set_cons_zero, List.set_cons_succ])
  refine wpAnyH_take (i := 4) (oi := ⟨some 36, _, _, _, _, _⟩) (v := ?_) rfl (by kernel_rfl) (by kernel_rfl) (by kernel_rfl) (fun _ _ _ h => h) (Or.inl ⟨by rfl, ?_⟩) (by assumption) ?_
  rotate_left
  · intro w hSw; (try dsimp only at hSw); go_simp; try with_reducible rfl
  (try simp only [Act.put, List.setIfInBounds_toArray, List.set_cons_zero, List.set_cons_succ])
  refine wpAnyH_take (i := 5) (oi := ⟨some 37, _, _, _, _, _⟩) (v := ?_) rfl (by kernel_rfl) (by kernel_rfl) (by kernel_rfl) (fun _ _ _ h => h) (Or.inl ⟨by rfl, ?_⟩) (by assumption) ?_
  rotate_left
  · intro w hSw; (try dsimp only at hSw); go_simp; try with_reducible rfl
  (try simp only [Act.put, List.setIfInBounds_toArray, List.set_cons_zero, List.set_cons_succ])
  refine wpAnyH_take (i := 2) (oi := ⟨some 34, _, _, _, _, _⟩) (v := ?_) rfl (by kernel_rfl) (by kernel_rfl) (by kernel_rfl) (fun _ _ _ h => h) (Or.inl ⟨by rfl, ?_⟩) (by assumption) ?_
  rotate_left
  · intro w hSw; (try dsimp only at hSw); go_simp; try with_reducible rfl
  (try simp only [Act.put, List.setIfInBounds_toArray, List.set_cons_zero, List.set_cons_succ])
  refine wpAnyH_take (i := 6) (oi := ⟨some 38, _, _, _, _, _⟩) (v := ?_) rfl (by kernel_rfl) (by kernel_rfl) (by kernel_rfl) (fun _ _ _ h => h) (Or.inl ⟨by rfl, ?_⟩) (by assumption) ?_
  rotate_left
  · intro w hSw; (try dsimp only at hSw); go_simp; try with_reducible rfl
  (try simp only [Act.put, List.setIfInBounds_toArray, List.set_cons_zero, List.set_cons_succ])
  refine wpAnyH_ready (rs := [3]) (by kernel_rfl) (by simp) ?_
  refine (AllReadyH.cons (o := ⟨some 35, _, _, _, _, _⟩) rfl (fun K hK => ?_) AllReadyH.nil)
  go_simp
  go_at_call 24
  have hShN3 := (St.sub hD (List.sublist_append_left (rP g bv B s) _)).selfF
  refine (rText_any g bv B s x.size _ hShN3 hpB hBl hx).mono ?_
  rw [← HT.out]
  rintro _ w5 ⟨rfl, h4⟩
  have hmhN3 := St.callF (rP g bv B s) hD h4
  have hN3 : St w F w5 (qP q (.slice ao N c) s ++ ([.blk gx 58 [.int .i64 x.kind, .int .i64 x.size, .int .i64 x.low, .int .i64 x.high]] ++ rP g bv B T.1)) := St.perm hmhN3 (List.perm_append_comm (l₁ := rP g bv B T.1))
  clear h4 hmhN3 hShN3
  refine hK.out _ _ ?_ (fun hHeld => ?_)
  · exact Loads.cell kS3.out (St.cell hN3 (List.mem_append_right _ (List.mem_append_left _ (.head _))) (off := 1) rfl)
  clear hK K
  (try simp only [Act.put, List.setIfInBounds_toArray, List.set_cons_zero, List.set_cons_succ])
  refine wpAnyH_ready (rs := [7]) (by kernel_rfl) (by simp) ?_
  refine (AllReadyH.cons (o := ⟨some 39, _, _, _, _, _⟩) rfl (fun K hK => ?_) AllReadyH.nil)
  go_simp
  go_at_call 56
  refine (qtext_any q ao N c B s x.size _ (St.sub hN3 (List.sublist_append_left (qP q (.slice ao N c) s) _)) (Rd.oldM hN3 hB ho) hq HLL.out hp hN hx).mono ?_
  rw [← HT.out]
  rintro _ w6 ⟨rfl, h4⟩
  have hmhN4 := St.callF (qP q (.slice ao N c) s) hN3 h4
  have hN4 : St w F w6 ([.blk gx 58 [.int .i64 x.kind, .int .i64 x.size, .int .i64 x.low, .int .i64 x.high]] ++ (rP g bv B T.1 ++ qP q (.slice ao N c) T.1)) := St.perm hmhN4 (List.perm_append_comm (l₁ := qP q (.slice ao N c) T.1))
  clear h4 hmhN4
  refine hK.out _ _ ?_ (fun hHeld => ?_)
  · exact Loads.cell kS3.out (St.cell hN4 (.head _) (off := 1) rfl)
  clear hK K
  (try simp only [Act.put, List.setIfInBounds_toArray, List.set_cons_zero, List.set_cons_succ])
  refine wpAnyH_take (i := 8) (oi := ⟨some 40, _, _, _, _, _⟩) (v := ?_) rfl (by kernel_rfl) (by kernel_rfl) (by kernel_rfl) (fun _ _ _ h => h) (Or.inl ⟨by rfl, ?_⟩) (by assumption) ?_
  rotate_left
  · intro w hSw; (try dsimp only at hSw); go_simp; try with_reducible rfl
  (try simp only [Act.put, List.setIfInBounds_toArray, List.set_cons_zero, List.set_cons_succ])
  refine wpAnyH_take (i := 9) (oi := ⟨some 6, _, _, _, _, _⟩) (v := ?_) rfl (by kernel_rfl) (by kernel_rfl) (by kernel_rfl) (fun _ _ _ h => h) (Or.inl ⟨by rfl, ?_⟩) (by assumption) ?_
  rotate_left
  · intro w hSw; (try dsimp only at hSw); go_simp; try with_reducible rfl
  (try simp only [Act.put, List.setIfInBounds_toArray, List.set_cons_zero, List.set_cons_succ])
  refine wpAnyH_done (by kernel_rfl) ?_ _
  clear hHeld
  go_wp2_with (first | go_big_skip | go_big_guard | fail)
  go_ret
  exact ⟨by simp, St.sub hN4 (List.sublist_append_right [_] _)⟩
theorem lread_2 (g : Nat) (bv : Value) (q : Nat) (ao : Option Addr) (N c : Nat) (B : List UInt8) (s : RS) (x : KV) (w : World) (h : St w (bF g bv q (.slice ao N c) B s) w (bP g bv q (.slice ao N c) B s)) (hB : Rd w (.slice ao N c) 1 N (bytesV B)) (ho : Off (.slice ao N c) (bF g bv q (.slice ao N c) B s)) (hq : Off (.slice ao N c) [q]) (hL : B.length = N) (hp : s.pos ≤ N) (hN : N ≤ 100000) (hx : x.Ok) (hk : x.kind = 2) :
    Calls Try.prog 30 #[.pointer (some ⟨g, 0, none⟩), .pointer (some ⟨q, 0, none⟩), .agg x.cells.toArray] w fun e w' => e = .returned (.bool true) ∧ St w (bF g bv q (.slice ao N c) B s) w' (bP g bv q (.slice ao N c) B (x.step B s)) := by
  obtain ⟨T, hT⟩ : ∃ T, T = stepR s (rawRR B s.pos x.size) [] := ⟨_, rfl⟩
  have hR : x.step B s = T.1 := by rw [hT]; simp [KV.step, hk]
  have HT := hid hT
  clear hT
  rw [hR]
  clear hR
  have hst : St w (bF g bv q (.slice ao N c) B s) w (rP g bv B s ++ qP q (.slice ao N c) s) := h
  obtain ⟨F, hF⟩ : ∃ F, F = bF g bv q (.slice ao N c) B s := ⟨_, rfl⟩
  rw [← hF] at hst ho ⊢
  clear h hF
  have HLL := hid hL
  have hpB : s.pos ≤ B.length := by rw [hL]; exact hp
  have hBl : B.length ≤ 100000 := by rw [hL]; exact hN
  clear hL
  obtain ⟨kd, hkd⟩ : ∃ kd, kd = x.kind := ⟨_, rfl⟩
  have d0 : (x.kind == 0) = false := by rw [hk]; rfl
  have d1 : (x.kind == 1) = false := by rw [hk]; rfl
  have d2 : (x.kind == 2) = true := by rw [hk]; rfl
  clear hk hkd
  show Calls Try.prog 30 #[.pointer (some ⟨g, 0, none⟩), .pointer (some ⟨q, 0, none⟩), .agg ([.int .i64 x.kind, .int .i64 x.size, .int .i64 x.low, .int .i64 x.high] : List Value).toArray] w _
  go_enter Try.func30, Try.ntmps30
  go_wp2_with (first | go_big_skip | go_big_guard | (refine wl_loadE rfl rfl rfl ?_; first | refine ⟨_, Loads.at [_, _, _] hst1 rfl, ?_⟩ | refine ⟨_, Loads.at [_] hst5 rfl, ?_⟩) | (refine wl_boxA hst rfl rfl rfl ?_; intro gx w1 hst0; have hst1 : St w F w1 (rP g bv B s ++ (qP q (.slice ao N c) s ++ [.blk gx 58 [.int .i64 x.kind, .int .i64 x.size, .int .i64 x.low, .int .i64 x.high]])) := St.perm hst0 (List.perm_append_comm (l₁ := [_])); clear hst0 hst) | (go_at_call 36; have hS := (St.sub hst1 (List.sublist_append_left (rP g bv B s) _)).selfF; refine (rRaw_any g bv B s x.size _ hS hpB hBl hx).mono ?_; rw [← HT.out]; rintro _ w5 ⟨u, rfl, h4⟩; have hm := St.callF (rP g bv B s) hst1 h4; have hst5 : St w F w5 (qP q (.slice ao N c) s ++ ([.blk gx 58 [.int .i64 x.kind, .int .i64 x.size, .int .i64 x.low, .int .i64 x.high]] ++ (rP g bv B T.1 ++ [.rowP isB u 5 1 T.2.length (bytesV T.2)]))) := St.perm hm (List.perm_append_comm (l₁ := rP g bv B T.1 ++ [_])); clear h4 hm hS hst1) | (go_at_call 57; refine (qraw_any q ao N c B s x.size _ (St.sub hst5 (List.sublist_append_left (qP q (.slice ao N c) s) _)) (Rd.oldM hst5 hB ho) hq HLL.out hp hN).mono ?_; rw [← HT.out]; rintro _ w6 ⟨u2, rfl, h4⟩; have hm6 := St.callF (qP q (.slice ao N c) s) hst5 h4; have hst6 : St w F w6 ([.blk q 61 [.slice ao N c, .int .i64 T.1.pos, .int .i64 T.1.e, .int .i64 T.1.fa], .rowP isB u2 5 1 T.2.length (bytesV T.2), .blk gx 58 [.int .i64 x.kind, .int .i64 x.size, .int .i64 x.low, .int .i64 x.high], .blk g 67 [.bool true, bv, .int .i64 T.1.pos, .int .i64 T.1.e, .int .i64 T.1.fa], .rowP isB bv 5 1 B.length (bytesV B)] ++ .rowP isB u 5 1 T.2.length (bytesV T.2) :: []) := hm6; clear h4 hst5 hm6) | (go_at_call 17; refine (sameBytes_any _ _ T.2.length T.2.length T.2 T.2 _ (Rd.rowP hst6 (List.mem_append_right _ (.head _))) (Rd.rowP hst6 (List.mem_append_left _ (.tail _ (.head _))))).mono ?_; rw [beq_self_eq_true]; rintro _ _ ⟨rfl, h4⟩; have hst7 := St.front _ (St.call0 hst6 h4); clear h4 hst6) | (go_at_call 18; refine (over_rowP _ _ _ _ (hst7.ownsP (.head _)).1 (hst7.ownsP (.head _)).2).mono ?_; rintro _ w8 ⟨rfl, h4⟩; have hst8 := St.callRowP hst7 h4; clear h4 hst7))
  go_ret
  have hst9 : St w F _ (qP q (.slice ao N c) T.1 ++ rP g bv B T.1) := St.sub hst8 (.cons_cons _ (.cons _ (.cons _ (List.Sublist.refl _))))
  exact ⟨rfl, St.perm hst9 List.perm_append_comm⟩
theorem lread_3 (g : Nat) (bv : Value) (q : Nat) (ao : Option Addr) (N c : Nat) (B : List UInt8) (s : RS) (x : KV) (w : World) (h : St w (bF g bv q (.slice ao N c) B s) w (bP g bv q (.slice ao N c) B s)) (hB : Rd w (.slice ao N c) 1 N (bytesV B)) (ho : Off (.slice ao N c) (bF g bv q (.slice ao N c) B s)) (hq : Off (.slice ao N c) [q]) (hL : B.length = N) (hp : s.pos ≤ N) (hN : N ≤ 100000) (hx : x.Ok) (hk : x.kind = 3) :
    Calls Try.prog 30 #[.pointer (some ⟨g, 0, none⟩), .pointer (some ⟨q, 0, none⟩), .agg x.cells.toArray] w fun e w' => e = .returned (.bool true) ∧ St w (bF g bv q (.slice ao N c) B s) w' (bP g bv q (.slice ao N c) B (x.step B s)) := by
  obtain ⟨T, hT⟩ : ∃ T, T = stepR s (restRR B s.pos) () := ⟨_, rfl⟩
  have hR : x.step B s = T.1 := by rw [hT]; simp [KV.step, hk]
  have HT := hid hT
  clear hT
  rw [hR]
  clear hR
  have hst : St w (bF g bv q (.slice ao N c) B s) w (rP g bv B s ++ qP q (.slice ao N c) s) := h
  obtain ⟨F, hF⟩ : ∃ F, F = bF g bv q (.slice ao N c) B s := ⟨_, rfl⟩
  rw [← hF] at hst ho ⊢
  clear h hF
  have HLL := hid hL
  have hpB : s.pos ≤ B.length := by rw [hL]; exact hp
  have hBl : B.length ≤ 100000 := by rw [hL]; exact hN
  clear hL
  obtain ⟨kd, hkd⟩ : ∃ kd, kd = x.kind := ⟨_, rfl⟩
  have d0 : (x.kind == 0) = false := by rw [hk]; rfl
  have d1 : (x.kind == 1) = false := by rw [hk]; rfl
  have d2 : (x.kind == 2) = false := by rw [hk]; rfl
  have d3 : (x.kind == 3) = true := by rw [hk]; rfl
  clear hk hkd
  show Calls Try.prog 30 #[.pointer (some ⟨g, 0, none⟩), .pointer (some ⟨q, 0, none⟩), .agg ([.int .i64 x.kind, .int .i64 x.size, .int .i64 x.low, .int .i64 x.high] : List Value).toArray] w _
  go_enter Try.func30, Try.ntmps30
  go_wp2_with (first | go_big_skip | go_big_guard | (refine wl_loadE rfl rfl rfl ?_; first | refine ⟨_, Loads.at [_, _, _] hst1 rfl, ?_⟩) | (refine wl_boxA hst rfl rfl rfl ?_; intro gx w1 hst0; have hst1 : St w F w1 (rP g bv B s ++ (qP q (.slice ao N c) s ++ [.blk gx 58 [.int .i64 x.kind, .int .i64 x.size, .int .i64 x.low, .int .i64 x.high]])) := St.perm hst0 (List.perm_append_comm (l₁ := [_])); clear hst0 hst) | (go_at_call 25; have hShst5 := (St.sub hst1 (List.sublist_append_left (rP g bv B s) _)).selfF; refine (rRest_any g bv B s _ hShst5 hpB hBl).mono ?_; rw [← HT.out]; rintro _ w5 ⟨rfl, h4⟩; have hmhst5 := St.callF (rP g bv B s) hst1 h4; have hst5 : St w F w5 (qP q (.slice ao N c) s ++ ([.blk gx 58 [.int .i64 x.kind, .int .i64 x.size, .int .i64 x.low, .int .i64 x.high]] ++ rP g bv B T.1)) := St.perm hmhst5 (List.perm_append_comm (l₁ := rP g bv B T.1)); clear h4 hmhst5 hShst5) | (go_at_call 58; refine (qrest_any q ao N c B s _ (St.sub hst5 (List.sublist_append_left (qP q (.slice ao N c) s) _)) (Rd.oldM hst5 hB ho) hq HLL.out hp hN).mono ?_; rw [← HT.out]; rintro _ w6 ⟨rfl, h4⟩; have hmhst6 := St.callF (qP q (.slice ao N c) s) hst5 h4; have hst6 : St w F w6 ([.blk gx 58 [.int .i64 x.kind, .int .i64 x.size, .int .i64 x.low, .int .i64 x.high]] ++ (rP g bv B T.1 ++ qP q (.slice ao N c) T.1)) := St.perm hmhst6 (List.perm_append_comm (l₁ := qP q (.slice ao N c) T.1)); clear h4 hmhst6))
  go_ret
  exact ⟨rfl, St.sub hst6 (List.sublist_append_right [_] _)⟩
theorem lread_4 (g : Nat) (bv : Value) (q : Nat) (ao : Option Addr) (N c : Nat) (B : List UInt8) (s : RS) (x : KV) (w : World) (h : St w (bF g bv q (.slice ao N c) B s) w (bP g bv q (.slice ao N c) B s)) (hB : Rd w (.slice ao N c) 1 N (bytesV B)) (ho : Off (.slice ao N c) (bF g bv q (.slice ao N c) B s)) (hq : Off (.slice ao N c) [q]) (hL : B.length = N) (hp : s.pos ≤ N) (hN : N ≤ 100000) (hx : x.Ok) (hk0 : x.kind ≠ 0) (hk1 : x.kind ≠ 1) (hk2 : x.kind ≠ 2) (hk3 : x.kind ≠ 3) :
    Calls Try.prog 30 #[.pointer (some ⟨g, 0, none⟩), .pointer (some ⟨q, 0, none⟩), .agg x.cells.toArray] w fun e w' => e = .returned (.bool true) ∧ St w (bF g bv q (.slice ao N c) B s) w' (bP g bv q (.slice ao N c) B (x.step B s)) := by
  have hR : x.step B s = s := by simp [KV.step, hk0, hk1, hk2, hk3]
  rw [hR]
  clear hR
  have hst : St w (bF g bv q (.slice ao N c) B s) w (rP g bv B s ++ qP q (.slice ao N c) s) := h
  obtain ⟨F, hF⟩ : ∃ F, F = bF g bv q (.slice ao N c) B s := ⟨_, rfl⟩
  rw [← hF] at hst ho ⊢
  clear h hF
  have HLL := hid hL
  have hpB : s.pos ≤ B.length := by rw [hL]; exact hp
  have hBl : B.length ≤ 100000 := by rw [hL]; exact hN
  clear hL
  have d0 : (x.kind == 0) = false := by simpa using hk0
  have d1 : (x.kind == 1) = false := by simpa using hk1
  have d2 : (x.kind == 2) = false := by simpa using hk2
  have d3 : (x.kind == 3) = false := by simpa using hk3
  clear hk0 hk1 hk2 hk3
  show Calls Try.prog 30 #[.pointer (some ⟨g, 0, none⟩), .pointer (some ⟨q, 0, none⟩), .agg ([.int .i64 x.kind, .int .i64 x.size, .int .i64 x.low, .int .i64 x.high] : List Value).toArray] w _
  go_enter Try.func30, Try.ntmps30
  go_wp2_with (first | go_big_skip | go_big_guard | (refine wl_loadE rfl rfl rfl ?_; first | refine ⟨_, Loads.at [_, _, _] hst1 rfl, ?_⟩) | (refine wl_boxA hst rfl rfl rfl ?_; intro gx w1 hst0; have hst1 : St w F w1 (rP g bv B s ++ (qP q (.slice ao N c) s ++ [.blk gx 58 [.int .i64 x.kind, .int .i64 x.size, .int .i64 x.low, .int .i64 x.high]])) := St.perm hst0 (List.perm_append_comm (l₁ := [_])); clear hst0 hst))
  go_ret
  exact ⟨rfl, St.sub (L' := rP g bv B s ++ qP q (.slice ao N c) s) hst1 (by show List.Sublist _ (rP g bv B s ++ (qP q (.slice ao N c) s ++ [_])); rw [← List.append_assoc]; exact List.sublist_append_left _ _)⟩
theorem lread_any (g : Nat) (bv : Value) (q : Nat) (ao : Option Addr) (N c : Nat) (B : List UInt8) (s : RS) (x : KV) (w : World) (h : St w (bF g bv q (.slice ao N c) B s) w (bP g bv q (.slice ao N c) B s)) (hB : Rd w (.slice ao N c) 1 N (bytesV B)) (ho : Off (.slice ao N c) (bF g bv q (.slice ao N c) B s)) (hq : Off (.slice ao N c) [q]) (hL : B.length = N) (hp : s.pos ≤ N) (hN : N ≤ 100000) (hx : x.Ok) :
    Calls Try.prog 30 #[.pointer (some ⟨g, 0, none⟩), .pointer (some ⟨q, 0, none⟩), .agg x.cells.toArray] w fun e w' => e = .returned (.bool true) ∧ St w (bF g bv q (.slice ao N c) B s) w' (bP g bv q (.slice ao N c) B (x.step B s)) := by
  by_cases hk0 : x.kind = 0
  · exact lread_0 g bv q ao N c B s x w h hB ho hq hL hp hN hx hk0
  · by_cases hk1 : x.kind = 1
    · exact lread_1 g bv q ao N c B s x w h hB ho hq hL hp hN hx hk1
    · by_cases hk2 : x.kind = 2
      · exact lread_2 g bv q ao N c B s x w h hB ho hq hL hp hN hx hk2
      · by_cases hk3 : x.kind = 3
        · exact lread_3 g bv q ao N c B s x w h hB ho hq hL hp hN hx hk3
        · exact lread_4 g bv q ao N c B s x w h hB ho hq hL hp hN hx hk0 hk1 hk2 hk3
end
end Go.Proofs.Ytlgioloanjjndaa
