import Derived.Test.YtlgioloanjjndaaF35
import Derived.Test.YtlgioloanjjndaaFH
import Derived.Test.YtlgioloanjjndaaF16
namespace Go.Proofs.Ytlgioloanjjndaa
set_option linter.unusedVariables false
set_option linter.unusedSimpArgs false
open Go.RowKit Hp
attribute [local irreducible] Go.Calls
set_option maxRecDepth 100000
set_option maxHeartbeats 4000000
section
attribute [local go_sem ↓] loadedInt loadedSl loadedStr
theorem room_0 (x : AV) (hf : 0 ≤ x.size ∧ x.size ≤ 1000 ∨ x.kind ≠ 1) (w : World) (hk : x.kind = 0) :
    Calls Try.prog 37 #[.agg x.cells.toArray] w fun e w' => e = .returned (.int .i64 x.room) ∧ St w [] w' [] := by
  have hst := St.refl w
  have hR : x.room = x.size := by unfold AV.room; rw [if_pos hk]
  rw [hR]
  clear hR hf
  obtain ⟨kd, hkd⟩ : ∃ kd, kd = x.kind := ⟨_, rfl⟩
  have d0 : (x.kind == 0) = true := by simpa using hk
  clear hk hkd
  show Calls Try.prog 37 #[.agg ([.int .i64 x.kind, .int .i64 x.n, .int .i64 x.size, .string ⟨x.s.toArray⟩, .slice x.au x.m x.cu] : List Value).toArray] w _
  go_enter Try.func37, Try.ntmps37
  go_wp2_with (first | go_big_skip | go_big_guard | (refine wl_loadE rfl rfl rfl ?_; first | refine ⟨_, Loads.at [] hst1 rfl, ?_⟩) | (refine wl_boxA hst rfl rfl rfl ?_; intro gx w1 hst1; clear hst))
  go_ret
  exact ⟨rfl, hst1.nil⟩
theorem room_1 (x : AV) (hf : 0 ≤ x.size ∧ x.size ≤ 1000 ∨ x.kind ≠ 1) (w : World) (hk : x.kind = 1) :
    Calls Try.prog 37 #[.agg x.cells.toArray] w fun e w' => e = .returned (.int .i64 x.room) ∧ St w [] w' [] := by
  have hst := St.refl w
  have hR : x.room = 1 + x.size := by unfold AV.room; rw [if_neg (by omega), if_pos hk]
  have z1 : IntKind.i64.wrap (1 + x.size) = 1 + x.size := IntWalk.i64_in _ (by omega)
  rw [hR]
  clear hR hf
  obtain ⟨kd, hkd⟩ : ∃ kd, kd = x.kind := ⟨_, rfl⟩
  have d0 : (x.kind == 0) = false := by rw [hk]; rfl
  have d1 : (x.kind == 1) = true := by simpa using hk
  clear hk hkd
  show Calls Try.prog 37 #[.agg ([.int .i64 x.kind, .int .i64 x.n, .int .i64 x.size, .string ⟨x.s.toArray⟩, .slice x.au x.m x.cu] : List Value).toArray] w _
  go_enter Try.func37, Try.ntmps37
  go_wp2_with (first | go_big_skip | go_big_guard | (refine wl_loadE rfl rfl rfl ?_; first | refine ⟨_, Loads.at [] hst1 rfl, ?_⟩) | (refine wl_boxA hst rfl rfl rfl ?_; intro gx w1 hst1; clear hst))
  go_ret
  exact ⟨rfl, hst1.nil⟩
theorem room_2 (x : AV) (hf : 0 ≤ x.size ∧ x.size ≤ 1000 ∨ x.kind ≠ 1) (w : World) (hk0 : x.kind ≠ 0) (hk1 : x.kind ≠ 1) :
    Calls Try.prog 37 #[.agg x.cells.toArray] w fun e w' => e = .returned (.int .i64 x.room) ∧ St w [] w' [] := by
  have hst := St.refl w
  have hR : x.room = x.m := by unfold AV.room; rw [if_neg hk0, if_neg hk1]
  rw [hR]
  clear hR hf
  have d0 : (x.kind == 0) = false := by simpa using hk0
  have d1 : (x.kind == 1) = false := by simpa using hk1
  clear hk0 hk1
  show Calls Try.prog 37 #[.agg ([.int .i64 x.kind, .int .i64 x.n, .int .i64 x.size, .string ⟨x.s.toArray⟩, .slice x.au x.m x.cu] : List Value).toArray] w _
  go_enter Try.func37, Try.ntmps37
  go_wp2_with (first | go_big_skip | go_big_guard | (refine wl_loadE rfl rfl rfl ?_; first | refine ⟨_, Loads.at [] hst1 rfl, ?_⟩) | (refine wl_boxA hst rfl rfl rfl ?_; intro gx w1 hst1; clear hst))
  go_ret
  exact ⟨rfl, hst1.nil⟩
theorem room_any (x : AV) (hf : x.Fit) (w : World) :
    Calls Try.prog 37 #[.agg x.cells.toArray] w fun e w' => e = .returned (.int .i64 x.room) ∧ St w [] w' [] := by
  have hf' : 0 ≤ x.size ∧ x.size ≤ 1000 ∨ x.kind ≠ 1 := by
    rcases hf with ⟨h, _⟩ | ⟨_, h1, h2, _⟩ | h
    · exact .inr (by omega)
    · exact .inl (by omega)
    · exact .inr (by omega)
  by_cases h0 : x.kind = 0
  · exact room_0 x hf' w h0
  · by_cases h1 : x.kind = 1
    · exact room_1 x hf' w h1
    · exact room_2 x hf' w h0 h1
theorem back_0 (g : Nat) (bv : Value) (B P C : List UInt8) (x : AV) (w : World) (h : St w (rF0 g bv B ⟨P.length, 0, 0⟩) w (rP g bv B ⟨P.length, 0, 0⟩)) (hx : x.Ok w) (ho : Off (.slice x.au x.m x.cu) (rF0 g bv B ⟨P.length, 0, 0⟩)) (hf : x.Fit) (hB : B = P ++ (x.out ++ C)) (hBl : B.length ≤ 100000) (hk : x.kind = 0) :
    Calls Try.prog 39 #[.pointer (some ⟨g, 0, none⟩), .agg x.cells.toArray] w fun e w' => e = .returned (.bool true) ∧ St w (rF0 g bv B ⟨P.length, 0, 0⟩) w' (rP g bv B ⟨P.length + x.out.length, 0, 0⟩) := by
  have hol : x.out.length = x.size.toNat := by unfold AV.out; rw [if_pos hk, length_numB]
  have hE : stepR (⟨P.length, 0, 0⟩ : RS) (numRR B P.length x.size x.n x.n) 0 = (⟨P.length + x.out.length, 0, 0⟩, x.n) := by
    rw [hB, back_num hf hk, hol]
    rfl
  have hpl : P.length ≤ B.length := by rw [hB, List.length_append]; omega
  have hsz := hx.size
  have HX := hid hx
  have HXL := hid hx.len
  have hxm := hx.m
  obtain ⟨p, hp⟩ : ∃ p, p = P.length := ⟨_, rfl⟩
  obtain ⟨q, hq⟩ : ∃ q, q = P.length + x.out.length := ⟨_, rfl⟩
  rw [← hq] at hE
  rw [← hp] at hE hpl h ho
  rw [← hq, ← hp]
  have HE := hid hE
  obtain ⟨F, hF⟩ : ∃ F, F = rF0 g bv B ⟨p, 0, 0⟩ := ⟨_, rfl⟩
  have hst := h
  rw [← hF] at hst ho ⊢
  clear hB hol hE hp hq h hF hf hx
  obtain ⟨kd, hkd⟩ : ∃ kd, kd = x.kind := ⟨_, rfl⟩
  have d0 : (x.kind == 0) = true := by simpa using hk
  clear hk hkd
  show Calls Try.prog 39 #[.pointer (some ⟨g, 0, none⟩), .agg ([.int .i64 x.kind, .int .i64 x.n, .int .i64 x.size, .string ⟨x.s.toArray⟩, .slice x.au x.m x.cu] : List Value).toArray] w _
  go_enter Try.func39, Try.ntmps39
  go_wp2_with (first | go_big_skip | go_big_guard | (refine wl_loadE rfl rfl rfl ?_; first | refine ⟨_, Loads.at [] hst1 rfl, ?_⟩) | (refine wl_boxA hst rfl rfl rfl ?_; intro gx w1 hst1; clear hst))
  have hD := hst1.drew
  clear hst1
  refine wp_region_held_drew (S := (fun w' => (loadVarH 3 ⟨gx, 1, none⟩).run Try.prog w' = .ok (.int .i64 x.n) w' ∧ (loadVarH 3 ⟨gx, 2, none⟩).run Try.prog w' = .ok (.int .i64 x.size) w')) (by kernel_rfl) (by exact ⟨ldS [] hD rfl, ldS [] hD rfl⟩) (fun hHeld => ?_)
  refine wpAnyH_take (i := 0) (oi := ⟨some 9, _, _, _, _, _⟩) (v := ?_) rfl (by kernel_rfl) (by kernel_rfl) (by kernel_rfl) (fun _ _ _ h => h) (Or.inl ⟨by rfl, ?_⟩) (by assumption) ?_
  rotate_left
  · intro w hSw; (try dsimp only at hSw); go_simp; try with_reducible rfl
  (try simp only [Act.put, List.setIfInBounds_toArray, List.set_cons_zero, List.set_cons_succ])
  refine wpAnyH_take (i := 1) (oi := ⟨some 10, _, _, _, _, _⟩) (v := ?_) rfl (by kernel_rfl) (by kernel_rfl) (by kernel_rfl) (fun _ _ _ h => h) (Or.inl ⟨by rfl, ?_⟩) (by assumption) ?_
  rotate_left
  · intro w hSw; (try dsimp only at hSw); go_simp; try with_reducible rfl
  (try simp only [Act.put, List.setIfInBounds_toArray, List.set_cons_zero, List.set_cons_succ])
  refine wpAnyH_take (i := 3) (oi := ⟨some 12, _, _, _, _, _⟩) (v := ?_) rfl (by kernel_rfl) (by kernel_rfl) (by kernel_rfl) (fun _ _ _ h => h) (Or.inl ⟨by rfl, ?_⟩) (by assumption) ?_
  rotate_left
  · intro w hSw; (try dsimp only at hSw); go_simp; try with_reducible rfl
  (try simp only [Act.put, List.setIfInBounds_toArray, List.set_cons_zero, List.set_cons_succ])
  refine wpAnyH_take (i := 5) (oi := ⟨some 14, _, _, _, _, _⟩) (v := ?_) rfl (by kernel_rfl) (by kernel_rfl) (by kernel_rfl) (fun _ _ _ h => h) (Or.inl ⟨by rfl, ?_⟩) (by assumption) ?_
  rotate_left
  · intro w hSw; (try dsimp only at hSw); go_simp; try with_reducible rfl
  (try simp only [Act.put, List.setIfInBounds_toArray, List.set_cons_zero, List.set_cons_succ])
  refine wpAnyH_take (i := 8) (oi := ⟨some 17, _, _, _, _, _⟩) (v := ?_) rfl (by kernel_rfl) (by kernel_rfl) (by kernel_rfl) (fun _ _ _ h => h) (Or.inl ⟨by rfl, ?_⟩) (by assumption) ?_
  rotate_left
  · intro w hSw; (try dsimp only at hSw); go_simp; try with_reducible rfl
  (try simp only [Act.put, List.setIfInBounds_toArray, List.set_cons_zero, List.set_cons_succ])
  refine wpAnyH_take (i := 2) (oi := ⟨some 11, _, _, _, _, _⟩) (v := ?_) rfl (by kernel_rfl) (by kernel_rfl) (by kernel_rfl) (fun _ _ _ h => h) (Or.inl ⟨by rfl, ?_⟩) (by assumption) ?_
  rotate_left
  · intro w hSw; (try dsimp only at hSw); go_simp; try with_reducible rfl
  (try simp only [Act.put, List.setIfInBounds_toArray, List.set_cons_zero, List.set_cons_succ])
  refine wpAnyH_take (i := 4) (oi := ⟨some 13, _, _, _, _, _⟩) (v := ?_) rfl (by kernel_rfl) (by kernel_rfl) (by kernel_rfl) (fun _ _ _ h => h) (Or.inl ⟨by rfl, ?_⟩) (by assumption) ?_
  rotate_left
  · intro w hSw; (try dsimp only at hSw); go_simp; try with_reducible rfl
  (try simp only [Act.put, List.setIfInBounds_toArray, List.set_cons_zero, List.set_cons_succ])
  refine wpAnyH_take (i := 6) (oi := ⟨some 15, _, _, _, _, _⟩) (v := ?_) rfl (by kernel_rfl) (by kernel_rfl) (by kernel_rfl) (fun _ _ _ h => h) (Or.inl ⟨by rfl, ?_⟩) (by assumption) ?_
  rotate_left
  · intro w hSw; (try dsimp only at hSw); go_simp; try with_reducible rfl
  (try simp only [Act.put, List.setIfInBounds_toArray, List.set_cons_zero, List.set_cons_succ])
  refine wpAnyH_take (i := 9) (oi := ⟨some 18, _, _, _, _, _⟩) (v := ?_) rfl (by kernel_rfl) (by kernel_rfl) (by kernel_rfl) (fun _ _ _ h => h) (Or.inl ⟨by rfl, ?_⟩) (by assumption) ?_
  rotate_left
  · intro w hSw; (try dsimp only at hSw); go_simp; try with_reducible rfl
  (try simp only [Act.put, List.setIfInBounds_toArray, List.set_cons_zero, List.set_cons_succ])
  refine wpAnyH_ready (rs := [7]) (by kernel_rfl) (by simp) ?_
  refine (AllReadyH.cons (o := ⟨some 16, _, _, _, _, _⟩) rfl (fun K hK => ?_) AllReadyH.nil)
  go_simp
  go_at_call 23
  have hm := St.perm (L := [.blk gx 34 [.int .i64 x.kind, .int .i64 x.n, .int .i64 x.size, .string ⟨x.s.toArray⟩, .slice x.au x.m x.cu]] ++ rP g bv B ⟨p, 0, 0⟩) hD List.perm_append_comm
  have hS := (St.sub (L' := rP g bv B ⟨p, 0, 0⟩) hm (List.sublist_append_left _ _)).selfF
  refine (rNum_any g bv B ⟨p, 0, 0⟩ x.size x.n x.n _ hS hpl hBl hsz).mono ?_
  rw [HE.out]
  rintro _ w5 ⟨rfl, h4⟩
  have hm2 := St.callF (rP g bv B ⟨p, 0, 0⟩) hm h4
  have hN5 : St w F w5 ([.blk gx 34 [.int .i64 x.kind, .int .i64 x.n, .int .i64 x.size, .string ⟨x.s.toArray⟩, .slice x.au x.m x.cu]] ++ rP g bv B ⟨q, 0, 0⟩) := St.perm hm2 List.perm_append_comm
  clear h4 hm hS hm2
  refine hK.out _ _ ?_ (fun hHeld => ?_)
  · exact ⟨ldS [] hN5 rfl, ldS [] hN5 rfl⟩
  clear hK K
  (try simp only [Act.put, List.setIfInBounds_toArray, List.set_cons_zero, List.set_cons_succ])
  refine wpAnyH_take (i := 10) (oi := ⟨some 19, _, _, _, _, _⟩) (v := ?_) rfl (by kernel_rfl) (by kernel_rfl) (by kernel_rfl) (fun _ _ _ h => h) (Or.inl ⟨by rfl, ?_⟩) (by assumption) ?_
  rotate_left
  · intro w hSw; (try dsimp only at hSw); go_simp; try with_reducible rfl
  (try simp only [Act.put, List.setIfInBounds_toArray, List.set_cons_zero, List.set_cons_succ])
  refine wpAnyH_take (i := 11) (oi := ⟨some 4, _, _, _, _, _⟩) (v := ?_) rfl (by kernel_rfl) (by kernel_rfl) (by kernel_rfl) (fun _ _ _ h => h) (Or.inl ⟨by rfl, ?_⟩) (by assumption) ?_
  rotate_left
  · intro w hSw; (try dsimp only at hSw); go_simp; try with_reducible rfl
  (try simp only [Act.put, List.setIfInBounds_toArray, List.set_cons_zero, List.set_cons_succ])
  refine wpAnyH_done (by kernel_rfl) ?_ _
  clear hHeld
  go_wp2_with (first | go_big_skip | go_big_guard | fail)
  go_ret
  exact ⟨by simp, St.sub (L' := rP g bv B ⟨q, 0, 0⟩) hN5 (List.sublist_append_right [_] _)⟩
theorem back_1 (g : Nat) (bv : Value) (B P C : List UInt8) (x : AV) (w : World) (h : St w (rF0 g bv B ⟨P.length, 0, 0⟩) w (rP g bv B ⟨P.length, 0, 0⟩)) (hx : x.Ok w) (ho : Off (.slice x.au x.m x.cu) (rF0 g bv B ⟨P.length, 0, 0⟩)) (hf : x.Fit) (hB : B = P ++ (x.out ++ C)) (hBl : B.length ≤ 100000) (hk : x.kind = 1) :
    Calls Try.prog 39 #[.pointer (some ⟨g, 0, none⟩), .agg x.cells.toArray] w fun e w' => e = .returned (.bool true) ∧ St w (rF0 g bv B ⟨P.length, 0, 0⟩) w' (rP g bv B ⟨P.length + x.out.length, 0, 0⟩) := by
  have hol : x.out.length = 1 + x.size.toNat := by unfold AV.out; rw [if_neg (by omega), if_pos hk, List.length_cons, List.length_append, List.length_replicate]; rcases hf with ⟨h9, _⟩ | ⟨_, h1, h2, h3⟩ | h9 <;> omega
  have hE : stepR (⟨P.length, 0, 0⟩ : RS) (textRR B P.length x.size) [] = (⟨P.length + x.out.length, 0, 0⟩, x.s) := by
    rw [hB, back_text hf hk, hol]
    rw [← Nat.add_assoc]; rfl
  have hpl : P.length ≤ B.length := by rw [hB, List.length_append]; omega
  have hsz := hx.size
  have HX := hid hx
  have HXL := hid hx.len
  have hxm := hx.m
  obtain ⟨p, hp⟩ : ∃ p, p = P.length := ⟨_, rfl⟩
  obtain ⟨q, hq⟩ : ∃ q, q = P.length + x.out.length := ⟨_, rfl⟩
  rw [← hq] at hE
  rw [← hp] at hE hpl h ho
  rw [← hq, ← hp]
  have HE := hid hE
  obtain ⟨F, hF⟩ : ∃ F, F = rF0 g bv B ⟨p, 0, 0⟩ := ⟨_, rfl⟩
  have hst := h
  rw [← hF] at hst ho ⊢
  clear hB hol hE hp hq h hF hf hx
  obtain ⟨kd, hkd⟩ : ∃ kd, kd = x.kind := ⟨_, rfl⟩
  have d0 : (x.kind == 0) = false := by rw [hk]; rfl
  have d1 : (x.kind == 1) = true := by simpa using hk
  clear hk hkd
  show Calls Try.prog 39 #[.pointer (some ⟨g, 0, none⟩), .agg ([.int .i64 x.kind, .int .i64 x.n, .int .i64 x.size, .string ⟨x.s.toArray⟩, .slice x.au x.m x.cu] : List Value).toArray] w _
  go_enter Try.func39, Try.ntmps39
  go_wp2_with (first | go_big_skip | go_big_guard | (refine wl_loadE rfl rfl rfl ?_; first | refine ⟨_, Loads.at [] hst1 rfl, ?_⟩) | (refine wl_boxA hst rfl rfl rfl ?_; intro gx w1 hst1; clear hst))
  have hD := hst1.drew
  clear hst1
  refine wp_region_held_drew (S := (fun w' => (loadVarH 3 ⟨gx, 2, none⟩).run Try.prog w' = .ok (.int .i64 x.size) w' ∧ (loadVarH 9 ⟨gx, 3, none⟩).run Try.prog w' = .ok (.string ⟨x.s.toArray⟩) w')) (by kernel_rfl) (by exact ⟨ldS [] hD rfl, ldS [] hD rfl⟩) (fun hHeld => ?_)
  refine wpAnyH_take (i := 0) (oi := ⟨some 22, _, _, _, _, _⟩) (v := ?_) rfl (by kernel_rfl) (by kernel_rfl) (by kernel_rfl) (fun _ _ _ h => h) (Or.inl ⟨by rfl, ?_⟩) (by assumption) ?_
  rotate_left
  · intro w hSw; (try dsimp only at hSw); go_simp; try with_reducible rfl
  (try simp only [Act.put, List.setIfInBounds_toArray, List.set_cons_zero, List.set_cons_succ])
  refine wpAnyH_take (i := 1) (oi := ⟨some 23, _, _, _, _, _⟩) (v := ?_) rfl (by kernel_rfl) (by kernel_rfl) (by kernel_rfl) (fun _ _ _ h => h) (Or.inl ⟨by rfl, ?_⟩) (by assumption) ?_
  rotate_left
  · intro w hSw; (try dsimp only at hSw); go_simp; try with_reducible rfl
  (try simp only [Act.put, List.setIfInBounds_toArray, List.set_cons_zero, List.set_cons_succ])
  refine wpAnyH_take (i := 4) (oi := ⟨some 26, _, _, _, _, _⟩) (v := ?_) rfl (by kernel_rfl) (by kernel_rfl) (by kernel_rfl) (fun _ _ _ h => h) (Or.inl ⟨by rfl, ?_⟩) (by assumption) ?_
  rotate_left
  · intro w hSw; (try dsimp only at hSw); go_simp; try with_reducible rfl
  (try simp only [Act.put, List.setIfInBounds_toArray, List.set_cons_zero, List.set_cons_succ])
  refine wpAnyH_take (i := 2) (oi := ⟨some 24, _, _, _, _, _⟩) (v := ?_) rfl (by kernel_rfl) (by kernel_rfl) (by kernel_rfl) (fun _ _ _ h => h) (Or.inl ⟨by rfl, ?_⟩) (by assumption) ?_
  rotate_left
  · intro w hSw; (try dsimp only at hSw); go_simp; try with_reducible rfl
  (try simp only [Act.put, List.setIfInBounds_toArray, List.set_cons_zero, List.set_cons_succ])
  refine wpAnyH_take (i := 5) (oi := ⟨some 27, _, _, _, _, _⟩) (v := ?_) rfl (by kernel_rfl) (by kernel_rfl) (by kernel_rfl) (fun _ _ _ h => h) (Or.inl ⟨by rfl, ?_⟩) (by assumption) ?_
  rotate_left
  · intro w hSw; (try dsimp only at hSw); go_simp; try with_reducible rfl
  (try simp only [Act.put, List.setIfInBounds_toArray, List.set_cons_zero, List.set_cons_succ])
  refine wpAnyH_ready (rs := [3]) (by kernel_rfl) (by simp) ?_
  refine (AllReadyH.cons (o := ⟨some 25, _, _, _, _, _⟩) rfl (fun K hK => ?_) AllReadyH.nil)
  go_simp
  go_at_call 24
  have hm := St.perm (L := [.blk gx 34 [.int .i64 x.kind, .int .i64 x.n, .int .i64 x.size, .string ⟨x.s.toArray⟩, .slice x.au x.m x.cu]] ++ rP g bv B ⟨p, 0, 0⟩) hD List.perm_append_comm
  have hS := (St.sub (L' := rP g bv B ⟨p, 0, 0⟩) hm (List.sublist_append_left _ _)).selfF
  refine (rText_any g bv B ⟨p, 0, 0⟩ x.size _ hS hpl hBl hsz).mono ?_
  rw [HE.out]
  rintro _ w5 ⟨rfl, h4⟩
  have hm2 := St.callF (rP g bv B ⟨p, 0, 0⟩) hm h4
  have hN5 : St w F w5 ([.blk gx 34 [.int .i64 x.kind, .int .i64 x.n, .int .i64 x.size, .string ⟨x.s.toArray⟩, .slice x.au x.m x.cu]] ++ rP g bv B ⟨q, 0, 0⟩) := St.perm hm2 List.perm_append_comm
  clear h4 hm hS hm2
  refine hK.out _ _ ?_ (fun hHeld => ?_)
  · exact ⟨ldS [] hN5 rfl, ldS [] hN5 rfl⟩
  clear hK K
  (try simp only [Act.put, List.setIfInBounds_toArray, List.set_cons_zero, List.set_cons_succ])
  refine wpAnyH_take (i := 6) (oi := ⟨some 28, _, _, _, _, _⟩) (v := ?_) rfl (by kernel_rfl) (by kernel_rfl) (by kernel_rfl) (fun _ _ _ h => h) (Or.inl ⟨by rfl, ?_⟩) (by assumption) ?_
  rotate_left
  · intro w hSw; (try dsimp only at hSw); go_simp; try with_reducible rfl
  (try simp only [Act.put, List.setIfInBounds_toArray, List.set_cons_zero, List.set_cons_succ])
  refine wpAnyH_take (i := 7) (oi := ⟨some 4, _, _, _, _, _⟩) (v := ?_) rfl (by kernel_rfl) (by kernel_rfl) (by kernel_rfl) (fun _ _ _ h => h) (Or.inl ⟨by rfl, ?_⟩) (by assumption) ?_
  rotate_left
  · intro w hSw; (try dsimp only at hSw); go_simp; try with_reducible rfl
  (try simp only [Act.put, List.setIfInBounds_toArray, List.set_cons_zero, List.set_cons_succ])
  refine wpAnyH_done (by kernel_rfl) ?_ _
  clear hHeld
  go_wp2_with (first | go_big_skip | go_big_guard | fail)
  go_ret
  exact ⟨by simp, St.sub (L' := rP g bv B ⟨q, 0, 0⟩) hN5 (List.sublist_append_right [_] _)⟩
theorem back_2 (g : Nat) (bv : Value) (B P C : List UInt8) (x : AV) (w : World) (h : St w (rF0 g bv B ⟨P.length, 0, 0⟩) w (rP g bv B ⟨P.length, 0, 0⟩)) (hx : x.Ok w) (ho : Off (.slice x.au x.m x.cu) (rF0 g bv B ⟨P.length, 0, 0⟩)) (hf : x.Fit) (hB : B = P ++ (x.out ++ C)) (hBl : B.length ≤ 100000) (hk0 : x.kind ≠ 0) (hk1 : x.kind ≠ 1) :
    Calls Try.prog 39 #[.pointer (some ⟨g, 0, none⟩), .agg x.cells.toArray] w fun e w' => e = .returned (.bool true) ∧ St w (rF0 g bv B ⟨P.length, 0, 0⟩) w' (rP g bv B ⟨P.length + x.out.length, 0, 0⟩) := by
  have hol : x.out.length = x.m := by unfold AV.out; rw [if_neg hk0, if_neg hk1]; exact hx.len
  have hE : stepR (⟨P.length, 0, 0⟩ : RS) (rawRR B P.length x.m) [] = (⟨P.length + x.out.length, 0, 0⟩, x.B) := by
    rw [hB, back_raw hx hk0 hk1, hol]
    rfl
  have hpl : P.length ≤ B.length := by rw [hB, List.length_append]; omega
  have hsz := hx.size
  have HX := hid hx
  have HXL := hid hx.len
  have hxm := hx.m
  obtain ⟨p, hp⟩ : ∃ p, p = P.length := ⟨_, rfl⟩
  obtain ⟨q, hq⟩ : ∃ q, q = P.length + x.out.length := ⟨_, rfl⟩
  rw [← hq] at hE
  rw [← hp] at hE hpl h ho
  rw [← hq, ← hp]
  have HE := hid hE
  obtain ⟨F, hF⟩ : ∃ F, F = rF0 g bv B ⟨p, 0, 0⟩ := ⟨_, rfl⟩
  have hst := h
  rw [← hF] at hst ho ⊢
  clear hB hol hE hp hq h hF hf hx
  have d0 : (x.kind == 0) = false := by simpa using hk0
  have d1 : (x.kind == 1) = false := by simpa using hk1
  clear hk0 hk1
  show Calls Try.prog 39 #[.pointer (some ⟨g, 0, none⟩), .agg ([.int .i64 x.kind, .int .i64 x.n, .int .i64 x.size, .string ⟨x.s.toArray⟩, .slice x.au x.m x.cu] : List Value).toArray] w _
  go_enter Try.func39, Try.ntmps39
  go_wp2_with (first | go_big_skip | go_big_guard | (refine wl_loadE rfl rfl rfl ?_; first | refine ⟨_, Loads.at [] hst1 rfl, ?_⟩) | (refine wl_boxA hst rfl rfl rfl ?_; intro gx w1 hst1; clear hst))
  have hD := hst1.drew
  clear hst1
  refine wp_region_held_drew (S := (fun w' => (loadVarH 26 ⟨gx, 4, none⟩).run Try.prog w' = .ok (.slice x.au x.m x.cu) w')) (by kernel_rfl) (by exact ldS [] hD rfl) (fun hHeld => ?_)
  refine wpAnyH_take (i := 0) (oi := ⟨some 29, _, _, _, _, _⟩) (v := ?_) rfl (by kernel_rfl) (by kernel_rfl) (by kernel_rfl) (fun _ _ _ h => h) (Or.inl ⟨by rfl, ?_⟩) (by assumption) ?_
  rotate_left
  · intro w hSw; (try dsimp only at hSw); go_simp; try with_reducible rfl
  (try simp only [Act.put, List.setIfInBounds_toArray, List.set_cons_zero, List.set_cons_succ])
  refine wpAnyH_take (i := 1) (oi := ⟨some 30, _, _, _, _, _⟩) (v := ?_) rfl (by kernel_rfl) (by kernel_rfl) (by kernel_rfl) (fun _ _ _ h => h) (Or.inl ⟨by rfl, ?_⟩) (by assumption) ?_
  rotate_left
  · intro w hSw; (try dsimp only at hSw); go_simp; try with_reducible rfl
  (try simp only [Act.put, List.setIfInBounds_toArray, List.set_cons_zero, List.set_cons_succ])
  refine wpAnyH_take (i := 5) (oi := ⟨some 34, _, _, _, _, _⟩) (v := ?_) rfl (by kernel_rfl) (by kernel_rfl) (by kernel_rfl) (fun _ _ _ h => h) (Or.inl ⟨by rfl, ?_⟩) (by assumption) ?_
  rotate_left
  · intro w hSw; (try dsimp only at hSw); go_simp; try with_reducible rfl
  (try simp only [Act.put, List.setIfInBounds_toArray, List.set_cons_zero, List.set_cons_succ])
  refine wpAnyH_take (i := 2) (oi := ⟨some 31, _, _, _, _, _⟩) (v := ?_) rfl (by kernel_rfl) (by kernel_rfl) (by kernel_rfl) (fun _ _ _ h => h) (Or.inl ⟨by rfl, ?_⟩) (by assumption) ?_
  rotate_left
  · intro w hSw; (try dsimp only at hSw); go_simp; try with_reducible rfl
  (try simp only [Act.put, List.setIfInBounds_toArray, List.set_cons_zero, List.set_cons_succ])
  refine wpAnyH_take (i := 6) (oi := ⟨some 35, _, _, _, _, _⟩) (v := ?_) rfl (by kernel_rfl) (by kernel_rfl) (by kernel_rfl) (fun _ _ _ h => h) (Or.inl ⟨by rfl, ?_⟩) (by assumption) ?_
  rotate_left
  · intro w hSw; (try dsimp only at hSw); go_simp; try with_reducible rfl
  (try simp only [Act.put, List.setIfInBounds_toArray, List.set_cons_zero, List.set_cons_succ])
  refine wpAnyH_take (i := 3) (oi := ⟨some 32, _, _, _, _, _⟩) (v := ?_) rfl (by kernel_rfl) (by kernel_rfl) (by kernel_rfl) (fun _ _ _ h => h) (Or.inl ⟨by rfl, ?_⟩) (by assumption) ?_
  rotate_left
  · intro w hSw; (try dsimp only at hSw); go_simp; try with_reducible rfl
  (try simp only [Act.put, List.setIfInBounds_toArray, List.set_cons_zero, List.set_cons_succ])
  refine wpAnyH_ready (rs := [4]) (by kernel_rfl) (by simp) ?_
  refine (AllReadyH.cons (o := ⟨some 33, _, _, _, _, _⟩) rfl (fun K hK => ?_) AllReadyH.nil)
  go_simp
  go_at_call 36
  have hm := St.perm (L := [.blk gx 34 [.int .i64 x.kind, .int .i64 x.n, .int .i64 x.size, .string ⟨x.s.toArray⟩, .slice x.au x.m x.cu]] ++ rP g bv B ⟨p, 0, 0⟩) hD List.perm_append_comm
  have hS := (St.sub (L' := rP g bv B ⟨p, 0, 0⟩) hm (List.sublist_append_left _ _)).selfF
  refine (rRaw_any g bv B ⟨p, 0, 0⟩ (x.m : Int) _ hS hpl hBl (by omega)).mono ?_
  rw [HE.out]
  rintro _ w5 ⟨u, rfl, h4⟩
  have hm2 := St.callF (rP g bv B ⟨p, 0, 0⟩) hm h4
  have hN5 : St w F w5 ([.blk gx 34 [.int .i64 x.kind, .int .i64 x.n, .int .i64 x.size, .string ⟨x.s.toArray⟩, .slice x.au x.m x.cu]] ++ (rP g bv B ⟨q, 0, 0⟩ ++ [.rowP isB u 5 1 x.B.length (bytesV x.B)])) := St.perm hm2 List.perm_append_comm
  clear h4 hm hS hm2
  refine hK.out _ _ ?_ (fun hHeld => ?_)
  · exact ldS [] hN5 rfl
  clear hK K
  (try simp only [Act.put, List.setIfInBounds_toArray, List.set_cons_zero, List.set_cons_succ])
  refine wpAnyH_ready (rs := [7]) (by kernel_rfl) (by simp) ?_
  refine (AllReadyH.cons (o := ⟨some 36, _, _, _, _, _⟩) rfl (fun K hK => ?_) AllReadyH.nil)
  go_simp
  go_at_call 17
  refine (sameBytes_any _ _ x.B.length x.m x.B x.B _ (Rd.rowP (p := isB) (T := 5) hN5 (by simp)) (Rd.oldM hN5 HX.out.rd ho)).mono ?_
  rw [beq_self_eq_true]
  rintro _ w6 ⟨rfl, h4⟩
  have hN6 := St.call0 hN5 h4
  clear h4
  refine hK.out _ _ ?_ (fun hHeld => ?_)
  · exact ldS [] hN6 rfl
  clear hK K
  (try simp only [Act.put, List.setIfInBounds_toArray, List.set_cons_zero, List.set_cons_succ])
  refine wpAnyH_take (i := 8) (oi := ⟨some 4, _, _, _, _, _⟩) (v := ?_) rfl (by kernel_rfl) (by kernel_rfl) (by kernel_rfl) (fun _ _ _ h => h) (Or.inl ⟨by rfl, ?_⟩) (by assumption) ?_
  rotate_left
  · intro w hSw; (try dsimp only at hSw); go_simp; try with_reducible rfl
  (try simp only [Act.put, List.setIfInBounds_toArray, List.set_cons_zero, List.set_cons_succ])
  refine wpAnyH_done (by kernel_rfl) ?_ _
  clear hHeld
  go_wp2_with (first | go_big_skip | go_big_guard | fail)
  go_ret
  exact ⟨rfl, St.sub (L' := rP g bv B ⟨q, 0, 0⟩) (St.sub hN6 (List.sublist_append_right [_] _)) (List.sublist_append_left _ _)⟩
theorem back_any (g : Nat) (bv : Value) (B P C : List UInt8) (x : AV) (w : World) (h : St w (rF0 g bv B ⟨P.length, 0, 0⟩) w (rP g bv B ⟨P.length, 0, 0⟩)) (hx : x.Ok w) (ho : Off (.slice x.au x.m x.cu) (rF0 g bv B ⟨P.length, 0, 0⟩)) (hf : x.Fit) (hB : B = P ++ (x.out ++ C)) (hBl : B.length ≤ 100000) :
    Calls Try.prog 39 #[.pointer (some ⟨g, 0, none⟩), .agg x.cells.toArray] w fun e w' => e = .returned (.bool true) ∧ St w (rF0 g bv B ⟨P.length, 0, 0⟩) w' (rP g bv B ⟨P.length + x.out.length, 0, 0⟩) := by
  by_cases h0 : x.kind = 0
  · exact back_0 g bv B P C x w h hx ho hf hB hBl h0
  · by_cases h1 : x.kind = 1
    · exact back_1 g bv B P C x w h hx ho hf hB hBl h1
    · exact back_2 g bv B P C x w h hx ho hf hB hBl h0 h1
end
end Go.Proofs.Ytlgioloanjjndaa
