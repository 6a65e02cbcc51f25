import Derived.Test.YtalfdcfcaamnbaaF27
namespace Go.Proofs.Ytalfdcfcaamnbaa
set_option linter.unusedVariables false
set_option linter.unusedSimpArgs false
open Go.RowKit Hp
attribute [local irreducible] Go.Calls
set_option maxRecDepth 100000
set_option maxHeartbeats 4000000
/-- What a reader is like behind the bytes up to i. -/
def ScanR (B : List UInt8) (s : RS) (i : Nat) (s' : RS) : Prop :=
  (s.e ≠ 0 ∧ s' = s) ∨ (s.e = 0 ∧ (∀ j, j < i - s.pos → (B.drop s.pos).getD j 0 = 0) ∧ s' = s) ∨ (s.e = 0 ∧ ∃ t, t < i - s.pos ∧ nz (B.drop s.pos) = some t ∧ s' = ⟨s.pos, 4, ((s.pos + t : Nat) : Int)⟩)
theorem scan_start (B : List UInt8) (s : RS) : ScanR B s s.pos s := by
  by_cases h : s.e = 0
  · exact .inr (.inl ⟨h, fun j hj => by omega, rfl⟩)
  · exact .inl ⟨h, rfl⟩
theorem scan_zero {B : List UInt8} {s s' : RS} {i : Nat} (hi : s.pos ≤ i) (h : ScanR B s i s') (hz : B.getD i 0 = 0) : ScanR B s (i + 1) s' := by
  rcases h with h | ⟨h0, h1, h2⟩ | ⟨h0, t, h1, h2⟩
  · exact .inl h
  · refine .inr (.inl ⟨h0, fun j hj => ?_, h2⟩)
    by_cases hj' : j < i - s.pos
    · exact h1 j hj'
    · rw [getD_drop, show s.pos + j = i by omega, hz]
  · exact .inr (.inr ⟨h0, t, by omega, h2⟩)
theorem scan_fail {B : List UInt8} {s s' : RS} {i : Nat} (hi : s.pos ≤ i) (hl : i < B.length) (h : ScanR B s i s') (hz : B.getD i 0 ≠ 0) : ScanR B s (i + 1) (failS s' 4 i) := by
  rcases h with ⟨h0, rfl⟩ | ⟨h0, h1, rfl⟩ | ⟨h0, t, h1, h2, rfl⟩
  · exact .inl ⟨h0, by unfold failS; rw [if_neg h0]⟩
  · refine .inr (.inr ⟨h0, i - s'.pos, by omega, nz_eq_some (by rw [List.length_drop]; omega) (by rw [getD_drop, show s'.pos + (i - s'.pos) = i by omega]; exact hz) h1, ?_⟩)
    unfold failS
    rw [if_pos h0, show s'.pos + (i - s'.pos) = i by omega]
  · exact .inr (.inr ⟨h0, t, by omega, h2, rfl⟩)
theorem scan_end {B : List UInt8} {s s' : RS} (h : ScanR B s B.length s') : (stepR s (restRR B s.pos) ()).1 = if s'.e = 0 then ⟨B.length, s'.e, s'.fa⟩ else s' := by
  unfold stepR
  rcases h with ⟨h0, rfl⟩ | ⟨h0, h1, rfl⟩ | ⟨h0, t, h1, h2, rfl⟩
  · rw [if_pos h0, if_neg h0]
  · rw [if_neg (by simpa using h0), if_pos h0]
    unfold restRR
    rw [nz_eq_none (fun j hj => h1 j (by rw [List.length_drop] at hj; exact hj))]
  · rw [if_neg (by simpa using h0)]
    unfold restRR
    rw [h2]
    rfl
theorem scan_pos {B : List UInt8} {s s' : RS} {i : Nat} (h : ScanR B s i s') : s'.pos = s.pos := by
  rcases h with ⟨_, rfl⟩ | ⟨_, _, rfl⟩ | ⟨_, t, _, _, rfl⟩ <;> rfl
section
attribute [local go_sem ↓] loadedInt loadedSl loadedU8 loadedE
theorem qraw_no_neg {w0 : World} {M : List Nat} (g : Nat) (ao : Option Addr) (N c : Nat) (B : List UInt8) (s : RS) (size : Int) (w : World) (h : St w0 M w (qP g (.slice ao N c) s)) (hB : Rd w (.slice ao N c) 1 N (bytesV B)) (ho : Off (.slice ao N c) [g]) (hL : B.length = N) (hp : s.pos ≤ N) (hN : N ≤ 100000) (hb : size < 0) (hne : (someS N (failS s 2 s.pos) size).e ≠ 0) :
    Calls Try.prog 48 #[.pointer (some ⟨g, 0, none⟩), .int .i64 size] w fun en w' => ∃ u, en = .returned u ∧ St w [g] w' (qP g (.slice ao N c) (someS N (failS s 2 s.pos) size) ++ [.rowP isB u 5 1 ([] : List UInt8).length (bytesV ([] : List UInt8))]) := by
  have hst : St w [g] w (qP g (.slice ao N c) s) := h.selfF
  clear h
  have hne' : ((someS N (failS s 2 s.pos) size).e == 0) = false := by simpa using hne
  clear hne
  have d1 : decide (size < 0) = true := decide_eq_true hb
  go_enter Try.func48, Try.ntmps48
  go_wp2_with (first | go_big_skip | go_big_guard | (refine wl_loadE rfl rfl rfl ?_; first | refine ⟨_, Loads.at [] hst rfl, ?_⟩) | (go_at_call 65; refine (qfail_any g (.slice ao N c) s 2 s.pos _ hst).mono ?_; rintro _ w2 ⟨rfl, h4⟩; have hst2 : St w [g] w2 (qP g (.slice ao N c) (failS s 2 s.pos)) := St.callF (R := []) (qP g (.slice ao N c) s) hst h4; clear h4 hst) | (go_at_call 66; refine (qsome_any g ao N c (failS s 2 s.pos) (size) _ hst2 (by unfold failS; split <;> exact hp) (by omega)).mono ?_; rintro _ w3 ⟨he, h4⟩; rw [hne'] at he; subst he; have hst3 := St.callF (R := []) (qP g (.slice ao N c) (failS s 2 s.pos)) hst2 h4; clear h4 hst2))
  go_ret
  exact ⟨_, rfl, St.perm (St.nilPQ isB _ 1 hst3) (List.perm_append_comm (l₁ := [_]))⟩
theorem qraw_no_good {w0 : World} {M : List Nat} (g : Nat) (ao : Option Addr) (N c : Nat) (B : List UInt8) (s : RS) (size : Int) (w : World) (h : St w0 M w (qP g (.slice ao N c) s)) (hB : Rd w (.slice ao N c) 1 N (bytesV B)) (ho : Off (.slice ao N c) [g]) (hL : B.length = N) (hp : s.pos ≤ N) (hN : N ≤ 100000) (hb : ¬ size < 0) (hne : (someS N (s) size).e ≠ 0) :
    Calls Try.prog 48 #[.pointer (some ⟨g, 0, none⟩), .int .i64 size] w fun en w' => ∃ u, en = .returned u ∧ St w [g] w' (qP g (.slice ao N c) (someS N (s) size) ++ [.rowP isB u 5 1 ([] : List UInt8).length (bytesV ([] : List UInt8))]) := by
  have hst : St w [g] w (qP g (.slice ao N c) s) := h.selfF
  clear h
  have hne' : ((someS N (s) size).e == 0) = false := by simpa using hne
  clear hne
  have d1 : decide (size < 0) = false := decide_eq_false hb
  go_enter Try.func48, Try.ntmps48
  go_wp2_with (first | go_big_skip | go_big_guard | (refine wl_loadE rfl rfl rfl ?_; first | refine ⟨_, Loads.at [] hst rfl, ?_⟩) | (go_at_call 66; refine (qsome_any g ao N c (s) (size) _ hst hp (by omega)).mono ?_; rintro _ w3 ⟨he, h4⟩; rw [hne'] at he; subst he; have hst3 := St.callF (R := []) (qP g (.slice ao N c) (s)) hst h4; clear h4 hst))
  go_ret
  exact ⟨_, rfl, St.perm (St.nilPQ isB _ 1 hst3) (List.perm_append_comm (l₁ := [_]))⟩
theorem qraw_nil {w0 : World} {M : List Nat} (g : Nat) (fa : Int) (w : World) (h : St w0 M w (qP g (.slice none 0 0) ⟨0, 0, fa⟩)) :
    Calls Try.prog 48 #[.pointer (some ⟨g, 0, none⟩), .int .i64 0] w fun en w' => ∃ u, en = .returned u ∧ St w [g] w' (qP g (.slice none 0 0) ⟨0, 0, fa⟩ ++ [.rowP isB u 5 1 0 []]) := by
  have HS := hid (show someS 0 ⟨0, 0, fa⟩ 0 = ⟨0, 0, fa⟩ by unfold someS; rw [if_neg (fun hh => by simp at hh)])
  have zw : IntKind.i64.wrap 0 = 0 := rfl
  have hst : St w [g] w [.blk g 102 [.slice none 0 0, .int .i64 0, .int .i64 0, .int .i64 fa]] := h.selfF
  clear h
  go_enter Try.func48, Try.ntmps48
  go_wp2_with (first | go_big_skip | go_big_guard | (refine wl_loadE rfl rfl rfl ?_; first | refine ⟨_, Loads.at [] hst3 rfl, ?_⟩) | (go_at_call 66; refine (qsome_any g none 0 0 ⟨0, 0, fa⟩ 0 _ hst (Nat.le_refl 0) (by omega)).mono ?_; rw [HS.out]; rintro _ w3 ⟨rfl, h4⟩; have hst3 : St w [g] w3 [.blk g 102 [.slice none 0 0, .int .i64 0, .int .i64 0, .int .i64 fa]] := St.callF (R := []) (qP g (.slice none 0 0) ⟨0, 0, fa⟩) hst h4; clear h4 hst) | (refine wl_store [] hst3 rfl rfl rfl (v := .int .i64 0) rfl rfl rfl (by show (2 : Nat) ≤ 4; decide) ?_; intro w7 hst7; clear hst3))
  have hst7' : St w [g] w7 [.blk g 102 [.slice none 0 0, .int .i64 0, .int .i64 0, .int .i64 fa]] := hst7
  clear hst7
  have hD := hst7'.drew
  clear hst7'
  refine wp_region_held_drew (S := (fun w' => (loadVarH 23 ⟨g, 0, none⟩).run Try.prog w' = .ok (.slice none 0 0) w' ∧ (loadVarH 3 ⟨g, 1, none⟩).run Try.prog w' = .ok (.int .i64 0) w')) (by kernel_rfl) (by exact ⟨ldS [] hD rfl, ldS [] hD rfl⟩) (fun hHeld => ?_)
  refine wpAnyH_take (i := 1) (oi := ⟨some 27, _, _, _, _, _⟩) (v := ?_) rfl (by kernel_rfl) (by kernel_rfl) (by kernel_rfl) (fun _ _ _ h => h) (Or.inl ⟨by rfl, ?_⟩) (by assumption) ?_
  rotate_left
  · intro w hSw; (try dsimp only at hSw); go_simp; try with_reducible rfl
  (try simp only [Act.put, List.setIfInBounds_toArray, List.set_cons_zero, List.set_cons_succ])
  refine wpAnyH_take (i := 5) (oi := ⟨some 31, _, _, _, _, _⟩) (v := ?_) rfl (by kernel_rfl) (by kernel_rfl) (by kernel_rfl) (fun _ _ _ h => h) (Or.inl ⟨by rfl, ?_⟩) (by assumption) ?_
  rotate_left
  · intro w hSw; (try dsimp only at hSw); go_simp; try with_reducible rfl
  (try simp only [Act.put, List.setIfInBounds_toArray, List.set_cons_zero, List.set_cons_succ])
  refine wpAnyH_take (i := 9) (oi := ⟨some 35, _, _, _, _, _⟩) (v := ?_) rfl (by kernel_rfl) (by kernel_rfl) (by kernel_rfl) (fun _ _ _ h => h) (Or.inl ⟨by rfl, ?_⟩) (by assumption) ?_
  rotate_left
  · intro w hSw; (try dsimp only at hSw); go_simp; try with_reducible rfl
  (try simp only [Act.put, List.setIfInBounds_toArray, List.set_cons_zero, List.set_cons_succ])
  refine wpAnyH_take (i := 11) (oi := ⟨some 37, _, _, _, _, _⟩) (v := ?_) rfl (by kernel_rfl) (by kernel_rfl) (by kernel_rfl) (fun _ _ _ h => h) (Or.inl ⟨by rfl, ?_⟩) (by assumption) ?_
  rotate_left
  · intro w hSw; (try dsimp only at hSw); go_simp; try with_reducible rfl
  (try simp only [Act.put, List.setIfInBounds_toArray, List.set_cons_zero, List.set_cons_succ])
  refine wpAnyH_take (i := 2) (oi := ⟨some 28, _, _, _, _, _⟩) (v := ?_) rfl (by kernel_rfl) (by kernel_rfl) (by kernel_rfl) (fun _ _ _ h => h) (Or.inl ⟨by rfl, ?_⟩) (by assumption) ?_
  rotate_left
  · intro w hSw; (try dsimp only at hSw); go_simp; try with_reducible rfl
  (try simp only [Act.put, List.setIfInBounds_toArray, List.set_cons_zero, List.set_cons_succ])
  refine wpAnyH_take (i := 6) (oi := ⟨some 32, _, _, _, _, _⟩) (v := ?_) rfl (by kernel_rfl) (by kernel_rfl) (by kernel_rfl) (fun _ _ _ h => h) (Or.inl ⟨by rfl, ?_⟩) (by assumption) ?_
  rotate_left
  · intro w hSw; (try dsimp only at hSw); go_simp; try with_reducible rfl
  (try simp only [Act.put, List.setIfInBounds_toArray, List.set_cons_zero, List.set_cons_succ])
  refine wpAnyH_take (i := 12) (oi := ⟨some 38, _, _, _, _, _⟩) (v := ?_) rfl (by kernel_rfl) (by kernel_rfl) (by kernel_rfl) (fun _ _ _ h => h) (Or.inl ⟨by rfl, ?_⟩) (by assumption) ?_
  rotate_left
  · intro w hSw; (try dsimp only at hSw); go_simp; try with_reducible rfl
  (try simp only [Act.put, List.setIfInBounds_toArray, List.set_cons_zero, List.set_cons_succ])
  refine wpAnyH_take (i := 3) (oi := ⟨some 29, _, _, _, _, _⟩) (v := ?_) rfl (by kernel_rfl) (by kernel_rfl) (by kernel_rfl) (fun _ _ _ h => h) (Or.inl ⟨by rfl, ?_⟩) (by assumption) ?_
  rotate_left
  · intro w hSw; (try dsimp only at hSw); go_simp; try with_reducible rfl
  (try simp only [Act.put, List.setIfInBounds_toArray, List.set_cons_zero, List.set_cons_succ])
  refine wpAnyH_take (i := 7) (oi := ⟨some 33, _, _, _, _, _⟩) (v := ?_) rfl (by kernel_rfl) (by kernel_rfl) (by kernel_rfl) (fun _ _ _ h => h) (Or.inl ⟨by rfl, ?_⟩) (by assumption) ?_
  rotate_left
  · intro w hSw; (try dsimp only at hSw); go_simp; try with_reducible rfl
  (try simp only [Act.put, List.setIfInBounds_toArray, List.set_cons_zero, List.set_cons_succ])
  refine wpAnyH_take (i := 13) (oi := ⟨some 39, _, _, _, _, _⟩) (v := ?_) rfl (by kernel_rfl) (by kernel_rfl) (by kernel_rfl) (fun _ _ _ h => h) (Or.inl ⟨by rfl, ?_⟩) (by assumption) ?_
  rotate_left
  · intro w hSw; (try dsimp only at hSw); go_simp; try with_reducible rfl
  (try simp only [Act.put, List.setIfInBounds_toArray, List.set_cons_zero, List.set_cons_succ])
  refine wpAnyH_take (i := 4) (oi := ⟨some 30, _, _, _, _, _⟩) (v := ?_) rfl (by kernel_rfl) (by kernel_rfl) (by kernel_rfl) (fun _ _ _ h => h) (Or.inl ⟨by rfl, ?_⟩) (by assumption) ?_
  rotate_left
  · intro w hSw; (try dsimp only at hSw); go_simp; try with_reducible rfl
  (try simp only [Act.put, List.setIfInBounds_toArray, List.set_cons_zero, List.set_cons_succ])
  refine wpAnyH_take (i := 8) (oi := ⟨some 34, _, _, _, _, _⟩) (v := ?_) rfl (by kernel_rfl) (by kernel_rfl) (by kernel_rfl) (fun _ _ _ h => h) (Or.inl ⟨by rfl, ?_⟩) (by assumption) ?_
  rotate_left
  · intro w hSw; (try dsimp only at hSw); go_simp; try with_reducible rfl
  (try simp only [Act.put, List.setIfInBounds_toArray, List.set_cons_zero, List.set_cons_succ])
  refine wpAnyH_take (i := 14) (oi := ⟨some 40, _, _, _, _, _⟩) (v := ?_) rfl (by kernel_rfl) (by kernel_rfl) (by kernel_rfl) (fun _ _ _ h => h) (Or.inl ⟨by rfl, ?_⟩) (by assumption) ?_
  rotate_left
  · intro w hSw; (try dsimp only at hSw); go_simp; try with_reducible rfl
  (try simp only [Act.put, List.setIfInBounds_toArray, List.set_cons_zero, List.set_cons_succ])
  refine wpAnyH_take (i := 10) (oi := ⟨some 36, _, _, _, _, _⟩) (v := ?_) rfl (by kernel_rfl) (by kernel_rfl) (by kernel_rfl) (fun _ _ _ h => h) (Or.inl ⟨by rfl, ?_⟩) (by assumption) ?_
  rotate_left
  · intro w hSw; (try dsimp only at hSw); go_simp; try with_reducible rfl
  (try simp only [Act.put, List.setIfInBounds_toArray, List.set_cons_zero, List.set_cons_succ])
  refine wpAnyH_take (i := 15) (oi := ⟨some 41, _, _, _, _, _⟩) (v := ?_) rfl (by kernel_rfl) (by kernel_rfl) (by kernel_rfl) (fun _ _ _ h => h) (Or.inl ⟨by rfl, ?_⟩) (by assumption) ?_
  rotate_left
  · intro w hSw; (try dsimp only at hSw); go_simp; try with_reducible rfl
  (try simp only [Act.put, List.setIfInBounds_toArray, List.set_cons_zero, List.set_cons_succ])
  refine wpAnyH_ready (rs := [0]) (by kernel_rfl) (by simp) ?_
  refine (AllReadyH.cons (o := ⟨some 26, _, _, _, _, _⟩) rfl (fun K hK => ?_) AllReadyH.nil)
  rw [if_pos (by rfl)]
  refine ow_of_wl (ops := #[]) (by rfl) ?_
  apply wl_bsX [] [] hD
  · rfl
  · rfl
  · exact rfl
  · exact rfl
  · infer_instance
  · infer_instance
  · rfl
  · rfl
  · rfl
  intro g3 w8 hst8
  have hst9 := St.toRowP isB (n := 0) (cap := 0) (sz := 1) hst8 rfl (by decide) (by decide) rfl
  clear hst8
  refine q0_nil ?_
  refine hK.out _ _ ?_ (fun hHeld => ?_)
  · exact ⟨ldS [_] hst9 rfl, ldS [_] hst9 rfl⟩
  clear hK K
  (try simp only [Act.put, List.setIfInBounds_toArray, List.set_cons_zero, List.set_cons_succ])
  refine wpAnyH_ready (rs := [16]) (by kernel_rfl) (by simp) ?_
  refine (AllReadyH.cons (o := ⟨some 42, _, _, _, _, _⟩) rfl (fun K hK => ?_) AllReadyH.nil)
  rw [if_pos (by rfl)]
  refine ow_of_wl (ops := #[]) (by rfl) ?_
  apply wl_appP [] hst9
  · rfl
  · rfl
  · exact rfl
  · exact rfl
  · infer_instance
  · infer_instance
  · infer_instance
  · infer_instance
  · exact Rd.nil _ _
  · exact ones_bytesV ([])
  · rfl
  · exact isB_bytes ([])
  · unfold maxLen; omega
  intro v9 w9 hst10 _
  refine q0_nil ?_
  refine hK.out _ _ ?_ (fun hHeld => ?_)
  · exact ⟨ldS [_] hst10 rfl, ldS [_] hst10 rfl⟩
  clear hK K
  (try simp only [Act.put, List.setIfInBounds_toArray, List.set_cons_zero, List.set_cons_succ])
  refine wpAnyH_take (i := 17) (oi := ⟨some 4, _, _, _, _, _⟩) (v := ?_) rfl (by kernel_rfl) (by kernel_rfl) (by kernel_rfl) (fun _ _ _ h => h) (Or.inl ⟨by rfl, ?_⟩) (by assumption) ?_
  rotate_left
  · intro w hSw; (try dsimp only at hSw); go_simp; try with_reducible rfl
  (try simp only [Act.put, List.setIfInBounds_toArray, List.set_cons_zero, List.set_cons_succ])
  refine wpAnyH_done (by kernel_rfl) ?_ _
  clear hHeld
  go_wp2_with (first | go_big_skip | go_big_guard | fail)
  go_ret
  exact ⟨v9, rfl, St.perm hst10 (List.perm_append_comm (l₁ := [_]))⟩
theorem qraw_end {w0 : World} {M : List Nat} (g  N c p k : Nat) (AA : Addr) (B : List UInt8) (fa : Int) (w : World) (h : St w0 M w (qP g (.slice (some AA) N c) ⟨p, 0, fa⟩)) (hB : Rd w (.slice (some AA) N c) 1 N (bytesV B)) (ho : Off (.slice (some AA) N c) [g]) (hN : N ≤ 100000) (hpk : p + k ≤ N) (hcp : c = p) :
    Calls Try.prog 48 #[.pointer (some ⟨g, 0, none⟩), .int .i64 k] w fun en w' => ∃ u, en = .returned u ∧ St w [g] w' (qP g (.slice (some AA) N c) ⟨p + k, 0, fa⟩ ++ [.rowP isB u 5 1 k (bytesV ((B.drop p).take k))]) := by
  have HS := hid (show someS N ⟨p, 0, fa⟩ k = ⟨p, 0, fa⟩ by unfold someS; rw [if_neg (fun hh => by have h9 : (N : Int) - (p : Int) < (k : Int) := hh.2; omega)])
  have hbd := hB.bd
  have hb1 := hbd.1
  have hb2 := hbd.2.1
  clear hbd
  have d1 : decide ((k : Int) < 0) = false := decide_eq_false (by omega)
  have z0 : IntKind.i64.wrap ((p : Int) + (k : Int)) = (p : Int) + (k : Int) := IntWalk.i64_in _ (by omega)
  have z1 : IntKind.i64.wrap (p : Int) = (p : Int) := IntWalk.i64_in _ (by omega)
  have z2 : IntKind.i64.wrap ((p : Int) + (k : Int) - (k : Int)) = (p : Int) := by rw [show (p : Int) + (k : Int) - (k : Int) = (p : Int) by omega]; exact z1
  have n1 : (p : Int).toNat = p := by omega
  have n2 : ((p : Int) + (k : Int)).toNat = p + k := by omega
  have n3 : (p : Int) + (k : Int) ≤ (c : Int) := by omega
  have n4 : (p : Int) ≤ (p : Int) + (k : Int) := by omega
  have n5 : 0 ≤ (p : Int) := by omega
  have n6 : 0 ≤ (p : Int) + (k : Int) := by omega
  have hk0 : k = 0 := by omega
  subst hk0
  subst hcp
  have zp0 : IntKind.i64.wrap ((c : Int) + 0) = (c : Int) := by rw [Int.add_zero]; exact z1
  have n8 : (c : Int) ≤ (c : Int) := Int.le_refl _
  have hst : St w [g] w [.blk g 102 [.slice (some AA) N c, .int .i64 c, .int .i64 0, .int .i64 fa]] := h.selfF
  clear h
  go_enter Try.func48, Try.ntmps48
  go_wp2_with (first | go_big_skip | go_big_guard | (refine wl_loadE rfl rfl rfl ?_; first | refine ⟨_, Loads.at [] hst3 rfl, ?_⟩) | (go_at_call 66; refine (qsome_any g (some AA) N c ⟨c, 0, fa⟩ (0 : Nat) _ hst (by show c ≤ N; omega) (by omega)).mono ?_; rw [HS.out]; rintro _ w3 ⟨rfl, h4⟩; have hst3 : St w [g] w3 [.blk g 102 [.slice (some AA) N c, .int .i64 c, .int .i64 0, .int .i64 fa]] := St.callF (R := []) (qP g (.slice (some AA) N c) ⟨c, 0, fa⟩) hst h4; clear h4 hst) | (refine wl_store [] hst3 rfl rfl rfl (v := .int .i64 (c : Int)) rfl rfl rfl (by show (2 : Nat) ≤ 4; decide) ?_; intro w7 hst7; clear hst3))
  have hst7' : St w [g] w7 [.blk g 102 [.slice (some AA) N c, .int .i64 (c : Int), .int .i64 0, .int .i64 fa]] := hst7
  clear hst7
  have hD := hst7'.drew
  clear hst7'
  refine wp_region_held_drew (S := (fun w' => (loadVarH 23 ⟨g, 0, none⟩).run Try.prog w' = .ok (.slice (some AA) N c) w' ∧ (loadVarH 3 ⟨g, 1, none⟩).run Try.prog w' = .ok (.int .i64 (c : Int)) w')) (by kernel_rfl) (by exact ⟨ldS [] hD rfl, ldS [] hD rfl⟩) (fun hHeld => ?_)
  refine wpAnyH_take (i := 1) (oi := ⟨some 27, _, _, _, _, _⟩) (v := ?_) rfl (by kernel_rfl) (by kernel_rfl) (by kernel_rfl) (fun _ _ _ h => h) (Or.inl ⟨by rfl, ?_⟩) (by assumption) ?_
  rotate_left
  · intro w hSw; (try dsimp only at hSw); go_simp; try with_reducible rfl
  (try simp only [Act.put, List.setIfInBounds_toArray, List.set_cons_zero, List.set_cons_succ])
  refine wpAnyH_take (i := 5) (oi := ⟨some 31, _, _, _, _, _⟩) (v := ?_) rfl (by kernel_rfl) (by kernel_rfl) (by kernel_rfl) (fun _ _ _ h => h) (Or.inl ⟨by rfl, ?_⟩) (by assumption) ?_
  rotate_left
  · intro w hSw; (try dsimp only at hSw); go_simp; try with_reducible rfl
  (try simp only [Act.put, List.setIfInBounds_toArray, List.set_cons_zero, List.set_cons_succ])
  refine wpAnyH_take (i := 9) (oi := ⟨some 35, _, _, _, _, _⟩) (v := ?_) rfl (by kernel_rfl) (by kernel_rfl) (by kernel_rfl) (fun _ _ _ h => h) (Or.inl ⟨by rfl, ?_⟩) (by assumption) ?_
  rotate_left
  · intro w hSw; (try dsimp only at hSw); go_simp; try with_reducible rfl
  (try simp only [Act.put, List.setIfInBounds_toArray, List.set_cons_zero, List.set_cons_succ])
  refine wpAnyH_take (i := 11) (oi := ⟨some 37, _, _, _, _, _⟩) (v := ?_) rfl (by kernel_rfl) (by kernel_rfl) (by kernel_rfl) (fun _ _ _ h => h) (Or.inl ⟨by rfl, ?_⟩) (by assumption) ?_
  rotate_left
  · intro w hSw; (try dsimp only at hSw); go_simp; try with_reducible rfl
  (try simp only [Act.put, List.setIfInBounds_toArray, List.set_cons_zero, List.set_cons_succ])
  refine wpAnyH_take (i := 2) (oi := ⟨some 28, _, _, _, _, _⟩) (v := ?_) rfl (by kernel_rfl) (by kernel_rfl) (by kernel_rfl) (fun _ _ _ h => h) (Or.inl ⟨by rfl, ?_⟩) (by assumption) ?_
  rotate_left
  · intro w hSw; (try dsimp only at hSw); go_simp; try with_reducible rfl
  (try simp only [Act.put, List.setIfInBounds_toArray, List.set_cons_zero, List.set_cons_succ])
  refine wpAnyH_take (i := 6) (oi := ⟨some 32, _, _, _, _, _⟩) (v := ?_) rfl (by kernel_rfl) (by kernel_rfl) (by kernel_rfl) (fun _ _ _ h => h) (Or.inl ⟨by rfl, ?_⟩) (by assumption) ?_
  rotate_left
  · intro w hSw; (try dsimp only at hSw); go_simp; try with_reducible rfl
  (try simp only [Act.put, List.setIfInBounds_toArray, List.set_cons_zero, List.set_cons_succ])
  refine wpAnyH_take (i := 12) (oi := ⟨some 38, _, _, _, _, _⟩) (v := ?_) rfl (by kernel_rfl) (by kernel_rfl) (by kernel_rfl) (fun _ _ _ h => h) (Or.inl ⟨by rfl, ?_⟩) (by assumption) ?_
  rotate_left
  · intro w hSw; (try dsimp only at hSw); go_simp; try with_reducible rfl
  (try simp only [Act.put, List.setIfInBounds_toArray, List.set_cons_zero, List.set_cons_succ])
  refine wpAnyH_take (i := 3) (oi := ⟨some 29, _, _, _, _, _⟩) (v := ?_) rfl (by kernel_rfl) (by kernel_rfl) (by kernel_rfl) (fun _ _ _ h => h) (Or.inl ⟨by rfl, ?_⟩) (by assumption) ?_
  rotate_left
  · intro w hSw; (try dsimp only at hSw); go_simp; try with_reducible rfl
  (try simp only [Act.put, List.setIfInBounds_toArray, List.set_cons_zero, List.set_cons_succ])
  refine wpAnyH_take (i := 7) (oi := ⟨some 33, _, _, _, _, _⟩) (v := ?_) rfl (by kernel_rfl) (by kernel_rfl) (by kernel_rfl) (fun _ _ _ h => h) (Or.inl ⟨by rfl, ?_⟩) (by assumption) ?_
  rotate_left
  · intro w hSw; (try dsimp only at hSw); go_simp; try with_reducible rfl
  (try simp only [Act.put, List.setIfInBounds_toArray, List.set_cons_zero, List.set_cons_succ])
  refine wpAnyH_take (i := 13) (oi := ⟨some 39, _, _, _, _, _⟩) (v := ?_) rfl (by kernel_rfl) (by kernel_rfl) (by kernel_rfl) (fun _ _ _ h => h) (Or.inl ⟨by rfl, ?_⟩) (by assumption) ?_
  rotate_left
  · intro w hSw; (try dsimp only at hSw); go_simp; try with_reducible rfl
  (try simp only [Act.put, List.setIfInBounds_toArray, List.set_cons_zero, List.set_cons_succ])
  refine wpAnyH_take (i := 4) (oi := ⟨some 30, _, _, _, _, _⟩) (v := ?_) rfl (by kernel_rfl) (by kernel_rfl) (by kernel_rfl) (fun _ _ _ h => h) (Or.inl ⟨by rfl, ?_⟩) (by assumption) ?_
  rotate_left
  · intro w hSw; (try dsimp only at hSw); go_simp; try with_reducible rfl
  (try simp only [Act.put, List.setIfInBounds_toArray, List.set_cons_zero, List.set_cons_succ])
  refine wpAnyH_take (i := 8) (oi := ⟨some 34, _, _, _, _, _⟩) (v := ?_) rfl (by kernel_rfl) (by kernel_rfl) (by kernel_rfl) (fun _ _ _ h => h) (Or.inl ⟨by rfl, ?_⟩) (by assumption) ?_
  rotate_left
  · intro w hSw; (try dsimp only at hSw); go_simp; try with_reducible rfl
  (try simp only [Act.put, List.setIfInBounds_toArray, List.set_cons_zero, List.set_cons_succ])
  refine wpAnyH_take (i := 14) (oi := ⟨some 40, _, _, _, _, _⟩) (v := ?_) rfl (by kernel_rfl) (by kernel_rfl) (by kernel_rfl) (fun _ _ _ h => h) (Or.inl ⟨by rfl, ?_⟩) (by assumption) ?_
  rotate_left
  · intro w hSw; (try dsimp only at hSw); go_simp; try with_reducible rfl
  (try simp only [Act.put, List.setIfInBounds_toArray, List.set_cons_zero, List.set_cons_succ])
  refine wpAnyH_take (i := 10) (oi := ⟨some 36, _, _, _, _, _⟩) (v := ?_) rfl (by kernel_rfl) (by kernel_rfl) (by kernel_rfl) (fun _ _ _ h => h) (Or.inl ⟨by rfl, ?_⟩) (by assumption) ?_
  rotate_left
  · intro w hSw; (try dsimp only at hSw); go_simp; try with_reducible rfl
  (try simp only [Act.put, List.setIfInBounds_toArray, List.set_cons_zero, List.set_cons_succ])
  refine wpAnyH_take (i := 15) (oi := ⟨some 41, _, _, _, _, _⟩) (v := ?_) rfl (by kernel_rfl) (by kernel_rfl) (by kernel_rfl) (fun _ _ _ h => h) (Or.inl ⟨by rfl, ?_⟩) (by assumption) ?_
  rotate_left
  · intro w hSw; (try dsimp only at hSw); go_simp; try with_reducible rfl
  (try simp only [Act.put, List.setIfInBounds_toArray, List.set_cons_zero, List.set_cons_succ])
  refine wpAnyH_ready (rs := [0]) (by kernel_rfl) (by simp) ?_
  refine (AllReadyH.cons (o := ⟨some 26, _, _, _, _, _⟩) rfl (fun K hK => ?_) AllReadyH.nil)
  rw [if_pos (by rfl)]
  refine ow_of_wl (ops := #[]) (by rfl) ?_
  apply wl_bsX [] [] hD
  · rfl
  · rfl
  · exact rfl
  · exact rfl
  · infer_instance
  · infer_instance
  · rfl
  · rfl
  · rfl
  intro g3 w8 hst8
  have hst9 := St.toRowP isB (n := 0) (cap := 0) (sz := 1) hst8 rfl (by decide) (by decide) rfl
  clear hst8
  refine q0_nil ?_
  refine hK.out _ _ ?_ (fun hHeld => ?_)
  · exact ⟨ldS [_] hst9 rfl, ldS [_] hst9 rfl⟩
  clear hK K
  (try simp only [Act.put, List.setIfInBounds_toArray, List.set_cons_zero, List.set_cons_succ])
  refine wpAnyH_ready (rs := [16]) (by kernel_rfl) (by simp) ?_
  refine (AllReadyH.cons (o := ⟨some 42, _, _, _, _, _⟩) rfl (fun K hK => ?_) AllReadyH.nil)
  rw [if_pos (by rfl)]
  refine ow_of_wl (ops := #[]) (by rfl) ?_
  apply wl_appP [] hst9
  · rfl
  · rfl
  · exact rfl
  · exact rfl
  · infer_instance
  · infer_instance
  · infer_instance
  · infer_instance
  · exact (Rd.empty _ 1 AA)
  · exact ones_bytesV ([])
  · rfl
  · exact isB_bytes ([])
  · unfold maxLen; omega
  intro v9 w9 hst10 _
  refine q0_nil ?_
  refine hK.out _ _ ?_ (fun hHeld => ?_)
  · exact ⟨ldS [_] hst10 rfl, ldS [_] hst10 rfl⟩
  clear hK K
  (try simp only [Act.put, List.setIfInBounds_toArray, List.set_cons_zero, List.set_cons_succ])
  refine wpAnyH_take (i := 17) (oi := ⟨some 4, _, _, _, _, _⟩) (v := ?_) rfl (by kernel_rfl) (by kernel_rfl) (by kernel_rfl) (fun _ _ _ h => h) (Or.inl ⟨by rfl, ?_⟩) (by assumption) ?_
  rotate_left
  · intro w hSw; (try dsimp only at hSw); go_simp; try with_reducible rfl
  (try simp only [Act.put, List.setIfInBounds_toArray, List.set_cons_zero, List.set_cons_succ])
  refine wpAnyH_done (by kernel_rfl) ?_ _
  clear hHeld
  go_wp2_with (first | go_big_skip | go_big_guard | fail)
  go_ret
  refine ⟨v9, rfl, ?_⟩
  exact St.perm hst10 (List.perm_append_comm (l₁ := [_]))
theorem qraw_ok {w0 : World} {M : List Nat} (g b off N c p k : Nat) (B : List UInt8) (fa : Int) (w : World) (h : St w0 M w (qP g (.slice (some ⟨b, off, none⟩) N c) ⟨p, 0, fa⟩)) (hB : Rd w (.slice (some ⟨b, off, none⟩) N c) 1 N (bytesV B)) (ho : Off (.slice (some ⟨b, off, none⟩) N c) [g]) (hN : N ≤ 100000) (hpk : p + k ≤ N) (hcp : ¬ c = p) :
    Calls Try.prog 48 #[.pointer (some ⟨g, 0, none⟩), .int .i64 k] w fun en w' => ∃ u, en = .returned u ∧ St w [g] w' (qP g (.slice (some ⟨b, off, none⟩) N c) ⟨p + k, 0, fa⟩ ++ [.rowP isB u 5 1 k (bytesV ((B.drop p).take k))]) := by
  have HS := hid (show someS N ⟨p, 0, fa⟩ k = ⟨p, 0, fa⟩ by unfold someS; rw [if_neg (fun hh => by have h9 : (N : Int) - (p : Int) < (k : Int) := hh.2; omega)])
  have hbd := hB.bd
  have hb1 := hbd.1
  have hb2 := hbd.2.1
  clear hbd
  have d1 : decide ((k : Int) < 0) = false := decide_eq_false (by omega)
  have z0 : IntKind.i64.wrap ((p : Int) + (k : Int)) = (p : Int) + (k : Int) := IntWalk.i64_in _ (by omega)
  have z1 : IntKind.i64.wrap (p : Int) = (p : Int) := IntWalk.i64_in _ (by omega)
  have z2 : IntKind.i64.wrap ((p : Int) + (k : Int) - (k : Int)) = (p : Int) := by rw [show (p : Int) + (k : Int) - (k : Int) = (p : Int) by omega]; exact z1
  have n1 : (p : Int).toNat = p := by omega
  have n2 : ((p : Int) + (k : Int)).toNat = p + k := by omega
  have n3 : (p : Int) + (k : Int) ≤ (c : Int) := by omega
  have n4 : (p : Int) ≤ (p : Int) + (k : Int) := by omega
  have n5 : 0 ≤ (p : Int) := by omega
  have n6 : 0 ≤ (p : Int) + (k : Int) := by omega
  have hst : St w [g] w [.blk g 102 [.slice (some ⟨b, off, none⟩) N c, .int .i64 p, .int .i64 0, .int .i64 fa]] := h.selfF
  clear h
  go_enter Try.func48, Try.ntmps48
  go_wp2_with (first | go_big_skip | go_big_guard | (refine wl_loadE rfl rfl rfl ?_; first | refine ⟨_, Loads.at [] hst3 rfl, ?_⟩) | (go_at_call 66; refine (qsome_any g (some ⟨b, off, none⟩) N c ⟨p, 0, fa⟩ k _ hst (by show p ≤ N; omega) (by omega)).mono ?_; rw [HS.out]; rintro _ w3 ⟨rfl, h4⟩; have hst3 : St w [g] w3 [.blk g 102 [.slice (some ⟨b, off, none⟩) N c, .int .i64 p, .int .i64 0, .int .i64 fa]] := St.callF (R := []) (qP g (.slice (some ⟨b, off, none⟩) N c) ⟨p, 0, fa⟩) hst h4; clear h4 hst) | (refine wl_store [] hst3 rfl rfl rfl (v := .int .i64 ((p : Int) + (k : Int))) rfl rfl rfl (by show (2 : Nat) ≤ 4; decide) ?_; intro w7 hst7; clear hst3))
  have hst7' : St w [g] w7 [.blk g 102 [.slice (some ⟨b, off, none⟩) N c, .int .i64 ((p : Int) + (k : Int)), .int .i64 0, .int .i64 fa]] := hst7
  clear hst7
  have hD := hst7'.drew
  clear hst7'
  refine wp_region_held_drew (S := (fun w' => (loadVarH 23 ⟨g, 0, none⟩).run Try.prog w' = .ok (.slice (some ⟨b, off, none⟩) N c) w' ∧ (loadVarH 3 ⟨g, 1, none⟩).run Try.prog w' = .ok (.int .i64 ((p : Int) + (k : Int))) w')) (by kernel_rfl) (by exact ⟨ldS [] hD rfl, ldS [] hD rfl⟩) (fun hHeld => ?_)
  refine wpAnyH_take (i := 1) (oi := ⟨some 27, _, _, _, _, _⟩) (v := ?_) rfl (by kernel_rfl) (by kernel_rfl) (by kernel_rfl) (fun _ _ _ h => h) (Or.inl ⟨by rfl, ?_⟩) (by assumption) ?_
  rotate_left
  · intro w hSw; (try dsimp only at hSw); go_simp; try with_reducible rfl
  (try simp only [Act.put, List.setIfInBounds_toArray, List.set_cons_zero, List.set_cons_succ])
  refine wpAnyH_take (i := 5) (oi := ⟨some 31, _, _, _, _, _⟩) (v := ?_) rfl (by kernel_rfl) (by kernel_rfl) (by kernel_rfl) (fun _ _ _ h => h) (Or.inl ⟨by rfl, ?_⟩) (by assumption) ?_
  rotate_left
  · intro w hSw; (try dsimp only at hSw); go_simp; try with_reducible rfl
  (try simp only [Act.put, List.setIfInBounds_toArray, List.set_cons_zero, List.set_cons_succ])
  refine wpAnyH_take (i := 9) (oi := ⟨some 35, _, _, _, _, _⟩) (v := ?_) rfl (by kernel_rfl) (by kernel_rfl) (by kernel_rfl) (fun _ _ _ h => h) (Or.inl ⟨by rfl, ?_⟩) (by assumption) ?_
  rotate_left
  · intro w hSw; (try dsimp only at hSw); go_simp; try with_reducible rfl
  (try simp only [Act.put, List.setIfInBounds_toArray, List.set_cons_zero, List.set_cons_succ])
  refine wpAnyH_take (i := 11) (oi := ⟨some 37, _, _, _, _, _⟩) (v := ?_) rfl (by kernel_rfl) (by kernel_rfl) (by kernel_rfl) (fun _ _ _ h => h) (Or.inl ⟨by rfl, ?_⟩) (by assumption) ?_
  rotate_left
  · intro w hSw; (try dsimp only at hSw); go_simp; try with_reducible rfl
  (try simp only [Act.put, List.setIfInBounds_toArray, List.set_cons_zero, List.set_cons_succ])
  refine wpAnyH_take (i := 2) (oi := ⟨some 28, _, _, _, _, _⟩) (v := ?_) rfl (by kernel_rfl) (by kernel_rfl) (by kernel_rfl) (fun _ _ _ h => h) (Or.inl ⟨by rfl, ?_⟩) (by assumption) ?_
  rotate_left
  · intro w hSw; (try dsimp only at hSw); go_simp; try with_reducible rfl
  (try simp only [Act.put, List.setIfInBounds_toArray, List.set_cons_zero, List.set_cons_succ])
  refine wpAnyH_take (i := 6) (oi := ⟨some 32, _, _, _, _, _⟩) (v := ?_) rfl (by kernel_rfl) (by kernel_rfl) (by kernel_rfl) (fun _ _ _ h => h) (Or.inl ⟨by rfl, ?_⟩) (by assumption) ?_
  rotate_left
  · intro w hSw; (try dsimp only at hSw); go_simp; try with_reducible rfl
  (try simp only [Act.put, List.setIfInBounds_toArray, List.set_cons_zero, List.set_cons_succ])
  refine wpAnyH_take (i := 12) (oi := ⟨some 38, _, _, _, _, _⟩) (v := ?_) rfl (by kernel_rfl) (by kernel_rfl) (by kernel_rfl) (fun _ _ _ h => h) (Or.inl ⟨by rfl, ?_⟩) (by assumption) ?_
  rotate_left
  · intro w hSw; (try dsimp only at hSw); go_simp; try with_reducible rfl
  (try simp only [Act.put, List.setIfInBounds_toArray, List.set_cons_zero, List.set_cons_succ])
  refine wpAnyH_take (i := 3) (oi := ⟨some 29, _, _, _, _, _⟩) (v := ?_) rfl (by kernel_rfl) (by kernel_rfl) (by kernel_rfl) (fun _ _ _ h => h) (Or.inl ⟨by rfl, ?_⟩) (by assumption) ?_
  rotate_left
  · intro w hSw; (try dsimp only at hSw); go_simp; try with_reducible rfl
  (try simp only [Act.put, List.setIfInBounds_toArray, List.set_cons_zero, List.set_cons_succ])
  refine wpAnyH_take (i := 7) (oi := ⟨some 33, _, _, _, _, _⟩) (v := ?_) rfl (by kernel_rfl) (by kernel_rfl) (by kernel_rfl) (fun _ _ _ h => h) (Or.inl ⟨by rfl, ?_⟩) (by assumption) ?_
  rotate_left
  · intro w hSw; (try dsimp only at hSw); go_simp; try with_reducible rfl
  (try simp only [Act.put, List.setIfInBounds_toArray, List.set_cons_zero, List.set_cons_succ])
  refine wpAnyH_take (i := 13) (oi := ⟨some 39, _, _, _, _, _⟩) (v := ?_) rfl (by kernel_rfl) (by kernel_rfl) (by kernel_rfl) (fun _ _ _ h => h) (Or.inl ⟨by rfl, ?_⟩) (by assumption) ?_
  rotate_left
  · intro w hSw; (try dsimp only at hSw); go_simp; try with_reducible rfl
  (try simp only [Act.put, List.setIfInBounds_toArray, List.set_cons_zero, List.set_cons_succ])
  refine wpAnyH_take (i := 4) (oi := ⟨some 30, _, _, _, _, _⟩) (v := ?_) rfl (by kernel_rfl) (by kernel_rfl) (by kernel_rfl) (fun _ _ _ h => h) (Or.inl ⟨by rfl, ?_⟩) (by assumption) ?_
  rotate_left
  · intro w hSw; (try dsimp only at hSw); go_simp; try with_reducible rfl
  (try simp only [Act.put, List.setIfInBounds_toArray, List.set_cons_zero, List.set_cons_succ])
  refine wpAnyH_take (i := 8) (oi := ⟨some 34, _, _, _, _, _⟩) (v := ?_) rfl (by kernel_rfl) (by kernel_rfl) (by kernel_rfl) (fun _ _ _ h => h) (Or.inl ⟨by rfl, ?_⟩) (by assumption) ?_
  rotate_left
  · intro w hSw; (try dsimp only at hSw); go_simp; try with_reducible rfl
  (try simp only [Act.put, List.setIfInBounds_toArray, List.set_cons_zero, List.set_cons_succ])
  refine wpAnyH_take (i := 14) (oi := ⟨some 40, _, _, _, _, _⟩) (v := ?_) rfl (by kernel_rfl) (by kernel_rfl) (by kernel_rfl) (fun _ _ _ h => h) (Or.inl ⟨by rfl, ?_⟩) (by assumption) ?_
  rotate_left
  · intro w hSw; (try dsimp only at hSw); go_simp; try with_reducible rfl
  (try simp only [Act.put, List.setIfInBounds_toArray, List.set_cons_zero, List.set_cons_succ])
  refine wpAnyH_take (i := 10) (oi := ⟨some 36, _, _, _, _, _⟩) (v := ?_) rfl (by kernel_rfl) (by kernel_rfl) (by kernel_rfl) (fun _ _ _ h => h) (Or.inl ⟨by rfl, ?_⟩) (by assumption) ?_
  rotate_left
  · intro w hSw; (try dsimp only at hSw); go_simp; try with_reducible rfl
  (try simp only [Act.put, List.setIfInBounds_toArray, List.set_cons_zero, List.set_cons_succ])
  refine wpAnyH_take (i := 15) (oi := ⟨some 41, _, _, _, _, _⟩) (v := ?_) rfl (by kernel_rfl) (by kernel_rfl) (by kernel_rfl) (fun _ _ _ h => h) (Or.inl ⟨by rfl, ?_⟩) (by assumption) ?_
  rotate_left
  · intro w hSw; (try dsimp only at hSw); go_simp; try with_reducible rfl
  (try simp only [Act.put, List.setIfInBounds_toArray, List.set_cons_zero, List.set_cons_succ])
  refine wpAnyH_ready (rs := [0]) (by kernel_rfl) (by simp) ?_
  refine (AllReadyH.cons (o := ⟨some 26, _, _, _, _, _⟩) rfl (fun K hK => ?_) AllReadyH.nil)
  rw [if_pos (by rfl)]
  refine ow_of_wl (ops := #[]) (by rfl) ?_
  apply wl_bsX [] [] hD
  · rfl
  · rfl
  · exact rfl
  · exact rfl
  · infer_instance
  · infer_instance
  · rfl
  · rfl
  · rfl
  intro g3 w8 hst8
  have hst9 := St.toRowP isB (n := 0) (cap := 0) (sz := 1) hst8 rfl (by decide) (by decide) rfl
  clear hst8
  refine q0_nil ?_
  refine hK.out _ _ ?_ (fun hHeld => ?_)
  · exact ⟨ldS [_] hst9 rfl, ldS [_] hst9 rfl⟩
  clear hK K
  (try simp only [Act.put, List.setIfInBounds_toArray, List.set_cons_zero, List.set_cons_succ])
  refine wpAnyH_ready (rs := [16]) (by kernel_rfl) (by simp) ?_
  refine (AllReadyH.cons (o := ⟨some 42, _, _, _, _, _⟩) rfl (fun K hK => ?_) AllReadyH.nil)
  rw [if_pos (by rfl)]
  refine ow_of_wl (ops := #[]) (by rfl) ?_
  apply wl_appP [] hst9
  · rfl
  · rfl
  · exact rfl
  · exact rfl
  · infer_instance
  · infer_instance
  · infer_instance
  · infer_instance
  · exact Rd.win (m := k) p (Rd.oldM hst9 hB ho) rfl (by omega) (by omega)
  · exact ones_bytesV (_)
  · rfl
  · exact isB_bytes (_)
  · unfold maxLen; omega
  intro v9 w9 hst10 _
  refine q0_nil ?_
  refine hK.out _ _ ?_ (fun hHeld => ?_)
  · exact ⟨ldS [_] hst10 rfl, ldS [_] hst10 rfl⟩
  clear hK K
  (try simp only [Act.put, List.setIfInBounds_toArray, List.set_cons_zero, List.set_cons_succ])
  refine wpAnyH_take (i := 17) (oi := ⟨some 4, _, _, _, _, _⟩) (v := ?_) rfl (by kernel_rfl) (by kernel_rfl) (by kernel_rfl) (fun _ _ _ h => h) (Or.inl ⟨by rfl, ?_⟩) (by assumption) ?_
  rotate_left
  · intro w hSw; (try dsimp only at hSw); go_simp; try with_reducible rfl
  (try simp only [Act.put, List.setIfInBounds_toArray, List.set_cons_zero, List.set_cons_succ])
  refine wpAnyH_done (by kernel_rfl) ?_ _
  clear hHeld
  go_wp2_with (first | go_big_skip | go_big_guard | fail)
  go_ret
  rw [Nat.zero_add] at hst10
  exact ⟨v9, rfl, St.perm hst10 (List.perm_append_comm (l₁ := [_]))⟩
theorem qraw_any {w0 : World} {M : List Nat} (g : Nat) (ao : Option Addr) (N c : Nat) (B : List UInt8) (s : RS) (size : Int) (w : World) (h : St w0 M w (qP g (.slice ao N c) s)) (hB : Rd w (.slice ao N c) 1 N (bytesV B)) (ho : Off (.slice ao N c) [g]) (hL : B.length = N) (hp : s.pos ≤ N) (hN : N ≤ 100000)  :
    Calls Try.prog 48 #[.pointer (some ⟨g, 0, none⟩), .int .i64 size] w fun en w' => ∃ u, en = .returned u ∧ St w [g] w' (qP g (.slice ao N c) (stepR s (rawRR B s.pos size) []).1 ++ [.rowP isB u 5 1 (stepR s (rawRR B s.pos size) []).2.length (bytesV (stepR s (rawRR B s.pos size) []).2)]) := by
  obtain ⟨bad, hb⟩ : ∃ bad, bad = decide (size < 0) := ⟨_, rfl⟩
  have hbad : bad = true ↔ size < 0 := by rw [hb]; exact decide_eq_true_iff
  by_cases hne : (preQ N s bad size).e = 0
  · obtain ⟨h1, h0, h2, _⟩ := preQ_yes hne
    have h1' : ¬ size < 0 := fun hh => by rw [hbad.2 hh] at h1; cases h1
    obtain ⟨p, f, fa⟩ := s
    have h0' : f = 0 := h0
    subst h0'
    obtain ⟨k, rfl⟩ : ∃ k : Nat, size = (k : Int) := ⟨size.toNat, by omega⟩
    have h2' : ¬ (N : Int) - (p : Int) < (k : Int) := h2
    have hp' : p ≤ N := hp
    have hR : rawRR B p k = .ok ((B.drop p).take k) (p + k) := by
      unfold rawRR
      rw [if_neg h1', if_neg (by rw [hL]; exact h2'), Int.toNat_natCast]
    have hS : stepR (⟨p, 0, fa⟩ : RS) (rawRR B p k) [] = (⟨p + k, 0, fa⟩, (B.drop p).take k) := by rw [hR]; rfl
    rw [show (⟨p, 0, fa⟩ : RS).pos = p from rfl, hS]
    have hlen : ((B.drop p).take k).length = k := by rw [List.length_take, List.length_drop]; omega
    dsimp only
    rw [hlen]
    rcases hB.casesF with ⟨he, hn0, hb0⟩ | ⟨AA, c', he, hnc9, _⟩
    · simp only [Value.slice.injEq] at he
      obtain ⟨rfl, rfl, rfl⟩ := he
      have hB0 : B = [] := by simpa [bytesV] using hb0
      subst hB0
      have hp0 : p = 0 := by omega
      have hk0 : k = 0 := by omega
      subst hp0
      subst hk0
      exact qraw_nil g fa w h
    · simp only [Value.slice.injEq, true_and] at he
      obtain ⟨rfl, rfl⟩ := he
      by_cases hcp : c = p
      · exact qraw_end g N c p k AA B fa w h hB ho hN (by omega) hcp
      · obtain ⟨b, off, rfl⟩ := hB.addr (by omega)
        exact qraw_ok g b off N c p k B fa w h hB ho hN (by omega) hcp
  · have hS := preQ_no (α := List UInt8) (d := []) (r := rawRR B s.pos size) (fun hh => by unfold rawRR; rw [if_pos (hbad.1 hh)]) (fun hh hn => by
      unfold rawRR
      rw [if_neg (fun h9 => by rw [hbad.2 h9] at hh; cases hh), if_pos (by rw [hL]; exact hn), hL]) hne
    rw [hS]
    by_cases h1 : size < 0
    · rw [hbad.2 h1] at hne ⊢
      exact qraw_no_neg g ao N c B s size w h hB ho hL hp hN h1 hne
    · have hf : bad = false := by
        rw [hb]
        exact decide_eq_false h1
      rw [hf] at hne ⊢
      exact qraw_no_good g ao N c B s size w h hB ho hL hp hN h1 hne
end
end Go.Proofs.Ytalfdcfcaamnbaa
