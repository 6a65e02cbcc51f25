import Derived.Test.YtalfdcfcaamnbaaF26
namespace Go.Proofs.Ytalfdcfcaamnbaa
set_option linter.unusedVariables false
set_option linter.unusedSimpArgs false
open Go.RowKit Hp
attribute [local irreducible] Go.Calls
set_option maxRecDepth 100000
set_option maxHeartbeats 4000000
theorem getD_drop (B : List UInt8) (p j : Nat) : (B.drop p).getD j 0 = B.getD (p + j) 0 := by
  simp [List.getD]
section
attribute [local go_sem ↓] loadedInt loadedSl loadedU8
theorem qtext_no_neg {w0 : World} {M : List Nat} (g : Nat) (ao : Option Addr) (N c : Nat) (B : List UInt8) (s : RS) (most : Int) (w : World) (h : St w0 M w (qP g (.slice ao N c) s)) (hB : Rd w (.slice ao N c) 1 N (bytesV B)) (ho : Off (.slice ao N c) [g]) (hL : B.length = N) (hp : s.pos ≤ N) (hN : N ≤ 100000) (hb : most < 0) (hne : (someS N (failS s 2 s.pos) (IntKind.i64.wrap (1 + most))).e ≠ 0) :
    Calls Try.prog 47 #[.pointer (some ⟨g, 0, none⟩), .int .i64 most] w fun en w' => en = .returned (.string ⟨#[]⟩) ∧ St w [g] w' (qP g (.slice ao N c) (someS N (failS s 2 s.pos) (IntKind.i64.wrap (1 + most)))) := by
  have hst : St w [g] w (qP g (.slice ao N c) s) := h.selfF
  clear h
  obtain ⟨m, hm⟩ : ∃ m, m = (IntKind.i64.wrap (1 + most)) := ⟨_, rfl⟩
  rw [← hm] at hne ⊢
  have hm' : IntKind.i64.wrap (1 + most) = m := hm.symm
  clear hm
  have hne' : ((someS N (failS s 2 s.pos) m).e == 0) = false := by simpa using hne
  clear hne
  have d1 : decide (most < 0) = true := decide_eq_true hb
  go_enter Try.func47, Try.ntmps47
  go_wp2_with (first | go_big_skip | go_big_guard | (refine wl_loadE rfl rfl rfl ?_; first | refine ⟨_, Loads.at [] hst rfl, ?_⟩) | (go_at_call 65; refine (qfail_any g (.slice ao N c) s 2 s.pos _ hst).mono ?_; rintro _ w2 ⟨rfl, h4⟩; have hst2 : St w [g] w2 (qP g (.slice ao N c) (failS s 2 s.pos)) := St.callF (R := []) (qP g (.slice ao N c) s) hst h4; clear h4 hst) | (go_at_call 66; refine (qsome_any g ao N c (failS s 2 s.pos) (m) _ hst2 (by unfold failS; split <;> exact hp) (by omega)).mono ?_; rintro _ w3 ⟨he, h4⟩; rw [hne'] at he; subst he; have hst3 := St.callF (R := []) (qP g (.slice ao N c) (failS s 2 s.pos)) hst2 h4; clear h4 hst2))
  go_ret
  exact ⟨rfl, hst3⟩
theorem qtext_no_big {w0 : World} {M : List Nat} (g : Nat) (ao : Option Addr) (N c : Nat) (B : List UInt8) (s : RS) (most : Int) (w : World) (h : St w0 M w (qP g (.slice ao N c) s)) (hB : Rd w (.slice ao N c) 1 N (bytesV B)) (ho : Off (.slice ao N c) [g]) (hL : B.length = N) (hp : s.pos ≤ N) (hN : N ≤ 100000) (hb : ¬ most < 0) (hb2 : 255 < most) (hne : (someS N (failS s 2 s.pos) (IntKind.i64.wrap (1 + most))).e ≠ 0) :
    Calls Try.prog 47 #[.pointer (some ⟨g, 0, none⟩), .int .i64 most] w fun en w' => en = .returned (.string ⟨#[]⟩) ∧ St w [g] w' (qP g (.slice ao N c) (someS N (failS s 2 s.pos) (IntKind.i64.wrap (1 + most)))) := by
  have hst : St w [g] w (qP g (.slice ao N c) s) := h.selfF
  clear h
  obtain ⟨m, hm⟩ : ∃ m, m = (IntKind.i64.wrap (1 + most)) := ⟨_, rfl⟩
  rw [← hm] at hne ⊢
  have hm' : IntKind.i64.wrap (1 + most) = m := hm.symm
  clear hm
  have hne' : ((someS N (failS s 2 s.pos) m).e == 0) = false := by simpa using hne
  clear hne
  have d1 : decide (most < 0) = false := decide_eq_false hb
  have d2 : decide (255 < most) = true := decide_eq_true hb2
  go_enter Try.func47, Try.ntmps47
  go_wp2_with (first | go_big_skip | go_big_guard | (refine wl_loadE rfl rfl rfl ?_; first | refine ⟨_, Loads.at [] hst rfl, ?_⟩) | (go_at_call 65; refine (qfail_any g (.slice ao N c) s 2 s.pos _ hst).mono ?_; rintro _ w2 ⟨rfl, h4⟩; have hst2 : St w [g] w2 (qP g (.slice ao N c) (failS s 2 s.pos)) := St.callF (R := []) (qP g (.slice ao N c) s) hst h4; clear h4 hst) | (go_at_call 66; refine (qsome_any g ao N c (failS s 2 s.pos) (m) _ hst2 (by unfold failS; split <;> exact hp) (by omega)).mono ?_; rintro _ w3 ⟨he, h4⟩; rw [hne'] at he; subst he; have hst3 := St.callF (R := []) (qP g (.slice ao N c) (failS s 2 s.pos)) hst2 h4; clear h4 hst2))
  go_ret
  exact ⟨rfl, hst3⟩
theorem qtext_no_good {w0 : World} {M : List Nat} (g : Nat) (ao : Option Addr) (N c : Nat) (B : List UInt8) (s : RS) (most : Int) (w : World) (h : St w0 M w (qP g (.slice ao N c) s)) (hB : Rd w (.slice ao N c) 1 N (bytesV B)) (ho : Off (.slice ao N c) [g]) (hL : B.length = N) (hp : s.pos ≤ N) (hN : N ≤ 100000) (hb : ¬ most < 0) (hb2 : ¬ 255 < most) (hne : (someS N (s) (IntKind.i64.wrap (1 + most))).e ≠ 0) :
    Calls Try.prog 47 #[.pointer (some ⟨g, 0, none⟩), .int .i64 most] w fun en w' => en = .returned (.string ⟨#[]⟩) ∧ St w [g] w' (qP g (.slice ao N c) (someS N (s) (IntKind.i64.wrap (1 + most)))) := by
  have hst : St w [g] w (qP g (.slice ao N c) s) := h.selfF
  clear h
  obtain ⟨m, hm⟩ : ∃ m, m = (IntKind.i64.wrap (1 + most)) := ⟨_, rfl⟩
  rw [← hm] at hne ⊢
  have hm' : IntKind.i64.wrap (1 + most) = m := hm.symm
  clear hm
  have hne' : ((someS N (s) m).e == 0) = false := by simpa using hne
  clear hne
  have d1 : decide (most < 0) = false := decide_eq_false hb
  have d2 : decide (255 < most) = false := decide_eq_false hb2
  go_enter Try.func47, Try.ntmps47
  go_wp2_with (first | go_big_skip | go_big_guard | (refine wl_loadE rfl rfl rfl ?_; first | refine ⟨_, Loads.at [] hst rfl, ?_⟩) | (go_at_call 66; refine (qsome_any g ao N c (s) (m) _ hst hp (by omega)).mono ?_; rintro _ w3 ⟨he, h4⟩; rw [hne'] at he; subst he; have hst3 := St.callF (R := []) (qP g (.slice ao N c) (s)) hst h4; clear h4 hst))
  go_ret
  exact ⟨rfl, hst3⟩
theorem qtext_long {w0 : World} {M : List Nat} (g : Nat) (ao : Option Addr) (N c : Nat) (B : List UInt8) (s : RS) (most : Int) (w : World) (h : St w0 M w (qP g (.slice ao N c) s)) (hB : Rd w (.slice ao N c) 1 N (bytesV B)) (ho : Off (.slice ao N c) [g]) (hL : B.length = N) (hp : s.pos ≤ N) (hN : N ≤ 100000) (h0 : s.e = 0) (h1 : ¬ (most < 0 ∨ 255 < most)) (h2 : ¬ (N : Int) - s.pos < 1 + most) (h3 : most < (B.getD s.pos 0).toNat) :
    Calls Try.prog 47 #[.pointer (some ⟨g, 0, none⟩), .int .i64 most] w fun en w' => en = .returned (.string ⟨(stepR s (textRR B s.pos most) []).2.toArray⟩) ∧ St w [g] w' (qP g (.slice ao N c) (stepR s (textRR B s.pos most) []).1) := by
  obtain ⟨p, f, fa⟩ := s
  have h0' : f = 0 := h0
  subst h0'
  rw [show (⟨p, 0, fa⟩ : RS).pos = p from rfl] at h2 h3 ⊢
  obtain ⟨k, rfl⟩ : ∃ k : Nat, most = (k : Int) := ⟨most.toNat, by omega⟩
  have hp' : p ≤ N := hp
  have hpk : p + 1 + k ≤ N := by omega
  have hk7 : k ≤ 255 := by omega
  obtain ⟨T, hT⟩ : ∃ T, T = stepR (⟨p, 0, fa⟩ : RS) (textRR B p k) [] := ⟨_, rfl⟩
  rw [← hT]
  have HT := hid hT
  obtain ⟨x, hx⟩ : ∃ x, x = B.getD p 0 := ⟨_, rfl⟩
  rw [← hx] at h3
  obtain ⟨n, hn⟩ : ∃ n, n = x.toNat := ⟨_, rfl⟩
  rw [← hn] at h3
  have hxb := x.toNat_lt
  have hn255 : n ≤ 255 := by omega
  have d1 : decide ((k : Int) < 0) = false := decide_eq_false (by omega)
  have d2 : decide (255 < (k : Int)) = false := decide_eq_false (by omega)
  have z0 : IntKind.i64.wrap (1 + (k : Int)) = 1 + (k : Int) := IntWalk.i64_in _ (by omega)
  have z1 : IntKind.i64.wrap ((p : Int) + 1) = (p : Int) + 1 := IntWalk.i64_in _ (by omega)
  have z2 : IntKind.i64.wrap (n : Int) = (n : Int) := IntWalk.i64_in _ (by omega)
  have HS := hid (show someS N ⟨p, 0, fa⟩ (1 + (k : Int)) = ⟨p, 0, fa⟩ by unfold someS; rw [if_neg (fun hh => h2 hh.2)])
  have HLL := hid hL
  have hst : St w [g] w [.blk g 102 [.slice ao N c, .int .i64 p, .int .i64 0, .int .i64 fa]] := h.selfF
  obtain ⟨b, off, rfl, _⟩ := hB.at (k := 0) (by omega)
  have hbg := ho _ _ _ rfl (by omega)
  have HX0 := hid (show w.cell? ⟨b, off + p, none⟩ = some (.int .u8 (n : Int)) by
    have := byte_at hB (k := p) (by rw [hL]; omega)
    rw [← hx, ← hn] at this
    exact this)
  have n1 : (p : Int).toNat = p := by omega
  have n2 : 0 ≤ (p : Int) := by omega
  have n3 : (p : Int) < (N : Int) := by omega
  have n4 : p < N := by omega
  have d3 : decide ((k : Int) < (n : Int)) = true := decide_eq_true h3
  have d3' : k < n := by omega
  have HR := hid (show T = (⟨p, 3, p⟩, []) by
    rw [hT]
    unfold textRR
    rw [if_neg h1, if_neg (by rw [hL]; exact h2), if_pos (by rw [← hx, ← hn]; exact h3)]
    rfl)
  have HF := hid (show failS ⟨p, 0, fa⟩ 3 p = ⟨p, 3, p⟩ from rfl)
  clear hT hx hn h3 h1 h2 hL h ho h0 hp
  go_enter Try.func47, Try.ntmps47
  go_wp2_with (first | go_big_skip | go_big_guard | (refine wl_loadE rfl rfl rfl ?_; first | refine ⟨_, Loads.at [] hst3 rfl, ?_⟩) | (go_at_call 66; refine (qsome_any g (some ⟨b, off, none⟩) N c ⟨p, 0, fa⟩ (1 + (k : Int)) _ hst hp' (by omega)).mono ?_; rw [HS.out]; rintro _ w3 ⟨rfl, h4⟩; have hst3 : St w [g] w3 [.blk g 102 [.slice (some ⟨b, off, none⟩) N c, .int .i64 p, .int .i64 0, .int .i64 fa]] := St.callF (R := []) (qP g (.slice (some ⟨b, off, none⟩) N c) ⟨p, 0, fa⟩) hst h4; clear h4 hst))
  have hD := hst3.drew
  clear hst3
  refine wp_region_held_drew (S := (fun w' => (loadVarH 23 ⟨g, 0, none⟩).run Try.prog w' = .ok (.slice (some ⟨b, off, none⟩) N c) w' ∧ (loadVarH 3 ⟨g, 1, none⟩).run Try.prog w' = .ok (.int .i64 (p : Int)) w' ∧ (loadVarH 5 ⟨b, off + p, none⟩).run Try.prog w' = .ok (.int .u8 (n : Int)) w')) (by kernel_rfl) (by exact ⟨ldS [] hD rfl, ldS [] hD rfl, ldOMx hD HX0.out hbg⟩) (fun hHeld => ?_)
  refine wpAnyH_take (i := 0) (oi := ⟨some 30, _, _, _, _, _⟩) (v := ?_) rfl (by kernel_rfl) (by kernel_rfl) (by kernel_rfl) (fun _ _ _ h => h) (Or.inl ⟨by rfl, ?_⟩) (by assumption) ?_
  rotate_left
  · intro w hSw; (try dsimp only at hSw); go_simp; try with_reducible rfl
  (try simp only [Act.put, List.setIfInBounds_toArray, List.set_cons_zero, List.set_cons_succ])
  refine wpAnyH_take (i := 4) (oi := ⟨some 34, _, _, _, _, _⟩) (v := ?_) rfl (by kernel_rfl) (by kernel_rfl) (by kernel_rfl) (fun _ _ _ h => h) (Or.inl ⟨by rfl, ?_⟩) (by assumption) ?_
  rotate_left
  · intro w hSw; (try dsimp only at hSw); go_simp; try with_reducible rfl
  (try simp only [Act.put, List.setIfInBounds_toArray, List.set_cons_zero, List.set_cons_succ])
  refine wpAnyH_take (i := 1) (oi := ⟨some 31, _, _, _, _, _⟩) (v := ?_) rfl (by kernel_rfl) (by kernel_rfl) (by kernel_rfl) (fun _ _ _ h => h) (Or.inl ⟨by rfl, ?_⟩) (by assumption) ?_
  rotate_left
  · intro w hSw; (try dsimp only at hSw); go_simp; try with_reducible rfl
  (try simp only [Act.put, List.setIfInBounds_toArray, List.set_cons_zero, List.set_cons_succ])
  refine wpAnyH_take (i := 5) (oi := ⟨some 35, _, _, _, _, _⟩) (v := ?_) rfl (by kernel_rfl) (by kernel_rfl) (by kernel_rfl) (fun _ _ _ h => h) (Or.inl ⟨by rfl, ?_⟩) (by assumption) ?_
  rotate_left
  · intro w hSw; (try dsimp only at hSw); go_simp; try with_reducible rfl
  (try simp only [Act.put, List.setIfInBounds_toArray, List.set_cons_zero, List.set_cons_succ])
  refine wpAnyH_take (i := 2) (oi := ⟨some 32, _, _, _, _, _⟩) (v := ?_) rfl (by kernel_rfl) (by kernel_rfl) (by kernel_rfl) (fun _ _ _ h => h) (Or.inl ⟨by rfl, ?_⟩) (by assumption) ?_
  rotate_left
  · intro w hSw; (try dsimp only at hSw); go_simp; try with_reducible rfl
  (try simp only [Act.put, List.setIfInBounds_toArray, List.set_cons_zero, List.set_cons_succ])
  refine wpAnyH_take (i := 6) (oi := ⟨some 36, _, _, _, _, _⟩) (v := ?_) rfl (by kernel_rfl) (by kernel_rfl) (by kernel_rfl) (fun _ _ _ h => h) (Or.inl ⟨by rfl, ?_⟩) (by assumption) ?_
  rotate_left
  · intro w hSw; (try dsimp only at hSw); go_simp; try with_reducible rfl
  (try simp only [Act.put, List.setIfInBounds_toArray, List.set_cons_zero, List.set_cons_succ])
  refine wpAnyH_take (i := 3) (oi := ⟨some 33, _, _, _, _, _⟩) (v := ?_) rfl (by kernel_rfl) (by kernel_rfl) (by kernel_rfl) (fun _ _ _ h => h) (Or.inl ⟨by rfl, ?_⟩) (by assumption) ?_
  rotate_left
  · intro w hSw; (try dsimp only at hSw); go_simp; try with_reducible rfl
  (try simp only [Act.put, List.setIfInBounds_toArray, List.set_cons_zero, List.set_cons_succ])
  refine wpAnyH_take (i := 7) (oi := ⟨some 37, _, _, _, _, _⟩) (v := ?_) rfl (by kernel_rfl) (by kernel_rfl) (by kernel_rfl) (fun _ _ _ h => h) (Or.inl ⟨by rfl, ?_⟩) (by assumption) ?_
  rotate_left
  · intro w hSw; (try dsimp only at hSw); go_simp; try with_reducible rfl
  (try simp only [Act.put, List.setIfInBounds_toArray, List.set_cons_zero, List.set_cons_succ])
  refine wpAnyH_take (i := 8) (oi := ⟨some 38, _, _, _, _, _⟩) (v := ?_) rfl (by kernel_rfl) (by kernel_rfl) (by kernel_rfl) (fun _ _ _ h => h) (Or.inl ⟨by rfl, ?_⟩) (by assumption) ?_
  rotate_left
  · intro w hSw; (try dsimp only at hSw); go_simp; try with_reducible rfl
  (try simp only [Act.put, List.setIfInBounds_toArray, List.set_cons_zero, List.set_cons_succ])
  refine wpAnyH_take (i := 9) (oi := ⟨some 39, _, _, _, _, _⟩) (v := ?_) rfl (by kernel_rfl) (by kernel_rfl) (by kernel_rfl) (fun _ _ _ h => h) (Or.inl ⟨by rfl, ?_⟩) (by assumption) ?_
  rotate_left
  · intro w hSw; (try dsimp only at hSw); go_simp; try with_reducible rfl
  (try simp only [Act.put, List.setIfInBounds_toArray, List.set_cons_zero, List.set_cons_succ])
  refine wpAnyH_take (i := 10) (oi := ⟨some 40, _, _, _, _, _⟩) (v := ?_) rfl (by kernel_rfl) (by kernel_rfl) (by kernel_rfl) (fun _ _ _ h => h) (Or.inl ⟨by rfl, ?_⟩) (by assumption) ?_
  rotate_left
  · intro w hSw; (try dsimp only at hSw); go_simp; try with_reducible rfl
  (try simp only [Act.put, List.setIfInBounds_toArray, List.set_cons_zero, List.set_cons_succ])
  refine wpAnyH_take (i := 11) (oi := ⟨some 6, _, _, _, _, _⟩) (v := ?_) rfl (by kernel_rfl) (by kernel_rfl) (by kernel_rfl) (fun _ _ _ h => h) (Or.inl ⟨by rfl, ?_⟩) (by assumption) ?_
  rotate_left
  · intro w hSw; (try dsimp only at hSw); go_simp; try with_reducible rfl
  (try simp only [Act.put, List.setIfInBounds_toArray, List.set_cons_zero, List.set_cons_succ])
  refine wpAnyH_done (by kernel_rfl) ?_ _
  clear hHeld
  skip
  go_wp2_with (first | go_big_skip | go_big_guard | (refine wl_loadE rfl rfl rfl ?_; first | refine ⟨_, Loads.at [] hD rfl, ?_⟩) | (go_at_call 65; refine (qfail_any g (.slice (some ⟨b, off, none⟩) N c) ⟨p, 0, fa⟩ 3 p _ hD).mono ?_; rw [HF.out]; rintro _ w7 ⟨rfl, h4⟩; have hst7 : St w [g] w7 (qP g (.slice (some ⟨b, off, none⟩) N c) ⟨p, 3, p⟩) := St.callF (R := []) (qP g (.slice (some ⟨b, off, none⟩) N c) ⟨p, 0, fa⟩) hD h4; clear h4 hD))
  go_ret
  rw [HR.out]
  exact ⟨rfl, hst7⟩
theorem qtext_ok {w0 : World} {M : List Nat} (g : Nat) (ao : Option Addr) (N c : Nat) (B : List UInt8) (s : RS) (most : Int) (w : World) (h : St w0 M w (qP g (.slice ao N c) s)) (hB : Rd w (.slice ao N c) 1 N (bytesV B)) (ho : Off (.slice ao N c) [g]) (hL : B.length = N) (hp : s.pos ≤ N) (hN : N ≤ 100000) (h0 : s.e = 0) (h1 : ¬ (most < 0 ∨ 255 < most)) (h2 : ¬ (N : Int) - s.pos < 1 + most) (h3 : ¬ most < (B.getD s.pos 0).toNat) :
    Calls Try.prog 47 #[.pointer (some ⟨g, 0, none⟩), .int .i64 most] w fun en w' => en = .returned (.string ⟨(stepR s (textRR B s.pos most) []).2.toArray⟩) ∧ St w [g] w' (qP g (.slice ao N c) (stepR s (textRR B s.pos most) []).1) := by
  obtain ⟨p, f, fa⟩ := s
  have h0' : f = 0 := h0
  subst h0'
  rw [show (⟨p, 0, fa⟩ : RS).pos = p from rfl] at h2 h3 ⊢
  obtain ⟨k, rfl⟩ : ∃ k : Nat, most = (k : Int) := ⟨most.toNat, by omega⟩
  have hp' : p ≤ N := hp
  have hpk : p + 1 + k ≤ N := by omega
  have hk7 : k ≤ 255 := by omega
  obtain ⟨T, hT⟩ : ∃ T, T = stepR (⟨p, 0, fa⟩ : RS) (textRR B p k) [] := ⟨_, rfl⟩
  rw [← hT]
  have HT := hid hT
  obtain ⟨x, hx⟩ : ∃ x, x = B.getD p 0 := ⟨_, rfl⟩
  rw [← hx] at h3
  obtain ⟨n, hn⟩ : ∃ n, n = x.toNat := ⟨_, rfl⟩
  rw [← hn] at h3
  have hxb := x.toNat_lt
  have hn255 : n ≤ 255 := by omega
  have d1 : decide ((k : Int) < 0) = false := decide_eq_false (by omega)
  have d2 : decide (255 < (k : Int)) = false := decide_eq_false (by omega)
  have z0 : IntKind.i64.wrap (1 + (k : Int)) = 1 + (k : Int) := IntWalk.i64_in _ (by omega)
  have z1 : IntKind.i64.wrap ((p : Int) + 1) = (p : Int) + 1 := IntWalk.i64_in _ (by omega)
  have z2 : IntKind.i64.wrap (n : Int) = (n : Int) := IntWalk.i64_in _ (by omega)
  have HS := hid (show someS N ⟨p, 0, fa⟩ (1 + (k : Int)) = ⟨p, 0, fa⟩ by unfold someS; rw [if_neg (fun hh => h2 hh.2)])
  have HLL := hid hL
  have hst : St w [g] w [.blk g 102 [.slice ao N c, .int .i64 p, .int .i64 0, .int .i64 fa]] := h.selfF
  obtain ⟨b, off, rfl, _⟩ := hB.at (k := 0) (by omega)
  have hbg := ho _ _ _ rfl (by omega)
  have HX0 := hid (show w.cell? ⟨b, off + p, none⟩ = some (.int .u8 (n : Int)) by
    have := byte_at hB (k := p) (by rw [hL]; omega)
    rw [← hx, ← hn] at this
    exact this)
  have n1 : (p : Int).toNat = p := by omega
  have n2 : 0 ≤ (p : Int) := by omega
  have n3 : (p : Int) < (N : Int) := by omega
  have n4 : p < N := by omega
  have d3 : decide ((k : Int) < (n : Int)) = false := decide_eq_false h3
  have hnk : n ≤ k := by omega
  have d3' : ¬ k < n := by omega
  obtain ⟨t, ht⟩ : ∃ t, t = (B.drop (p + 1)).take n := ⟨_, rfl⟩
  obtain ⟨Z, hZ⟩ : ∃ Z, Z = (B.drop (p + 1 + n)).take (k - n) := ⟨_, rfl⟩
  have HZ := hid hZ
  have HZl := hid (show Z.length = k - n by rw [hZ, List.length_take, List.length_drop]; omega)
  have HTT := hid ht
  have HR := hid (show textRR B p k = (match nz Z with | some i => .stop 4 ((p + 1 + n + i : Nat) : Int) | none => .ok t (p + 1 + k)) by
    unfold textRR
    rw [if_neg h1, if_neg (by rw [hL]; exact h2), if_neg (by rw [← hx, ← hn]; exact h3), ← hx, ← hn, Int.toNat_natCast, ← hZ, ← ht]
    cases nz Z <;> rfl)
  clear hT hx hn h3 h1 h2 hL h ho h0 hp ht hZ
  go_enter Try.func47, Try.ntmps47
  go_wp2_with (first | go_big_skip | go_big_guard | (refine wl_loadE rfl rfl rfl ?_; first | refine ⟨_, Loads.at [] hst3 rfl, ?_⟩) | (go_at_call 66; refine (qsome_any g (some ⟨b, off, none⟩) N c ⟨p, 0, fa⟩ (1 + (k : Int)) _ hst hp' (by omega)).mono ?_; rw [HS.out]; rintro _ w3 ⟨rfl, h4⟩; have hst3 : St w [g] w3 [.blk g 102 [.slice (some ⟨b, off, none⟩) N c, .int .i64 p, .int .i64 0, .int .i64 fa]] := St.callF (R := []) (qP g (.slice (some ⟨b, off, none⟩) N c) ⟨p, 0, fa⟩) hst h4; clear h4 hst))
  have hD := hst3.drew
  clear hst3
  refine wp_region_held_drew (S := (fun w' => (loadVarH 23 ⟨g, 0, none⟩).run Try.prog w' = .ok (.slice (some ⟨b, off, none⟩) N c) w' ∧ (loadVarH 3 ⟨g, 1, none⟩).run Try.prog w' = .ok (.int .i64 (p : Int)) w' ∧ (loadVarH 5 ⟨b, off + p, none⟩).run Try.prog w' = .ok (.int .u8 (n : Int)) w')) (by kernel_rfl) (by exact ⟨ldS [] hD rfl, ldS [] hD rfl, ldOMx hD HX0.out hbg⟩) (fun hHeld => ?_)
  refine wpAnyH_take (i := 0) (oi := ⟨some 30, _, _, _, _, _⟩) (v := ?_) rfl (by kernel_rfl) (by kernel_rfl) (by kernel_rfl) (fun _ _ _ h => h) (Or.inl ⟨by rfl, ?_⟩) (by assumption) ?_
  rotate_left
  · intro w hSw; (try dsimp only at hSw); go_simp; try with_reducible rfl
  (try simp only [Act.put, List.setIfInBounds_toArray, List.set_cons_zero, List.set_cons_succ])
  refine wpAnyH_take (i := 4) (oi := ⟨some 34, _, _, _, _, _⟩) (v := ?_) rfl (by kernel_rfl) (by kernel_rfl) (by kernel_rfl) (fun _ _ _ h => h) (Or.inl ⟨by rfl, ?_⟩) (by assumption) ?_
  rotate_left
  · intro w hSw; (try dsimp only at hSw); go_simp; try with_reducible rfl
  (try simp only [Act.put, List.setIfInBounds_toArray, List.set_cons_zero, List.set_cons_succ])
  refine wpAnyH_take (i := 1) (oi := ⟨some 31, _, _, _, _, _⟩) (v := ?_) rfl (by kernel_rfl) (by kernel_rfl) (by kernel_rfl) (fun _ _ _ h => h) (Or.inl ⟨by rfl, ?_⟩) (by assumption) ?_
  rotate_left
  · intro w hSw; (try dsimp only at hSw); go_simp; try with_reducible rfl
  (try simp only [Act.put, List.setIfInBounds_toArray, List.set_cons_zero, List.set_cons_succ])
  refine wpAnyH_take (i := 5) (oi := ⟨some 35, _, _, _, _, _⟩) (v := ?_) rfl (by kernel_rfl) (by kernel_rfl) (by kernel_rfl) (fun _ _ _ h => h) (Or.inl ⟨by rfl, ?_⟩) (by assumption) ?_
  rotate_left
  · intro w hSw; (try dsimp only at hSw); go_simp; try with_reducible rfl
  (try simp only [Act.put, List.setIfInBounds_toArray, List.set_cons_zero, List.set_cons_succ])
  refine wpAnyH_take (i := 2) (oi := ⟨some 32, _, _, _, _, _⟩) (v := ?_) rfl (by kernel_rfl) (by kernel_rfl) (by kernel_rfl) (fun _ _ _ h => h) (Or.inl ⟨by rfl, ?_⟩) (by assumption) ?_
  rotate_left
  · intro w hSw; (try dsimp only at hSw); go_simp; try with_reducible rfl
  (try simp only [Act.put, List.setIfInBounds_toArray, List.set_cons_zero, List.set_cons_succ])
  refine wpAnyH_take (i := 6) (oi := ⟨some 36, _, _, _, _, _⟩) (v := ?_) rfl (by kernel_rfl) (by kernel_rfl) (by kernel_rfl) (fun _ _ _ h => h) (Or.inl ⟨by rfl, ?_⟩) (by assumption) ?_
  rotate_left
  · intro w hSw; (try dsimp only at hSw); go_simp; try with_reducible rfl
  (try simp only [Act.put, List.setIfInBounds_toArray, List.set_cons_zero, List.set_cons_succ])
  refine wpAnyH_take (i := 3) (oi := ⟨some 33, _, _, _, _, _⟩) (v := ?_) rfl (by kernel_rfl) (by kernel_rfl) (by kernel_rfl) (fun _ _ _ h => h) (Or.inl ⟨by rfl, ?_⟩) (by assumption) ?_
  rotate_left
  · intro w hSw; (try dsimp only at hSw); go_simp; try with_reducible rfl
  (try simp only [Act.put, List.setIfInBounds_toArray, List.set_cons_zero, List.set_cons_succ])
  refine wpAnyH_take (i := 7) (oi := ⟨some 37, _, _, _, _, _⟩) (v := ?_) rfl (by kernel_rfl) (by kernel_rfl) (by kernel_rfl) (fun _ _ _ h => h) (Or.inl ⟨by rfl, ?_⟩) (by assumption) ?_
  rotate_left
  · intro w hSw; (try dsimp only at hSw); go_simp; try with_reducible rfl
  (try simp only [Act.put, List.setIfInBounds_toArray, List.set_cons_zero, List.set_cons_succ])
  refine wpAnyH_take (i := 8) (oi := ⟨some 38, _, _, _, _, _⟩) (v := ?_) rfl (by kernel_rfl) (by kernel_rfl) (by kernel_rfl) (fun _ _ _ h => h) (Or.inl ⟨by rfl, ?_⟩) (by assumption) ?_
  rotate_left
  · intro w hSw; (try dsimp only at hSw); go_simp; try with_reducible rfl
  (try simp only [Act.put, List.setIfInBounds_toArray, List.set_cons_zero, List.set_cons_succ])
  refine wpAnyH_take (i := 9) (oi := ⟨some 39, _, _, _, _, _⟩) (v := ?_) rfl (by kernel_rfl) (by kernel_rfl) (by kernel_rfl) (fun _ _ _ h => h) (Or.inl ⟨by rfl, ?_⟩) (by assumption) ?_
  rotate_left
  · intro w hSw; (try dsimp only at hSw); go_simp; try with_reducible rfl
  (try simp only [Act.put, List.setIfInBounds_toArray, List.set_cons_zero, List.set_cons_succ])
  refine wpAnyH_take (i := 10) (oi := ⟨some 40, _, _, _, _, _⟩) (v := ?_) rfl (by kernel_rfl) (by kernel_rfl) (by kernel_rfl) (fun _ _ _ h => h) (Or.inl ⟨by rfl, ?_⟩) (by assumption) ?_
  rotate_left
  · intro w hSw; (try dsimp only at hSw); go_simp; try with_reducible rfl
  (try simp only [Act.put, List.setIfInBounds_toArray, List.set_cons_zero, List.set_cons_succ])
  refine wpAnyH_take (i := 11) (oi := ⟨some 6, _, _, _, _, _⟩) (v := ?_) rfl (by kernel_rfl) (by kernel_rfl) (by kernel_rfl) (fun _ _ _ h => h) (Or.inl ⟨by rfl, ?_⟩) (by assumption) ?_
  rotate_left
  · intro w hSw; (try dsimp only at hSw); go_simp; try with_reducible rfl
  (try simp only [Act.put, List.setIfInBounds_toArray, List.set_cons_zero, List.set_cons_succ])
  refine wpAnyH_done (by kernel_rfl) ?_ _
  clear hHeld
  skip
  go_wp2_with (first | go_big_skip | go_big_guard | fail)
  go_loopw [7] (fun q wr => ∃ i : Nat, n ≤ i ∧ i ≤ k ∧ q = .int .i64 i ∧ Hid (∀ j, j < i - n → Z.getD j 0 = 0) ∧ St w [g] wr [.blk g 102 [.slice (some ⟨b, off, none⟩) N c, .int .i64 p, .int .i64 0, .int .i64 fa]]) (fun q _ => k - (intOf q).toNat)
  case atStart => exact ⟨n, Nat.le_refl _, hnk, rfl, hid (fun j hj => by omega), hD⟩
  case round =>
    clear hD
    obtain ⟨i, hni, hik, rfl, hz, hst⟩ := hrel
    by_cases hlt : i < k
    · have hx := byte_at hB (k := p + 1 + i) (by rw [HLL.out]; omega)
      have hZg := hid (show Z.getD (i - n) 0 = B.getD (p + 1 + i) 0 by
        rw [HZ.out, getD_drop_take _ _ _ _ (by omega)]
        congr 1
        omega)
      obtain ⟨y, hy⟩ : ∃ y, y = B.getD (p + 1 + i) 0 := ⟨_, rfl⟩
      rw [← hy] at hx
      have HY := hid hx
      have Hyy := hid hy
      clear hx hy
      have z3 : IntKind.i64.wrap ((p : Int) + 1 + (i : Int)) = (p : Int) + 1 + (i : Int) := IntWalk.i64_in _ (by omega)
      have z4 : IntKind.i64.wrap ((i : Int) + 1) = (i : Int) + 1 := IntWalk.i64_in _ (by omega)
      have n5 : ((p : Int) + 1 + (i : Int)).toNat = p + 1 + i := by omega
      have n6 : 0 ≤ (p : Int) + 1 + (i : Int) := by omega
      have n7 : (p : Int) + 1 + (i : Int) < (N : Int) := by omega
      have n8 : p + 1 + i < N := by omega
      have dj : decide ((i : Int) < (k : Int)) = true := decide_eq_true (by omega)
      by_cases h0 : y = 0
      · have d0 : ((y.toNat : Int) != 0) = false := by rw [h0]; rfl
        have hz2 := hid (show ∀ j, j < i + 1 - n → Z.getD j 0 = 0 by
          intro j hj
          by_cases hji : j < i - n
          · exact hz.out j hji
          · rw [show j = i - n by omega, hZg.out, ← Hyy.out, h0])
        clear h0
        go_wp2_with (first | go_big_skip | go_big_guard | (refine wl_loadE rfl rfl rfl ?_; first | refine ⟨_, Loads.at [] hst rfl, ?_⟩) | (refine wl_loadE rfl rfl rfl ?_; refine ⟨_, Loads.oldM hst HY.out hbg, ?_⟩))
        go_roundw
        case rel => exact ⟨i + 1, by omega, by omega, by go_num, hz2, hst⟩
        case measure => simp [intOf]; omega
      · have d0 : ((y.toNat : Int) != 0) = true := by
          have : y.toNat ≠ 0 := fun hh => h0 (UInt8.toNat_inj.1 hh)
          simp; omega
        obtain ⟨A, hA⟩ : ∃ A : Int, A = (p : Int) + 1 + (i : Int) := ⟨_, rfl⟩
        have HE := hid (show T = (⟨p, 4, (p : Int) + 1 + (i : Int)⟩, []) by
          rw [HT.out, HR.out, nz_eq_some (k := i - n) (by rw [HZl.out]; omega) (by rw [hZg.out, ← Hyy.out]; exact h0) hz.out]
          show stepR (⟨p, 0, fa⟩ : RS) (.stop 4 ((p + 1 + n + (i - n) : Nat) : Int)) [] = _
          rw [show ((p + 1 + n + (i - n) : Nat) : Int) = (p : Int) + 1 + (i : Int) by omega]
          rfl)
        have HF := hid (show failS ⟨p, 0, fa⟩ 4 ((p : Int) + 1 + (i : Int)) = ⟨p, 4, (p : Int) + 1 + (i : Int)⟩ from rfl)
        clear h0 hA
        go_wp2_with (first | go_big_skip | go_big_guard | (refine wl_loadE rfl rfl rfl ?_; first | refine ⟨_, Loads.at [] hst rfl, ?_⟩) | (refine wl_loadE rfl rfl rfl ?_; refine ⟨_, Loads.oldM hst HY.out hbg, ?_⟩) | (go_at_call 65; refine (qfail_any g (.slice (some ⟨b, off, none⟩) N c) ⟨p, 0, fa⟩ 4 ((p : Int) + 1 + (i : Int)) _ hst).mono ?_; rw [HF.out]; rintro _ w7 ⟨rfl, h4⟩; have hst7 : St w [g] w7 (qP g (.slice (some ⟨b, off, none⟩) N c) ⟨p, 4, (p : Int) + 1 + (i : Int)⟩) := St.callF (R := []) (qP g (.slice (some ⟨b, off, none⟩) N c) ⟨p, 0, fa⟩) hst h4; clear h4 hst))
        go_ret
        rw [HE.out]
        exact ⟨rfl, hst7⟩
    · have hik' : i = k := by omega
      subst hik'
      have dj : decide ((i : Int) < (i : Int)) = false := by simp
      have HE := hid (show T = (⟨p + 1 + i, 0, fa⟩, t) by
        rw [HT.out, HR.out, nz_eq_none (fun j hj => hz.out j (by rw [HZl.out] at hj; exact hj))]
        rfl)
      have z3 : IntKind.i64.wrap ((p : Int) + 1 + (i : Int)) = (p : Int) + 1 + (i : Int) := IntWalk.i64_in _ (by omega)
      have z5 : IntKind.i64.wrap ((p : Int) + 1 + (n : Int)) = (p : Int) + 1 + (n : Int) := IntWalk.i64_in _ (by omega)
      have hbd := hB.bd
      have hb1 := hbd.1
      have hb2 := hbd.2.1
      have m1 : (0 : Int) ≤ (p : Int) + 1 := by omega
      have m2 : (p : Int) + 1 ≤ (p : Int) + 1 + (n : Int) := by omega
      have m3 : (p : Int) + 1 + (n : Int) ≤ (c : Int) := by omega
      have m4 : ((p : Int) + 1).toNat = p + 1 := by omega
      have m5 : ((p : Int) + 1 + (n : Int)).toNat = p + 1 + n := by omega
      have m6 : (0 : Int) ≤ (p : Int) + 1 + (n : Int) := by omega
      have m7 : p + 1 + n - (p + 1) = n := by omega
      clear hz hlt dj hbd
      have dj : decide ((i : Int) < (i : Int)) = false := by simp
      by_cases hcp : c = p + 1
      · have hn0 : n = 0 := by omega
        have HT0 := hid (show t = [] by rw [HTT.out, hn0]; rfl)
        go_wp2_with (first | go_big_skip | go_big_guard | (refine wl_loadE rfl rfl rfl ?_; first | refine ⟨_, Loads.at [] hst rfl, ?_⟩ | refine ⟨_, Loads.at [] hst7 rfl, ?_⟩) | (refine wl_store [] hst rfl rfl rfl (v := .int .i64 ((p : Int) + 1 + (i : Int))) rfl rfl rfl (by show (2 : Nat) ≤ 4; decide) ?_; intro w7 hst7; clear hst) | (refine wl_bytes_string (n := n) (l := t) rfl rfl rfl (by rw [HT0.out, hn0]; exact Rd.mk (Nat.le_refl _) (by unfold maxLen; omega) (by simp) (fun j v hv => by simp [bytesV] at hv)) ?_))
        go_ret
        rw [HE.out]
        exact ⟨rfl, hst7⟩
      · go_wp2_with (first | go_big_skip | go_big_guard | (refine wl_loadE rfl rfl rfl ?_; first | refine ⟨_, Loads.at [] hst rfl, ?_⟩ | refine ⟨_, Loads.at [] hst7 rfl, ?_⟩) | (refine wl_store [] hst rfl rfl rfl (v := .int .i64 ((p : Int) + 1 + (i : Int))) rfl rfl rfl (by show (2 : Nat) ≤ 4; decide) ?_; intro w7 hst7; clear hst) | (refine wl_bytes_string (n := n) (l := t) rfl rfl rfl (by rw [HTT.out]; exact Rd.win (m := n) (p + 1) (Rd.oldM hst7 hB (fun A n' c' e _ => by cases e; exact hbg)) rfl (by omega) (by omega)) ?_))
        go_ret
        rw [HE.out]
        exact ⟨rfl, hst7⟩
theorem qtext_any {w0 : World} {M : List Nat} (g : Nat) (ao : Option Addr) (N c : Nat) (B : List UInt8) (s : RS) (most : Int) (w : World) (h : St w0 M w (qP g (.slice ao N c) s)) (hB : Rd w (.slice ao N c) 1 N (bytesV B)) (ho : Off (.slice ao N c) [g]) (hL : B.length = N) (hp : s.pos ≤ N) (hN : N ≤ 100000) (hs : -9223372036854775808 ≤ most ∧ most ≤ 9223372036854775807) :
    Calls Try.prog 47 #[.pointer (some ⟨g, 0, none⟩), .int .i64 most] w fun en w' => en = .returned (.string ⟨(stepR s (textRR B s.pos most) []).2.toArray⟩) ∧ St w [g] w' (qP g (.slice ao N c) (stepR s (textRR B s.pos most) []).1) := by
  obtain ⟨bad, hb⟩ : ∃ bad, bad = decide (most < 0 ∨ 255 < most) := ⟨_, rfl⟩
  have hbad : bad = true ↔ (most < 0 ∨ 255 < most) := by rw [hb]; exact decide_eq_true_iff
  have hwr : bad = false → IntKind.i64.wrap (1 + most) = 1 + most := fun hh => IntWalk.i64_in _ (by
    have : ¬ (most < 0 ∨ 255 < most) := fun h9 => by rw [hbad.2 h9] at hh; cases hh
    omega)
  by_cases hne : (preQ N s bad (IntKind.i64.wrap (1 + most))).e = 0
  · obtain ⟨h1, h0, h2, _⟩ := preQ_yes hne
    rw [hwr h1] at h2
    have h1' : ¬ (most < 0 ∨ 255 < most) := fun hh => by rw [hbad.2 hh] at h1; cases h1
    by_cases h3 : most < (B.getD s.pos 0).toNat
    · exact qtext_long g ao N c B s most w h hB ho hL hp hN h0 h1' h2 h3
    · exact qtext_ok g ao N c B s most w h hB ho hL hp hN h0 h1' h2 h3
  · have hS := preQ_no (α := List UInt8) (d := []) (r := textRR B s.pos most) (fun hh => by unfold textRR; rw [if_pos (hbad.1 hh)]) (fun hh hn => by
      rw [hwr hh] at hn
      unfold textRR
      rw [if_neg (fun h9 => by rw [hbad.2 h9] at hh; cases hh), if_pos (by rw [hL]; exact hn), hL]) hne
    rw [hS]
    by_cases h1 : most < 0
    · rw [hbad.2 (.inl h1)] at hne ⊢
      exact qtext_no_neg g ao N c B s most w h hB ho hL hp hN h1 hne
    · by_cases h2 : 255 < most
      · rw [hbad.2 (.inr h2)] at hne ⊢
        exact qtext_no_big g ao N c B s most w h hB ho hL hp hN h1 h2 hne
      · have hf : bad = false := by
          rw [hb]
          exact decide_eq_false (by omega)
        rw [hf] at hne ⊢
        exact qtext_no_good g ao N c B s most w h hB ho hL hp hN h1 h2 hne
end
end Go.Proofs.Ytalfdcfcaamnbaa
