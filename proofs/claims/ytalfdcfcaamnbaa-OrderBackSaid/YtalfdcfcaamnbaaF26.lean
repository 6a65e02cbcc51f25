import Derived.Test.YtalfdcfcaamnbaaF25
import Derived.Test.YtalfdcfcaamnbaaF11
import Derived.Test.YtalfdcfcaamnbaaF6
namespace Go.Proofs.Ytalfdcfcaamnbaa
set_option linter.unusedVariables false
set_option linter.unusedSimpArgs false
open Go.RowKit Hp
attribute [local irreducible] Go.Calls
set_option maxRecDepth 100000
set_option maxHeartbeats 4000000
theorem getD_drop_take (B : List UInt8) (p k j : Nat) (h : j < k) : ((B.drop p).take k).getD j 0 = B.getD (p + j) 0 := by
  simp [List.getD, h]
/-- The document's reader ahead of what it reads: a bad question, too few bytes. -/
def preQ (N : Nat) (s : RS) (bad : Bool) (n : Int) : RS := someS N (if bad then failS s 2 s.pos else s) n
theorem preQ_no {α : Type} {N : Nat} {s : RS} {n : Int} {r : RR α} {d : α} {bad : Bool} (h2 : bad = true → r = .stop 2 s.pos) (h4 : bad = false → (N : Int) - s.pos < n → r = .stop 4 N) (hne : (preQ N s bad n).e ≠ 0) : stepR s r d = (preQ N s bad n, d) := by
  obtain ⟨p, f, fa⟩ := s
  unfold preQ at hne ⊢
  by_cases hf : f = 0
  · subst hf
    cases hb : bad with
    | true =>
      rw [h2 hb]
      simp [stepR, failS, someS]
    | false =>
      rw [hb] at hne
      by_cases hn : (N : Int) - (p : Int) < n
      · rw [h4 hb hn]
        simp [stepR, someS, hn]
      · simp [someS, hn] at hne
  · cases bad <;> simp [stepR, failS, someS, hf]
theorem preQ_yes {N : Nat} {s : RS} {n : Int} {bad : Bool} (h0 : (preQ N s bad n).e = 0) : bad = false ∧ s.e = 0 ∧ ¬ (N : Int) - s.pos < n ∧ preQ N s bad n = s := by
  obtain ⟨p, f, fa⟩ := s
  unfold preQ at h0 ⊢
  by_cases hf : f = 0
  · subst hf
    cases bad with
    | true => simp [failS, someS] at h0
    | false =>
      by_cases hn : (N : Int) - (p : Int) < n
      · simp [someS, hn] at h0
      · exact ⟨rfl, rfl, hn, by simp [someS, hn]⟩
  · cases bad <;> simp [failS, someS, hf] at h0
theorem loadedU8 (A : Addr) : loadVar 5 A = loadVarH 5 A := rfl
section
attribute [local go_sem ↓] loadedInt loadedSl loadedU8
theorem qnum_no_true {w0 : World} {M : List Nat} (g : Nat) (ao : Option Addr) (N c : Nat) (B : List UInt8) (s : RS) (size low high : Int) (w : World) (h : St w0 M w (qP g (.slice ao N c) s)) (hB : Rd w (.slice ao N c) 1 N (bytesV B)) (ho : Off (.slice ao N c) [g]) (hL : B.length = N) (hp : s.pos ≤ N) (hN : N ≤ 100000) (hs : -9223372036854775808 ≤ size ∧ size ≤ 9223372036854775807) (hb : (decide (1 ≤ size) && decide (size ≤ 7)) = true) (hne : (someS N (s) size).e ≠ 0) :
    Calls Try.prog 46 #[.pointer (some ⟨g, 0, none⟩), .int .i64 size, .int .i64 low, .int .i64 high] w fun en w' => en = .returned (.int .i64 0) ∧ St w [g] w' (qP g (.slice ao N c) (someS N (s) size)) := by
  have hst : St w [g] w (qP g (.slice ao N c) s) := h.selfF
  clear h
  have hne' : ((someS N (s) size).e == 0) = false := by simpa using hne
  clear hne
  go_enter Try.func46, Try.ntmps46
  go_wp2_with (first | go_big_skip | go_big_guard | (refine wl_loadE rfl rfl rfl ?_; first | refine ⟨_, Loads.at [] hst1 rfl, ?_⟩) | (go_at_call 60; refine (size_any size _).mono ?_; rw [hb]; rintro _ _ ⟨rfl, h4⟩; have hst1 := St.call0 hst h4; clear h4 hst) | (go_at_call 66; refine (qsome_any g ao N c (s) size _ hst1 hp (by omega)).mono ?_; rintro _ w3 ⟨he, h4⟩; rw [hne'] at he; subst he; have hst3 := St.callF (R := []) (qP g (.slice ao N c) (s)) hst1 h4; clear h4 hst1))
  go_ret
  exact ⟨rfl, hst3⟩
theorem qnum_no_false {w0 : World} {M : List Nat} (g : Nat) (ao : Option Addr) (N c : Nat) (B : List UInt8) (s : RS) (size low high : Int) (w : World) (h : St w0 M w (qP g (.slice ao N c) s)) (hB : Rd w (.slice ao N c) 1 N (bytesV B)) (ho : Off (.slice ao N c) [g]) (hL : B.length = N) (hp : s.pos ≤ N) (hN : N ≤ 100000) (hs : -9223372036854775808 ≤ size ∧ size ≤ 9223372036854775807) (hb : (decide (1 ≤ size) && decide (size ≤ 7)) = false) (hne : (someS N (failS s 2 s.pos) size).e ≠ 0) :
    Calls Try.prog 46 #[.pointer (some ⟨g, 0, none⟩), .int .i64 size, .int .i64 low, .int .i64 high] w fun en w' => en = .returned (.int .i64 0) ∧ St w [g] w' (qP g (.slice ao N c) (someS N (failS s 2 s.pos) size)) := by
  have hst : St w [g] w (qP g (.slice ao N c) s) := h.selfF
  clear h
  have hne' : ((someS N (failS s 2 s.pos) size).e == 0) = false := by simpa using hne
  clear hne
  go_enter Try.func46, Try.ntmps46
  go_wp2_with (first | go_big_skip | go_big_guard | (refine wl_loadE rfl rfl rfl ?_; first | refine ⟨_, Loads.at [] hst1 rfl, ?_⟩) | (go_at_call 60; refine (size_any size _).mono ?_; rw [hb]; rintro _ _ ⟨rfl, h4⟩; have hst1 := St.call0 hst h4; clear h4 hst) | (go_at_call 65; refine (qfail_any g (.slice ao N c) s 2 s.pos _ hst1).mono ?_; rintro _ w2 ⟨rfl, h4⟩; have hst2 : St w [g] w2 (qP g (.slice ao N c) (failS s 2 s.pos)) := St.callF (R := []) (qP g (.slice ao N c) s) hst1 h4; clear h4 hst1) | (go_at_call 66; refine (qsome_any g ao N c (failS s 2 s.pos) size _ hst2 (by unfold failS; split <;> exact hp) (by omega)).mono ?_; rintro _ w3 ⟨he, h4⟩; rw [hne'] at he; subst he; have hst3 := St.callF (R := []) (qP g (.slice ao N c) (failS s 2 s.pos)) hst2 h4; clear h4 hst2))
  go_ret
  exact ⟨rfl, hst3⟩
theorem qnum_low {w0 : World} {M : List Nat} (g : Nat) (ao : Option Addr) (N c : Nat) (B : List UInt8) (s : RS) (size low high : Int) (w : World) (h : St w0 M w (qP g (.slice ao N c) s)) (hB : Rd w (.slice ao N c) 1 N (bytesV B)) (ho : Off (.slice ao N c) [g]) (hL : B.length = N) (hp : s.pos ≤ N) (hN : N ≤ 100000) (hs : -9223372036854775808 ≤ size ∧ size ≤ 9223372036854775807) (h0 : s.e = 0) (h1 : ¬ (size < 1 ∨ 7 < size)) (h2 : ¬ (N : Int) - s.pos < size) (X : Int) (hX : X = beN ((B.drop s.pos).take size.toNat)) (h3 : X < low) :
    Calls Try.prog 46 #[.pointer (some ⟨g, 0, none⟩), .int .i64 size, .int .i64 low, .int .i64 high] w fun en w' => en = .returned (.int .i64 (stepR s (numRR B s.pos size low high) 0).2) ∧ St w [g] w' (qP g (.slice ao N c) (stepR s (numRR B s.pos size low high) 0).1) := by
  have hR : numRR B s.pos size low high = .stop 5 s.pos := by unfold numRR; rw [if_neg h1, if_neg (by rw [hL]; exact h2), ← hX, if_pos (.inl h3)]
  rw [hR]
  clear hR
  obtain ⟨p, f, fa⟩ := s
  have h0' : f = 0 := h0
  subst h0'
  obtain ⟨k, rfl⟩ : ∃ k : Nat, size = (k : Int) := ⟨size.toNat, by omega⟩
  have hp' : p ≤ N := hp
  have h2' : ¬ (N : Int) - (p : Int) < (k : Int) := h2
  have hpk : p + k ≤ N := by omega
  have hk1 : 1 ≤ k := by omega
  have hk7 : k ≤ 7 := by omega
  have hR : stepR (α := Int) (⟨p, 0, fa⟩ : RS) (.stop 5 p) 0 = (⟨p, 5, p⟩, 0) := by simp [stepR]
  rw [show (⟨p, 0, fa⟩ : RS).pos = p from rfl] at hX ⊢
  rw [hR]
  clear hR
  have hb : (decide (1 ≤ (k : Int)) && decide ((k : Int) ≤ 7)) = true := by rw [decide_eq_true (show 1 ≤ (k : Int) by omega), decide_eq_true (show (k : Int) ≤ 7 by omega)]; rfl
  have HS := hid (show someS N ⟨p, 0, fa⟩ (k : Int) = ⟨p, 0, fa⟩ by unfold someS; rw [if_neg (fun hh => h2' hh.2)])
  obtain ⟨Y, hY⟩ : ∃ Y, Y = (B.drop p).take k := ⟨_, rfl⟩
  have hYl : Y.length = k := by rw [hY, List.length_take, List.length_drop]; omega
  rw [Int.toNat_natCast, ← hY] at hX
  have HY := hid hY
  have HYl := hid hYl
  have HX := hid hX
  have HLL := hid hL
  have hst : St w [g] w [.blk g 102 [.slice ao N c, .int .i64 p, .int .i64 0, .int .i64 fa]] := h.selfF
  obtain ⟨b, off, rfl, _⟩ := hB.at (k := 0) (by omega)
  have hbg := ho _ _ _ rfl (by omega)
  have d3 : decide (X < low) = true := decide_eq_true h3
  clear h1 h2 h2' hX hY hYl h ho hL h0 hp h3
  go_enter Try.func46, Try.ntmps46
  go_wp2_with (first | go_big_skip | go_big_guard | (go_at_call 60; refine (size_any k _).mono ?_; rw [hb]; rintro _ _ ⟨rfl, h4⟩; have hst1 := St.call0 hst h4; clear h4 hst) | (go_at_call 66; refine (qsome_any g (some ⟨b, off, none⟩) N c ⟨p, 0, fa⟩ k _ hst1 hp' (by omega)).mono ?_; rw [HS.out]; rintro _ w3 ⟨rfl, h4⟩; have hst3 : St w [g] w3 [.blk g 102 [.slice (some ⟨b, off, none⟩) N c, .int .i64 p, .int .i64 0, .int .i64 fa]] := St.callF (R := []) (qP g (.slice (some ⟨b, off, none⟩) N c) ⟨p, 0, fa⟩) hst1 h4; clear h4 hst1))
  go_loopw [9, 10] (fun v i wr => ∃ j : Nat, j ≤ k ∧ i = .int .i64 j ∧ v = .int .i64 (beN (Y.take j)) ∧ St w [g] wr [.blk g 102 [.slice (some ⟨b, off, none⟩) N c, .int .i64 p, .int .i64 0, .int .i64 fa]]) (fun _ i _ => k - (intOf i).toNat)
  case atStart => exact ⟨0, Nat.zero_le _, rfl, by simp [beN], hst3⟩
  case round =>
    clear hst3
    obtain ⟨j, hj, rfl, rfl, hst⟩ := hrel
    by_cases hlt : j < k
    · have hx := byte_at hB (k := p + j) (by rw [HLL.out]; omega)
      have hgd := getD_drop_take B p k j hlt
      rw [← HY.out] at hgd
      have hsucc := beN_take_succ Y j (by rw [HYl.out]; omega)
      have hqlt := beN_lt (Y.take j)
      have hq3 : beN (Y.take j) < 281474976710656 := by
        refine Nat.lt_of_lt_of_le hqlt ?_
        have : (Y.take j).length ≤ 6 := by rw [List.length_take]; omega
        calc 256 ^ (Y.take j).length ≤ 256 ^ 6 := Nat.pow_le_pow_right (by decide) this
          _ = 281474976710656 := by decide
      obtain ⟨x, hxx⟩ : ∃ x, x = Y.getD j 0 := ⟨_, rfl⟩
      rw [← hgd, ← hxx] at hx
      rw [← hxx] at hsucc
      obtain ⟨q, hqq⟩ : ∃ q, q = beN (Y.take j) := ⟨_, rfl⟩
      rw [← hqq] at hsucc hq3
      rw [← hqq]
      have Hs := hid hsucc
      have HX0 := hid hx
      clear hsucc hqq hxx hqlt hx hgd
      have hxb := x.toNat_lt
      have z0 : IntKind.i64.wrap (256 * (q : Int)) = 256 * (q : Int) := IntWalk.i64_in _ (by omega)
      have z1 : IntKind.i64.wrap ((p : Int) + (j : Int)) = (p : Int) + (j : Int) := IntWalk.i64_in _ (by omega)
      have z2 : IntKind.i64.wrap (256 * (q : Int) + (x.toNat : Int)) = 256 * (q : Int) + (x.toNat : Int) := IntWalk.i64_in _ (by omega)
      have z3 : IntKind.i64.wrap (x.toNat : Int) = (x.toNat : Int) := IntWalk.i64_in _ (by omega)
      have z4 : IntKind.i64.wrap ((j : Int) + 1) = (j : Int) + 1 := IntWalk.i64_in _ (by omega)
      have n1 : ((p : Int) + (j : Int)).toNat = p + j := by omega
      have n2 : 0 ≤ (p : Int) + (j : Int) := by omega
      have n3 : (p : Int) + (j : Int) < (N : Int) := by omega
      have n4 : p + j < N := by omega
      have dj : decide ((j : Int) < (k : Int)) = true := decide_eq_true (by omega)
      go_wp2_with (first | go_big_skip | go_big_guard | fail)
      have hD := hst.drew
      clear hst
      refine wp_region_held_drew (S := (fun w' => (loadVarH 23 ⟨g, 0, none⟩).run Try.prog w' = .ok (.slice (some ⟨b, off, none⟩) N c) w' ∧ (loadVarH 3 ⟨g, 1, none⟩).run Try.prog w' = .ok (.int .i64 (p : Int)) w' ∧ (loadVarH 5 ⟨b, off + (p + j), none⟩).run Try.prog w' = .ok (.int .u8 (x.toNat : Int)) w')) (by kernel_rfl) (by exact ⟨ldS [] hD rfl, ldS [] hD rfl, ldOMx hD HX0.out hbg⟩) (fun hHeld => ?_)
      refine wpAnyH_take (i := 0) (oi := ⟨some 29, _, _, _, _, _⟩) (v := ?_) rfl (by kernel_rfl) (by kernel_rfl) (by kernel_rfl) (fun _ _ _ h => h) (Or.inl ⟨by rfl, ?_⟩) (by assumption) ?_
      rotate_left
      · intro w hSw; (try dsimp only at hSw); go_simp; try with_reducible rfl
      (try simp only [Act.put, List.setIfInBounds_toArray, List.set_cons_zero, List.set_cons_succ])
      refine wpAnyH_take (i := 2) (oi := ⟨some 31, _, _, _, _, _⟩) (v := ?_) rfl (by kernel_rfl) (by kernel_rfl) (by kernel_rfl) (fun _ _ _ h => h) (Or.inl ⟨by rfl, ?_⟩) (by assumption) ?_
      rotate_left
      · intro w hSw; (try dsimp only at hSw); go_simp; try with_reducible rfl
      (try simp only [Act.put, List.setIfInBounds_toArray, List.set_cons_zero, List.set_cons_succ])
      refine wpAnyH_take (i := 6) (oi := ⟨some 35, _, _, _, _, _⟩) (v := ?_) rfl (by kernel_rfl) (by kernel_rfl) (by kernel_rfl) (fun _ _ _ h => h) (Or.inl ⟨by rfl, ?_⟩) (by assumption) ?_
      rotate_left
      · intro w hSw; (try dsimp only at hSw); go_simp; try with_reducible rfl
      (try simp only [Act.put, List.setIfInBounds_toArray, List.set_cons_zero, List.set_cons_succ])
      refine wpAnyH_take (i := 10) (oi := ⟨some 39, _, _, _, _, _⟩) (v := ?_) rfl (by kernel_rfl) (by kernel_rfl) (by kernel_rfl) (fun _ _ _ h => h) (Or.inl ⟨by rfl, ?_⟩) (by assumption) ?_
      rotate_left
      · intro w hSw; (try dsimp only at hSw); go_simp; try with_reducible rfl
      (try simp only [Act.put, List.setIfInBounds_toArray, List.set_cons_zero, List.set_cons_succ])
      refine wpAnyH_take (i := 1) (oi := ⟨some 30, _, _, _, _, _⟩) (v := ?_) rfl (by kernel_rfl) (by kernel_rfl) (by kernel_rfl) (fun _ _ _ h => h) (Or.inl ⟨by rfl, ?_⟩) (by assumption) ?_
      rotate_left
      · intro w hSw; (try dsimp only at hSw); go_simp; try with_reducible rfl
      (try simp only [Act.put, List.setIfInBounds_toArray, List.set_cons_zero, List.set_cons_succ])
      refine wpAnyH_take (i := 3) (oi := ⟨some 32, _, _, _, _, _⟩) (v := ?_) rfl (by kernel_rfl) (by kernel_rfl) (by kernel_rfl) (fun _ _ _ h => h) (Or.inl ⟨by rfl, ?_⟩) (by assumption) ?_
      rotate_left
      · intro w hSw; (try dsimp only at hSw); go_simp; try with_reducible rfl
      (try simp only [Act.put, List.setIfInBounds_toArray, List.set_cons_zero, List.set_cons_succ])
      refine wpAnyH_take (i := 7) (oi := ⟨some 36, _, _, _, _, _⟩) (v := ?_) rfl (by kernel_rfl) (by kernel_rfl) (by kernel_rfl) (fun _ _ _ h => h) (Or.inl ⟨by rfl, ?_⟩) (by assumption) ?_
      rotate_left
      · intro w hSw; (try dsimp only at hSw); go_simp; try with_reducible rfl
      (try simp only [Act.put, List.setIfInBounds_toArray, List.set_cons_zero, List.set_cons_succ])
      refine wpAnyH_take (i := 4) (oi := ⟨some 33, _, _, _, _, _⟩) (v := ?_) rfl (by kernel_rfl) (by kernel_rfl) (by kernel_rfl) (fun _ _ _ h => h) (Or.inl ⟨by rfl, ?_⟩) (by assumption) ?_
      rotate_left
      · intro w hSw; (try dsimp only at hSw); go_simp; try with_reducible rfl
      (try simp only [Act.put, List.setIfInBounds_toArray, List.set_cons_zero, List.set_cons_succ])
      refine wpAnyH_take (i := 8) (oi := ⟨some 37, _, _, _, _, _⟩) (v := ?_) rfl (by kernel_rfl) (by kernel_rfl) (by kernel_rfl) (fun _ _ _ h => h) (Or.inl ⟨by rfl, ?_⟩) (by assumption) ?_
      rotate_left
      · intro w hSw; (try dsimp only at hSw); go_simp; try with_reducible rfl
      (try simp only [Act.put, List.setIfInBounds_toArray, List.set_cons_zero, List.set_cons_succ])
      refine wpAnyH_take (i := 5) (oi := ⟨some 34, _, _, _, _, _⟩) (v := ?_) rfl (by kernel_rfl) (by kernel_rfl) (by kernel_rfl) (fun _ _ _ h => h) (Or.inl ⟨by rfl, ?_⟩) (by assumption) ?_
      rotate_left
      · intro w hSw; (try dsimp only at hSw); go_simp; try with_reducible rfl
      (try simp only [Act.put, List.setIfInBounds_toArray, List.set_cons_zero, List.set_cons_succ])
      refine wpAnyH_take (i := 9) (oi := ⟨some 38, _, _, _, _, _⟩) (v := ?_) rfl (by kernel_rfl) (by kernel_rfl) (by kernel_rfl) (fun _ _ _ h => h) (Or.inl ⟨by rfl, ?_⟩) (by assumption) ?_
      rotate_left
      · intro w hSw; (try dsimp only at hSw); go_simp; try with_reducible rfl
      (try simp only [Act.put, List.setIfInBounds_toArray, List.set_cons_zero, List.set_cons_succ])
      refine wpAnyH_take (i := 11) (oi := ⟨some 40, _, _, _, _, _⟩) (v := ?_) rfl (by kernel_rfl) (by kernel_rfl) (by kernel_rfl) (fun _ _ _ h => h) (Or.inl ⟨by rfl, ?_⟩) (by assumption) ?_
      rotate_left
      · intro w hSw; (try dsimp only at hSw); go_simp; try with_reducible rfl
      (try simp only [Act.put, List.setIfInBounds_toArray, List.set_cons_zero, List.set_cons_succ])
      refine wpAnyH_take (i := 12) (oi := ⟨some 41, _, _, _, _, _⟩) (v := ?_) rfl (by kernel_rfl) (by kernel_rfl) (by kernel_rfl) (fun _ _ _ h => h) (Or.inl ⟨by rfl, ?_⟩) (by assumption) ?_
      rotate_left
      · intro w hSw; (try dsimp only at hSw); go_simp; try with_reducible rfl
      (try simp only [Act.put, List.setIfInBounds_toArray, List.set_cons_zero, List.set_cons_succ])
      refine wpAnyH_take (i := 13) (oi := ⟨some 42, _, _, _, _, _⟩) (v := ?_) rfl (by kernel_rfl) (by kernel_rfl) (by kernel_rfl) (fun _ _ _ h => h) (Or.inl ⟨by rfl, ?_⟩) (by assumption) ?_
      rotate_left
      · intro w hSw; (try dsimp only at hSw); go_simp; try with_reducible rfl
      (try simp only [Act.put, List.setIfInBounds_toArray, List.set_cons_zero, List.set_cons_succ])
      refine wpAnyH_take (i := 14) (oi := ⟨some 43, _, _, _, _, _⟩) (v := ?_) rfl (by kernel_rfl) (by kernel_rfl) (by kernel_rfl) (fun _ _ _ h => h) (Or.inl ⟨by rfl, ?_⟩) (by assumption) ?_
      rotate_left
      · intro w hSw; (try dsimp only at hSw); go_simp; try with_reducible rfl
      (try simp only [Act.put, List.setIfInBounds_toArray, List.set_cons_zero, List.set_cons_succ])
      refine wpAnyH_take (i := 15) (oi := ⟨some 44, _, _, _, _, _⟩) (v := ?_) rfl (by kernel_rfl) (by kernel_rfl) (by kernel_rfl) (fun _ _ _ h => h) (Or.inl ⟨by rfl, ?_⟩) (by assumption) ?_
      rotate_left
      · intro w hSw; (try dsimp only at hSw); go_simp; try with_reducible rfl
      (try simp only [Act.put, List.setIfInBounds_toArray, List.set_cons_zero, List.set_cons_succ])
      refine wpAnyH_take (i := 16) (oi := ⟨some 9, _, _, _, _, _⟩) (v := ?_) rfl (by kernel_rfl) (by kernel_rfl) (by kernel_rfl) (fun _ _ _ h => h) (Or.inl ⟨by rfl, ?_⟩) (by assumption) ?_
      rotate_left
      · intro w hSw; (try dsimp only at hSw); go_simp; try with_reducible rfl
      (try simp only [Act.put, List.setIfInBounds_toArray, List.set_cons_zero, List.set_cons_succ])
      refine wpAnyH_done (by kernel_rfl) ?_ _
      clear hHeld
      go_wp2_with (first | go_big_skip | go_big_guard | fail)
      go_roundw
      case rel => exact ⟨j + 1, by omega, by go_num, by rw [Hs.out]; congr 1; push_cast; omega, hD⟩
      case measure => simp [intOf]; omega
    · have hjk : j = k := by omega
      subst hjk
      have dj : decide ((j : Int) < (j : Int)) = false := by simp
      have ht : Y.take j = Y := by rw [← HYl.out]; exact List.take_length
      rw [ht, ← HX.out]
      clear ht hlt hj
      have HF := hid (show failS ⟨p, 0, fa⟩ 5 p = ⟨p, 5, p⟩ from rfl)
      go_wp2_with (first | go_big_skip | go_big_guard | (refine wl_loadE rfl rfl rfl ?_; first | refine ⟨_, Loads.at [] hst rfl, ?_⟩) | (go_at_call 65; refine (qfail_any g (.slice (some ⟨b, off, none⟩) N c) ⟨p, 0, fa⟩ 5 p _ hst).mono ?_; rw [HF.out]; rintro _ w7 ⟨rfl, h4⟩; have hst7 : St w [g] w7 (qP g (.slice (some ⟨b, off, none⟩) N c) ⟨p, 5, p⟩) := St.callF (R := []) (qP g (.slice (some ⟨b, off, none⟩) N c) ⟨p, 0, fa⟩) hst h4; clear h4 hst))
      go_ret
      exact ⟨rfl, hst7⟩
theorem qnum_high {w0 : World} {M : List Nat} (g : Nat) (ao : Option Addr) (N c : Nat) (B : List UInt8) (s : RS) (size low high : Int) (w : World) (h : St w0 M w (qP g (.slice ao N c) s)) (hB : Rd w (.slice ao N c) 1 N (bytesV B)) (ho : Off (.slice ao N c) [g]) (hL : B.length = N) (hp : s.pos ≤ N) (hN : N ≤ 100000) (hs : -9223372036854775808 ≤ size ∧ size ≤ 9223372036854775807) (h0 : s.e = 0) (h1 : ¬ (size < 1 ∨ 7 < size)) (h2 : ¬ (N : Int) - s.pos < size) (X : Int) (hX : X = beN ((B.drop s.pos).take size.toNat)) (h3 : ¬ X < low) (h4 : high < X) :
    Calls Try.prog 46 #[.pointer (some ⟨g, 0, none⟩), .int .i64 size, .int .i64 low, .int .i64 high] w fun en w' => en = .returned (.int .i64 (stepR s (numRR B s.pos size low high) 0).2) ∧ St w [g] w' (qP g (.slice ao N c) (stepR s (numRR B s.pos size low high) 0).1) := by
  have hR : numRR B s.pos size low high = .stop 5 s.pos := by unfold numRR; rw [if_neg h1, if_neg (by rw [hL]; exact h2), ← hX, if_pos (.inr h4)]
  rw [hR]
  clear hR
  obtain ⟨p, f, fa⟩ := s
  have h0' : f = 0 := h0
  subst h0'
  obtain ⟨k, rfl⟩ : ∃ k : Nat, size = (k : Int) := ⟨size.toNat, by omega⟩
  have hp' : p ≤ N := hp
  have h2' : ¬ (N : Int) - (p : Int) < (k : Int) := h2
  have hpk : p + k ≤ N := by omega
  have hk1 : 1 ≤ k := by omega
  have hk7 : k ≤ 7 := by omega
  have hR : stepR (α := Int) (⟨p, 0, fa⟩ : RS) (.stop 5 p) 0 = (⟨p, 5, p⟩, 0) := by simp [stepR]
  rw [show (⟨p, 0, fa⟩ : RS).pos = p from rfl] at hX ⊢
  rw [hR]
  clear hR
  have hb : (decide (1 ≤ (k : Int)) && decide ((k : Int) ≤ 7)) = true := by rw [decide_eq_true (show 1 ≤ (k : Int) by omega), decide_eq_true (show (k : Int) ≤ 7 by omega)]; rfl
  have HS := hid (show someS N ⟨p, 0, fa⟩ (k : Int) = ⟨p, 0, fa⟩ by unfold someS; rw [if_neg (fun hh => h2' hh.2)])
  obtain ⟨Y, hY⟩ : ∃ Y, Y = (B.drop p).take k := ⟨_, rfl⟩
  have hYl : Y.length = k := by rw [hY, List.length_take, List.length_drop]; omega
  rw [Int.toNat_natCast, ← hY] at hX
  have HY := hid hY
  have HYl := hid hYl
  have HX := hid hX
  have HLL := hid hL
  have hst : St w [g] w [.blk g 102 [.slice ao N c, .int .i64 p, .int .i64 0, .int .i64 fa]] := h.selfF
  obtain ⟨b, off, rfl, _⟩ := hB.at (k := 0) (by omega)
  have hbg := ho _ _ _ rfl (by omega)
  have d3 : decide (X < low) = false := decide_eq_false h3
  have d4 : decide (high < X) = true := decide_eq_true h4
  clear h1 h2 h2' hX hY hYl h ho hL h0 hp h3 h4
  go_enter Try.func46, Try.ntmps46
  go_wp2_with (first | go_big_skip | go_big_guard | (go_at_call 60; refine (size_any k _).mono ?_; rw [hb]; rintro _ _ ⟨rfl, h4⟩; have hst1 := St.call0 hst h4; clear h4 hst) | (go_at_call 66; refine (qsome_any g (some ⟨b, off, none⟩) N c ⟨p, 0, fa⟩ k _ hst1 hp' (by omega)).mono ?_; rw [HS.out]; rintro _ w3 ⟨rfl, h4⟩; have hst3 : St w [g] w3 [.blk g 102 [.slice (some ⟨b, off, none⟩) N c, .int .i64 p, .int .i64 0, .int .i64 fa]] := St.callF (R := []) (qP g (.slice (some ⟨b, off, none⟩) N c) ⟨p, 0, fa⟩) hst1 h4; clear h4 hst1))
  go_loopw [9, 10] (fun v i wr => ∃ j : Nat, j ≤ k ∧ i = .int .i64 j ∧ v = .int .i64 (beN (Y.take j)) ∧ St w [g] wr [.blk g 102 [.slice (some ⟨b, off, none⟩) N c, .int .i64 p, .int .i64 0, .int .i64 fa]]) (fun _ i _ => k - (intOf i).toNat)
  case atStart => exact ⟨0, Nat.zero_le _, rfl, by simp [beN], hst3⟩
  case round =>
    clear hst3
    obtain ⟨j, hj, rfl, rfl, hst⟩ := hrel
    by_cases hlt : j < k
    · have hx := byte_at hB (k := p + j) (by rw [HLL.out]; omega)
      have hgd := getD_drop_take B p k j hlt
      rw [← HY.out] at hgd
      have hsucc := beN_take_succ Y j (by rw [HYl.out]; omega)
      have hqlt := beN_lt (Y.take j)
      have hq3 : beN (Y.take j) < 281474976710656 := by
        refine Nat.lt_of_lt_of_le hqlt ?_
        have : (Y.take j).length ≤ 6 := by rw [List.length_take]; omega
        calc 256 ^ (Y.take j).length ≤ 256 ^ 6 := Nat.pow_le_pow_right (by decide) this
          _ = 281474976710656 := by decide
      obtain ⟨x, hxx⟩ : ∃ x, x = Y.getD j 0 := ⟨_, rfl⟩
      rw [← hgd, ← hxx] at hx
      rw [← hxx] at hsucc
      obtain ⟨q, hqq⟩ : ∃ q, q = beN (Y.take j) := ⟨_, rfl⟩
      rw [← hqq] at hsucc hq3
      rw [← hqq]
      have Hs := hid hsucc
      have HX0 := hid hx
      clear hsucc hqq hxx hqlt hx hgd
      have hxb := x.toNat_lt
      have z0 : IntKind.i64.wrap (256 * (q : Int)) = 256 * (q : Int) := IntWalk.i64_in _ (by omega)
      have z1 : IntKind.i64.wrap ((p : Int) + (j : Int)) = (p : Int) + (j : Int) := IntWalk.i64_in _ (by omega)
      have z2 : IntKind.i64.wrap (256 * (q : Int) + (x.toNat : Int)) = 256 * (q : Int) + (x.toNat : Int) := IntWalk.i64_in _ (by omega)
      have z3 : IntKind.i64.wrap (x.toNat : Int) = (x.toNat : Int) := IntWalk.i64_in _ (by omega)
      have z4 : IntKind.i64.wrap ((j : Int) + 1) = (j : Int) + 1 := IntWalk.i64_in _ (by omega)
      have n1 : ((p : Int) + (j : Int)).toNat = p + j := by omega
      have n2 : 0 ≤ (p : Int) + (j : Int) := by omega
      have n3 : (p : Int) + (j : Int) < (N : Int) := by omega
      have n4 : p + j < N := by omega
      have dj : decide ((j : Int) < (k : Int)) = true := decide_eq_true (by omega)
      go_wp2_with (first | go_big_skip | go_big_guard | fail)
      have hD := hst.drew
      clear hst
      refine wp_region_held_drew (S := (fun w' => (loadVarH 23 ⟨g, 0, none⟩).run Try.prog w' = .ok (.slice (some ⟨b, off, none⟩) N c) w' ∧ (loadVarH 3 ⟨g, 1, none⟩).run Try.prog w' = .ok (.int .i64 (p : Int)) w' ∧ (loadVarH 5 ⟨b, off + (p + j), none⟩).run Try.prog w' = .ok (.int .u8 (x.toNat : Int)) w')) (by kernel_rfl) (by exact ⟨ldS [] hD rfl, ldS [] hD rfl, ldOMx hD HX0.out hbg⟩) (fun hHeld => ?_)
      refine wpAnyH_take (i := 0) (oi := ⟨some 29, _, _, _, _, _⟩) (v := ?_) rfl (by kernel_rfl) (by kernel_rfl) (by kernel_rfl) (fun _ _ _ h => h) (Or.inl ⟨by rfl, ?_⟩) (by assumption) ?_
      rotate_left
      · intro w hSw; (try dsimp only at hSw); go_simp; try with_reducible rfl
      (try simp only [Act.put, List.setIfInBounds_toArray, List.set_cons_zero, List.set_cons_succ])
      refine wpAnyH_take (i := 2) (oi := ⟨some 31, _, _, _, _, _⟩) (v := ?_) rfl (by kernel_rfl) (by kernel_rfl) (by kernel_rfl) (fun _ _ _ h => h) (Or.inl ⟨by rfl, ?_⟩) (by assumption) ?_
      rotate_left
      · intro w hSw; (try dsimp only at hSw); go_simp; try with_reducible rfl
      (try simp only [Act.put, List.setIfInBounds_toArray, List.set_cons_zero, List.set_cons_succ])
      refine wpAnyH_take (i := 6) (oi := ⟨some 35, _, _, _, _, _⟩) (v := ?_) rfl (by kernel_rfl) (by kernel_rfl) (by kernel_rfl) (fun _ _ _ h => h) (Or.inl ⟨by rfl, ?_⟩) (by assumption) ?_
      rotate_left
      · intro w hSw; (try dsimp only at hSw); go_simp; try with_reducible rfl
      (try simp only [Act.put, List.setIfInBounds_toArray, List.set_cons_zero, List.set_cons_succ])
      refine wpAnyH_take (i := 10) (oi := ⟨some 39, _, _, _, _, _⟩) (v := ?_) rfl (by kernel_rfl) (by kernel_rfl) (by kernel_rfl) (fun _ _ _ h => h) (Or.inl ⟨by rfl, ?_⟩) (by assumption) ?_
      rotate_left
      · intro w hSw; (try dsimp only at hSw); go_simp; try with_reducible rfl
      (try simp only [Act.put, List.setIfInBounds_toArray, List.set_cons_zero, List.set_cons_succ])
      refine wpAnyH_take (i := 1) (oi := ⟨some 30, _, _, _, _, _⟩) (v := ?_) rfl (by kernel_rfl) (by kernel_rfl) (by kernel_rfl) (fun _ _ _ h => h) (Or.inl ⟨by rfl, ?_⟩) (by assumption) ?_
      rotate_left
      · intro w hSw; (try dsimp only at hSw); go_simp; try with_reducible rfl
      (try simp only [Act.put, List.setIfInBounds_toArray, List.set_cons_zero, List.set_cons_succ])
      refine wpAnyH_take (i := 3) (oi := ⟨some 32, _, _, _, _, _⟩) (v := ?_) rfl (by kernel_rfl) (by kernel_rfl) (by kernel_rfl) (fun _ _ _ h => h) (Or.inl ⟨by rfl, ?_⟩) (by assumption) ?_
      rotate_left
      · intro w hSw; (try dsimp only at hSw); go_simp; try with_reducible rfl
      (try simp only [Act.put, List.setIfInBounds_toArray, List.set_cons_zero, List.set_cons_succ])
      refine wpAnyH_take (i := 7) (oi := ⟨some 36, _, _, _, _, _⟩) (v := ?_) rfl (by kernel_rfl) (by kernel_rfl) (by kernel_rfl) (fun _ _ _ h => h) (Or.inl ⟨by rfl, ?_⟩) (by assumption) ?_
      rotate_left
      · intro w hSw; (try dsimp only at hSw); go_simp; try with_reducible rfl
      (try simp only [Act.put, List.setIfInBounds_toArray, List.set_cons_zero, List.set_cons_succ])
      refine wpAnyH_take (i := 4) (oi := ⟨some 33, _, _, _, _, _⟩) (v := ?_) rfl (by kernel_rfl) (by kernel_rfl) (by kernel_rfl) (fun _ _ _ h => h) (Or.inl ⟨by rfl, ?_⟩) (by assumption) ?_
      rotate_left
      · intro w hSw; (try dsimp only at hSw); go_simp; try with_reducible rfl
      (try simp only [Act.put, List.setIfInBounds_toArray, List.set_cons_zero, List.set_cons_succ])
      refine wpAnyH_take (i := 8) (oi := ⟨some 37, _, _, _, _, _⟩) (v := ?_) rfl (by kernel_rfl) (by kernel_rfl) (by kernel_rfl) (fun _ _ _ h => h) (Or.inl ⟨by rfl, ?_⟩) (by assumption) ?_
      rotate_left
      · intro w hSw; (try dsimp only at hSw); go_simp; try with_reducible rfl
      (try simp only [Act.put, List.setIfInBounds_toArray, List.set_cons_zero, List.set_cons_succ])
      refine wpAnyH_take (i := 5) (oi := ⟨some 34, _, _, _, _, _⟩) (v := ?_) rfl (by kernel_rfl) (by kernel_rfl) (by kernel_rfl) (fun _ _ _ h => h) (Or.inl ⟨by rfl, ?_⟩) (by assumption) ?_
      rotate_left
      · intro w hSw; (try dsimp only at hSw); go_simp; try with_reducible rfl
      (try simp only [Act.put, List.setIfInBounds_toArray, List.set_cons_zero, List.set_cons_succ])
      refine wpAnyH_take (i := 9) (oi := ⟨some 38, _, _, _, _, _⟩) (v := ?_) rfl (by kernel_rfl) (by kernel_rfl) (by kernel_rfl) (fun _ _ _ h => h) (Or.inl ⟨by rfl, ?_⟩) (by assumption) ?_
      rotate_left
      · intro w hSw; (try dsimp only at hSw); go_simp; try with_reducible rfl
      (try simp only [Act.put, List.setIfInBounds_toArray, List.set_cons_zero, List.set_cons_succ])
      refine wpAnyH_take (i := 11) (oi := ⟨some 40, _, _, _, _, _⟩) (v := ?_) rfl (by kernel_rfl) (by kernel_rfl) (by kernel_rfl) (fun _ _ _ h => h) (Or.inl ⟨by rfl, ?_⟩) (by assumption) ?_
      rotate_left
      · intro w hSw; (try dsimp only at hSw); go_simp; try with_reducible rfl
      (try simp only [Act.put, List.setIfInBounds_toArray, List.set_cons_zero, List.set_cons_succ])
      refine wpAnyH_take (i := 12) (oi := ⟨some 41, _, _, _, _, _⟩) (v := ?_) rfl (by kernel_rfl) (by kernel_rfl) (by kernel_rfl) (fun _ _ _ h => h) (Or.inl ⟨by rfl, ?_⟩) (by assumption) ?_
      rotate_left
      · intro w hSw; (try dsimp only at hSw); go_simp; try with_reducible rfl
      (try simp only [Act.put, List.setIfInBounds_toArray, List.set_cons_zero, List.set_cons_succ])
      refine wpAnyH_take (i := 13) (oi := ⟨some 42, _, _, _, _, _⟩) (v := ?_) rfl (by kernel_rfl) (by kernel_rfl) (by kernel_rfl) (fun _ _ _ h => h) (Or.inl ⟨by rfl, ?_⟩) (by assumption) ?_
      rotate_left
      · intro w hSw; (try dsimp only at hSw); go_simp; try with_reducible rfl
      (try simp only [Act.put, List.setIfInBounds_toArray, List.set_cons_zero, List.set_cons_succ])
      refine wpAnyH_take (i := 14) (oi := ⟨some 43, _, _, _, _, _⟩) (v := ?_) rfl (by kernel_rfl) (by kernel_rfl) (by kernel_rfl) (fun _ _ _ h => h) (Or.inl ⟨by rfl, ?_⟩) (by assumption) ?_
      rotate_left
      · intro w hSw; (try dsimp only at hSw); go_simp; try with_reducible rfl
      (try simp only [Act.put, List.setIfInBounds_toArray, List.set_cons_zero, List.set_cons_succ])
      refine wpAnyH_take (i := 15) (oi := ⟨some 44, _, _, _, _, _⟩) (v := ?_) rfl (by kernel_rfl) (by kernel_rfl) (by kernel_rfl) (fun _ _ _ h => h) (Or.inl ⟨by rfl, ?_⟩) (by assumption) ?_
      rotate_left
      · intro w hSw; (try dsimp only at hSw); go_simp; try with_reducible rfl
      (try simp only [Act.put, List.setIfInBounds_toArray, List.set_cons_zero, List.set_cons_succ])
      refine wpAnyH_take (i := 16) (oi := ⟨some 9, _, _, _, _, _⟩) (v := ?_) rfl (by kernel_rfl) (by kernel_rfl) (by kernel_rfl) (fun _ _ _ h => h) (Or.inl ⟨by rfl, ?_⟩) (by assumption) ?_
      rotate_left
      · intro w hSw; (try dsimp only at hSw); go_simp; try with_reducible rfl
      (try simp only [Act.put, List.setIfInBounds_toArray, List.set_cons_zero, List.set_cons_succ])
      refine wpAnyH_done (by kernel_rfl) ?_ _
      clear hHeld
      go_wp2_with (first | go_big_skip | go_big_guard | fail)
      go_roundw
      case rel => exact ⟨j + 1, by omega, by go_num, by rw [Hs.out]; congr 1; push_cast; omega, hD⟩
      case measure => simp [intOf]; omega
    · have hjk : j = k := by omega
      subst hjk
      have dj : decide ((j : Int) < (j : Int)) = false := by simp
      have ht : Y.take j = Y := by rw [← HYl.out]; exact List.take_length
      rw [ht, ← HX.out]
      clear ht hlt hj
      have HF := hid (show failS ⟨p, 0, fa⟩ 5 p = ⟨p, 5, p⟩ from rfl)
      go_wp2_with (first | go_big_skip | go_big_guard | (refine wl_loadE rfl rfl rfl ?_; first | refine ⟨_, Loads.at [] hst rfl, ?_⟩) | (go_at_call 65; refine (qfail_any g (.slice (some ⟨b, off, none⟩) N c) ⟨p, 0, fa⟩ 5 p _ hst).mono ?_; rw [HF.out]; rintro _ w7 ⟨rfl, h4⟩; have hst7 : St w [g] w7 (qP g (.slice (some ⟨b, off, none⟩) N c) ⟨p, 5, p⟩) := St.callF (R := []) (qP g (.slice (some ⟨b, off, none⟩) N c) ⟨p, 0, fa⟩) hst h4; clear h4 hst))
      go_ret
      exact ⟨rfl, hst7⟩
theorem qnum_ok {w0 : World} {M : List Nat} (g : Nat) (ao : Option Addr) (N c : Nat) (B : List UInt8) (s : RS) (size low high : Int) (w : World) (h : St w0 M w (qP g (.slice ao N c) s)) (hB : Rd w (.slice ao N c) 1 N (bytesV B)) (ho : Off (.slice ao N c) [g]) (hL : B.length = N) (hp : s.pos ≤ N) (hN : N ≤ 100000) (hs : -9223372036854775808 ≤ size ∧ size ≤ 9223372036854775807) (h0 : s.e = 0) (h1 : ¬ (size < 1 ∨ 7 < size)) (h2 : ¬ (N : Int) - s.pos < size) (X : Int) (hX : X = beN ((B.drop s.pos).take size.toNat)) (h3 : ¬ X < low) (h4 : ¬ high < X) :
    Calls Try.prog 46 #[.pointer (some ⟨g, 0, none⟩), .int .i64 size, .int .i64 low, .int .i64 high] w fun en w' => en = .returned (.int .i64 (stepR s (numRR B s.pos size low high) 0).2) ∧ St w [g] w' (qP g (.slice ao N c) (stepR s (numRR B s.pos size low high) 0).1) := by
  have hR : numRR B s.pos size low high = .ok X (s.pos + size.toNat) := by unfold numRR; rw [if_neg h1, if_neg (by rw [hL]; exact h2), ← hX, if_neg (by rintro (h | h) <;> contradiction)]
  rw [hR]
  clear hR
  obtain ⟨p, f, fa⟩ := s
  have h0' : f = 0 := h0
  subst h0'
  obtain ⟨k, rfl⟩ : ∃ k : Nat, size = (k : Int) := ⟨size.toNat, by omega⟩
  have hp' : p ≤ N := hp
  have h2' : ¬ (N : Int) - (p : Int) < (k : Int) := h2
  have hpk : p + k ≤ N := by omega
  have hk1 : 1 ≤ k := by omega
  have hk7 : k ≤ 7 := by omega
  have hR : stepR (α := Int) (⟨p, 0, fa⟩ : RS) ((RR.ok X (p + (k : Int).toNat))) 0 = (⟨p + k, 0, fa⟩, X) := by simp [stepR]
  rw [show (⟨p, 0, fa⟩ : RS).pos = p from rfl] at hX ⊢
  rw [hR]
  clear hR
  have hb : (decide (1 ≤ (k : Int)) && decide ((k : Int) ≤ 7)) = true := by rw [decide_eq_true (show 1 ≤ (k : Int) by omega), decide_eq_true (show (k : Int) ≤ 7 by omega)]; rfl
  have HS := hid (show someS N ⟨p, 0, fa⟩ (k : Int) = ⟨p, 0, fa⟩ by unfold someS; rw [if_neg (fun hh => h2' hh.2)])
  obtain ⟨Y, hY⟩ : ∃ Y, Y = (B.drop p).take k := ⟨_, rfl⟩
  have hYl : Y.length = k := by rw [hY, List.length_take, List.length_drop]; omega
  rw [Int.toNat_natCast, ← hY] at hX
  have HY := hid hY
  have HYl := hid hYl
  have HX := hid hX
  have HLL := hid hL
  have hst : St w [g] w [.blk g 102 [.slice ao N c, .int .i64 p, .int .i64 0, .int .i64 fa]] := h.selfF
  obtain ⟨b, off, rfl, _⟩ := hB.at (k := 0) (by omega)
  have hbg := ho _ _ _ rfl (by omega)
  have d3 : decide (X < low) = false := decide_eq_false h3
  have d4 : decide (high < X) = false := decide_eq_false h4
  clear h1 h2 h2' hX hY hYl h ho hL h0 hp h3 h4
  go_enter Try.func46, Try.ntmps46
  go_wp2_with (first | go_big_skip | go_big_guard | (go_at_call 60; refine (size_any k _).mono ?_; rw [hb]; rintro _ _ ⟨rfl, h4⟩; have hst1 := St.call0 hst h4; clear h4 hst) | (go_at_call 66; refine (qsome_any g (some ⟨b, off, none⟩) N c ⟨p, 0, fa⟩ k _ hst1 hp' (by omega)).mono ?_; rw [HS.out]; rintro _ w3 ⟨rfl, h4⟩; have hst3 : St w [g] w3 [.blk g 102 [.slice (some ⟨b, off, none⟩) N c, .int .i64 p, .int .i64 0, .int .i64 fa]] := St.callF (R := []) (qP g (.slice (some ⟨b, off, none⟩) N c) ⟨p, 0, fa⟩) hst1 h4; clear h4 hst1))
  go_loopw [9, 10] (fun v i wr => ∃ j : Nat, j ≤ k ∧ i = .int .i64 j ∧ v = .int .i64 (beN (Y.take j)) ∧ St w [g] wr [.blk g 102 [.slice (some ⟨b, off, none⟩) N c, .int .i64 p, .int .i64 0, .int .i64 fa]]) (fun _ i _ => k - (intOf i).toNat)
  case atStart => exact ⟨0, Nat.zero_le _, rfl, by simp [beN], hst3⟩
  case round =>
    clear hst3
    obtain ⟨j, hj, rfl, rfl, hst⟩ := hrel
    by_cases hlt : j < k
    · have hx := byte_at hB (k := p + j) (by rw [HLL.out]; omega)
      have hgd := getD_drop_take B p k j hlt
      rw [← HY.out] at hgd
      have hsucc := beN_take_succ Y j (by rw [HYl.out]; omega)
      have hqlt := beN_lt (Y.take j)
      have hq3 : beN (Y.take j) < 281474976710656 := by
        refine Nat.lt_of_lt_of_le hqlt ?_
        have : (Y.take j).length ≤ 6 := by rw [List.length_take]; omega
        calc 256 ^ (Y.take j).length ≤ 256 ^ 6 := Nat.pow_le_pow_right (by decide) this
          _ = 281474976710656 := by decide
      obtain ⟨x, hxx⟩ : ∃ x, x = Y.getD j 0 := ⟨_, rfl⟩
      rw [← hgd, ← hxx] at hx
      rw [← hxx] at hsucc
      obtain ⟨q, hqq⟩ : ∃ q, q = beN (Y.take j) := ⟨_, rfl⟩
      rw [← hqq] at hsucc hq3
      rw [← hqq]
      have Hs := hid hsucc
      have HX0 := hid hx
      clear hsucc hqq hxx hqlt hx hgd
      have hxb := x.toNat_lt
      have z0 : IntKind.i64.wrap (256 * (q : Int)) = 256 * (q : Int) := IntWalk.i64_in _ (by omega)
      have z1 : IntKind.i64.wrap ((p : Int) + (j : Int)) = (p : Int) + (j : Int) := IntWalk.i64_in _ (by omega)
      have z2 : IntKind.i64.wrap (256 * (q : Int) + (x.toNat : Int)) = 256 * (q : Int) + (x.toNat : Int) := IntWalk.i64_in _ (by omega)
      have z3 : IntKind.i64.wrap (x.toNat : Int) = (x.toNat : Int) := IntWalk.i64_in _ (by omega)
      have z4 : IntKind.i64.wrap ((j : Int) + 1) = (j : Int) + 1 := IntWalk.i64_in _ (by omega)
      have n1 : ((p : Int) + (j : Int)).toNat = p + j := by omega
      have n2 : 0 ≤ (p : Int) + (j : Int) := by omega
      have n3 : (p : Int) + (j : Int) < (N : Int) := by omega
      have n4 : p + j < N := by omega
      have dj : decide ((j : Int) < (k : Int)) = true := decide_eq_true (by omega)
      go_wp2_with (first | go_big_skip | go_big_guard | fail)
      have hD := hst.drew
      clear hst
      refine wp_region_held_drew (S := (fun w' => (loadVarH 23 ⟨g, 0, none⟩).run Try.prog w' = .ok (.slice (some ⟨b, off, none⟩) N c) w' ∧ (loadVarH 3 ⟨g, 1, none⟩).run Try.prog w' = .ok (.int .i64 (p : Int)) w' ∧ (loadVarH 5 ⟨b, off + (p + j), none⟩).run Try.prog w' = .ok (.int .u8 (x.toNat : Int)) w')) (by kernel_rfl) (by exact ⟨ldS [] hD rfl, ldS [] hD rfl, ldOMx hD HX0.out hbg⟩) (fun hHeld => ?_)
      refine wpAnyH_take (i := 0) (oi := ⟨some 29, _, _, _, _, _⟩) (v := ?_) rfl (by kernel_rfl) (by kernel_rfl) (by kernel_rfl) (fun _ _ _ h => h) (Or.inl ⟨by rfl, ?_⟩) (by assumption) ?_
      rotate_left
      · intro w hSw; (try dsimp only at hSw); go_simp; try with_reducible rfl
      (try simp only [Act.put, List.setIfInBounds_toArray, List.set_cons_zero, List.set_cons_succ])
      refine wpAnyH_take (i := 2) (oi := ⟨some 31, _, _, _, _, _⟩) (v := ?_) rfl (by kernel_rfl) (by kernel_rfl) (by kernel_rfl) (fun _ _ _ h => h) (Or.inl ⟨by rfl, ?_⟩) (by assumption) ?_
      rotate_left
      · intro w hSw; (try dsimp only at hSw); go_simp; try with_reducible rfl
      (try simp only [Act.put, List.setIfInBounds_toArray, List.set_cons_zero, List.set_cons_succ])
      refine wpAnyH_take (i := 6) (oi := ⟨some 35, _, _, _, _, _⟩) (v := ?_) rfl (by kernel_rfl) (by kernel_rfl) (by kernel_rfl) (fun _ _ _ h => h) (Or.inl ⟨by rfl, ?_⟩) (by assumption) ?_
      rotate_left
      · intro w hSw; (try dsimp only at hSw); go_simp; try with_reducible rfl
      (try simp only [Act.put, List.setIfInBounds_toArray, List.set_cons_zero, List.set_cons_succ])
      refine wpAnyH_take (i := 10) (oi := ⟨some 39, _, _, _, _, _⟩) (v := ?_) rfl (by kernel_rfl) (by kernel_rfl) (by kernel_rfl) (fun _ _ _ h => h) (Or.inl ⟨by rfl, ?_⟩) (by assumption) ?_
      rotate_left
      · intro w hSw; (try dsimp only at hSw); go_simp; try with_reducible rfl
      (try simp only [Act.put, List.setIfInBounds_toArray, List.set_cons_zero, List.set_cons_succ])
      refine wpAnyH_take (i := 1) (oi := ⟨some 30, _, _, _, _, _⟩) (v := ?_) rfl (by kernel_rfl) (by kernel_rfl) (by kernel_rfl) (fun _ _ _ h => h) (Or.inl ⟨by rfl, ?_⟩) (by assumption) ?_
      rotate_left
      · intro w hSw; (try dsimp only at hSw); go_simp; try with_reducible rfl
      (try simp only [Act.put, List.setIfInBounds_toArray, List.set_cons_zero, List.set_cons_succ])
      refine wpAnyH_take (i := 3) (oi := ⟨some 32, _, _, _, _, _⟩) (v := ?_) rfl (by kernel_rfl) (by kernel_rfl) (by kernel_rfl) (fun _ _ _ h => h) (Or.inl ⟨by rfl, ?_⟩) (by assumption) ?_
      rotate_left
      · intro w hSw; (try dsimp only at hSw); go_simp; try with_reducible rfl
      (try simp only [Act.put, List.setIfInBounds_toArray, List.set_cons_zero, List.set_cons_succ])
      refine wpAnyH_take (i := 7) (oi := ⟨some 36, _, _, _, _, _⟩) (v := ?_) rfl (by kernel_rfl) (by kernel_rfl) (by kernel_rfl) (fun _ _ _ h => h) (Or.inl ⟨by rfl, ?_⟩) (by assumption) ?_
      rotate_left
      · intro w hSw; (try dsimp only at hSw); go_simp; try with_reducible rfl
      (try simp only [Act.put, List.setIfInBounds_toArray, List.set_cons_zero, List.set_cons_succ])
      refine wpAnyH_take (i := 4) (oi := ⟨some 33, _, _, _, _, _⟩) (v := ?_) rfl (by kernel_rfl) (by kernel_rfl) (by kernel_rfl) (fun _ _ _ h => h) (Or.inl ⟨by rfl, ?_⟩) (by assumption) ?_
      rotate_left
      · intro w hSw; (try dsimp only at hSw); go_simp; try with_reducible rfl
      (try simp only [Act.put, List.setIfInBounds_toArray, List.set_cons_zero, List.set_cons_succ])
      refine wpAnyH_take (i := 8) (oi := ⟨some 37, _, _, _, _, _⟩) (v := ?_) rfl (by kernel_rfl) (by kernel_rfl) (by kernel_rfl) (fun _ _ _ h => h) (Or.inl ⟨by rfl, ?_⟩) (by assumption) ?_
      rotate_left
      · intro w hSw; (try dsimp only at hSw); go_simp; try with_reducible rfl
      (try simp only [Act.put, List.setIfInBounds_toArray, List.set_cons_zero, List.set_cons_succ])
      refine wpAnyH_take (i := 5) (oi := ⟨some 34, _, _, _, _, _⟩) (v := ?_) rfl (by kernel_rfl) (by kernel_rfl) (by kernel_rfl) (fun _ _ _ h => h) (Or.inl ⟨by rfl, ?_⟩) (by assumption) ?_
      rotate_left
      · intro w hSw; (try dsimp only at hSw); go_simp; try with_reducible rfl
      (try simp only [Act.put, List.setIfInBounds_toArray, List.set_cons_zero, List.set_cons_succ])
      refine wpAnyH_take (i := 9) (oi := ⟨some 38, _, _, _, _, _⟩) (v := ?_) rfl (by kernel_rfl) (by kernel_rfl) (by kernel_rfl) (fun _ _ _ h => h) (Or.inl ⟨by rfl, ?_⟩) (by assumption) ?_
      rotate_left
      · intro w hSw; (try dsimp only at hSw); go_simp; try with_reducible rfl
      (try simp only [Act.put, List.setIfInBounds_toArray, List.set_cons_zero, List.set_cons_succ])
      refine wpAnyH_take (i := 11) (oi := ⟨some 40, _, _, _, _, _⟩) (v := ?_) rfl (by kernel_rfl) (by kernel_rfl) (by kernel_rfl) (fun _ _ _ h => h) (Or.inl ⟨by rfl, ?_⟩) (by assumption) ?_
      rotate_left
      · intro w hSw; (try dsimp only at hSw); go_simp; try with_reducible rfl
      (try simp only [Act.put, List.setIfInBounds_toArray, List.set_cons_zero, List.set_cons_succ])
      refine wpAnyH_take (i := 12) (oi := ⟨some 41, _, _, _, _, _⟩) (v := ?_) rfl (by kernel_rfl) (by kernel_rfl) (by kernel_rfl) (fun _ _ _ h => h) (Or.inl ⟨by rfl, ?_⟩) (by assumption) ?_
      rotate_left
      · intro w hSw; (try dsimp only at hSw); go_simp; try with_reducible rfl
      (try simp only [Act.put, List.setIfInBounds_toArray, List.set_cons_zero, List.set_cons_succ])
      refine wpAnyH_take (i := 13) (oi := ⟨some 42, _, _, _, _, _⟩) (v := ?_) rfl (by kernel_rfl) (by kernel_rfl) (by kernel_rfl) (fun _ _ _ h => h) (Or.inl ⟨by rfl, ?_⟩) (by assumption) ?_
      rotate_left
      · intro w hSw; (try dsimp only at hSw); go_simp; try with_reducible rfl
      (try simp only [Act.put, List.setIfInBounds_toArray, List.set_cons_zero, List.set_cons_succ])
      refine wpAnyH_take (i := 14) (oi := ⟨some 43, _, _, _, _, _⟩) (v := ?_) rfl (by kernel_rfl) (by kernel_rfl) (by kernel_rfl) (fun _ _ _ h => h) (Or.inl ⟨by rfl, ?_⟩) (by assumption) ?_
      rotate_left
      · intro w hSw; (try dsimp only at hSw); go_simp; try with_reducible rfl
      (try simp only [Act.put, List.setIfInBounds_toArray, List.set_cons_zero, List.set_cons_succ])
      refine wpAnyH_take (i := 15) (oi := ⟨some 44, _, _, _, _, _⟩) (v := ?_) rfl (by kernel_rfl) (by kernel_rfl) (by kernel_rfl) (fun _ _ _ h => h) (Or.inl ⟨by rfl, ?_⟩) (by assumption) ?_
      rotate_left
      · intro w hSw; (try dsimp only at hSw); go_simp; try with_reducible rfl
      (try simp only [Act.put, List.setIfInBounds_toArray, List.set_cons_zero, List.set_cons_succ])
      refine wpAnyH_take (i := 16) (oi := ⟨some 9, _, _, _, _, _⟩) (v := ?_) rfl (by kernel_rfl) (by kernel_rfl) (by kernel_rfl) (fun _ _ _ h => h) (Or.inl ⟨by rfl, ?_⟩) (by assumption) ?_
      rotate_left
      · intro w hSw; (try dsimp only at hSw); go_simp; try with_reducible rfl
      (try simp only [Act.put, List.setIfInBounds_toArray, List.set_cons_zero, List.set_cons_succ])
      refine wpAnyH_done (by kernel_rfl) ?_ _
      clear hHeld
      go_wp2_with (first | go_big_skip | go_big_guard | fail)
      go_roundw
      case rel => exact ⟨j + 1, by omega, by go_num, by rw [Hs.out]; congr 1; push_cast; omega, hD⟩
      case measure => simp [intOf]; omega
    · have hjk : j = k := by omega
      subst hjk
      have dj : decide ((j : Int) < (j : Int)) = false := by simp
      have ht : Y.take j = Y := by rw [← HYl.out]; exact List.take_length
      rw [ht, ← HX.out]
      clear ht hlt hj
      have z5 : IntKind.i64.wrap ((p : Int) + (j : Int)) = (p : Int) + (j : Int) := IntWalk.i64_in _ (by omega)
      go_wp2_with (first | go_big_skip | go_big_guard | (refine wl_loadE rfl rfl rfl ?_; first | refine ⟨_, Loads.at [] hst rfl, ?_⟩ | refine ⟨_, Loads.at [] hst7 rfl, ?_⟩) | (refine wl_store [] hst rfl rfl rfl (v := .int .i64 ((p : Int) + (j : Int))) rfl rfl rfl (by show (2 : Nat) ≤ 4; decide) ?_; intro w7 hst7; clear hst))
      go_ret
      exact ⟨rfl, hst7⟩
theorem qnum_any {w0 : World} {M : List Nat} (g : Nat) (ao : Option Addr) (N c : Nat) (B : List UInt8) (s : RS) (size low high : Int) (w : World) (h : St w0 M w (qP g (.slice ao N c) s)) (hB : Rd w (.slice ao N c) 1 N (bytesV B)) (ho : Off (.slice ao N c) [g]) (hL : B.length = N) (hp : s.pos ≤ N) (hN : N ≤ 100000) (hs : -9223372036854775808 ≤ size ∧ size ≤ 9223372036854775807)  :
    Calls Try.prog 46 #[.pointer (some ⟨g, 0, none⟩), .int .i64 size, .int .i64 low, .int .i64 high] w fun en w' => en = .returned (.int .i64 (stepR s (numRR B s.pos size low high) 0).2) ∧ St w [g] w' (qP g (.slice ao N c) (stepR s (numRR B s.pos size low high) 0).1) := by
  obtain ⟨bb, hb⟩ : ∃ bb, bb = (decide (1 ≤ size) && decide (size ≤ 7)) := ⟨_, rfl⟩
  have hbad : (!bb) = true ↔ (size < 1 ∨ 7 < size) := by
    rw [hb]
    simp only [Bool.not_eq_true', Bool.and_eq_false_iff, decide_eq_false_iff_not]
    omega
  by_cases hne : (preQ N s (!bb) size).e = 0
  · obtain ⟨h1, h0, h2, _⟩ := preQ_yes hne
    have h1' : ¬ (size < 1 ∨ 7 < size) := fun hh => by rw [hbad.2 hh] at h1; cases h1
    obtain ⟨X, hX⟩ : ∃ X : Int, X = beN ((B.drop s.pos).take size.toNat) := ⟨_, rfl⟩
    by_cases h3 : X < low
    · exact qnum_low g ao N c B s size low high w h hB ho hL hp hN hs h0 h1' h2 X hX h3
    · by_cases h4 : high < X
      · exact qnum_high g ao N c B s size low high w h hB ho hL hp hN hs h0 h1' h2 X hX h3 h4
      · exact qnum_ok g ao N c B s size low high w h hB ho hL hp hN hs h0 h1' h2 X hX h3 h4
  · have hS := preQ_no (α := Int) (d := 0) (r := numRR B s.pos size low high) (fun hh => by unfold numRR; rw [if_pos (hbad.1 hh)]) (fun hh hn => by unfold numRR; rw [if_neg (fun h9 => by rw [hbad.2 h9] at hh; cases hh), if_pos (by rw [hL]; exact hn), hL]) hne
    rw [hS]
    cases hbb : bb with
    | true =>
      rw [hbb] at hb hne
      exact qnum_no_true g ao N c B s size low high w h hB ho hL hp hN hs hb.symm hne
    | false =>
      rw [hbb] at hb hne
      exact qnum_no_false g ao N c B s size low high w h hB ho hL hp hN hs hb.symm hne
end
end Go.Proofs.Ytalfdcfcaamnbaa
