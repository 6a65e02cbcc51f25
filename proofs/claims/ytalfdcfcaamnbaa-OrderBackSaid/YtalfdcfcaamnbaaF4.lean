import Derived.Test.YtalfdcfcaamnbaaF3
namespace Go.Proofs.Ytalfdcfcaamnbaa
set_option linter.unusedVariables false
set_option linter.unusedSimpArgs false
open Go.RowKit Hp
attribute [local irreducible] Go.Calls
set_option maxRecDepth 100000
set_option maxHeartbeats 4000000
theorem Hp.St.rowPSliceF {w0 w : World} {M : List Nat} (L1 : List HA) {L2 : List HA} {p : Value → Bool} {v : Value} {T : TypeId} {sz n : Nat} {xs : List Value} (h : St w0 M w (L1 ++ .rowP p v T sz n xs :: L2)) : ∃ ao c, v = .slice ao n c := by
  obtain ⟨ao, c, e, _⟩ := rowP_form h (v := v) (p := p) (T := T) (sz := sz) (n := n) (xs := xs) (by simp)
  exact ⟨ao, c, e⟩
theorem Hp.Rd.form {w : World} {v : Value} {sz n : Nat} {xs : List Value} (h : Rd w v sz n xs) : ∃ ao m c, v = .slice ao m c ∧ m = n := by
  obtain ⟨_, ao, c, rfl, _⟩ := h
  exact ⟨ao, n, c, rfl, rfl⟩
def wF (g : Nat) (bv : Value) (s : WR) : List Nat := (wP g bv s).filterMap HA.foot
theorem wF_lt {w0 w : World} {M : List Nat} {R : List HA} {g : Nat} {bv : Value} {s : WR} (h : St w0 M w (wP g bv s ++ R)) : ∀ k ∈ wF g bv s, k < w.heap.size := by
  intro k hk
  obtain ⟨x, hx, hf⟩ := List.mem_filterMap.1 hk
  exact h.lt (x := x) (List.mem_append_left _ hx) hf
/-- What a write leaves. -/
def wrote (g : Nat) (w0 : World) (F : List Nat) (s : WR) (e : Ending) (w' : World) : Prop := e = .returned (.tuple #[]) ∧ ∃ bv', St w0 F w' (wP g bv' s)
theorem write_bad (g : Nat) (bv : Value) (s : WR) (fn : Nat) (cap : Array Value) (r : WR) (w : World) (h : St w (wF g bv s) w (wP g bv s)) (hB : s.2.length ≤ 65536) (hr : r.2.length ≤ 100000) (hfn : ∀ (a : Array Value) (w : World), (callFunc fn a).run Try.prog w = .ok (.enter fn a) w) (h0 : s.1 ≠ 0) :
    Calls Try.prog 90 #[.pointer (some ⟨g, 0, none⟩), .func (.func fn) #[] cap] w (wrote g w (wF g bv s) (putW s r)) := by
  obtain ⟨e, B⟩ := s
  have d0 : (e != 0) = true := by simpa using h0
  rw [putW_bad h0]
  have hst := h
  unfold wP at hst
  clear h h0
  go_enter Try.func90, Try.ntmps90
  go_wp2_with (first | go_big_skip | go_big_guard | (refine wl_loadE rfl rfl rfl ?_; first | refine ⟨_, Loads.at [] hst rfl, ?_⟩))
  go_end0
  exact ⟨rfl, bv, hst⟩
theorem write_err (g : Nat) (bv : Value) (s : WR) (fn : Nat) (cap : Array Value) (r : WR) (w : World) (h : St w (wF g bv s) w (wP g bv s)) (hB : s.2.length ≤ 65536) (hr : r.2.length ≤ 100000) (hfn : ∀ (a : Array Value) (w : World), (callFunc fn a).run Try.prog w = .ok (.enter fn a) w) (h0 : s.1 = 0) (hr1 : r.1 ≠ 0) (hcl : ∀ w1, St w (wF g bv s) w1 (wP g bv s) → Calls Try.prog fn cap w1 (Told w1 (wF g bv s) r)) :
    Calls Try.prog 90 #[.pointer (some ⟨g, 0, none⟩), .func (.func fn) #[] cap] w (wrote g w (wF g bv s) (putW s r)) := by
  obtain ⟨e, B⟩ := s
  obtain ⟨f, b⟩ := r
  dsimp only at h0 hB hr hr1 
  subst h0
  rw [putW_err hr1]
  have d1 : (f == 0) = false := by simpa using hr1
  clear hr1
  have hst := h
  obtain ⟨N, hN⟩ : ∃ N, N = B.length := ⟨_, rfl⟩
  obtain ⟨m, hm⟩ : ∃ m, m = b.length := ⟨_, rfl⟩
  unfold wP at hst
  dsimp only at hst
  rw [← hN] at hst hB
  rw [← hm] at hr
  have hcl' : ∀ w1, St w (wF g bv (0, B)) w1 [.blk g 109 [.bool true, bv, .int .i64 0], .rowP isB bv 5 1 N (bytesV B)] → Calls Try.prog fn cap w1 (Told w1 (wF g bv (0, B)) (f, b)) := by
    intro w1 h1
    refine hcl w1 ?_
    unfold wP
    rw [← hN]
    exact h1
  have HN := hid hN
  have HM := hid hm
  obtain ⟨aB, cB, rfl⟩ := St.rowPSliceF [_] hst
  clear h hcl hN hm
  go_enter Try.func90, Try.ntmps90
  go_wp2_with (first | go_big_skip | go_big_guard | (refine wl_loadE rfl rfl rfl ?_; first | refine ⟨_, Loads.at [] hst rfl, ?_⟩ | refine ⟨_, Loads.at [] hs rfl, ?_⟩) | (refine (hcl' _ hst).mono ?_; rintro _ w2 ⟨u, L, rfl, h4, hu, ho⟩; have hst2 := St.sub (St.call hst h4) (List.sublist_append_right _ _); have hs := hst2.selfF; obtain ⟨au, mu, cu, rfl, hmu⟩ := Rd.form hu; (try dsimp only at hmu); rw [← HM.out] at hmu; subst hmu; clear h4 hst) | (refine wl_store [] hs rfl rfl rfl (v := .int _ _) rfl rfl rfl (Nat.le_refl _) ?_; intro w3 hs2; clear hs))
  go_end0
  refine ⟨rfl, .slice aB N cB, St.thenF hst2 ?_⟩
  unfold wP
  rw [← HN.out]
  exact hs2
theorem write_long (g : Nat) (bv : Value) (s : WR) (fn : Nat) (cap : Array Value) (r : WR) (w : World) (h : St w (wF g bv s) w (wP g bv s)) (hB : s.2.length ≤ 65536) (hr : r.2.length ≤ 100000) (hfn : ∀ (a : Array Value) (w : World), (callFunc fn a).run Try.prog w = .ok (.enter fn a) w) (h0 : s.1 = 0) (hr1 : r.1 = 0) (hl : 65536 < s.2.length + r.2.length) (hcl : ∀ w1, St w (wF g bv s) w1 (wP g bv s) → Calls Try.prog fn cap w1 (Told w1 (wF g bv s) r)) :
    Calls Try.prog 90 #[.pointer (some ⟨g, 0, none⟩), .func (.func fn) #[] cap] w (wrote g w (wF g bv s) (putW s r)) := by
  obtain ⟨e, B⟩ := s
  obtain ⟨f, b⟩ := r
  dsimp only at h0 hB hr hr1 hl
  subst h0
  subst hr1
  rw [putW_long rfl hl]
  have hst := h
  obtain ⟨N, hN⟩ : ∃ N, N = B.length := ⟨_, rfl⟩
  obtain ⟨m, hm⟩ : ∃ m, m = b.length := ⟨_, rfl⟩
  unfold wP at hst
  dsimp only at hst
  rw [← hN] at hst hB
  rw [← hm] at hr
  have hcl' : ∀ w1, St w (wF g bv (0, B)) w1 [.blk g 109 [.bool true, bv, .int .i64 0], .rowP isB bv 5 1 N (bytesV B)] → Calls Try.prog fn cap w1 (Told w1 (wF g bv (0, B)) (0, b)) := by
    intro w1 h1
    refine hcl w1 ?_
    unfold wP
    rw [← hN]
    exact h1
  have HN := hid hN
  have HM := hid hm
  rw [← hN, ← hm] at hl
  have z1 : IntKind.i64.wrap ((N : Int) + (m : Int)) = (N : Int) + (m : Int) := IntWalk.i64_in _ (by omega)
  have d2 : decide ((65536 : Int) < (N : Int) + (m : Int)) = true := decide_eq_true (by omega)
  have HLL := hid hl
  clear hl
  obtain ⟨aB, cB, rfl⟩ := St.rowPSliceF [_] hst
  clear h hcl hN hm
  go_enter Try.func90, Try.ntmps90
  go_wp2_with (first | go_big_skip | go_big_guard | (refine wl_loadE rfl rfl rfl ?_; first | refine ⟨_, Loads.at [] hst rfl, ?_⟩ | refine ⟨_, Loads.at [] hs rfl, ?_⟩) | (refine (hcl' _ hst).mono ?_; rintro _ w2 ⟨u, L, rfl, h4, hu, ho⟩; have hst2 := St.sub (St.call hst h4) (List.sublist_append_right _ _); have hs := hst2.selfF; obtain ⟨au, mu, cu, rfl, hmu⟩ := Rd.form hu; (try dsimp only at hmu); rw [← HM.out] at hmu; subst hmu; clear h4 hst) | (refine wl_store [] hs rfl rfl rfl (v := .int _ _) rfl rfl rfl (Nat.le_refl _) ?_; intro w3 hs2; clear hs))
  go_end0
  refine ⟨rfl, .slice aB N cB, St.thenF hst2 ?_⟩
  unfold wP
  rw [← HN.out]
  exact hs2
theorem write_ok (g : Nat) (bv : Value) (s : WR) (fn : Nat) (cap : Array Value) (r : WR) (w : World) (h : St w (wF g bv s) w (wP g bv s)) (hB : s.2.length ≤ 65536) (hr : r.2.length ≤ 100000) (hfn : ∀ (a : Array Value) (w : World), (callFunc fn a).run Try.prog w = .ok (.enter fn a) w) (h0 : s.1 = 0) (hr1 : r.1 = 0) (hl : ¬ 65536 < s.2.length + r.2.length) (hcl : ∀ w1, St w (wF g bv s) w1 (wP g bv s) → Calls Try.prog fn cap w1 (Told w1 (wF g bv s) r)) :
    Calls Try.prog 90 #[.pointer (some ⟨g, 0, none⟩), .func (.func fn) #[] cap] w (wrote g w (wF g bv s) (putW s r)) := by
  obtain ⟨e, B⟩ := s
  obtain ⟨f, b⟩ := r
  dsimp only at h0 hB hr hr1 hl
  subst h0
  subst hr1
  rw [putW_ok rfl hl]
  have hst := h
  obtain ⟨N, hN⟩ : ∃ N, N = B.length := ⟨_, rfl⟩
  obtain ⟨m, hm⟩ : ∃ m, m = b.length := ⟨_, rfl⟩
  unfold wP at hst
  dsimp only at hst
  rw [← hN] at hst hB
  rw [← hm] at hr
  have hcl' : ∀ w1, St w (wF g bv (0, B)) w1 [.blk g 109 [.bool true, bv, .int .i64 0], .rowP isB bv 5 1 N (bytesV B)] → Calls Try.prog fn cap w1 (Told w1 (wF g bv (0, B)) (0, b)) := by
    intro w1 h1
    refine hcl w1 ?_
    unfold wP
    rw [← hN]
    exact h1
  have HN := hid hN
  have HM := hid hm
  rw [← hN, ← hm] at hl
  have z1 : IntKind.i64.wrap ((N : Int) + (m : Int)) = (N : Int) + (m : Int) := IntWalk.i64_in _ (by omega)
  have d2 : decide ((65536 : Int) < (N : Int) + (m : Int)) = false := decide_eq_false (by omega)
  have HLL := hid hl
  clear hl
  obtain ⟨aB, cB, rfl⟩ := St.rowPSliceF [_] hst
  clear h hcl hN hm
  go_enter Try.func90, Try.ntmps90
  go_wp2_with (first | go_big_skip | go_big_guard | (refine wl_loadE rfl rfl rfl ?_; first | refine ⟨_, Loads.at [] hst rfl, ?_⟩ | refine ⟨_, Loads.at [] hs rfl, ?_⟩ | refine ⟨_, Loads.at [] hs2 rfl, ?_⟩) | (refine (hcl' _ hst).mono ?_; rintro _ w2 ⟨u, L, rfl, h4, hu, ho⟩; have hst2 := St.sub (St.call hst h4) (List.sublist_append_right _ _); have hs := hst2.selfF; obtain ⟨au, mu, cu, rfl, hmu⟩ := Rd.form hu; (try dsimp only at hmu); rw [← HM.out] at hmu; subst hmu; clear h4 hst) | (refine wl_store [] hs rfl rfl rfl (v := .int _ _) rfl rfl rfl (Nat.le_refl _) ?_; intro w3 hs2; clear hs) | (apply wl_appP [_] hs2; rfl; rfl; exact rfl; exact rfl; infer_instance; infer_instance; infer_instance; infer_instance; exact (Rd.oldM hs2 hu (by exact ho)); exact ones_bytesV _; rfl; exact isB_bytes _; (have := HLL.out; unfold maxLen; rw [← HM.out]; omega); intro v4 w4 hs3 _; clear hs2; obtain ⟨a4, c4, rfl⟩ := St.rowPSliceF [_] hs3) | (refine wl_store [] hs3 rfl rfl rfl (v := .slice _ _ _) rfl rfl rfl (by show (2 : Nat) ≤ 3; decide) ?_; intro w5 hs4; clear hs3))
  go_end0
  refine ⟨rfl, .slice a4 (N + b.length) c4, St.thenF hst2 ?_⟩
  have e : wP g (.slice a4 (N + b.length) c4) (0, B ++ b) = [.blk g 109 [.bool true, .slice a4 (N + b.length) c4, .int .i64 0], .rowP isB (.slice a4 (N + b.length) c4) 5 1 (N + b.length) (bytesV B ++ bytesV b)] := by
    unfold wP
    simp only [List.length_append, bytesV_app, ← HN.out]
  rw [e]
  exact hs4
theorem write_any (g : Nat) (bv : Value) (s : WR) (fn : Nat) (cap : Array Value) (r : WR) (w : World) (h : St w (wF g bv s) w (wP g bv s)) (hB : s.2.length ≤ 65536) (hr : r.2.length ≤ 100000) (hfn : ∀ (a : Array Value) (w : World), (callFunc fn a).run Try.prog w = .ok (.enter fn a) w) (hcl : ∀ w1, St w (wF g bv s) w1 (wP g bv s) → Calls Try.prog fn cap w1 (Told w1 (wF g bv s) r)) :
    Calls Try.prog 90 #[.pointer (some ⟨g, 0, none⟩), .func (.func fn) #[] cap] w (wrote g w (wF g bv s) (putW s r)) := by
  by_cases h0 : s.1 = 0
  · by_cases h1 : r.1 = 0
    · by_cases h2 : 65536 < s.2.length + r.2.length
      · exact write_long g bv s fn cap r w h hB hr hfn h0 h1 h2 hcl
      · exact write_ok g bv s fn cap r w h hB hr hfn h0 h1 h2 hcl
    · exact write_err g bv s fn cap r w h hB hr hfn h0 h1 hcl
  · exact write_bad g bv s fn cap r w h hB hr hfn h0
end Go.Proofs.Ytalfdcfcaamnbaa
