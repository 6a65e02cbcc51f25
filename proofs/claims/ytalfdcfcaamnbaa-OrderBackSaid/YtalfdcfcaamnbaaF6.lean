import Derived.Test.YtalfdcfcaamnbaaF5
namespace Go.Proofs.Ytalfdcfcaamnbaa
set_option linter.unusedVariables false
set_option linter.unusedSimpArgs false
open Go.RowKit Hp
attribute [local irreducible] Go.Calls
set_option maxRecDepth 100000
set_option maxHeartbeats 4000000
def vF (g : Nat) (bv : Value) (s : WR) : List Nat := (vP g bv s).filterMap HA.foot
def vrote (g : Nat) (w0 : World) (F : List Nat) (s : WR) (e : Ending) (w' : World) : Prop := e = .returned (.tuple #[]) ∧ ∃ bv', St w0 F w' (vP g bv' s)
theorem vP_form {w0 w : World} {M : List Nat} {g : Nat} {bv : Value} {s : WR} (h : St w0 M w (vP g bv s)) : ∃ ao c, bv = .slice ao s.2.length c := by
  obtain ⟨ao, c, e, _⟩ := rowP_form h (.tail _ (.head _))
  exact ⟨ao, c, e⟩
theorem Hp.St.offFeet {w0 w : World} {M : List Nat} {p : Value → Bool} {v : Value} {T : TypeId} {sz n : Nat} {xs : List Value} {C : List HA} (h : St w0 M w (.rowP p v T sz n xs :: C)) : Off v (C.filterMap HA.foot) := by
  intro A n' c' e _ hk
  obtain ⟨x, hx, hf⟩ := List.mem_filterMap.1 hk
  have hap := h.apart
  unfold Apart at hap
  rw [List.pairwise_cons] at hap
  obtain ⟨⟨_, h2⟩, _⟩ := h.ownsP (p := p) (v := v) (T := T) (sz := sz) (n := n) (xs := xs) (.head _)
  rcases h2 with ⟨rfl, rfl⟩ | ⟨g, cap, cur, rfl, _⟩
  · cases e
  · cases e
    exact hap.1 x hx g rfl hf
theorem Hp.Off.blkN {g : Nat} {F : List Nat} (h : g ∉ F) (off n c : Nat) : Off (.slice (some ⟨g, off, none⟩) n c) F := fun A n' c' e _ hk => by
  cases e
  exact h hk
theorem put_bad (g : Nat) (bv : Value) (s : WR) (au : Option Addr) (m cu : Nat) (b : List UInt8) (f : Int) (w : World) (h : St w (vF g bv s) w (vP g bv s)) (hB : s.2.length ≤ 65536) (hu : Rd w (.slice au m cu) 1 m (bytesV b)) (ho : Off (.slice au m cu) (vF g bv s)) (hm : b.length = m) (hr : m ≤ 100000) (h0 : s.1 ≠ 0) :
    Calls Try.prog 61 #[.pointer (some ⟨g, 0, none⟩), .slice au m cu, .int .i64 f] w (vrote g w (vF g bv s) (putW s (f, b))) := by
  obtain ⟨e, B⟩ := s
  have d0 : (e != 0) = true := by simpa using h0
  rw [putW_bad h0]
  have hst := h
  unfold vP at hst
  clear h h0
  go_enter Try.func61, Try.ntmps61
  go_wp2_with (first | go_big_skip | go_big_guard | (refine wl_loadE rfl rfl rfl ?_; first | refine ⟨_, Loads.at [] hst rfl, ?_⟩))
  go_end0
  exact ⟨rfl, bv, hst⟩
theorem put_err (g : Nat) (bv : Value) (s : WR) (au : Option Addr) (m cu : Nat) (b : List UInt8) (f : Int) (w : World) (h : St w (vF g bv s) w (vP g bv s)) (hB : s.2.length ≤ 65536) (hu : Rd w (.slice au m cu) 1 m (bytesV b)) (ho : Off (.slice au m cu) (vF g bv s)) (hm : b.length = m) (hr : m ≤ 100000) (h0 : s.1 = 0) (hr1 : f ≠ 0) :
    Calls Try.prog 61 #[.pointer (some ⟨g, 0, none⟩), .slice au m cu, .int .i64 f] w (vrote g w (vF g bv s) (putW s (f, b))) := by
  obtain ⟨e, B⟩ := s
  dsimp only at h0 hB 
  subst h0
  rw [putW_err hr1]
  have d1 : (f == 0) = false := by simpa using hr1
  clear hr1
  have hst := h
  obtain ⟨N, hN⟩ : ∃ N, N = B.length := ⟨_, rfl⟩
  unfold vP at hst
  dsimp only at hst
  rw [← hN] at hst hB
  have HN := hid hN
  have HM := hid hm
  obtain ⟨aB, cB, rfl⟩ := St.rowPSliceF [_] hst
  clear h hN hm
  go_enter Try.func61, Try.ntmps61
  go_wp2_with (first | go_big_skip | go_big_guard | (refine wl_loadE rfl rfl rfl ?_; first | refine ⟨_, Loads.at [] hst rfl, ?_⟩) | (refine wl_store [] hst rfl rfl rfl (v := .int _ _) rfl rfl rfl (Nat.le_refl _) ?_; intro w3 hs2; clear hst))
  go_end0
  refine ⟨rfl, .slice aB N cB, ?_⟩
  unfold vP
  rw [← HN.out]
  exact hs2
theorem put_long (g : Nat) (bv : Value) (s : WR) (au : Option Addr) (m cu : Nat) (b : List UInt8) (f : Int) (w : World) (h : St w (vF g bv s) w (vP g bv s)) (hB : s.2.length ≤ 65536) (hu : Rd w (.slice au m cu) 1 m (bytesV b)) (ho : Off (.slice au m cu) (vF g bv s)) (hm : b.length = m) (hr : m ≤ 100000) (h0 : s.1 = 0) (hr1 : f = 0) (hl : 65536 < s.2.length + m) :
    Calls Try.prog 61 #[.pointer (some ⟨g, 0, none⟩), .slice au m cu, .int .i64 f] w (vrote g w (vF g bv s) (putW s (f, b))) := by
  obtain ⟨e, B⟩ := s
  dsimp only at h0 hB hl
  subst h0
  subst hr1
  rw [putW_long rfl (by dsimp only; omega)]
  have hst := h
  obtain ⟨N, hN⟩ : ∃ N, N = B.length := ⟨_, rfl⟩
  unfold vP at hst
  dsimp only at hst
  rw [← hN] at hst hB
  have HN := hid hN
  have HM := hid hm
  rw [← hN] at hl
  have z1 : IntKind.i64.wrap ((N : Int) + (m : Int)) = (N : Int) + (m : Int) := IntWalk.i64_in _ (by omega)
  have d2 : decide ((65536 : Int) < (N : Int) + (m : Int)) = true := decide_eq_true (by omega)
  have HLL := hid hl
  clear hl
  obtain ⟨aB, cB, rfl⟩ := St.rowPSliceF [_] hst
  clear h hN hm
  go_enter Try.func61, Try.ntmps61
  go_wp2_with (first | go_big_skip | go_big_guard | (refine wl_loadE rfl rfl rfl ?_; first | refine ⟨_, Loads.at [] hst rfl, ?_⟩) | (refine wl_store [] hst rfl rfl rfl (v := .int _ _) rfl rfl rfl (Nat.le_refl _) ?_; intro w3 hs2; clear hst))
  go_end0
  refine ⟨rfl, .slice aB N cB, ?_⟩
  unfold vP
  rw [← HN.out]
  exact hs2
theorem put_ok (g : Nat) (bv : Value) (s : WR) (au : Option Addr) (m cu : Nat) (b : List UInt8) (f : Int) (w : World) (h : St w (vF g bv s) w (vP g bv s)) (hB : s.2.length ≤ 65536) (hu : Rd w (.slice au m cu) 1 m (bytesV b)) (ho : Off (.slice au m cu) (vF g bv s)) (hm : b.length = m) (hr : m ≤ 100000) (h0 : s.1 = 0) (hr1 : f = 0) (hl : ¬ 65536 < s.2.length + m) :
    Calls Try.prog 61 #[.pointer (some ⟨g, 0, none⟩), .slice au m cu, .int .i64 f] w (vrote g w (vF g bv s) (putW s (f, b))) := by
  obtain ⟨e, B⟩ := s
  dsimp only at h0 hB hl
  subst h0
  subst hr1
  rw [putW_ok rfl (by dsimp only; omega)]
  have hst := h
  obtain ⟨N, hN⟩ : ∃ N, N = B.length := ⟨_, rfl⟩
  unfold vP at hst
  dsimp only at hst
  rw [← hN] at hst hB
  have HN := hid hN
  have HM := hid hm
  rw [← hN] at hl
  have z1 : IntKind.i64.wrap ((N : Int) + (m : Int)) = (N : Int) + (m : Int) := IntWalk.i64_in _ (by omega)
  have d2 : decide ((65536 : Int) < (N : Int) + (m : Int)) = false := decide_eq_false (by omega)
  have HLL := hid hl
  clear hl
  obtain ⟨aB, cB, rfl⟩ := St.rowPSliceF [_] hst
  clear h hN hm
  go_enter Try.func61, Try.ntmps61
  go_wp2_with (first | go_big_skip | go_big_guard | (refine wl_loadE rfl rfl rfl ?_; first | refine ⟨_, Loads.at [] hst rfl, ?_⟩ | refine ⟨_, Loads.at [] hs2 rfl, ?_⟩) | (refine wl_store [] hst rfl rfl rfl (v := .int _ _) rfl rfl rfl (Nat.le_refl _) ?_; intro w3 hs2; clear hst) | (apply wl_appP [_] hs2; rfl; rfl; exact rfl; exact rfl; infer_instance; infer_instance; infer_instance; infer_instance; exact (Rd.oldM hs2 hu (by exact ho)); exact ones_bytesV _; rfl; exact isB_bytes _; (have := HLL.out; unfold maxLen; omega); intro v4 w4 hs3 _; clear hs2; obtain ⟨a4, c4, rfl⟩ := St.rowPSliceF [_] hs3) | (refine wl_store [] hs3 rfl rfl rfl (v := .slice _ _ _) rfl rfl rfl (by show (1 : Nat) ≤ 2; decide) ?_; intro w5 hs4; clear hs3))
  go_end0
  refine ⟨rfl, .slice a4 (N + m) c4, ?_⟩
  have e : vP g (.slice a4 (N + m) c4) (0, B ++ b) = [.blk g 64 [.slice a4 (N + m) c4, .int .i64 0], .rowP isB (.slice a4 (N + m) c4) 5 1 (N + m) (bytesV B ++ bytesV b)] := by
    unfold vP
    simp only [List.length_append, bytesV_app, ← HN.out, HM.out]
  rw [e]
  exact hs4
theorem put_any (g : Nat) (bv : Value) (s : WR) (au : Option Addr) (m cu : Nat) (b : List UInt8) (f : Int) (w : World) (h : St w (vF g bv s) w (vP g bv s)) (hB : s.2.length ≤ 65536) (hu : Rd w (.slice au m cu) 1 m (bytesV b)) (ho : Off (.slice au m cu) (vF g bv s)) (hm : b.length = m) (hr : m ≤ 100000) :
    Calls Try.prog 61 #[.pointer (some ⟨g, 0, none⟩), .slice au m cu, .int .i64 f] w (vrote g w (vF g bv s) (putW s (f, b))) := by
  by_cases h0 : s.1 = 0
  · by_cases h1 : f = 0
    · by_cases h2 : 65536 < s.2.length + m
      · exact put_long g bv s au m cu b f w h hB hu ho hm hr h0 h1 h2
      · exact put_ok g bv s au m cu b f w h hB hu ho hm hr h0 h1 h2
    · exact put_err g bv s au m cu b f w h hB hu ho hm hr h0 h1
  · exact put_bad g bv s au m cu b f w h hB hu ho hm hr h0
theorem size_any (n : Int) (w : World) : Calls Try.prog 60 #[.int .i64 n] w fun e w' => e = .returned (.bool (decide (1 ≤ n) && decide (n ≤ 7))) ∧ St w [] w' [] := by
  have hst := St.refl w
  by_cases h1 : 1 ≤ n
  · have d1 : decide (1 ≤ n) = true := decide_eq_true h1
    rw [d1]
    go_enter Try.func60, Try.ntmps60
    go_wp2_with (first | go_big_skip | go_big_guard | fail)
    go_ret
    exact ⟨rfl, hst⟩
  · have d1 : decide (1 ≤ n) = false := decide_eq_false h1
    rw [d1]
    go_enter Try.func60, Try.ntmps60
    go_wp2_with (first | go_big_skip | go_big_guard | fail)
    go_ret
    exact ⟨rfl, hst⟩
end Go.Proofs.Ytalfdcfcaamnbaa
