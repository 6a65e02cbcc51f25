import Derived.Test.YtalfdcfcaamnbaaF7
namespace Go.Proofs.Ytalfdcfcaamnbaa
set_option linter.unusedVariables false
set_option linter.unusedSimpArgs false
open Go.RowKit Hp
attribute [local irreducible] Go.Calls
set_option maxRecDepth 100000
set_option maxHeartbeats 4000000
theorem eqNilB (ao : Option Addr) (n c : Nat) (w : World) : (binOp .eql 23 (.slice ao n c) (.slice none 0 0)).run Try.prog w = .ok (.bool ao.isNone) w :=
  eqSlNil w _ _ ao n c (show Try.prog.underlying 23 = some (.slice 5) by kernel_rfl)
section
attribute [local go_sem ↓] eqNilB
theorem bclone_any (ao : Option Addr) (n c : Nat) (bs : List UInt8) (w : World) (hA : Rd w (.slice ao n c) 1 n (bytesV bs)) (hn : bs.length = n) (hb : n ≤ 100000) :
    Calls Try.prog 71 #[.slice ao n c] w fun e w' => ∃ v, e = .returned v ∧ St w [] w' [.rowP isB v 5 1 n (bytesV bs)] := by
  have hst := St.refl w
  have Hn := hid hn
  rcases hA.casesF with ⟨he, h0, hb0⟩ | ⟨A, c', he, _⟩
  · cases he
    have e0 : bs = [] := by simpa [bytesV] using hb0
    subst e0
    clear hA hn hb Hn h0 hb0
    go_enter Try.func71, Try.ntmps71
    go_wp2_with (first | go_big_skip | go_big_guard | fail)
    go_ret
    exact ⟨_, rfl, St.nilPQ isB _ 1 hst⟩
  · cases he
    clear hn
    go_enter Try.func71, Try.ntmps71
    go_wp2_with (first | go_big_skip | go_big_guard | (apply wl_bsX [] [] hst; rfl; rfl; exact rfl; exact rfl; infer_instance; infer_instance; rfl; rfl; rfl; intro g3 w3 hst3; clear hst; have hst4 := St.toRowP isB (n := 0) (cap := 0) (sz := 1) hst3 rfl (by decide) (by decide) rfl; clear hst3) | (apply wl_appP [] hst4; rfl; rfl; exact rfl; exact rfl; infer_instance; infer_instance; infer_instance; infer_instance; exact Rd.old hst4 hA; exact ones_bytesV bs; rfl; exact isB_bytes bs; (unfold maxLen; omega); intro v9 w9 hst9 _; clear hst4))
    go_ret
    rw [Nat.zero_add] at hst9
    exact ⟨v9, rfl, hst9⟩
end
/-- What a writer in this state tells. -/
def outW (s : WR) : List UInt8 := if s.1 = 0 then s.2 else []
def OutP (w : World) (s : WR) (e : Ending) (w' : World) : Prop := ∃ u, e = .returned (.tuple #[u, .int .i64 s.1]) ∧ St w [] w' [.rowP isB u 5 1 (outW s).length (bytesV (outW s))]
theorem loadedE (A : Addr) : loadVar 29 A = loadVarH 29 A := rfl
attribute [local go_sem ↓] loadedE
theorem wout_bad {w0 : World} {M : List Nat} (g : Nat) (bv : Value) (s : WR) (w : World) (h : St w0 M w (wP g bv s)) (hB : s.2.length ≤ 65536) (h0 : s.1 ≠ 0) :
    Calls Try.prog 55 #[.pointer (some ⟨g, 0, none⟩)] w (OutP w s) := by
  obtain ⟨e, B⟩ := s
  have hst := St.refl w
  have c0 := h.cell (off := 0) (.head _) rfl
  have c1 := h.cell (off := 1) (.head _) rfl
  have c2 := h.cell (off := 2) (.head _) rfl
  have hr := Rd.rowP h (.tail _ (.head _))
  dsimp only at c0 c1 c2 hB hr
  have d0 : (e != 0) = true := by simpa using h0
  have hO : outW (e, B) = [] := by unfold outW; rw [if_neg h0]
  clear hr
  go_enter Try.func55, Try.ntmps55
  go_wp2_with (first | go_big_skip | go_big_guard | (refine wl_loadE rfl rfl rfl ?_; first | refine ⟨_, Loads.old hst (c0), ?_⟩ | refine ⟨_, Loads.old hst (c1), ?_⟩ | refine ⟨_, Loads.old hst (c2), ?_⟩))

  have hD := hst.drew
  clear hst
  refine wp_region_held_drew (S := (fun w' => (loadVarH 29 ⟨g, 2, none⟩).run Try.prog w' = .ok (.int .i64 e) w')) (by kernel_rfl) (by exact ldO hD (c2)) (fun hHeld => ?_)
  refine wpAnyH_take (i := 0) (oi := ⟨some 20, _, _, _, _, _⟩) (v := ?_) rfl (by kernel_rfl) (by kernel_rfl) (by kernel_rfl) (fun _ _ _ h => h) (Or.inl ⟨by rfl, ?_⟩) (by assumption) ?_
  rotate_left
  · intro w hSw; (try dsimp only at hSw); go_simp; try with_reducible rfl
  (try simp only [Act.put, List.setIfInBounds_toArray, List.set_cons_zero, List.set_cons_succ])
  refine wpAnyH_take (i := 4) (oi := ⟨some 2, _, _, _, _, _⟩) (v := ?_) rfl (by kernel_rfl) (by kernel_rfl) (by kernel_rfl) (fun _ _ _ h => h) (Or.inl ⟨by rfl, ?_⟩) (by assumption) ?_
  rotate_left
  · intro w hSw; (try dsimp only at hSw); go_simp; try with_reducible rfl
  (try simp only [Act.put, List.setIfInBounds_toArray, List.set_cons_zero, List.set_cons_succ])
  refine wpAnyH_take (i := 1) (oi := ⟨some 21, _, _, _, _, _⟩) (v := ?_) rfl (by kernel_rfl) (by kernel_rfl) (by kernel_rfl) (fun _ _ _ h => h) (Or.inl ⟨by rfl, ?_⟩) (by assumption) ?_
  rotate_left
  · intro w hSw; (try dsimp only at hSw); go_simp; try with_reducible rfl
  (try simp only [Act.put, List.setIfInBounds_toArray, List.set_cons_zero, List.set_cons_succ])
  refine wpAnyH_take (i := 2) (oi := ⟨some 22, _, _, _, _, _⟩) (v := ?_) rfl (by kernel_rfl) (by kernel_rfl) (by kernel_rfl) (fun _ _ _ h => h) (Or.inl ⟨by rfl, ?_⟩) (by assumption) ?_
  rotate_left
  · intro w hSw; (try dsimp only at hSw); go_simp; try with_reducible rfl
  (try simp only [Act.put, List.setIfInBounds_toArray, List.set_cons_zero, List.set_cons_succ])
  refine wpAnyH_take (i := 3) (oi := ⟨some 23, _, _, _, _, _⟩) (v := ?_) rfl (by kernel_rfl) (by kernel_rfl) (by kernel_rfl) (fun _ _ _ h => h) (Or.inl ⟨by rfl, ?_⟩) (by assumption) ?_
  rotate_left
  · intro w hSw; (try dsimp only at hSw); go_simp; try with_reducible rfl
  (try simp only [Act.put, List.setIfInBounds_toArray, List.set_cons_zero, List.set_cons_succ])
  refine wpAnyH_take (i := 5) (oi := ⟨some 3, _, _, _, _, _⟩) (v := ?_) rfl (by kernel_rfl) (by kernel_rfl) (by kernel_rfl) (fun _ _ _ h => h) (Or.inl ⟨by rfl, ?_⟩) (by assumption) ?_
  rotate_left
  · intro w hSw; (try dsimp only at hSw); go_simp; try with_reducible rfl
  (try simp only [Act.put, List.setIfInBounds_toArray, List.set_cons_zero, List.set_cons_succ])
  refine wpAnyH_done (by kernel_rfl) ?_ _
  clear hHeld
  go_wp2_with (first | go_big_skip | go_big_guard | fail)
  go_ret2
  refine ⟨_, rfl, ?_⟩
  rw [hO]
  exact St.nilPQ isB _ 1 hD
theorem wout_ok {w0 : World} {M : List Nat} (g : Nat) (bv : Value) (s : WR) (w : World) (h : St w0 M w (wP g bv s)) (hB : s.2.length ≤ 65536) (h0 : s.1 = 0) :
    Calls Try.prog 55 #[.pointer (some ⟨g, 0, none⟩)] w (OutP w s) := by
  obtain ⟨e, B⟩ := s
  have hst := St.refl w
  have c0 := h.cell (off := 0) (.head _) rfl
  have c1 := h.cell (off := 1) (.head _) rfl
  have c2 := h.cell (off := 2) (.head _) rfl
  have hr := Rd.rowP h (.tail _ (.head _))
  dsimp only at c0 c1 c2 hB hr
  dsimp only at h0
  subst h0
  have hO : outW (0, B) = B := rfl
  obtain ⟨N, hN⟩ : ∃ N, N = B.length := ⟨_, rfl⟩
  rw [← hN] at hr hB
  obtain ⟨ao, m, c, rfl, hm⟩ := Rd.form hr
  subst hm
  have HN := hid hN
  clear hN h
  go_enter Try.func55, Try.ntmps55
  go_wp2_with (first | go_big_skip | go_big_guard | (refine wl_loadE rfl rfl rfl ?_; first | refine ⟨_, Loads.old hst (c0), ?_⟩ | refine ⟨_, Loads.old hst (c1), ?_⟩ | refine ⟨_, Loads.old hst (c2), ?_⟩) | (go_at_call 71; refine (bclone_any ao m c B _ (Rd.old hst hr) HN.out.symm (by omega)).mono ?_; rintro _ w9 ⟨v, rfl, h4⟩))
  go_ret2
  refine ⟨_, rfl, ?_⟩
  rw [hO, ← HN.out]
  exact h4
theorem wout_any {w0 : World} {M : List Nat} (g : Nat) (bv : Value) (s : WR) (w : World) (h : St w0 M w (wP g bv s)) (hB : s.2.length ≤ 65536)  :
    Calls Try.prog 55 #[.pointer (some ⟨g, 0, none⟩)] w (OutP w s) := by
  by_cases h0 : s.1 = 0
  · exact wout_ok g bv s w h hB h0
  · exact wout_bad g bv s w h hB h0
theorem vout_bad {w0 : World} {M : List Nat} (g : Nat) (bv : Value) (s : WR) (w : World) (h : St w0 M w (vP g bv s)) (hB : s.2.length ≤ 65536) (h0 : s.1 ≠ 0) :
    Calls Try.prog 38 #[.pointer (some ⟨g, 0, none⟩)] w (OutP w s) := by
  obtain ⟨e, B⟩ := s
  have hst := St.refl w
  have c0 := h.cell (off := 0) (.head _) rfl
  have c1 := h.cell (off := 1) (.head _) rfl
  have hr := Rd.rowP h (.tail _ (.head _))
  dsimp only at c0 c1 hB hr
  have d0 : (e != 0) = true := by simpa using h0
  have hO : outW (e, B) = [] := by unfold outW; rw [if_neg h0]
  clear hr
  go_enter Try.func38, Try.ntmps38
  go_wp2_with (first | go_big_skip | go_big_guard | (refine wl_loadE rfl rfl rfl ?_; first | refine ⟨_, Loads.old hst (c0), ?_⟩ | refine ⟨_, Loads.old hst (c1), ?_⟩))

  have hD := hst.drew
  clear hst
  refine wp_region_held_drew (S := (fun w' => (loadVarH 29 ⟨g, 1, none⟩).run Try.prog w' = .ok (.int .i64 e) w')) (by kernel_rfl) (by exact ldO hD (c1)) (fun hHeld => ?_)
  refine wpAnyH_take (i := 0) (oi := ⟨some 9, _, _, _, _, _⟩) (v := ?_) rfl (by kernel_rfl) (by kernel_rfl) (by kernel_rfl) (fun _ _ _ h => h) (Or.inl ⟨by rfl, ?_⟩) (by assumption) ?_
  rotate_left
  · intro w hSw; (try dsimp only at hSw); go_simp; try with_reducible rfl
  (try simp only [Act.put, List.setIfInBounds_toArray, List.set_cons_zero, List.set_cons_succ])
  refine wpAnyH_take (i := 4) (oi := ⟨some 2, _, _, _, _, _⟩) (v := ?_) rfl (by kernel_rfl) (by kernel_rfl) (by kernel_rfl) (fun _ _ _ h => h) (Or.inl ⟨by rfl, ?_⟩) (by assumption) ?_
  rotate_left
  · intro w hSw; (try dsimp only at hSw); go_simp; try with_reducible rfl
  (try simp only [Act.put, List.setIfInBounds_toArray, List.set_cons_zero, List.set_cons_succ])
  refine wpAnyH_take (i := 1) (oi := ⟨some 10, _, _, _, _, _⟩) (v := ?_) rfl (by kernel_rfl) (by kernel_rfl) (by kernel_rfl) (fun _ _ _ h => h) (Or.inl ⟨by rfl, ?_⟩) (by assumption) ?_
  rotate_left
  · intro w hSw; (try dsimp only at hSw); go_simp; try with_reducible rfl
  (try simp only [Act.put, List.setIfInBounds_toArray, List.set_cons_zero, List.set_cons_succ])
  refine wpAnyH_take (i := 2) (oi := ⟨some 11, _, _, _, _, _⟩) (v := ?_) rfl (by kernel_rfl) (by kernel_rfl) (by kernel_rfl) (fun _ _ _ h => h) (Or.inl ⟨by rfl, ?_⟩) (by assumption) ?_
  rotate_left
  · intro w hSw; (try dsimp only at hSw); go_simp; try with_reducible rfl
  (try simp only [Act.put, List.setIfInBounds_toArray, List.set_cons_zero, List.set_cons_succ])
  refine wpAnyH_take (i := 3) (oi := ⟨some 12, _, _, _, _, _⟩) (v := ?_) rfl (by kernel_rfl) (by kernel_rfl) (by kernel_rfl) (fun _ _ _ h => h) (Or.inl ⟨by rfl, ?_⟩) (by assumption) ?_
  rotate_left
  · intro w hSw; (try dsimp only at hSw); go_simp; try with_reducible rfl
  (try simp only [Act.put, List.setIfInBounds_toArray, List.set_cons_zero, List.set_cons_succ])
  refine wpAnyH_take (i := 5) (oi := ⟨some 3, _, _, _, _, _⟩) (v := ?_) rfl (by kernel_rfl) (by kernel_rfl) (by kernel_rfl) (fun _ _ _ h => h) (Or.inl ⟨by rfl, ?_⟩) (by assumption) ?_
  rotate_left
  · intro w hSw; (try dsimp only at hSw); go_simp; try with_reducible rfl
  (try simp only [Act.put, List.setIfInBounds_toArray, List.set_cons_zero, List.set_cons_succ])
  refine wpAnyH_done (by kernel_rfl) ?_ _
  clear hHeld
  go_wp2_with (first | go_big_skip | go_big_guard | fail)
  go_ret2
  refine ⟨_, rfl, ?_⟩
  rw [hO]
  exact St.nilPQ isB _ 1 hD
theorem vout_ok {w0 : World} {M : List Nat} (g : Nat) (bv : Value) (s : WR) (w : World) (h : St w0 M w (vP g bv s)) (hB : s.2.length ≤ 65536) (h0 : s.1 = 0) :
    Calls Try.prog 38 #[.pointer (some ⟨g, 0, none⟩)] w (OutP w s) := by
  obtain ⟨e, B⟩ := s
  have hst := St.refl w
  have c0 := h.cell (off := 0) (.head _) rfl
  have c1 := h.cell (off := 1) (.head _) rfl
  have hr := Rd.rowP h (.tail _ (.head _))
  dsimp only at c0 c1 hB hr
  dsimp only at h0
  subst h0
  have hO : outW (0, B) = B := rfl
  obtain ⟨N, hN⟩ : ∃ N, N = B.length := ⟨_, rfl⟩
  rw [← hN] at hr hB
  obtain ⟨ao, m, c, rfl, hm⟩ := Rd.form hr
  subst hm
  have HN := hid hN
  clear hN h
  go_enter Try.func38, Try.ntmps38
  go_wp2_with (first | go_big_skip | go_big_guard | (refine wl_loadE rfl rfl rfl ?_; first | refine ⟨_, Loads.old hst (c0), ?_⟩ | refine ⟨_, Loads.old hst (c1), ?_⟩) | (refine wl_loadE rfl rfl rfl ?_; first | refine ⟨_, Loads.old hst4 (c0), ?_⟩) | (apply wl_bsX [] [] hst; rfl; rfl; exact rfl; exact rfl; infer_instance; infer_instance; rfl; rfl; rfl; intro g3 w3 hst3; clear hst; have hst4 := St.toRowP isB (n := 0) (cap := 0) (sz := 1) hst3 rfl (by decide) (by decide) rfl; clear hst3) | (apply wl_appP [] hst4; rfl; rfl; exact rfl; exact rfl; infer_instance; infer_instance; infer_instance; infer_instance; exact Rd.old hst4 hr; exact ones_bytesV B; rfl; exact isB_bytes B; (unfold maxLen; omega); intro v9 w9 hst9 _; clear hst4))
  go_ret2
  rw [Nat.zero_add] at hst9
  refine ⟨_, rfl, ?_⟩
  rw [hO, ← HN.out]
  exact hst9
theorem vout_any {w0 : World} {M : List Nat} (g : Nat) (bv : Value) (s : WR) (w : World) (h : St w0 M w (vP g bv s)) (hB : s.2.length ≤ 65536)  :
    Calls Try.prog 38 #[.pointer (some ⟨g, 0, none⟩)] w (OutP w s) := by
  by_cases h0 : s.1 = 0
  · exact vout_ok g bv s w h hB h0
  · exact vout_bad g bv s w h hB h0
end Go.Proofs.Ytalfdcfcaamnbaa
