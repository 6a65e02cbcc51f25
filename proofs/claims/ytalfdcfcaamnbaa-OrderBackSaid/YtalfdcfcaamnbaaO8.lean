import Derived.Test.YtalfdcfcaamnbaaO7
namespace Go.Proofs.Ytalfdcfcaamnbaa
set_option linter.unusedVariables false
set_option linter.unusedSimpArgs false
open Go.RowKit Hp
attribute [local irreducible] Go.Calls Go.wpList
set_option maxRecDepth 100000
set_option maxHeartbeats 4000000
/-- What was there at first is off the call's own blocks. -/
theorem Hp.St.offOld {w0 w : World} {L : List HA} (h : St w0 [] w L) {A : Addr} {v : Value} (hc : w0.cell? A = some v) : A.block ∉ L.filterMap HA.foot := by
  intro hk
  obtain ⟨x, hx, hf⟩ := List.mem_filterMap.1 hk
  have h1 := World.block_lt_of_cell? w0 A hc
  rcases h.own x hx _ hf with h2 | h2
  · have h3 : A.block < w0.heap.size := h1
    omega
  · cases h2
/-- What was readable at first is off the call's own blocks. -/
theorem Hp.Off.later {w0 w : World} {L : List HA} {v : Value} {sz n : Nat} {xs : List Value} (h : St w0 [] w L) (hr : Rd w0 v sz n xs) (hs : 0 < sz) : Off v (L.filterMap HA.foot) := by
  refine Off.old hr hs fun k hk => ?_
  obtain ⟨x, hx, hf⟩ := List.mem_filterMap.1 hk
  rcases h.own x hx _ hf with h2 | h2
  · exact h2
  · cases h2
/-- .. and off those of the next step. -/
theorem Hp.Off.next {w0 w : World} {F : List Nat} {L : List HA} {v : Value} {sz n : Nat} {xs : List Value} (h : St w0 F w L) (ho : Off v F) (hr : Rd w0 v sz n xs) (hs : 0 < sz) : Off v (L.filterMap HA.foot) := by
  intro A n' c' e hpos hk
  obtain ⟨x, hx, hf⟩ := List.mem_filterMap.1 hk
  rcases h.own x hx _ hf with h2 | h2
  · exact Off.old (F := [A.block]) hr hs (fun k hk => by simp at hk; subst hk; exact h2) A n' c' e hpos (by simp)
  · exact ho A n' c' e hpos h2
/-- A closure that writes: at any world that came of w0, where a writer is of the call's own. -/
def PutOk (w0 : World) (fn : Nat) (cap : List Value) (step : WR → WR) : Prop :=
  ∀ (g : Nat) (bv : Value) (s : WR) (w : World), St w0 [] w (wP g bv s) → s.2.length ≤ 65536 → Calls Try.prog fn (ptrV g :: cap).toArray w (wrote g w (wF g bv s) (step s))
theorem PutOk.later {w0 w1 : World} {L : List HA} {fn : Nat} {cap : List Value} {step : WR → WR} (h : PutOk w0 fn cap step) (h1 : St w0 [] w1 L) : PutOk w1 fn cap step :=
  fun g bv s w hst hB => h g bv s w (by
    have := St.call h1 hst
    exact St.sub this (List.sublist_append_left _ _)) hB
theorem loadedPi (A : Addr) : loadVar 83 A = loadVarH 83 A := rfl
theorem loadedPs (A : Addr) : loadVar 92 A = loadVarH 92 A := rfl
theorem loadedPb (A : Addr) : loadVar 96 A = loadVarH 96 A := rfl
theorem loadedPS (A : Addr) : loadVar 94 A = loadVarH 94 A := rfl
theorem loadedPI (A : Addr) : loadVar 106 A = loadVarH 106 A := rfl
theorem loadedSs (A : Addr) : loadVar 22 A = loadVarH 22 A := rfl
theorem loadedIs (A : Addr) : loadVar 47 A = loadVarH 47 A := rfl
theorem loadedFs (A : Addr) : loadVar 91 A = loadVarH 91 A := rfl
theorem loadedFi (A : Addr) : loadVar 107 A = loadVarH 107 A := rfl
section
attribute [local go_sem ↓] loadedPi loadedInt
theorem num1_at (g : Nat) (bv : Value) (s : WR) (w : World) (hst : St w (wF g bv s) w (wP g bv s)) (hB : s.2.length ≤ 65536) {gn gz : Nat} {A : Addr} {n size : Int} (ac0 : w.cell? ⟨gn, 0, none⟩ = some (.pointer (some A))) (ac1 : w.cell? ⟨gz, 0, none⟩ = some (.int .i64 size)) (ac2 : w.cell? A = some (.int .i64 n))
    (bc0 : gn ∉ wF g bv s) (bc1 : gz ∉ wF g bv s) (bc2 : A.block ∉ wF g bv s) (hs : -9223372036854775808 ≤ size ∧ size ≤ 9223372036854775807) (hn : -9223372036854775808 ≤ n ∧ n ≤ 9223372036854775807) :
    Calls Try.prog 72 #[.pointer (some ⟨g, 0, none⟩), .pointer (some ⟨gn, 0, none⟩), .pointer (some ⟨gz, 0, none⟩)] w (wrote g w (wF g bv s) (putW s (numR n size))) := by
  have kc0 := hid ac0
  have nc0 := hid bc0
  have kc1 := hid ac1
  have nc1 := hid bc1
  have kc2 := hid ac2
  have nc2 := hid bc2
  have HB := hid hB
  obtain ⟨F, hF⟩ : ∃ F, F = wF g bv s := ⟨_, rfl⟩
  have HF := hid hF
  obtain ⟨W0, hW⟩ : ∃ W0, W0 = wP g bv s := ⟨_, rfl⟩
  have HW := hid hW
  rw [← hW] at hst
  rw [← hF] at hst ⊢
  clear hB hF hW
  go_enter Try.func72, Try.ntmps72
  go_wp2_with (first | go_big_skip | go_big_guard | fail)
  have hD := hst.drew
  clear hst
  refine wp_region_held_drew (S := (fun w' => (loadVarH 83 ⟨gn, 0, none⟩).run Try.prog w' = .ok (.pointer (some A)) w' ∧ (loadVarH 3 ⟨gz, 0, none⟩).run Try.prog w' = .ok (.int .i64 size) w' ∧ (loadVarH 3 A).run Try.prog w' = .ok (.int .i64 n) w')) (by kernel_rfl) (by exact ⟨ldOMx hD kc0.out (by rw [HF.out]; exact nc0.out), ldOMx hD kc1.out (by rw [HF.out]; exact nc1.out), ldOMx hD kc2.out (by rw [HF.out]; exact nc2.out)⟩) (fun hHeld => ?_)
  refine wpAnyH_take (i := 0) (oi := ⟨some 4, _, _, _, _, _⟩) (v := ?_) rfl (by kernel_rfl) (by kernel_rfl) (by kernel_rfl) (fun _ _ _ h => h) (Or.inl ⟨by rfl, ?_⟩) (by assumption) ?_
  rotate_left
  · intro w hSw; (try dsimp only at hSw); go_simp; try with_reducible rfl
  (try simp only [Act.put, List.setIfInBounds_toArray, List.set_cons_zero, List.set_cons_succ])
  refine wpAnyH_take (i := 1) (oi := ⟨some 5, _, _, _, _, _⟩) (v := ?_) rfl (by kernel_rfl) (by kernel_rfl) (by kernel_rfl) (fun _ _ _ h => h) (Or.inl ⟨by rfl, ?_⟩) (by assumption) ?_
  rotate_left
  · intro w hSw; (try dsimp only at hSw); go_simp; try with_reducible rfl
  (try simp only [Act.put, List.setIfInBounds_toArray, List.set_cons_zero, List.set_cons_succ])
  refine wpAnyH_take (i := 4) (oi := ⟨some 8, _, _, _, _, _⟩) (v := ?_) rfl (by kernel_rfl) (by kernel_rfl) (by kernel_rfl) (fun _ _ _ h => h) (Or.inl ⟨by rfl, ?_⟩) (by assumption) ?_
  rotate_left
  · intro w hSw; (try dsimp only at hSw); go_simp; try with_reducible rfl
  (try simp only [Act.put, List.setIfInBounds_toArray, List.set_cons_zero, List.set_cons_succ])
  refine wpAnyH_take (i := 2) (oi := ⟨some 6, _, _, _, _, _⟩) (v := ?_) rfl (by kernel_rfl) (by kernel_rfl) (by kernel_rfl) (fun _ _ _ h => h) (Or.inl ⟨by rfl, ?_⟩) (by assumption) ?_
  rotate_left
  · intro w hSw; (try dsimp only at hSw); go_simp; try with_reducible rfl
  (try simp only [Act.put, List.setIfInBounds_toArray, List.set_cons_zero, List.set_cons_succ])
  refine wpAnyH_take (i := 3) (oi := ⟨some 7, _, _, _, _, _⟩) (v := ?_) rfl (by kernel_rfl) (by kernel_rfl) (by kernel_rfl) (fun _ _ _ h => h) (Or.inl ⟨by rfl, ?_⟩) (by assumption) ?_
  rotate_left
  · intro w hSw; (try dsimp only at hSw); go_simp; try with_reducible rfl
  (try simp only [Act.put, List.setIfInBounds_toArray, List.set_cons_zero, List.set_cons_succ])
  refine wpAnyH_ready (rs := [5]) (by kernel_rfl) (by simp) ?_
  refine (AllReadyH.cons (o := ⟨some 9, _, _, _, _, _⟩) rfl (fun K hK => ?_) AllReadyH.nil)
  rw [if_pos (by rfl)]
  go_simp
  go_at_call 73
  have hE := hD
  rw [HW.out] at hE
  refine (wnum_any g bv s n size _ hE.selfF HB.out hs hn).mono ?_
  rintro _ w9 ⟨rfl, bv', h4⟩
  have hF9 := St.thenF hE h4
  clear h4 hE
  refine hK.out _ _ ?_ (fun hHeld => ?_)
  · exact ⟨ldOMx hF9 kc0.out (by rw [HF.out]; exact nc0.out), ldOMx hF9 kc1.out (by rw [HF.out]; exact nc1.out), ldOMx hF9 kc2.out (by rw [HF.out]; exact nc2.out)⟩
  clear hK K
  (try simp only [Act.put, List.setIfInBounds_toArray, List.set_cons_zero, List.set_cons_succ])
  refine wpAnyH_done (by kernel_rfl) ?_ _
  clear hHeld
  go_end0
  exact ⟨rfl, bv', hF9⟩
theorem num1_put {w0 : World} {gn gz : Nat} {A : Addr} {n size : Int} (c0 : w0.cell? ⟨gn, 0, none⟩ = some (.pointer (some A))) (c1 : w0.cell? ⟨gz, 0, none⟩ = some (.int .i64 size)) (c2 : w0.cell? A = some (.int .i64 n))
    (hs : -9223372036854775808 ≤ size ∧ size ≤ 9223372036854775807) (hn : -9223372036854775808 ≤ n ∧ n ≤ 9223372036854775807) : PutOk w0 72 [ptrV gn, ptrV gz] (fun s => putW s (numR n size)) :=
  fun g bv s w hold hB => num1_at g bv s w hold.selfF hB (hold.old_cell c0 (by simp)) (hold.old_cell c1 (by simp)) (hold.old_cell c2 (by simp)) (hold.offOld c0) (hold.offOld c1) (hold.offOld c2) hs hn
end
section
theorem text1_at (g : Nat) (bv : Value) (s : WR) (w : World) (hst : St w (wF g bv s) w (wP g bv s)) (hB : s.2.length ≤ 65536) {gn : Nat} {A : Addr} {t : List UInt8} (ac0 : w.cell? ⟨gn, 0, none⟩ = some (.pointer (some A))) (ac1 : w.cell? A = some (strV t)) (bc0 : gn ∉ wF g bv s) (bc1 : A.block ∉ wF g bv s) (ht : t.length ≤ 1000000) :
    Calls Try.prog 76 #[.pointer (some ⟨g, 0, none⟩), .pointer (some ⟨gn, 0, none⟩)] w (wrote g w (wF g bv s) (putW s (textR t 48))) := by
  have kc0 := hid ac0
  have nc0 := hid bc0
  have kc1 := hid ac1
  have nc1 := hid bc1
  have HB := hid hB
  obtain ⟨F, hF⟩ : ∃ F, F = wF g bv s := ⟨_, rfl⟩
  have HF := hid hF
  obtain ⟨W0, hW⟩ : ∃ W0, W0 = wP g bv s := ⟨_, rfl⟩
  have HW := hid hW
  rw [← hW] at hst
  rw [← hF] at hst ⊢
  clear hB hF hW
  go_enter Try.func76, Try.ntmps76
  go_wp2_with (first | go_big_skip | go_big_guard | (refine wl_loadE rfl rfl rfl ?_; first | refine ⟨_, Loads.oldM hst kc0.out (by rw [HF.out]; exact nc0.out), ?_⟩ | refine ⟨_, Loads.oldM hst kc1.out (by rw [HF.out]; exact nc1.out), ?_⟩) | (go_at_call 77; have hE := hst; rw [HW.out] at hE; refine (wtext_any g bv s t 48 _ hE.selfF HB.out (by decide) (by omega)).mono ?_; rintro _ w9 ⟨rfl, bv', h4⟩; have hF9 := St.thenF hE h4; clear h4 hE))
  go_end0
  exact ⟨rfl, bv', hF9⟩
theorem text1_put {w0 : World} {gn : Nat} {A : Addr} {t : List UInt8} (c0 : w0.cell? ⟨gn, 0, none⟩ = some (.pointer (some A))) (c1 : w0.cell? A = some (strV t)) (ht : t.length ≤ 1000000) : PutOk w0 76 [ptrV gn] (fun s => putW s (textR t 48)) :=
  fun g bv s w hold hB => text1_at g bv s w hold.selfF hB (hold.old_cell c0 (by simp)) (hold.old_cell c1 (by simp)) (hold.offOld c0) (hold.offOld c1) ht
theorem raw1_put {w0 : World} {gn : Nat} {A : Addr} {ao : Option Addr} {m c : Nat} {b : List UInt8} (c0 : w0.cell? ⟨gn, 0, none⟩ = some (.pointer (some A))) (c1 : w0.cell? A = some (.slice ao m c)) (hr : Rd w0 (.slice ao m c) 1 m (bytesV b)) (hm : b.length = m) (hb : m ≤ 100000) :
    PutOk w0 82 [ptrV gn] (fun s => putW (putW s (numR m 3)) (0, b)) := by
  intro g bv s w hold hB
  have hst : St w (wF g bv s) w (wP g bv s) := hold.selfF
  have kc0 := hid (hold.old_cell c0 (by simp))
  have nc0 := hid (hold.offOld c0)
  have kc1 := hid (hold.old_cell c1 (by simp))
  have nc1 := hid (hold.offOld c1)
  have ho := hid (show Off (.slice ao m c) (wF g bv s) from Off.later hold hr (by decide))
  have hr2 := hid (Rd.old hold hr)
  have HB := hid hB
  obtain ⟨F, hF⟩ : ∃ F, F = wF g bv s := ⟨_, rfl⟩
  have HF := hid hF
  obtain ⟨W0, hW⟩ : ∃ W0, W0 = wP g bv s := ⟨_, rfl⟩
  have HW := hid hW
  rw [← hW] at hst
  rw [← hF] at hst ⊢
  clear hB hF hW
  clear hold
  have HM := hid hm
  have hmi : -9223372036854775808 ≤ (m : Int) ∧ (m : Int) ≤ 9223372036854775807 := by omega
  clear hm
  show Calls Try.prog 82 #[.pointer (some ⟨g, 0, none⟩), .pointer (some ⟨gn, 0, none⟩)] w _
  go_enter Try.func82, Try.ntmps82
  go_wp2_with (first | go_big_skip | go_big_guard | (refine wl_loadE rfl rfl rfl ?_; first | refine ⟨_, Loads.oldM hst kc0.out (by rw [HF.out]; exact nc0.out), ?_⟩ | refine ⟨_, Loads.oldM hst kc1.out (by rw [HF.out]; exact nc1.out), ?_⟩ | refine ⟨_, Loads.oldM hF9 kc0.out (by rw [HF.out]; exact nc0.out), ?_⟩ | refine ⟨_, Loads.oldM hF9 kc1.out (by rw [HF.out]; exact nc1.out), ?_⟩) | (go_at_call 73; have hE := hst; rw [HW.out] at hE; refine (wnum_any g bv s m 3 _ hE.selfF HB.out (by decide) hmi).mono ?_; rintro _ w9 ⟨rfl, bv', h4⟩; have hF9 := St.thenF hE h4; clear h4 hE hst; have HB2 := hid (putW_len (r := numR m 3) HB.out); have ho2 := hid (show Off (.slice ao m c) (wF g bv' (putW s (numR m 3))) from Off.next hF9 (by rw [HF.out]; exact ho.out) hr2.out (by decide)); have hr3 := hid (Rd.oldM hF9 hr2.out (by rw [HF.out]; exact ho.out))) | (go_at_call 83; refine (wraw_any g bv' (putW s (numR m 3)) ao m c b _ hF9.selfF HB2.out hr3.out ho2.out (by rw [HM.out]; exact hb)).mono ?_; rintro _ w10 ⟨rfl, bv2, h4⟩; have hG9 := St.thenF hF9 h4; clear h4 hF9))
  go_end0
  exact ⟨rfl, bv2, hG9⟩
end
end Go.Proofs.Ytalfdcfcaamnbaa
