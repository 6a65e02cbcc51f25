/- PROVED: the law ArrayScript returns true at any input, and nothing that was there has turned. No condition. -/
import Derived.Test.YtclleohpmgihaaaGreatJArrayScriptb
import Derived.Test.YtclleohpmgihaaaGreatPost
namespace Go.Proofs.YtclleohpmgihaaaGreat
set_option linter.unusedVariables false
set_option linter.unusedSimpArgs false
open Go.RowKit Hp
attribute [local irreducible] Go.Calls Go.wpList
set_option maxRecDepth 100000
set_option maxHeartbeats 8000000
/-- The array among other pieces, ahead and behind. -/
theorem mid_in {w0 w : World} {M : List Nat} {P Bs R : List HA} {ga : Nat} {x : GA} {a : AR} (h : St w0 M w (P ++ (Bs ++ (arP ga x a ++ R)))) : St w (arF ga x a) w (arP ga x a) :=
  (St.sub h (((List.sublist_append_left _ _).trans (List.sublist_append_right _ _)).trans (List.sublist_append_right _ _))).selfF
theorem mid_outp {w0 w w' : World} {M : List Nat} {P Bs R Q : List HA} {ga : Nat} {x x' : GA} {a a' : AR} (h : St w0 M w (P ++ (Bs ++ (arP ga x a ++ R)))) (h4 : St w (arF ga x a) w' (Q ++ arP ga x' a')) : St w0 M w' (Q ++ (P ++ (Bs ++ (arP ga x' a' ++ R)))) := by
  have h1 : St w0 M w (arP ga x a ++ (P ++ (Bs ++ R))) := by
    refine St.perm h ?_
    rw [← List.append_assoc P Bs, ← List.append_assoc P Bs]
    exact List.perm_append_comm_assoc (P ++ Bs) (arP ga x a) R
  have h2 := St.callF (arP ga x a) h1 h4
  refine St.perm h2 ?_
  rw [List.append_assoc]
  refine List.Perm.append_left Q ?_
  rw [← List.append_assoc P Bs, ← List.append_assoc P Bs]
  exact List.perm_append_comm_assoc (arP ga x' a') (P ++ Bs) R
theorem mid_out {w0 w w' : World} {M : List Nat} {P Bs R : List HA} {ga : Nat} {x x' : GA} {a a' : AR} (h : St w0 M w (P ++ (Bs ++ (arP ga x a ++ R)))) (h4 : St w (arF ga x a) w' (arP ga x' a')) : St w0 M w' (P ++ (Bs ++ (arP ga x' a' ++ R))) := mid_outp (Q := []) h h4
/-- Both arrays, one call on. -/
structure Next (a a' : AR) : Prop where
  ok : a'.Ok
  st : Stays a a'
theorem Next.refl {a : AR} (ok : a.Ok) : Next a a := ⟨ok, Stays.refl a⟩
theorem fLose_len (d : DV) : (fLose d).firm.length = d.firm.length := rfl
section
theorem loadedI16 (A : Addr) : loadVar 3 A = loadVarH 3 A := rfl
attribute [local go_sem ↓] loadedI16
theorem off_g5 {w0 w : World} {M : List Nat} {P R : List HA} {b : HA} (h : St w0 M w (P ++ (b :: R))) : St w0 M w (P ++ R) := St.sub h (List.Sublist.append_left (List.sublist_cons_self _ _) _)
theorem bef_6 {w : World} {w1 : World} {R : List HA} {gr ga : Nat} {a : AR} {x : GA} {q : RX} (y : AC) (hS : St w [] w1 (rxP gr q ++ (arP ga x a ++ R))) (ro : RefOk a q) (ok : a.Ok) (hll : a.loose.length < 1000000) (hst0 : 0 ≤ a.steps ∧ a.steps < 4611686018427387904) (h0 : 0 < a.secs) (hy : y.Ok w) (hk : y.k = 6) : Calls Tryz.prog 35 #[.pointer (some ⟨ga, 0, none⟩), .pointer (some ⟨gr, 0, none⟩), .agg (List.toArray y.cells)] w1 fun e w' => ∃ b, e = .returned (.bool true) ∧ ∃ (x' : GA) (a' : AR) (q' : RX), b = a' ∧ Next a a' ∧ RefOk a' q' ∧ St w [] w' (rxP gr q' ++ (arP ga x' a' ++ R)) := by
  have hst := hS
  have RO := hid ro
  have OK := hid ok
  have HLL := hid hll
  have H0 := hid h0
  have HY := hid hy
  have e6 : (y.k == 6) = true := by rw [hk]; rfl
  have HNX : Hid (Next a (a.lose y.dev)) := hid ⟨ok.lose _, Stays.fell _ _ _ fun _ => rfl⟩
  obtain ⟨E, hE⟩ : ∃ E, E = a.loseE y.dev := ⟨_, rfl⟩
  have HE := hid hE
  have eE : (E == E) = true := beq_self_eq_true E
  clear hS ro ok hll h0 hy hk hE hst0
  go_enter Tryz.func35, Tryz.ntmps35
  go_wp2_with (first | go_big_skip | go_big_guard | (refine wl_boxA hst rfl rfl rfl ?_; intro g5 w2 hst1; clear hst; have hst2 : St w [] w2 (rxP gr q ++ (.blk g5 36 y.cells :: (arP ga x a ++ R))) := St.perm hst1 List.perm_middle.symm; clear hst1) | (refine wl_loadE rfl rfl rfl ?_; refine ⟨_, Loads.at (P := Tryz.prog) _ hst2 rfl, ?_⟩))
  have hX := hst2.drew
  clear hst2
  refine wp_region_held_drew (S := (fun w' => (loadVarH 3 ⟨g5, 1, none⟩).run Tryz.prog w' = .ok (.int .i64 y.dev) w')) (by kernel_rfl) (by exact Loads.at (P := Tryz.prog) _ hX rfl) (fun hHeld => ?_)
  refine wpAnyH_take (i := 0) (oi := ⟨some 11, _, _, _, _, _⟩) (v := ?_) rfl (by kernel_rfl) (by kernel_rfl) (by kernel_rfl) (fun _ _ _ h => h) (Or.inl ⟨by rfl, ?_⟩) (by assumption) ?_
  rotate_left
  · intro w hSw; (try dsimp only at hSw); go_simp; try with_reducible rfl
  (try simp only [Act.put, List.setIfInBounds_toArray, List.set_cons_zero, List.set_cons_succ])
  refine wpAnyH_take (i := 1) (oi := ⟨some 12, _, _, _, _, _⟩) (v := ?_) rfl (by kernel_rfl) (by kernel_rfl) (by kernel_rfl) (fun _ _ _ h => h) (Or.inl ⟨by rfl, ?_⟩) (by assumption) ?_
  rotate_left
  · intro w hSw; (try dsimp only at hSw); go_simp; try with_reducible rfl
  (try simp only [Act.put, List.setIfInBounds_toArray, List.set_cons_zero, List.set_cons_succ])
  refine wpAnyH_take (i := 4) (oi := ⟨some 15, _, _, _, _, _⟩) (v := ?_) rfl (by kernel_rfl) (by kernel_rfl) (by kernel_rfl) (fun _ _ _ h => h) (Or.inl ⟨by rfl, ?_⟩) (by assumption) ?_
  rotate_left
  · intro w hSw; (try dsimp only at hSw); go_simp; try with_reducible rfl
  (try simp only [Act.put, List.setIfInBounds_toArray, List.set_cons_zero, List.set_cons_succ])
  refine wpAnyH_take (i := 5) (oi := ⟨some 16, _, _, _, _, _⟩) (v := ?_) rfl (by kernel_rfl) (by kernel_rfl) (by kernel_rfl) (fun _ _ _ h => h) (Or.inl ⟨by rfl, ?_⟩) (by assumption) ?_
  rotate_left
  · intro w hSw; (try dsimp only at hSw); go_simp; try with_reducible rfl
  (try simp only [Act.put, List.setIfInBounds_toArray, List.set_cons_zero, List.set_cons_succ])
  refine wpAnyH_take (i := 2) (oi := ⟨some 13, _, _, _, _, _⟩) (v := ?_) rfl (by kernel_rfl) (by kernel_rfl) (by kernel_rfl) (fun _ _ _ h => h) (Or.inl ⟨by rfl, ?_⟩) (by assumption) ?_
  rotate_left
  · intro w hSw; (try dsimp only at hSw); go_simp; try with_reducible rfl
  (try simp only [Act.put, List.setIfInBounds_toArray, List.set_cons_zero, List.set_cons_succ])
  refine wpAnyH_take (i := 6) (oi := ⟨some 17, _, _, _, _, _⟩) (v := ?_) rfl (by kernel_rfl) (by kernel_rfl) (by kernel_rfl) (fun _ _ _ h => h) (Or.inl ⟨by rfl, ?_⟩) (by assumption) ?_
  rotate_left
  · intro w hSw; (try dsimp only at hSw); go_simp; try with_reducible rfl
  (try simp only [Act.put, List.setIfInBounds_toArray, List.set_cons_zero, List.set_cons_succ])
  refine wpAnyH_ready (rs := [3]) (by kernel_rfl) (by simp) ?_
  refine (AllReadyH.cons (o := ⟨some 14, _, _, _, _, _⟩) rfl (fun K hK => ?_) AllReadyH.nil)
  rw [if_pos (by rfl)]
  go_simp
  go_at_call 17
  refine (loseM_any (mid_in (Bs := [_]) hX) OK.out y.dev).mono ?_
  rw [← HE.out]
  rintro _ w4 ⟨rfl, h4⟩
  have hA1 : St w [] w4 (rxP gr q ++ (.blk g5 36 y.cells :: (arP ga x (a.lose y.dev) ++ R))) := mid_out (Bs := [_]) hX h4
  clear h4
  refine hK.out _ _ ?_ (fun hHeld => ?_)
  · exact Loads.at (P := Tryz.prog) _ hA1 rfl
  clear hK K
  (try simp only [Act.put, List.setIfInBounds_toArray, List.set_cons_zero, List.set_cons_succ])
  refine wpAnyH_ready (rs := [7]) (by kernel_rfl) (by simp) ?_
  refine (AllReadyH.cons (o := ⟨some 18, _, _, _, _, _⟩) rfl (fun K hK => ?_) AllReadyH.nil)
  rw [if_pos (by rfl)]
  go_simp
  go_at_call 72
  refine (lose_r (R := (.blk g5 36 y.cells :: (arP ga x (a.lose y.dev) ++ R))) hA1 RO.out y.dev).mono ?_
  rw [← HE.out]
  rintro _ w5 ⟨rfl, q2, hq, h4⟩
  have hA2 : St w [] w5 (rxP gr q2 ++ (.blk g5 36 y.cells :: (arP ga x (a.lose y.dev) ++ R))) := h4
  have HQ := hid hq
  clear h4 hq
  refine hK.out _ _ ?_ (fun hHeld => ?_)
  · exact Loads.at (P := Tryz.prog) _ hA2 rfl
  clear hK K
  (try simp only [Act.put, List.setIfInBounds_toArray, List.set_cons_zero, List.set_cons_succ])
  refine wpAnyH_take (i := 8) (oi := ⟨some 19, _, _, _, _, _⟩) (v := ?_) rfl (by kernel_rfl) (by kernel_rfl) (by kernel_rfl) (fun _ _ _ h => h) (Or.inl ⟨by rfl, ?_⟩) (by assumption) ?_
  rotate_left
  · intro w hSw; (try dsimp only at hSw); go_simp; try with_reducible rfl
  (try simp only [Act.put, List.setIfInBounds_toArray, List.set_cons_zero, List.set_cons_succ])
  refine wpAnyH_take (i := 9) (oi := ⟨some 6, _, _, _, _, _⟩) (v := ?_) rfl (by kernel_rfl) (by kernel_rfl) (by kernel_rfl) (fun _ _ _ h => h) (Or.inl ⟨by rfl, ?_⟩) (by assumption) ?_
  rotate_left
  · intro w hSw; (try dsimp only at hSw); go_simp; try with_reducible rfl
  (try simp only [Act.put, List.setIfInBounds_toArray, List.set_cons_zero, List.set_cons_succ])
  refine wpAnyH_done (by kernel_rfl) ?_ _
  clear hHeld
  go_wp2_with (first | go_big_skip | go_big_guard | fail)
  go_ret
  exact ⟨(a.lose y.dev), rfl, x, (a.lose y.dev), q2, rfl, HNX.out, HQ.out, off_g5 hA2⟩
theorem bef_7 {w : World} {w1 : World} {R : List HA} {gr ga : Nat} {a : AR} {x : GA} {q : RX} (y : AC) (hS : St w [] w1 (rxP gr q ++ (arP ga x a ++ R))) (ro : RefOk a q) (ok : a.Ok) (hll : a.loose.length < 1000000) (hst0 : 0 ≤ a.steps ∧ a.steps < 4611686018427387904) (h0 : 0 < a.secs) (hy : y.Ok w) (hk : y.k = 7) : Calls Tryz.prog 35 #[.pointer (some ⟨ga, 0, none⟩), .pointer (some ⟨gr, 0, none⟩), .agg (List.toArray y.cells)] w1 fun e w' => ∃ b, e = .returned (.bool true) ∧ ∃ (x' : GA) (a' : AR) (q' : RX), b = a' ∧ Next a a' ∧ RefOk a' q' ∧ St w [] w' (rxP gr q' ++ (arP ga x' a' ++ R)) := by
  have hst := hS
  have RO := hid ro
  have OK := hid ok
  have HLL := hid hll
  have H0 := hid h0
  have HY := hid hy
  have e6 : (y.k == 6) = false := by rw [hk]; rfl
  have e7 : (y.k == 7) = true := by rw [hk]; rfl
  have HNX : Hid (Next a (a.stray y.dev y.pl)) := hid ⟨ok.stray _ _, Stays.fell _ _ _ fun _ => rfl⟩
  obtain ⟨E, hE⟩ : ∃ E, E = a.strayE y.dev y.pl := ⟨_, rfl⟩
  have HE := hid hE
  have eE : (E == E) = true := beq_self_eq_true E
  clear hS ro ok hll h0 hy hk hE hst0
  go_enter Tryz.func35, Tryz.ntmps35
  go_wp2_with (first | go_big_skip | go_big_guard | (refine wl_boxA hst rfl rfl rfl ?_; intro g5 w2 hst1; clear hst; have hst2 : St w [] w2 (rxP gr q ++ (.blk g5 36 y.cells :: (arP ga x a ++ R))) := St.perm hst1 List.perm_middle.symm; clear hst1) | (refine wl_loadE rfl rfl rfl ?_; refine ⟨_, Loads.at (P := Tryz.prog) _ hst2 rfl, ?_⟩))
  have hX := hst2.drew
  clear hst2
  refine wp_region_held_drew (S := (fun w' => (loadVarH 3 ⟨g5, 1, none⟩).run Tryz.prog w' = .ok (.int .i64 y.dev) w' ∧ (loadVarH 3 ⟨g5, 2, none⟩).run Tryz.prog w' = .ok (.int .i64 y.pl) w')) (by kernel_rfl) (by exact ⟨Loads.at (P := Tryz.prog) _ hX rfl, Loads.at (P := Tryz.prog) _ hX rfl⟩) (fun hHeld => ?_)
  refine wpAnyH_take (i := 0) (oi := ⟨some 22, _, _, _, _, _⟩) (v := ?_) rfl (by kernel_rfl) (by kernel_rfl) (by kernel_rfl) (fun _ _ _ h => h) (Or.inl ⟨by rfl, ?_⟩) (by assumption) ?_
  rotate_left
  · intro w hSw; (try dsimp only at hSw); go_simp; try with_reducible rfl
  (try simp only [Act.put, List.setIfInBounds_toArray, List.set_cons_zero, List.set_cons_succ])
  refine wpAnyH_take (i := 1) (oi := ⟨some 23, _, _, _, _, _⟩) (v := ?_) rfl (by kernel_rfl) (by kernel_rfl) (by kernel_rfl) (fun _ _ _ h => h) (Or.inl ⟨by rfl, ?_⟩) (by assumption) ?_
  rotate_left
  · intro w hSw; (try dsimp only at hSw); go_simp; try with_reducible rfl
  (try simp only [Act.put, List.setIfInBounds_toArray, List.set_cons_zero, List.set_cons_succ])
  refine wpAnyH_take (i := 3) (oi := ⟨some 25, _, _, _, _, _⟩) (v := ?_) rfl (by kernel_rfl) (by kernel_rfl) (by kernel_rfl) (fun _ _ _ h => h) (Or.inl ⟨by rfl, ?_⟩) (by assumption) ?_
  rotate_left
  · intro w hSw; (try dsimp only at hSw); go_simp; try with_reducible rfl
  (try simp only [Act.put, List.setIfInBounds_toArray, List.set_cons_zero, List.set_cons_succ])
  refine wpAnyH_take (i := 6) (oi := ⟨some 28, _, _, _, _, _⟩) (v := ?_) rfl (by kernel_rfl) (by kernel_rfl) (by kernel_rfl) (fun _ _ _ h => h) (Or.inl ⟨by rfl, ?_⟩) (by assumption) ?_
  rotate_left
  · intro w hSw; (try dsimp only at hSw); go_simp; try with_reducible rfl
  (try simp only [Act.put, List.setIfInBounds_toArray, List.set_cons_zero, List.set_cons_succ])
  refine wpAnyH_take (i := 7) (oi := ⟨some 29, _, _, _, _, _⟩) (v := ?_) rfl (by kernel_rfl) (by kernel_rfl) (by kernel_rfl) (fun _ _ _ h => h) (Or.inl ⟨by rfl, ?_⟩) (by assumption) ?_
  rotate_left
  · intro w hSw; (try dsimp only at hSw); go_simp; try with_reducible rfl
  (try simp only [Act.put, List.setIfInBounds_toArray, List.set_cons_zero, List.set_cons_succ])
  refine wpAnyH_take (i := 9) (oi := ⟨some 31, _, _, _, _, _⟩) (v := ?_) rfl (by kernel_rfl) (by kernel_rfl) (by kernel_rfl) (fun _ _ _ h => h) (Or.inl ⟨by rfl, ?_⟩) (by assumption) ?_
  rotate_left
  · intro w hSw; (try dsimp only at hSw); go_simp; try with_reducible rfl
  (try simp only [Act.put, List.setIfInBounds_toArray, List.set_cons_zero, List.set_cons_succ])
  refine wpAnyH_take (i := 2) (oi := ⟨some 24, _, _, _, _, _⟩) (v := ?_) rfl (by kernel_rfl) (by kernel_rfl) (by kernel_rfl) (fun _ _ _ h => h) (Or.inl ⟨by rfl, ?_⟩) (by assumption) ?_
  rotate_left
  · intro w hSw; (try dsimp only at hSw); go_simp; try with_reducible rfl
  (try simp only [Act.put, List.setIfInBounds_toArray, List.set_cons_zero, List.set_cons_succ])
  refine wpAnyH_take (i := 4) (oi := ⟨some 26, _, _, _, _, _⟩) (v := ?_) rfl (by kernel_rfl) (by kernel_rfl) (by kernel_rfl) (fun _ _ _ h => h) (Or.inl ⟨by rfl, ?_⟩) (by assumption) ?_
  rotate_left
  · intro w hSw; (try dsimp only at hSw); go_simp; try with_reducible rfl
  (try simp only [Act.put, List.setIfInBounds_toArray, List.set_cons_zero, List.set_cons_succ])
  refine wpAnyH_take (i := 8) (oi := ⟨some 30, _, _, _, _, _⟩) (v := ?_) rfl (by kernel_rfl) (by kernel_rfl) (by kernel_rfl) (fun _ _ _ h => h) (Or.inl ⟨by rfl, ?_⟩) (by assumption) ?_
  rotate_left
  · intro w hSw; (try dsimp only at hSw); go_simp; try with_reducible rfl
  (try simp only [Act.put, List.setIfInBounds_toArray, List.set_cons_zero, List.set_cons_succ])
  refine wpAnyH_take (i := 10) (oi := ⟨some 32, _, _, _, _, _⟩) (v := ?_) rfl (by kernel_rfl) (by kernel_rfl) (by kernel_rfl) (fun _ _ _ h => h) (Or.inl ⟨by rfl, ?_⟩) (by assumption) ?_
  rotate_left
  · intro w hSw; (try dsimp only at hSw); go_simp; try with_reducible rfl
  (try simp only [Act.put, List.setIfInBounds_toArray, List.set_cons_zero, List.set_cons_succ])
  refine wpAnyH_ready (rs := [5]) (by kernel_rfl) (by simp) ?_
  refine (AllReadyH.cons (o := ⟨some 27, _, _, _, _, _⟩) rfl (fun K hK => ?_) AllReadyH.nil)
  rw [if_pos (by rfl)]
  go_simp
  go_at_call 73
  refine (strayM_any (mid_in (Bs := [_]) hX) OK.out y.dev y.pl).mono ?_
  rw [← HE.out]
  rintro _ w4 ⟨rfl, h4⟩
  have hA1 : St w [] w4 (rxP gr q ++ (.blk g5 36 y.cells :: (arP ga x (a.stray y.dev y.pl) ++ R))) := mid_out (Bs := [_]) hX h4
  clear h4
  refine hK.out _ _ ?_ (fun hHeld => ?_)
  · exact ⟨Loads.at (P := Tryz.prog) _ hA1 rfl, Loads.at (P := Tryz.prog) _ hA1 rfl⟩
  clear hK K
  (try simp only [Act.put, List.setIfInBounds_toArray, List.set_cons_zero, List.set_cons_succ])
  refine wpAnyH_ready (rs := [11]) (by kernel_rfl) (by simp) ?_
  refine (AllReadyH.cons (o := ⟨some 33, _, _, _, _, _⟩) rfl (fun K hK => ?_) AllReadyH.nil)
  rw [if_pos (by rfl)]
  go_simp
  go_at_call 74
  refine (stray_r (R := (.blk g5 36 y.cells :: (arP ga x (a.stray y.dev y.pl) ++ R))) hA1 RO.out y.dev y.pl).mono ?_
  rw [← HE.out]
  rintro _ w5 ⟨rfl, q2, hq, h4⟩
  have hA2 : St w [] w5 (rxP gr q2 ++ (.blk g5 36 y.cells :: (arP ga x (a.stray y.dev y.pl) ++ R))) := h4
  have HQ := hid hq
  clear h4 hq
  refine hK.out _ _ ?_ (fun hHeld => ?_)
  · exact ⟨Loads.at (P := Tryz.prog) _ hA2 rfl, Loads.at (P := Tryz.prog) _ hA2 rfl⟩
  clear hK K
  (try simp only [Act.put, List.setIfInBounds_toArray, List.set_cons_zero, List.set_cons_succ])
  refine wpAnyH_take (i := 12) (oi := ⟨some 34, _, _, _, _, _⟩) (v := ?_) rfl (by kernel_rfl) (by kernel_rfl) (by kernel_rfl) (fun _ _ _ h => h) (Or.inl ⟨by rfl, ?_⟩) (by assumption) ?_
  rotate_left
  · intro w hSw; (try dsimp only at hSw); go_simp; try with_reducible rfl
  (try simp only [Act.put, List.setIfInBounds_toArray, List.set_cons_zero, List.set_cons_succ])
  refine wpAnyH_take (i := 13) (oi := ⟨some 6, _, _, _, _, _⟩) (v := ?_) rfl (by kernel_rfl) (by kernel_rfl) (by kernel_rfl) (fun _ _ _ h => h) (Or.inl ⟨by rfl, ?_⟩) (by assumption) ?_
  rotate_left
  · intro w hSw; (try dsimp only at hSw); go_simp; try with_reducible rfl
  (try simp only [Act.put, List.setIfInBounds_toArray, List.set_cons_zero, List.set_cons_succ])
  refine wpAnyH_done (by kernel_rfl) ?_ _
  clear hHeld
  go_wp2_with (first | go_big_skip | go_big_guard | fail)
  go_ret
  exact ⟨(a.stray y.dev y.pl), rfl, x, (a.stray y.dev y.pl), q2, rfl, HNX.out, HQ.out, off_g5 hA2⟩
theorem bef_8 {w : World} {w1 : World} {R : List HA} {gr ga : Nat} {a : AR} {x : GA} {q : RX} (y : AC) (hS : St w [] w1 (rxP gr q ++ (arP ga x a ++ R))) (ro : RefOk a q) (ok : a.Ok) (hll : a.loose.length < 1000000) (hst0 : 0 ≤ a.steps ∧ a.steps < 4611686018427387904) (h0 : 0 < a.secs) (hy : y.Ok w) (hk : y.k = 8) : Calls Tryz.prog 35 #[.pointer (some ⟨ga, 0, none⟩), .pointer (some ⟨gr, 0, none⟩), .agg (List.toArray y.cells)] w1 fun e w' => ∃ b, e = .returned (.bool true) ∧ ∃ (x' : GA) (a' : AR) (q' : RX), b = a' ∧ Next a a' ∧ RefOk a' q' ∧ St w [] w' (rxP gr q' ++ (arP ga x' a' ++ R)) := by
  have hst := hS
  have RO := hid ro
  have OK := hid ok
  have HLL := hid hll
  have H0 := hid h0
  have HY := hid hy
  have e6 : (y.k == 6) = false := by rw [hk]; rfl
  have e7 : (y.k == 7) = false := by rw [hk]; rfl
  have e8 : (y.k == 8) = true := by rw [hk]; rfl
  have HNX : Hid (Next a (a.fails y.dev y.n)) := hid ⟨ok.fails _ _ hy.n.2, Stays.fell _ _ _ fun _ => rfl⟩
  obtain ⟨E, hE⟩ : ∃ E, E = a.failsE y.dev y.n := ⟨_, rfl⟩
  have HE := hid hE
  have eE : (E == E) = true := beq_self_eq_true E
  clear hS ro ok hll h0 hy hk hE hst0
  go_enter Tryz.func35, Tryz.ntmps35
  go_wp2_with (first | go_big_skip | go_big_guard | (refine wl_boxA hst rfl rfl rfl ?_; intro g5 w2 hst1; clear hst; have hst2 : St w [] w2 (rxP gr q ++ (.blk g5 36 y.cells :: (arP ga x a ++ R))) := St.perm hst1 List.perm_middle.symm; clear hst1) | (refine wl_loadE rfl rfl rfl ?_; refine ⟨_, Loads.at (P := Tryz.prog) _ hst2 rfl, ?_⟩))
  have hX := hst2.drew
  clear hst2
  refine wp_region_held_drew (S := (fun w' => (loadVarH 3 ⟨g5, 1, none⟩).run Tryz.prog w' = .ok (.int .i64 y.dev) w' ∧ (loadVarH 3 ⟨g5, 3, none⟩).run Tryz.prog w' = .ok (.int .i64 y.n) w')) (by kernel_rfl) (by exact ⟨Loads.at (P := Tryz.prog) _ hX rfl, Loads.at (P := Tryz.prog) _ hX rfl⟩) (fun hHeld => ?_)
  refine wpAnyH_take (i := 0) (oi := ⟨some 37, _, _, _, _, _⟩) (v := ?_) rfl (by kernel_rfl) (by kernel_rfl) (by kernel_rfl) (fun _ _ _ h => h) (Or.inl ⟨by rfl, ?_⟩) (by assumption) ?_
  rotate_left
  · intro w hSw; (try dsimp only at hSw); go_simp; try with_reducible rfl
  (try simp only [Act.put, List.setIfInBounds_toArray, List.set_cons_zero, List.set_cons_succ])
  refine wpAnyH_take (i := 1) (oi := ⟨some 38, _, _, _, _, _⟩) (v := ?_) rfl (by kernel_rfl) (by kernel_rfl) (by kernel_rfl) (fun _ _ _ h => h) (Or.inl ⟨by rfl, ?_⟩) (by assumption) ?_
  rotate_left
  · intro w hSw; (try dsimp only at hSw); go_simp; try with_reducible rfl
  (try simp only [Act.put, List.setIfInBounds_toArray, List.set_cons_zero, List.set_cons_succ])
  refine wpAnyH_take (i := 3) (oi := ⟨some 40, _, _, _, _, _⟩) (v := ?_) rfl (by kernel_rfl) (by kernel_rfl) (by kernel_rfl) (fun _ _ _ h => h) (Or.inl ⟨by rfl, ?_⟩) (by assumption) ?_
  rotate_left
  · intro w hSw; (try dsimp only at hSw); go_simp; try with_reducible rfl
  (try simp only [Act.put, List.setIfInBounds_toArray, List.set_cons_zero, List.set_cons_succ])
  refine wpAnyH_take (i := 6) (oi := ⟨some 43, _, _, _, _, _⟩) (v := ?_) rfl (by kernel_rfl) (by kernel_rfl) (by kernel_rfl) (fun _ _ _ h => h) (Or.inl ⟨by rfl, ?_⟩) (by assumption) ?_
  rotate_left
  · intro w hSw; (try dsimp only at hSw); go_simp; try with_reducible rfl
  (try simp only [Act.put, List.setIfInBounds_toArray, List.set_cons_zero, List.set_cons_succ])
  refine wpAnyH_take (i := 7) (oi := ⟨some 44, _, _, _, _, _⟩) (v := ?_) rfl (by kernel_rfl) (by kernel_rfl) (by kernel_rfl) (fun _ _ _ h => h) (Or.inl ⟨by rfl, ?_⟩) (by assumption) ?_
  rotate_left
  · intro w hSw; (try dsimp only at hSw); go_simp; try with_reducible rfl
  (try simp only [Act.put, List.setIfInBounds_toArray, List.set_cons_zero, List.set_cons_succ])
  refine wpAnyH_take (i := 9) (oi := ⟨some 46, _, _, _, _, _⟩) (v := ?_) rfl (by kernel_rfl) (by kernel_rfl) (by kernel_rfl) (fun _ _ _ h => h) (Or.inl ⟨by rfl, ?_⟩) (by assumption) ?_
  rotate_left
  · intro w hSw; (try dsimp only at hSw); go_simp; try with_reducible rfl
  (try simp only [Act.put, List.setIfInBounds_toArray, List.set_cons_zero, List.set_cons_succ])
  refine wpAnyH_take (i := 2) (oi := ⟨some 39, _, _, _, _, _⟩) (v := ?_) rfl (by kernel_rfl) (by kernel_rfl) (by kernel_rfl) (fun _ _ _ h => h) (Or.inl ⟨by rfl, ?_⟩) (by assumption) ?_
  rotate_left
  · intro w hSw; (try dsimp only at hSw); go_simp; try with_reducible rfl
  (try simp only [Act.put, List.setIfInBounds_toArray, List.set_cons_zero, List.set_cons_succ])
  refine wpAnyH_take (i := 4) (oi := ⟨some 41, _, _, _, _, _⟩) (v := ?_) rfl (by kernel_rfl) (by kernel_rfl) (by kernel_rfl) (fun _ _ _ h => h) (Or.inl ⟨by rfl, ?_⟩) (by assumption) ?_
  rotate_left
  · intro w hSw; (try dsimp only at hSw); go_simp; try with_reducible rfl
  (try simp only [Act.put, List.setIfInBounds_toArray, List.set_cons_zero, List.set_cons_succ])
  refine wpAnyH_take (i := 8) (oi := ⟨some 45, _, _, _, _, _⟩) (v := ?_) rfl (by kernel_rfl) (by kernel_rfl) (by kernel_rfl) (fun _ _ _ h => h) (Or.inl ⟨by rfl, ?_⟩) (by assumption) ?_
  rotate_left
  · intro w hSw; (try dsimp only at hSw); go_simp; try with_reducible rfl
  (try simp only [Act.put, List.setIfInBounds_toArray, List.set_cons_zero, List.set_cons_succ])
  refine wpAnyH_take (i := 10) (oi := ⟨some 47, _, _, _, _, _⟩) (v := ?_) rfl (by kernel_rfl) (by kernel_rfl) (by kernel_rfl) (fun _ _ _ h => h) (Or.inl ⟨by rfl, ?_⟩) (by assumption) ?_
  rotate_left
  · intro w hSw; (try dsimp only at hSw); go_simp; try with_reducible rfl
  (try simp only [Act.put, List.setIfInBounds_toArray, List.set_cons_zero, List.set_cons_succ])
  refine wpAnyH_ready (rs := [5]) (by kernel_rfl) (by simp) ?_
  refine (AllReadyH.cons (o := ⟨some 42, _, _, _, _, _⟩) rfl (fun K hK => ?_) AllReadyH.nil)
  rw [if_pos (by rfl)]
  go_simp
  go_at_call 75
  refine (failsM_any (mid_in (Bs := [_]) hX) OK.out y.dev y.n).mono ?_
  rw [← HE.out]
  rintro _ w4 ⟨rfl, h4⟩
  have hA1 : St w [] w4 (rxP gr q ++ (.blk g5 36 y.cells :: (arP ga x (a.fails y.dev y.n) ++ R))) := mid_out (Bs := [_]) hX h4
  clear h4
  refine hK.out _ _ ?_ (fun hHeld => ?_)
  · exact ⟨Loads.at (P := Tryz.prog) _ hA1 rfl, Loads.at (P := Tryz.prog) _ hA1 rfl⟩
  clear hK K
  (try simp only [Act.put, List.setIfInBounds_toArray, List.set_cons_zero, List.set_cons_succ])
  refine wpAnyH_ready (rs := [11]) (by kernel_rfl) (by simp) ?_
  refine (AllReadyH.cons (o := ⟨some 48, _, _, _, _, _⟩) rfl (fun K hK => ?_) AllReadyH.nil)
  rw [if_pos (by rfl)]
  go_simp
  go_at_call 76
  refine (fails_r (R := (.blk g5 36 y.cells :: (arP ga x (a.fails y.dev y.n) ++ R))) hA1 RO.out y.dev y.n).mono ?_
  rw [← HE.out]
  rintro _ w5 ⟨rfl, q2, hq, h4⟩
  have hA2 : St w [] w5 (rxP gr q2 ++ (.blk g5 36 y.cells :: (arP ga x (a.fails y.dev y.n) ++ R))) := h4
  have HQ := hid hq
  clear h4 hq
  refine hK.out _ _ ?_ (fun hHeld => ?_)
  · exact ⟨Loads.at (P := Tryz.prog) _ hA2 rfl, Loads.at (P := Tryz.prog) _ hA2 rfl⟩
  clear hK K
  (try simp only [Act.put, List.setIfInBounds_toArray, List.set_cons_zero, List.set_cons_succ])
  refine wpAnyH_take (i := 12) (oi := ⟨some 49, _, _, _, _, _⟩) (v := ?_) rfl (by kernel_rfl) (by kernel_rfl) (by kernel_rfl) (fun _ _ _ h => h) (Or.inl ⟨by rfl, ?_⟩) (by assumption) ?_
  rotate_left
  · intro w hSw; (try dsimp only at hSw); go_simp; try with_reducible rfl
  (try simp only [Act.put, List.setIfInBounds_toArray, List.set_cons_zero, List.set_cons_succ])
  refine wpAnyH_take (i := 13) (oi := ⟨some 6, _, _, _, _, _⟩) (v := ?_) rfl (by kernel_rfl) (by kernel_rfl) (by kernel_rfl) (fun _ _ _ h => h) (Or.inl ⟨by rfl, ?_⟩) (by assumption) ?_
  rotate_left
  · intro w hSw; (try dsimp only at hSw); go_simp; try with_reducible rfl
  (try simp only [Act.put, List.setIfInBounds_toArray, List.set_cons_zero, List.set_cons_succ])
  refine wpAnyH_done (by kernel_rfl) ?_ _
  clear hHeld
  go_wp2_with (first | go_big_skip | go_big_guard | fail)
  go_ret
  exact ⟨(a.fails y.dev y.n), rfl, x, (a.fails y.dev y.n), q2, rfl, HNX.out, HQ.out, off_g5 hA2⟩
theorem bef_9 {w : World} {w1 : World} {R : List HA} {gr ga : Nat} {a : AR} {x : GA} {q : RX} (y : AC) (hS : St w [] w1 (rxP gr q ++ (arP ga x a ++ R))) (ro : RefOk a q) (ok : a.Ok) (hll : a.loose.length < 1000000) (hst0 : 0 ≤ a.steps ∧ a.steps < 4611686018427387904) (h0 : 0 < a.secs) (hy : y.Ok w) (hk : y.k = 9) : Calls Tryz.prog 35 #[.pointer (some ⟨ga, 0, none⟩), .pointer (some ⟨gr, 0, none⟩), .agg (List.toArray y.cells)] w1 fun e w' => ∃ b, e = .returned (.bool true) ∧ ∃ (x' : GA) (a' : AR) (q' : RX), b = a' ∧ Next a a' ∧ RefOk a' q' ∧ St w [] w' (rxP gr q' ++ (arP ga x' a' ++ R)) := by
  have hst := hS
  have RO := hid ro
  have OK := hid ok
  have HLL := hid hll
  have H0 := hid h0
  have HY := hid hy
  have e6 : (y.k == 6) = false := by rw [hk]; rfl
  have e7 : (y.k == 7) = false := by rw [hk]; rfl
  have e8 : (y.k == 8) = false := by rw [hk]; rfl
  have e9 : (y.k == 9) = true := by rw [hk]; rfl
  have HNX : Hid (Next a (a.pull y.dev)) := hid ⟨ok.pull _, Stays.pull _ _⟩
  obtain ⟨E, hE⟩ : ∃ E, E = a.pullE y.dev := ⟨_, rfl⟩
  have HE := hid hE
  have eE : (E == E) = true := beq_self_eq_true E
  clear hS ro ok hll h0 hy hk hE hst0
  go_enter Tryz.func35, Tryz.ntmps35
  go_wp2_with (first | go_big_skip | go_big_guard | (refine wl_boxA hst rfl rfl rfl ?_; intro g5 w2 hst1; clear hst; have hst2 : St w [] w2 (rxP gr q ++ (.blk g5 36 y.cells :: (arP ga x a ++ R))) := St.perm hst1 List.perm_middle.symm; clear hst1) | (refine wl_loadE rfl rfl rfl ?_; refine ⟨_, Loads.at (P := Tryz.prog) _ hst2 rfl, ?_⟩))
  have hX := hst2.drew
  clear hst2
  refine wp_region_held_drew (S := (fun w' => (loadVarH 3 ⟨g5, 1, none⟩).run Tryz.prog w' = .ok (.int .i64 y.dev) w')) (by kernel_rfl) (by exact Loads.at (P := Tryz.prog) _ hX rfl) (fun hHeld => ?_)
  refine wpAnyH_take (i := 0) (oi := ⟨some 52, _, _, _, _, _⟩) (v := ?_) rfl (by kernel_rfl) (by kernel_rfl) (by kernel_rfl) (fun _ _ _ h => h) (Or.inl ⟨by rfl, ?_⟩) (by assumption) ?_
  rotate_left
  · intro w hSw; (try dsimp only at hSw); go_simp; try with_reducible rfl
  (try simp only [Act.put, List.setIfInBounds_toArray, List.set_cons_zero, List.set_cons_succ])
  refine wpAnyH_take (i := 1) (oi := ⟨some 53, _, _, _, _, _⟩) (v := ?_) rfl (by kernel_rfl) (by kernel_rfl) (by kernel_rfl) (fun _ _ _ h => h) (Or.inl ⟨by rfl, ?_⟩) (by assumption) ?_
  rotate_left
  · intro w hSw; (try dsimp only at hSw); go_simp; try with_reducible rfl
  (try simp only [Act.put, List.setIfInBounds_toArray, List.set_cons_zero, List.set_cons_succ])
  refine wpAnyH_take (i := 4) (oi := ⟨some 56, _, _, _, _, _⟩) (v := ?_) rfl (by kernel_rfl) (by kernel_rfl) (by kernel_rfl) (fun _ _ _ h => h) (Or.inl ⟨by rfl, ?_⟩) (by assumption) ?_
  rotate_left
  · intro w hSw; (try dsimp only at hSw); go_simp; try with_reducible rfl
  (try simp only [Act.put, List.setIfInBounds_toArray, List.set_cons_zero, List.set_cons_succ])
  refine wpAnyH_take (i := 5) (oi := ⟨some 57, _, _, _, _, _⟩) (v := ?_) rfl (by kernel_rfl) (by kernel_rfl) (by kernel_rfl) (fun _ _ _ h => h) (Or.inl ⟨by rfl, ?_⟩) (by assumption) ?_
  rotate_left
  · intro w hSw; (try dsimp only at hSw); go_simp; try with_reducible rfl
  (try simp only [Act.put, List.setIfInBounds_toArray, List.set_cons_zero, List.set_cons_succ])
  refine wpAnyH_take (i := 2) (oi := ⟨some 54, _, _, _, _, _⟩) (v := ?_) rfl (by kernel_rfl) (by kernel_rfl) (by kernel_rfl) (fun _ _ _ h => h) (Or.inl ⟨by rfl, ?_⟩) (by assumption) ?_
  rotate_left
  · intro w hSw; (try dsimp only at hSw); go_simp; try with_reducible rfl
  (try simp only [Act.put, List.setIfInBounds_toArray, List.set_cons_zero, List.set_cons_succ])
  refine wpAnyH_take (i := 6) (oi := ⟨some 58, _, _, _, _, _⟩) (v := ?_) rfl (by kernel_rfl) (by kernel_rfl) (by kernel_rfl) (fun _ _ _ h => h) (Or.inl ⟨by rfl, ?_⟩) (by assumption) ?_
  rotate_left
  · intro w hSw; (try dsimp only at hSw); go_simp; try with_reducible rfl
  (try simp only [Act.put, List.setIfInBounds_toArray, List.set_cons_zero, List.set_cons_succ])
  refine wpAnyH_ready (rs := [3]) (by kernel_rfl) (by simp) ?_
  refine (AllReadyH.cons (o := ⟨some 55, _, _, _, _, _⟩) rfl (fun K hK => ?_) AllReadyH.nil)
  rw [if_pos (by rfl)]
  go_simp
  go_at_call 77
  refine (pullM_any (mid_in (Bs := [_]) hX) OK.out HLL.out y.dev).mono ?_
  rw [← HE.out]
  rintro _ w4 ⟨rfl, x2, h4⟩
  have hA1 : St w [] w4 (rxP gr q ++ (.blk g5 36 y.cells :: (arP ga x2 (a.pull y.dev) ++ R))) := mid_out (Bs := [_]) hX h4
  clear h4
  refine hK.out _ _ ?_ (fun hHeld => ?_)
  · exact Loads.at (P := Tryz.prog) _ hA1 rfl
  clear hK K
  (try simp only [Act.put, List.setIfInBounds_toArray, List.set_cons_zero, List.set_cons_succ])
  refine wpAnyH_ready (rs := [7]) (by kernel_rfl) (by simp) ?_
  refine (AllReadyH.cons (o := ⟨some 59, _, _, _, _, _⟩) rfl (fun K hK => ?_) AllReadyH.nil)
  rw [if_pos (by rfl)]
  go_simp
  go_at_call 78
  refine (pull_r (R := (.blk g5 36 y.cells :: (arP ga x2 (a.pull y.dev) ++ R))) hA1 RO.out y.dev HLL.out).mono ?_
  rw [← HE.out]
  rintro _ w5 ⟨rfl, q2, hq, h4⟩
  have hA2 : St w [] w5 (rxP gr q2 ++ (.blk g5 36 y.cells :: (arP ga x2 (a.pull y.dev) ++ R))) := h4
  have HQ := hid hq
  clear h4 hq
  refine hK.out _ _ ?_ (fun hHeld => ?_)
  · exact Loads.at (P := Tryz.prog) _ hA2 rfl
  clear hK K
  (try simp only [Act.put, List.setIfInBounds_toArray, List.set_cons_zero, List.set_cons_succ])
  refine wpAnyH_take (i := 8) (oi := ⟨some 60, _, _, _, _, _⟩) (v := ?_) rfl (by kernel_rfl) (by kernel_rfl) (by kernel_rfl) (fun _ _ _ h => h) (Or.inl ⟨by rfl, ?_⟩) (by assumption) ?_
  rotate_left
  · intro w hSw; (try dsimp only at hSw); go_simp; try with_reducible rfl
  (try simp only [Act.put, List.setIfInBounds_toArray, List.set_cons_zero, List.set_cons_succ])
  refine wpAnyH_take (i := 9) (oi := ⟨some 6, _, _, _, _, _⟩) (v := ?_) rfl (by kernel_rfl) (by kernel_rfl) (by kernel_rfl) (fun _ _ _ h => h) (Or.inl ⟨by rfl, ?_⟩) (by assumption) ?_
  rotate_left
  · intro w hSw; (try dsimp only at hSw); go_simp; try with_reducible rfl
  (try simp only [Act.put, List.setIfInBounds_toArray, List.set_cons_zero, List.set_cons_succ])
  refine wpAnyH_done (by kernel_rfl) ?_ _
  clear hHeld
  go_wp2_with (first | go_big_skip | go_big_guard | fail)
  go_ret
  exact ⟨(a.pull y.dev), rfl, x2, (a.pull y.dev), q2, rfl, HNX.out, HQ.out, off_g5 hA2⟩
theorem bef_10 {w : World} {w1 : World} {R : List HA} {gr ga : Nat} {a : AR} {x : GA} {q : RX} (y : AC) (hS : St w [] w1 (rxP gr q ++ (arP ga x a ++ R))) (ro : RefOk a q) (ok : a.Ok) (hll : a.loose.length < 1000000) (hst0 : 0 ≤ a.steps ∧ a.steps < 4611686018427387904) (h0 : 0 < a.secs) (hy : y.Ok w) (hk : y.k = 10) : Calls Tryz.prog 35 #[.pointer (some ⟨ga, 0, none⟩), .pointer (some ⟨gr, 0, none⟩), .agg (List.toArray y.cells)] w1 fun e w' => ∃ b, e = .returned (.bool true) ∧ ∃ (x' : GA) (a' : AR) (q' : RX), b = a' ∧ Next a a' ∧ RefOk a' q' ∧ St w [] w' (rxP gr q' ++ (arP ga x' a' ++ R)) := by
  have hst := hS
  have RO := hid ro
  have OK := hid ok
  have HLL := hid hll
  have H0 := hid h0
  have HY := hid hy
  have e6 : (y.k == 6) = false := by rw [hk]; rfl
  have e7 : (y.k == 7) = false := by rw [hk]; rfl
  have e8 : (y.k == 8) = false := by rw [hk]; rfl
  have e9 : (y.k == 9) = false := by rw [hk]; rfl
  have e10 : (y.k == 10) = true := by rw [hk]; rfl
  have HNX : Hid (∀ g9, Next a (a.fit y.dev g9)) := hid (fun g9 => ⟨ok.fit _ _, Stays.fit ok _ _⟩)
  obtain ⟨E, hE⟩ : ∃ E, E = a.fitE y.dev := ⟨_, rfl⟩
  have HE := hid hE
  have eE : (E == E) = true := beq_self_eq_true E
  clear hS ro ok hll h0 hy hk hE hst0
  go_enter Tryz.func35, Tryz.ntmps35
  go_wp2_with (first | go_big_skip | go_big_guard | (refine wl_boxA hst rfl rfl rfl ?_; intro g5 w2 hst1; clear hst; have hst2 : St w [] w2 (rxP gr q ++ (.blk g5 36 y.cells :: (arP ga x a ++ R))) := St.perm hst1 List.perm_middle.symm; clear hst1) | (refine wl_loadE rfl rfl rfl ?_; refine ⟨_, Loads.at (P := Tryz.prog) _ hst2 rfl, ?_⟩))
  have hX := hst2.drew
  clear hst2
  refine wp_region_held_drew (S := (fun w' => (loadVarH 3 ⟨g5, 1, none⟩).run Tryz.prog w' = .ok (.int .i64 y.dev) w')) (by kernel_rfl) (by exact Loads.at (P := Tryz.prog) _ hX rfl) (fun hHeld => ?_)
  refine wpAnyH_take (i := 0) (oi := ⟨some 63, _, _, _, _, _⟩) (v := ?_) rfl (by kernel_rfl) (by kernel_rfl) (by kernel_rfl) (fun _ _ _ h => h) (Or.inl ⟨by rfl, ?_⟩) (by assumption) ?_
  rotate_left
  · intro w hSw; (try dsimp only at hSw); go_simp; try with_reducible rfl
  (try simp only [Act.put, List.setIfInBounds_toArray, List.set_cons_zero, List.set_cons_succ])
  refine wpAnyH_take (i := 1) (oi := ⟨some 64, _, _, _, _, _⟩) (v := ?_) rfl (by kernel_rfl) (by kernel_rfl) (by kernel_rfl) (fun _ _ _ h => h) (Or.inl ⟨by rfl, ?_⟩) (by assumption) ?_
  rotate_left
  · intro w hSw; (try dsimp only at hSw); go_simp; try with_reducible rfl
  (try simp only [Act.put, List.setIfInBounds_toArray, List.set_cons_zero, List.set_cons_succ])
  refine wpAnyH_take (i := 4) (oi := ⟨some 67, _, _, _, _, _⟩) (v := ?_) rfl (by kernel_rfl) (by kernel_rfl) (by kernel_rfl) (fun _ _ _ h => h) (Or.inl ⟨by rfl, ?_⟩) (by assumption) ?_
  rotate_left
  · intro w hSw; (try dsimp only at hSw); go_simp; try with_reducible rfl
  (try simp only [Act.put, List.setIfInBounds_toArray, List.set_cons_zero, List.set_cons_succ])
  refine wpAnyH_take (i := 5) (oi := ⟨some 68, _, _, _, _, _⟩) (v := ?_) rfl (by kernel_rfl) (by kernel_rfl) (by kernel_rfl) (fun _ _ _ h => h) (Or.inl ⟨by rfl, ?_⟩) (by assumption) ?_
  rotate_left
  · intro w hSw; (try dsimp only at hSw); go_simp; try with_reducible rfl
  (try simp only [Act.put, List.setIfInBounds_toArray, List.set_cons_zero, List.set_cons_succ])
  refine wpAnyH_take (i := 2) (oi := ⟨some 65, _, _, _, _, _⟩) (v := ?_) rfl (by kernel_rfl) (by kernel_rfl) (by kernel_rfl) (fun _ _ _ h => h) (Or.inl ⟨by rfl, ?_⟩) (by assumption) ?_
  rotate_left
  · intro w hSw; (try dsimp only at hSw); go_simp; try with_reducible rfl
  (try simp only [Act.put, List.setIfInBounds_toArray, List.set_cons_zero, List.set_cons_succ])
  refine wpAnyH_take (i := 6) (oi := ⟨some 69, _, _, _, _, _⟩) (v := ?_) rfl (by kernel_rfl) (by kernel_rfl) (by kernel_rfl) (fun _ _ _ h => h) (Or.inl ⟨by rfl, ?_⟩) (by assumption) ?_
  rotate_left
  · intro w hSw; (try dsimp only at hSw); go_simp; try with_reducible rfl
  (try simp only [Act.put, List.setIfInBounds_toArray, List.set_cons_zero, List.set_cons_succ])
  refine wpAnyH_ready (rs := [3]) (by kernel_rfl) (by simp) ?_
  refine (AllReadyH.cons (o := ⟨some 66, _, _, _, _, _⟩) rfl (fun K hK => ?_) AllReadyH.nil)
  rw [if_pos (by rfl)]
  go_simp
  go_at_call 79
  refine (fitM_any (mid_in (Bs := [_]) hX) OK.out HLL.out y.dev).mono ?_
  rw [← HE.out]
  rintro _ w4 ⟨rfl, x2, g9, h4⟩
  have hA1 : St w [] w4 (rxP gr q ++ (.blk g5 36 y.cells :: (arP ga x2 (a.fit y.dev g9) ++ R))) := mid_out (Bs := [_]) hX h4
  clear h4
  refine hK.out _ _ ?_ (fun hHeld => ?_)
  · exact Loads.at (P := Tryz.prog) _ hA1 rfl
  clear hK K
  (try simp only [Act.put, List.setIfInBounds_toArray, List.set_cons_zero, List.set_cons_succ])
  refine wpAnyH_ready (rs := [7]) (by kernel_rfl) (by simp) ?_
  refine (AllReadyH.cons (o := ⟨some 70, _, _, _, _, _⟩) rfl (fun K hK => ?_) AllReadyH.nil)
  rw [if_pos (by rfl)]
  go_simp
  go_at_call 80
  refine (fit_r (R := (.blk g5 36 y.cells :: (arP ga x2 (a.fit y.dev g9) ++ R))) hA1 RO.out y.dev g9 OK.out HLL.out H0.out).mono ?_
  rw [← HE.out]
  rintro _ w5 ⟨rfl, q2, hq, h4⟩
  have hA2 : St w [] w5 (rxP gr q2 ++ (.blk g5 36 y.cells :: (arP ga x2 (a.fit y.dev g9) ++ R))) := h4
  have HQ := hid hq
  clear h4 hq
  refine hK.out _ _ ?_ (fun hHeld => ?_)
  · exact Loads.at (P := Tryz.prog) _ hA2 rfl
  clear hK K
  (try simp only [Act.put, List.setIfInBounds_toArray, List.set_cons_zero, List.set_cons_succ])
  refine wpAnyH_take (i := 8) (oi := ⟨some 71, _, _, _, _, _⟩) (v := ?_) rfl (by kernel_rfl) (by kernel_rfl) (by kernel_rfl) (fun _ _ _ h => h) (Or.inl ⟨by rfl, ?_⟩) (by assumption) ?_
  rotate_left
  · intro w hSw; (try dsimp only at hSw); go_simp; try with_reducible rfl
  (try simp only [Act.put, List.setIfInBounds_toArray, List.set_cons_zero, List.set_cons_succ])
  refine wpAnyH_take (i := 9) (oi := ⟨some 6, _, _, _, _, _⟩) (v := ?_) rfl (by kernel_rfl) (by kernel_rfl) (by kernel_rfl) (fun _ _ _ h => h) (Or.inl ⟨by rfl, ?_⟩) (by assumption) ?_
  rotate_left
  · intro w hSw; (try dsimp only at hSw); go_simp; try with_reducible rfl
  (try simp only [Act.put, List.setIfInBounds_toArray, List.set_cons_zero, List.set_cons_succ])
  refine wpAnyH_done (by kernel_rfl) ?_ _
  clear hHeld
  go_wp2_with (first | go_big_skip | go_big_guard | fail)
  go_ret
  exact ⟨(a.fit y.dev g9), rfl, x2, (a.fit y.dev g9), q2, rfl, HNX.out g9, HQ.out, off_g5 hA2⟩
theorem bef_none {w : World} {w1 : World} {R : List HA} {gr ga : Nat} {a : AR} {x : GA} {q : RX} (y : AC) (hS : St w [] w1 (rxP gr q ++ (arP ga x a ++ R))) (ro : RefOk a q) (ok : a.Ok) (hll : a.loose.length < 1000000) (hst0 : 0 ≤ a.steps ∧ a.steps < 4611686018427387904) (h0 : 0 < a.secs) (hy : y.Ok w) (k6 : y.k ≠ 6) (k7 : y.k ≠ 7) (k8 : y.k ≠ 8) (k9 : y.k ≠ 9) (k10 : y.k ≠ 10) : Calls Tryz.prog 35 #[.pointer (some ⟨ga, 0, none⟩), .pointer (some ⟨gr, 0, none⟩), .agg (List.toArray y.cells)] w1 fun e w' => ∃ b, e = .returned (.bool true) ∧ ∃ (x' : GA) (a' : AR) (q' : RX), b = a' ∧ Next a a' ∧ RefOk a' q' ∧ St w [] w' (rxP gr q' ++ (arP ga x' a' ++ R)) := by
  have hst := hS
  have RO := hid ro
  have OK := hid ok
  have HLL := hid hll
  have H0 := hid h0
  have HY := hid hy
  have e6 : (y.k == 6) = false := beq_eq_false_iff_ne.2 k6
  have e7 : (y.k == 7) = false := beq_eq_false_iff_ne.2 k7
  have e8 : (y.k == 8) = false := beq_eq_false_iff_ne.2 k8
  have e9 : (y.k == 9) = false := beq_eq_false_iff_ne.2 k9
  have e10 : (y.k == 10) = false := beq_eq_false_iff_ne.2 k10
  clear hS ro ok hll h0 hy k6 k7 k8 k9 k10 hst0
  go_enter Tryz.func35, Tryz.ntmps35
  go_wp2_with (first | go_big_skip | go_big_guard | (refine wl_boxA hst rfl rfl rfl ?_; intro g5 w2 hst1; clear hst; have hst2 : St w [] w2 (rxP gr q ++ (.blk g5 36 y.cells :: (arP ga x a ++ R))) := St.perm hst1 List.perm_middle.symm; clear hst1) | (refine wl_loadE rfl rfl rfl ?_; refine ⟨_, Loads.at (P := Tryz.prog) _ hst2 rfl, ?_⟩))
  go_ret
  exact ⟨a, rfl, x, a, q, rfl, Next.refl OK.out, RO.out, off_g5 hst2⟩
theorem befalls2 {w : World} {w1 : World} {R : List HA} {gr ga : Nat} {a : AR} {x : GA} {q : RX} (y : AC) (hS : St w [] w1 (rxP gr q ++ (arP ga x a ++ R))) (ro : RefOk a q) (ok : a.Ok) (hll : a.loose.length < 1000000) (hst0 : 0 ≤ a.steps ∧ a.steps < 4611686018427387904) (h0 : 0 < a.secs) (hy : y.Ok w) : Calls Tryz.prog 35 #[.pointer (some ⟨ga, 0, none⟩), .pointer (some ⟨gr, 0, none⟩), .agg (List.toArray y.cells)] w1 fun e w' => ∃ b, e = .returned (.bool true) ∧ ∃ (x' : GA) (a' : AR) (q' : RX), b = a' ∧ Next a a' ∧ RefOk a' q' ∧ St w [] w' (rxP gr q' ++ (arP ga x' a' ++ R)) := by
  by_cases k6 : y.k = 6
  · exact bef_6 y hS ro ok hll hst0 h0 hy k6
  by_cases k7 : y.k = 7
  · exact bef_7 y hS ro ok hll hst0 h0 hy k7
  by_cases k8 : y.k = 8
  · exact bef_8 y hS ro ok hll hst0 h0 hy k8
  by_cases k9 : y.k = 9
  · exact bef_9 y hS ro ok hll hst0 h0 hy k9
  by_cases k10 : y.k = 10
  · exact bef_10 y hS ro ok hll hst0 h0 hy k10
  exact bef_none y hS ro ok hll hst0 h0 hy k6 k7 k8 k9 k10
end
end Go.Proofs.YtclleohpmgihaaaGreat
namespace Go.Proofs.YtclleohpmgihaaaGreat
set_option linter.unusedVariables false
set_option linter.unusedSimpArgs false
open Go.RowKit Hp
attribute [local irreducible] Go.Calls Go.wpList
set_option maxRecDepth 100000
set_option maxHeartbeats 4000000
theorem tells_anyP {w : World} {ga : Nat} {x : GA} {a : AR} (h : ArrAll w ga x a) (ok : a.Ok) (hll : a.loose.length < 1000000) (k p : Nat) (hd : a.inS (k : Int) (p : Int) = true) :
    Calls Tryz.prog 66 #[.pointer (some ⟨ga, 0, none⟩), .int .i64 (k : Int), .int .i64 (p : Int)] w fun e w' => ∃ u, e = .returned u ∧ St w [] w' [.rowP isB u 5 1 256 (bytesV (a.tells (k : Int) (p : Int)))] := by
  have hst0 := St.refl w
  have hin := inS_inD hd
  have hdg := devs_get hin
  have hf := ok.fm _ (List.mem_of_getElem? hdg)
  have hp := inS_pl hd
  have hlt : k < a.devs.length := by have := (inD_dev hin).2; omega
  have hlp : p < (a.dv (k : Int)).firm.length := by rw [hf.1]; omega
  have H0 := hid h.c0
  have H1 := hid h.c1
  have HF := hid (show w.cell? ⟨x.gd, k * 5, none⟩ = some (.slice (some ⟨(a.dv (k : Int)).g, 0, none⟩) (a.dv (k : Int)).firm.length (a.dv (k : Int)).firm.length) from h.dcell hdg (i := 0) rfl (by decide))
  obtain ⟨s0, hs0⟩ : ∃ s0, (a.dv (k : Int)).firm[p]? = some s0 := ⟨_, List.getElem?_eq_getElem hlp⟩
  have hs256 : s0.length = 256 := hf.2.1 _ (List.mem_of_getElem? hs0)
  have HSR := hid (range_flat (sz := 256) (fun d hd => by rw [length_bytesV]; exact hf.2.1 d hd) hs0 (h.frm _ (List.mem_of_getElem? hdg)))
  have hsg : (a.dv (k : Int)).firm.getD p [] = s0 := by rw [List.getD_eq_getElem?_getD, hs0]; rfl
  have HTL := hid (fun j => tells_len ok hd j)
  have HL := hid h.loo
  have HLW := hid ok.lw
  obtain ⟨T, hT⟩ : ∃ T : Nat → List UInt8, T = fun j => (a.loose.take j).foldl (pickW k p) ((a.dv (k : Int)).firm.getD p []) := ⟨_, rfl⟩
  have HT0 : Hid (T 0 = s0) := hid (by rw [hT]; exact hsg)
  have HTS : Hid (∀ j wj, a.loose[j]? = some wj → T (j + 1) = pickW k p (T j) wj) := hid (fun j wj hj => by
    rw [hT]
    show (a.loose.take (j + 1)).foldl _ _ = _
    rw [List.take_add_one, hj, List.foldl_append]
    rfl)
  have HTE : Hid (T a.loose.length = a.tells (k : Int) (p : Int)) := hid (by rw [hT]; show (a.loose.take a.loose.length).foldl _ _ = _; rw [List.take_length]; rfl)
  have HTL2 : Hid (∀ j, (T j).length = 256) := hid (fun j => by rw [hT]; exact HTL.out j)
  obtain ⟨R, hR⟩ : ∃ R, R = a.tells (k : Int) (p : Int) := ⟨_, rfl⟩
  rw [← hR] at HTE
  rw [← hR]
  have HS256 := hid (show (bytesV s0).length = 256 by rw [length_bytesV, hs256])
  have hnl : a.loose.length < 1000000 := hll
  obtain ⟨nl, hnl2⟩ : ∃ nl, nl = a.loose.length := ⟨_, rfl⟩
  have HNL := hid hnl2
  rw [← hnl2] at HTE hnl HL
  clear hd hin hdg hf hp h ok hs0 hs256 hsg HTL hT hR hnl2 hll
  obtain ⟨lao, lc, hlv⟩ : ∃ ao c, x.lv = .slice ao nl c := by
    rcases HL.out.casesF with ⟨e, e2, _⟩ | ⟨A, c, e, _⟩
    · exact ⟨none, 0, by rw [e, e2]⟩
    · exact ⟨some A, c, e⟩
  rw [hlv] at H1 HL
  clear hlv
  go_enter Tryz.func66, Tryz.ntmps66
  go_wp2_with (first | go_big_skip | go_big_guard | (refine wl_loadE rfl rfl rfl ?_; first | refine ⟨_, Loads.old hst0 H0.out, ?_⟩ | refine ⟨_, Loads.old hst0 HF.out, ?_⟩ | refine ⟨_, Loads.oldA (cs := bytesV s0) hst0 HS256.out HSR.out, ?_⟩ | refine ⟨_, Loads.old hst H1.out, ?_⟩) | (refine wl_index (k := k) rfl rfl rfl rfl hlt ?_) | (refine wl_index (k := p) rfl rfl rfl rfl hlp ?_) | (refine wl_alloc hst0 rfl rfl ?_; intro g7 _ hst1; clear hst0) | (refine wl_storeA (vs := bytesV s0) [] hst1 rfl rfl rfl rfl HS256.out (ones_bytesV _) List.length_replicate ?_; intro w2 hst; clear hst1))
  go_loopw [26] (fun i wr => ∃ j : Nat, j ≤ nl ∧ i = .int .i64 (j : Int) ∧ St w [] wr [.blk g7 84 (bytesV (T j))]) (fun i _ => nl - (intOf i).toNat)
  case atStart => exact ⟨0, Nat.zero_le _, rfl, by rw [HT0.out]; exact hst⟩
  case round =>
    clear hst
    obtain ⟨j, hj, rfl, hst⟩ := hrel
    by_cases hlj : j < nl
    · have d1 : decide ((j : Int) < (nl : Int)) = true := decide_eq_true (by omega)
      have z1 : IntKind.i64.wrap ((j : Int) + 1) = (j : Int) + 1 := IntWalk.i64_in _ (by omega)
      obtain ⟨wj, hwj⟩ : ∃ wj, a.loose[j]? = some wj := ⟨_, List.getElem?_eq_getElem (by rw [← HNL.out]; exact hlj)⟩
      have hw := HLW.out wj (List.mem_of_getElem? hwj)
      obtain ⟨lb, lo, rfl, hlr⟩ := Rd.at HL.out hlj
      have HWR := hid (range_flat (sz := 258) (f := LW.cells) (fun d hd => LW.cells_len (HLW.out d hd).2.2) hwj hlr)
      have HW258 := hid (LW.cells_len hw.2.2)
      have HN := hid (HTS.out j wj hwj)
      have HB256 := hid (show (bytesV wj.b).length = 256 by rw [length_bytesV]; exact hw.2.2)
      have HTJ := hid (show (bytesV (T j)).length = 256 by rw [length_bytesV]; exact HTL2.out j)
      clear hwj hw hlr
      by_cases k1 : wj.dev = k
      · by_cases k2 : wj.pl = p
        · have d2 : ((wj.dev : Int) == (k : Int)) = true := by simp [k1]
          have d3 : ((wj.pl : Int) == (p : Int)) = true := by simp [k2]
          have KK := hid (And.intro k1 k2)
          clear k1 k2
          go_wp2_with (first | go_big_skip | go_big_guard | (refine wl_index (k := j) rfl rfl rfl rfl hlj ?_) | (refine wl_loadE rfl rfl rfl ?_; first | refine ⟨_, Loads.oldA (cs := wj.cells) hst HW258.out HWR.out, ?_⟩ | refine ⟨_, Loads.at [] hst3 rfl, ?_⟩ | refine ⟨_, Loads.atA (bytesV wj.b) [] hst3 HB256.out (by show (bytesV wj.b).take _ = _; exact List.take_length), ?_⟩) | (refine wl_alloc (T := 86) hst rfl rfl ?_; intro g9 _ hst2; clear hst) | (refine wl_storeA (T := 86) (vs := wj.cells) [] hst2 rfl rfl rfl rfl HW258.out (ones_LW _) (by rw [List.length_cons, List.length_cons, List.length_replicate]) ?_; intro w4 hst3; clear hst2) | (refine wl_storeA (T := 84) (vs := bytesV wj.b) [_] hst3 rfl rfl rfl rfl HB256.out (ones_bytesV _) HTJ.out ?_; intro w5 hst4; clear hst3))
          go_roundw
          case rel =>
            refine ⟨j + 1, by omega, rfl, ?_⟩
            rw [HN.out]
            unfold pickW
            rw [if_pos KK.out]
            exact St.sub hst4 (.cons _ (List.Sublist.refl _))
          case measure => simp [intOf]; omega
        · have d2 : ((wj.dev : Int) == (k : Int)) = true := by simp [k1]
          have d3 : ((wj.pl : Int) == (p : Int)) = false := by simp; omega
          have KK := hid (fun h : wj.dev = k ∧ wj.pl = p => k2 h.2)
          clear k1 k2
          go_wp2_with (first | go_big_skip | go_big_guard | (refine wl_index (k := j) rfl rfl rfl rfl hlj ?_) | (refine wl_loadE rfl rfl rfl ?_; first | refine ⟨_, Loads.oldA (cs := wj.cells) hst HW258.out HWR.out, ?_⟩ | refine ⟨_, Loads.at [] hst3 rfl, ?_⟩ | refine ⟨_, Loads.atA (bytesV wj.b) [] hst3 HB256.out (by show (bytesV wj.b).take _ = _; exact List.take_length), ?_⟩) | (refine wl_alloc (T := 86) hst rfl rfl ?_; intro g9 _ hst2; clear hst) | (refine wl_storeA (T := 86) (vs := wj.cells) [] hst2 rfl rfl rfl rfl HW258.out (ones_LW _) (by rw [List.length_cons, List.length_cons, List.length_replicate]) ?_; intro w4 hst3; clear hst2) | (refine wl_storeA (T := 84) (vs := bytesV wj.b) [_] hst3 rfl rfl rfl rfl HB256.out (ones_bytesV _) HTJ.out ?_; intro w5 hst4; clear hst3))
          go_roundw
          case rel =>
            refine ⟨j + 1, by omega, rfl, ?_⟩
            rw [HN.out]
            unfold pickW
            rw [if_neg KK.out]
            exact St.sub hst3 (.cons _ (List.Sublist.refl _))
          case measure => simp [intOf]; omega
      · have d2 : ((wj.dev : Int) == (k : Int)) = false := by simp; omega
        have KK := hid (fun h : wj.dev = k ∧ wj.pl = p => k1 h.1)
        clear k1
        go_wp2_with (first | go_big_skip | go_big_guard | (refine wl_index (k := j) rfl rfl rfl rfl hlj ?_) | (refine wl_loadE rfl rfl rfl ?_; first | refine ⟨_, Loads.oldA (cs := wj.cells) hst HW258.out HWR.out, ?_⟩ | refine ⟨_, Loads.at [] hst3 rfl, ?_⟩ | refine ⟨_, Loads.atA (bytesV wj.b) [] hst3 HB256.out (by show (bytesV wj.b).take _ = _; exact List.take_length), ?_⟩) | (refine wl_alloc (T := 86) hst rfl rfl ?_; intro g9 _ hst2; clear hst) | (refine wl_storeA (T := 86) (vs := wj.cells) [] hst2 rfl rfl rfl rfl HW258.out (ones_LW _) (by rw [List.length_cons, List.length_cons, List.length_replicate]) ?_; intro w4 hst3; clear hst2) | (refine wl_storeA (T := 84) (vs := bytesV wj.b) [_] hst3 rfl rfl rfl rfl HB256.out (ones_bytesV _) HTJ.out ?_; intro w5 hst4; clear hst3))
        go_roundw
        case rel =>
          refine ⟨j + 1, by omega, rfl, ?_⟩
          rw [HN.out]
          unfold pickW
          rw [if_neg KK.out]
          exact St.sub hst3 (.cons _ (List.Sublist.refl _))
        case measure => simp [intOf]; omega
    · have d1 : decide ((j : Int) < (nl : Int)) = false := decide_eq_false (by omega)
      have HE := hid (show T j = R by rw [← HTE.out]; congr 1; omega)
      have HJ := hid (show (bytesV (T j)).length = 256 by rw [length_bytesV]; exact HTL2.out j)
      have hst5 := St.nilPQ isB 5 1 hst
      clear hst
      go_wp2_with (first | go_big_skip | go_big_guard | (apply wl_appP (p := isB) (m := 256) (ys := bytesV (T j)) [] hst5; rfl; rfl; exact rfl; exact rfl; infer_instance; infer_instance; infer_instance; infer_instance; exact Rd.blk (n := 256) hst5 (.tail _ (.head _)) (Nat.le_refl _) (by decide) (by rw [HJ.out]) (by rw [List.drop_zero, List.take_length]); exact ones_bytesV _; rfl; exact isB_bytes _; exact ⟨by decide, by decide, by decide⟩; intro v6 w6 hst6 _; clear hst5))
      go_ret
      refine ⟨v6, rfl, ?_⟩
      rw [← HE.out]
      have := St.sub hst6 (.cons_cons _ (List.nil_sublist _))
      rw [List.nil_append] at this
      exact this
section
attribute [local go_sem ↓] loadedPA loadedIn
theorem read_badP {w : World} {ga : Nat} {x : GA} {a : AR} (hS : St w (arF ga x a) w (arP ga x a)) (ok : a.Ok) (hll : a.loose.length < 1000000) (dev pl : Int) (h1 : firstE (readL a dev pl) ≠ 0) :
    Calls Tryz.prog 25 #[.pointer (some ⟨ga, 0, none⟩), .int .i64 dev, .int .i64 pl] w fun e w' => ∃ u, e = .returned (.tuple #[u, .int .i64 (a.readE dev pl)]) ∧ St w (arF ga x a) w' (.rowP isB u 5 1 (a.readB dev pl).length (bytesV (a.readB dev pl)) :: arP ga x (a.read dev pl)) := by
  have hb := read_bad ok.d0 h1
  have hbb : a.readB dev pl = [] := by unfold AR.readB; rw [if_neg (by rw [hb.1]; exact h1)]
  rw [hbb, hb.1, hb.2]
  have HE := hid (firstE_isE (readL_isE a dev pl) h1)
  have H1 := hid h1
  have OK := hid ok
  have hst0 := hS
  have hmf := rmf
  clear hb h1 ok hS hbb
  go_enter Tryz.func25, Tryz.ntmps25
  go_wp2_with (first | go_big_skip | go_big_guard | (refine wl_box hst0 rfl rfl rfl ?_; intro g3 w1 hst1; clear hst0) | (refine wl_box hst1 rfl rfl rfl ?_; intro g4 w2 hst2; clear hst1))
  have hX := hst2.drew
  clear hst2
  refine wp_region_held_drew (S := (fun w' => (loadVarH 3 ⟨g4, 0, none⟩).run Tryz.prog w' = .ok (.int .i64 dev) w' ∧ (loadVarH 25 ⟨g3, 0, none⟩).run Tryz.prog w' = .ok (.pointer (some ⟨ga, 0, none⟩)) w')) (by kernel_rfl) (by exact ⟨ldS [] hX (rfl), ldS [_] hX (rfl)⟩) (fun hHeld => ?_)
  refine wpAnyH_take (i := 0) (oi := ⟨some 9, _, _, _, _, _⟩) (v := ?_) rfl (by kernel_rfl) (by kernel_rfl) (by kernel_rfl) (fun _ _ _ h => h) (Or.inl ⟨by rfl, ?_⟩) (by assumption) ?_
  rotate_left
  · intro w hSw; (try dsimp only at hSw); go_simp; try with_reducible rfl
  (try simp only [Act.put, List.setIfInBounds_toArray, List.set_cons_zero, List.set_cons_succ])
  refine wpAnyH_take (i := 1) (oi := ⟨some 10, _, _, _, _, _⟩) (v := ?_) rfl (by kernel_rfl) (by kernel_rfl) (by kernel_rfl) (fun _ _ _ h => h) (Or.inl ⟨by rfl, ?_⟩) (by assumption) ?_
  rotate_left
  · intro w hSw; (try dsimp only at hSw); go_simp; try with_reducible rfl
  (try simp only [Act.put, List.setIfInBounds_toArray, List.set_cons_zero, List.set_cons_succ])
  refine wpAnyH_take (i := 3) (oi := ⟨some 12, _, _, _, _, _⟩) (v := ?_) rfl (by kernel_rfl) (by kernel_rfl) (by kernel_rfl) (fun _ _ _ h => h) (Or.inl ⟨by rfl, ?_⟩) (by assumption) ?_
  rotate_left
  · intro w hSw; (try dsimp only at hSw); go_simp; try with_reducible rfl
  (try simp only [Act.put, List.setIfInBounds_toArray, List.set_cons_zero, List.set_cons_succ])
  refine wpAnyH_take (i := 5) (oi := ⟨some 14, _, _, _, _, _⟩) (v := ?_) rfl (by kernel_rfl) (by kernel_rfl) (by kernel_rfl) (fun _ _ _ h => h) (Or.inl ⟨by rfl, ?_⟩) (by assumption) ?_
  rotate_left
  · intro w hSw; (try dsimp only at hSw); go_simp; try with_reducible rfl
  (try simp only [Act.put, List.setIfInBounds_toArray, List.set_cons_zero, List.set_cons_succ])
  refine wpAnyH_take (i := 6) (oi := ⟨some 15, _, _, _, _, _⟩) (v := ?_) rfl (by kernel_rfl) (by kernel_rfl) (by kernel_rfl) (fun _ _ _ h => h) (Or.inl ⟨by rfl, ?_⟩) (by assumption) ?_
  rotate_left
  · intro w hSw; (try dsimp only at hSw); go_simp; try with_reducible rfl
  (try simp only [Act.put, List.setIfInBounds_toArray, List.set_cons_zero, List.set_cons_succ])
  refine wpAnyH_take (i := 7) (oi := ⟨some 16, _, _, _, _, _⟩) (v := ?_) rfl (by kernel_rfl) (by kernel_rfl) (by kernel_rfl) (fun _ _ _ h => h) (Or.inl ⟨by rfl, ?_⟩) (by assumption) ?_
  rotate_left
  · intro w hSw; (try dsimp only at hSw); go_simp; try with_reducible rfl
  (try simp only [Act.put, List.setIfInBounds_toArray, List.set_cons_zero, List.set_cons_succ])
  refine wpAnyH_take (i := 9) (oi := ⟨some 18, _, _, _, _, _⟩) (v := ?_) rfl (by kernel_rfl) (by kernel_rfl) (by kernel_rfl) (fun _ _ _ h => h) (Or.inl ⟨by rfl, ?_⟩) (by assumption) ?_
  rotate_left
  · intro w hSw; (try dsimp only at hSw); go_simp; try with_reducible rfl
  (try simp only [Act.put, List.setIfInBounds_toArray, List.set_cons_zero, List.set_cons_succ])
  refine wpAnyH_take (i := 10) (oi := ⟨some 19, _, _, _, _, _⟩) (v := ?_) rfl (by kernel_rfl) (by kernel_rfl) (by kernel_rfl) (fun _ _ _ h => h) (Or.inl ⟨by rfl, ?_⟩) (by assumption) ?_
  rotate_left
  · intro w hSw; (try dsimp only at hSw); go_simp; try with_reducible rfl
  (try simp only [Act.put, List.setIfInBounds_toArray, List.set_cons_zero, List.set_cons_succ])
  refine wpAnyH_take (i := 12) (oi := ⟨some 21, _, _, _, _, _⟩) (v := ?_) rfl (by kernel_rfl) (by kernel_rfl) (by kernel_rfl) (fun _ _ _ h => h) (Or.inl ⟨by rfl, ?_⟩) (by assumption) ?_
  rotate_left
  · intro w hSw; (try dsimp only at hSw); go_simp; try with_reducible rfl
  (try simp only [Act.put, List.setIfInBounds_toArray, List.set_cons_zero, List.set_cons_succ])
  refine wpAnyH_take (i := 2) (oi := ⟨some 11, _, _, _, _, _⟩) (v := ?_) rfl (by kernel_rfl) (by kernel_rfl) (by kernel_rfl) (fun _ _ _ h => h) (Or.inl ⟨by rfl, ?_⟩) (by assumption) ?_
  rotate_left
  · intro w hSw; (try dsimp only at hSw); go_simp; try with_reducible rfl
  (try simp only [Act.put, List.setIfInBounds_toArray, List.set_cons_zero, List.set_cons_succ])
  refine wpAnyH_take (i := 4) (oi := ⟨some 13, _, _, _, _, _⟩) (v := ?_) rfl (by kernel_rfl) (by kernel_rfl) (by kernel_rfl) (fun _ _ _ h => h) (Or.inl ⟨by rfl, ?_⟩) (by assumption) ?_
  rotate_left
  · intro w hSw; (try dsimp only at hSw); go_simp; try with_reducible rfl
  (try simp only [Act.put, List.setIfInBounds_toArray, List.set_cons_zero, List.set_cons_succ])
  refine wpAnyH_ready (rs := [8]) (by kernel_rfl) (by simp) ?_
  refine (AllReadyH.cons (o := ⟨some 17, _, _, _, _, _⟩) rfl (fun K hK => ?_) AllReadyH.nil)
  rw [if_pos (by rfl)]
  go_simp
  go_at_call 47
  refine (isSector_any ga dev pl _).mono ?_
  rintro _ w3 ⟨g0, g1, g2, rfl, h4⟩
  have hA1 := St.call hX h4
  clear h4
  refine hK.out _ _ ?_ (fun hHeld => ?_)
  · exact ⟨ldS [_, _, _] hA1 (rfl), ldS [_, _, _, _] hA1 (rfl)⟩
  clear hK K
  (try simp only [Act.put, List.setIfInBounds_toArray, List.set_cons_zero, List.set_cons_succ])
  refine wpAnyH_ready (rs := [11]) (by kernel_rfl) (by simp) ?_
  refine (AllReadyH.cons (o := ⟨some 20, _, _, _, _, _⟩) rfl (fun K hK => ?_) AllReadyH.nil)
  rw [if_pos (by rfl)]
  go_simp
  go_at_call 48
  refine (isHere_any ga dev _).mono ?_
  rintro _ w4 ⟨k0, k1, rfl, h4⟩
  have hA2 := St.call hA1 h4
  clear h4
  refine hK.out _ _ ?_ (fun hHeld => ?_)
  · exact ⟨ldS [_, _, _, _, _] hA2 (rfl), ldS [_, _, _, _, _, _] hA2 (rfl)⟩
  clear hK K
  (try simp only [Act.put, List.setIfInBounds_toArray, List.set_cons_zero, List.set_cons_succ])
  refine wpAnyH_ready (rs := [13]) (by kernel_rfl) (by simp) ?_
  refine (AllReadyH.cons (o := ⟨some 22, _, _, _, _, _⟩) rfl (fun K hK => ?_) AllReadyH.nil)
  rw [if_pos (by rfl)]
  refine ow_of_wl (ops := #[]) (by rfl) ?_
  apply wl_bsX ([methV 45 (ptrV ga), methV 46 (ptrV ga), cloV 83 [ptrV g0, ptrV g1, ptrV g2], cloV 84 [ptrV k0, ptrV k1], cloV 65 [ptrV g3, ptrV g4]]) ([methV 45 (ptrV ga), methV 46 (ptrV ga), cloV 83 [ptrV g0, ptrV g1, ptrV g2], cloV 84 [ptrV k0, ptrV k1], cloV 65 [ptrV g3, ptrV g4]]) hA2
  rfl
  rfl
  exact rfl
  exact rfl
  infer_instance
  infer_instance
  rfl
  rfl
  rfl
  intro gs w5 hA3
  refine q0_nil ?_
  refine hK.out _ _ ?_ (fun hHeld => ?_)
  · exact ⟨ldS [_, _, _, _, _, _] hA3 (rfl), ldS [_, _, _, _, _, _, _] hA3 (rfl)⟩
  clear hK K
  (try simp only [Act.put, List.setIfInBounds_toArray, List.set_cons_zero, List.set_cons_succ])
  refine wpAnyH_ready (rs := [14]) (by kernel_rfl) (by simp) ?_
  refine (AllReadyH.cons (o := ⟨some 23, _, _, _, _, _⟩) rfl (fun K hK => ?_) AllReadyH.nil)
  rw [if_pos (by rfl)]
  go_simp
  (go_at_call 44; have hC := checks_any dev (v := .slice (some ⟨gs, 0, none⟩) 5 5) (n := 5) (fs := [methV 45 (ptrV ga), methV 46 (ptrV ga), cloV 83 [ptrV g0, ptrV g1, ptrV g2], cloV 84 [ptrV k0, ptrV k1]]) (f9 := cloV 65 [ptrV g3, ptrV g4]) (es := readL a dev pl) (e9 := 0) (A := (fun w' => St w (arF ga x a) w' (([HA.blk gs 74 ([methV 45 (ptrV ga), methV 46 (ptrV ga), cloV 83 [ptrV g0, ptrV g1, ptrV g2], cloV 84 [ptrV k0, ptrV k1], cloV 65 [ptrV g3, ptrV g4]]), .blk k1 3 [.int .i64 dev], .blk k0 25 [.pointer (some ⟨ga, 0, none⟩)], .blk g2 3 [.int .i64 pl], .blk g1 3 [.int .i64 dev], .blk g0 25 [.pointer (some ⟨ga, 0, none⟩)], .blk g4 3 [.int .i64 dev], .blk g3 25 [.pointer (some ⟨ga, 0, none⟩)]] : List HA) ++ arP ga x a))) (B := (fun w' => St w (arF ga x a) w' (([HA.blk gs 74 ([methV 45 (ptrV ga), methV 46 (ptrV ga), cloV 83 [ptrV g0, ptrV g1, ptrV g2], cloV 84 [ptrV k0, ptrV k1], cloV 65 [ptrV g3, ptrV g4]]), .blk k1 3 [.int .i64 dev], .blk k0 25 [.pointer (some ⟨ga, 0, none⟩)], .blk g2 3 [.int .i64 pl], .blk g1 3 [.int .i64 dev], .blk g0 25 [.pointer (some ⟨ga, 0, none⟩)], .blk g4 3 [.int .i64 dev], .blk g3 25 [.pointer (some ⟨ga, 0, none⟩)]] : List HA) ++ arP ga x a))) _ (fun _ h => Rd.blk h (.head _) (Nat.le_refl _) (by decide) rfl rfl) rfl rfl (by decide) (read_probes (fun _ h => ArrAt.of h (fun p hp => List.mem_append_right _ hp) OK.out.d0) keeps_st (fun _ h => St.cell h (off := 0) (.tail _ (.tail _ (.tail _ (.tail _ (.tail _ (.head _)))))) rfl) (fun _ h => St.cell h (off := 0) (.tail _ (.tail _ (.tail _ (.tail _ (.head _))))) rfl) (fun _ h => St.cell h (off := 0) (.tail _ (.tail _ (.tail _ (.head _)))) rfl) (fun _ h => St.cell h (off := 0) (.tail _ (.tail _ (.head _))) rfl) (fun _ h => St.cell h (off := 0) (.tail _ (.head _)) rfl)) (fun hz => absurd (firstE_zero hz) H1.out) hA3; refine hC.mono ?_; rintro _ w5 hh; obtain ⟨rfl, h4⟩ := checks_bad H1.out hh; clear hC hh hA3; have hA4 := h4; clear h4)
  refine hK.out _ _ ?_ (fun hHeld => ?_)
  · exact ⟨ldS [_, _, _, _, _, _] hA4 (rfl), ldS [_, _, _, _, _, _, _] hA4 (rfl)⟩
  clear hK K
  (try simp only [Act.put, List.setIfInBounds_toArray, List.set_cons_zero, List.set_cons_succ])
  refine wpAnyH_take (i := 15) (oi := ⟨some 8, _, _, _, _, _⟩) (v := ?_) rfl (by kernel_rfl) (by kernel_rfl) (by kernel_rfl) (fun _ _ _ h => h) (Or.inl ⟨by rfl, ?_⟩) (by assumption) ?_
  rotate_left
  · intro w hSw; (try dsimp only at hSw); go_simp; try with_reducible rfl
  (try simp only [Act.put, List.setIfInBounds_toArray, List.set_cons_zero, List.set_cons_succ])
  refine wpAnyH_done (by kernel_rfl) ?_ _
  clear hHeld
  obtain ⟨E, hE⟩ : ∃ E, E = firstE (readL a dev pl) := ⟨_, rfl⟩
  have HQ := hid hE
  rw [← hE] at HE H1
  rw [← hE]
  clear hE
  go_wp2_with (first | go_big_skip | go_big_guard | (go_at_call 50; refine (number_isE E dev HE.out H1.out _).mono ?_; rintro _ w6 ⟨rfl, h4⟩; have hst6 := St.call0 hA4 h4; clear h4 hA4))
  go_ret2
  exact ⟨.slice none 0 0, (by rw [HQ.out]; rfl), St.nilPQ isB _ 1 (St.sub hst6 (List.sublist_append_right _ _))⟩
theorem read_failP {w : World} {ga : Nat} {x : GA} {a : AR} (hS : St w (arF ga x a) w (arP ga x a)) (ok : a.Ok) (hll : a.loose.length < 1000000) (k p : Nat) (h1 : firstE (readL a (k : Int) (p : Int)) = 0) (h2 : 0 < (a.dv (k : Int)).fail) :
    Calls Tryz.prog 25 #[.pointer (some ⟨ga, 0, none⟩), .int .i64 (k : Int), .int .i64 (p : Int)] w fun e w' => ∃ u, e = .returned (.tuple #[u, .int .i64 (a.readE (k : Int) (p : Int))]) ∧ St w (arF ga x a) w' (.rowP isB u 5 1 (a.readB (k : Int) (p : Int)).length (bytesV (a.readB (k : Int) (p : Int))) :: arP ga x (a.read (k : Int) (p : Int))) := by
  have hb := read_ok ok.d0 h1
  have hin : a.inD (k : Int) = true := inS_inD hb.1
  have hfm := ok.fm _ (List.mem_of_getElem? (devs_get hin))
  have HPS : Hid (∀ (M : List Nat) (L1 : List HA) (g3 g4 : Nat), HA.blk g3 25 [.pointer (some ⟨ga, 0, none⟩)] ∈ L1 → HA.blk g4 3 [.int .i64 (k : Int)] ∈ L1 →
      Probe (cloV 65 [ptrV g3, ptrV g4]) 13 (fun w' => St w M w' (L1 ++ arP ga x a)) (fun w' => St w M w' (L1 ++ arP ga x (a.failed (k : Int))))) := hid (by
    intro M L1 g3 g4 c0 c1
    have := probe_read (w0 := w) (M := M) (L1 := L1) (ga := ga) (x := x) hin ⟨hfm.2.2.2.1, hfm.2.2.2.2⟩ c0 c1
    unfold AR.failE at this
    rw [if_pos h2] at this
    exact this)
  have hee : a.failE (k : Int) = 13 := by unfold AR.failE; rw [if_pos h2]
  have hbb : a.readB (k : Int) (p : Int) = [] := by unfold AR.readB; rw [hb.2.1, hee]; rfl
  rw [hbb, hb.2.1, hb.2.2, hee]
  have HS := hid hb.1
  have H1 := hid h1
  have OK := hid ok
  have hst0 := hS
  have hmf := rmf
  clear hb hin hfm hee hbb h1 h2 ok hS
  obtain ⟨a9, ha9⟩ : ∃ a9, a9 = a.failed (k : Int) := ⟨_, rfl⟩
  rw [← ha9] at HPS ⊢
  clear ha9
  go_enter Tryz.func25, Tryz.ntmps25
  go_wp2_with (first | go_big_skip | go_big_guard | (refine wl_box hst0 rfl rfl rfl ?_; intro g3 w1 hst1; clear hst0) | (refine wl_box hst1 rfl rfl rfl ?_; intro g4 w2 hst2; clear hst1))
  have hX := hst2.drew
  clear hst2
  refine wp_region_held_drew (S := (fun w' => (loadVarH 3 ⟨g4, 0, none⟩).run Tryz.prog w' = .ok (.int .i64 (k : Int)) w' ∧ (loadVarH 25 ⟨g3, 0, none⟩).run Tryz.prog w' = .ok (.pointer (some ⟨ga, 0, none⟩)) w')) (by kernel_rfl) (by exact ⟨ldS [] hX (rfl), ldS [_] hX (rfl)⟩) (fun hHeld => ?_)
  refine wpAnyH_take (i := 0) (oi := ⟨some 9, _, _, _, _, _⟩) (v := ?_) rfl (by kernel_rfl) (by kernel_rfl) (by kernel_rfl) (fun _ _ _ h => h) (Or.inl ⟨by rfl, ?_⟩) (by assumption) ?_
  rotate_left
  · intro w hSw; (try dsimp only at hSw); go_simp; try with_reducible rfl
  (try simp only [Act.put, List.setIfInBounds_toArray, List.set_cons_zero, List.set_cons_succ])
  refine wpAnyH_take (i := 1) (oi := ⟨some 10, _, _, _, _, _⟩) (v := ?_) rfl (by kernel_rfl) (by kernel_rfl) (by kernel_rfl) (fun _ _ _ h => h) (Or.inl ⟨by rfl, ?_⟩) (by assumption) ?_
  rotate_left
  · intro w hSw; (try dsimp only at hSw); go_simp; try with_reducible rfl
  (try simp only [Act.put, List.setIfInBounds_toArray, List.set_cons_zero, List.set_cons_succ])
  refine wpAnyH_take (i := 3) (oi := ⟨some 12, _, _, _, _, _⟩) (v := ?_) rfl (by kernel_rfl) (by kernel_rfl) (by kernel_rfl) (fun _ _ _ h => h) (Or.inl ⟨by rfl, ?_⟩) (by assumption) ?_
  rotate_left
  · intro w hSw; (try dsimp only at hSw); go_simp; try with_reducible rfl
  (try simp only [Act.put, List.setIfInBounds_toArray, List.set_cons_zero, List.set_cons_succ])
  refine wpAnyH_take (i := 5) (oi := ⟨some 14, _, _, _, _, _⟩) (v := ?_) rfl (by kernel_rfl) (by kernel_rfl) (by kernel_rfl) (fun _ _ _ h => h) (Or.inl ⟨by rfl, ?_⟩) (by assumption) ?_
  rotate_left
  · intro w hSw; (try dsimp only at hSw); go_simp; try with_reducible rfl
  (try simp only [Act.put, List.setIfInBounds_toArray, List.set_cons_zero, List.set_cons_succ])
  refine wpAnyH_take (i := 6) (oi := ⟨some 15, _, _, _, _, _⟩) (v := ?_) rfl (by kernel_rfl) (by kernel_rfl) (by kernel_rfl) (fun _ _ _ h => h) (Or.inl ⟨by rfl, ?_⟩) (by assumption) ?_
  rotate_left
  · intro w hSw; (try dsimp only at hSw); go_simp; try with_reducible rfl
  (try simp only [Act.put, List.setIfInBounds_toArray, List.set_cons_zero, List.set_cons_succ])
  refine wpAnyH_take (i := 7) (oi := ⟨some 16, _, _, _, _, _⟩) (v := ?_) rfl (by kernel_rfl) (by kernel_rfl) (by kernel_rfl) (fun _ _ _ h => h) (Or.inl ⟨by rfl, ?_⟩) (by assumption) ?_
  rotate_left
  · intro w hSw; (try dsimp only at hSw); go_simp; try with_reducible rfl
  (try simp only [Act.put, List.setIfInBounds_toArray, List.set_cons_zero, List.set_cons_succ])
  refine wpAnyH_take (i := 9) (oi := ⟨some 18, _, _, _, _, _⟩) (v := ?_) rfl (by kernel_rfl) (by kernel_rfl) (by kernel_rfl) (fun _ _ _ h => h) (Or.inl ⟨by rfl, ?_⟩) (by assumption) ?_
  rotate_left
  · intro w hSw; (try dsimp only at hSw); go_simp; try with_reducible rfl
  (try simp only [Act.put, List.setIfInBounds_toArray, List.set_cons_zero, List.set_cons_succ])
  refine wpAnyH_take (i := 10) (oi := ⟨some 19, _, _, _, _, _⟩) (v := ?_) rfl (by kernel_rfl) (by kernel_rfl) (by kernel_rfl) (fun _ _ _ h => h) (Or.inl ⟨by rfl, ?_⟩) (by assumption) ?_
  rotate_left
  · intro w hSw; (try dsimp only at hSw); go_simp; try with_reducible rfl
  (try simp only [Act.put, List.setIfInBounds_toArray, List.set_cons_zero, List.set_cons_succ])
  refine wpAnyH_take (i := 12) (oi := ⟨some 21, _, _, _, _, _⟩) (v := ?_) rfl (by kernel_rfl) (by kernel_rfl) (by kernel_rfl) (fun _ _ _ h => h) (Or.inl ⟨by rfl, ?_⟩) (by assumption) ?_
  rotate_left
  · intro w hSw; (try dsimp only at hSw); go_simp; try with_reducible rfl
  (try simp only [Act.put, List.setIfInBounds_toArray, List.set_cons_zero, List.set_cons_succ])
  refine wpAnyH_take (i := 2) (oi := ⟨some 11, _, _, _, _, _⟩) (v := ?_) rfl (by kernel_rfl) (by kernel_rfl) (by kernel_rfl) (fun _ _ _ h => h) (Or.inl ⟨by rfl, ?_⟩) (by assumption) ?_
  rotate_left
  · intro w hSw; (try dsimp only at hSw); go_simp; try with_reducible rfl
  (try simp only [Act.put, List.setIfInBounds_toArray, List.set_cons_zero, List.set_cons_succ])
  refine wpAnyH_take (i := 4) (oi := ⟨some 13, _, _, _, _, _⟩) (v := ?_) rfl (by kernel_rfl) (by kernel_rfl) (by kernel_rfl) (fun _ _ _ h => h) (Or.inl ⟨by rfl, ?_⟩) (by assumption) ?_
  rotate_left
  · intro w hSw; (try dsimp only at hSw); go_simp; try with_reducible rfl
  (try simp only [Act.put, List.setIfInBounds_toArray, List.set_cons_zero, List.set_cons_succ])
  refine wpAnyH_ready (rs := [8]) (by kernel_rfl) (by simp) ?_
  refine (AllReadyH.cons (o := ⟨some 17, _, _, _, _, _⟩) rfl (fun K hK => ?_) AllReadyH.nil)
  rw [if_pos (by rfl)]
  go_simp
  go_at_call 47
  refine (isSector_any ga (k : Int) (p : Int) _).mono ?_
  rintro _ w3 ⟨g0, g1, g2, rfl, h4⟩
  have hA1 := St.call hX h4
  clear h4
  refine hK.out _ _ ?_ (fun hHeld => ?_)
  · exact ⟨ldS [_, _, _] hA1 (rfl), ldS [_, _, _, _] hA1 (rfl)⟩
  clear hK K
  (try simp only [Act.put, List.setIfInBounds_toArray, List.set_cons_zero, List.set_cons_succ])
  refine wpAnyH_ready (rs := [11]) (by kernel_rfl) (by simp) ?_
  refine (AllReadyH.cons (o := ⟨some 20, _, _, _, _, _⟩) rfl (fun K hK => ?_) AllReadyH.nil)
  rw [if_pos (by rfl)]
  go_simp
  go_at_call 48
  refine (isHere_any ga (k : Int) _).mono ?_
  rintro _ w4 ⟨k0, k1, rfl, h4⟩
  have hA2 := St.call hA1 h4
  clear h4
  refine hK.out _ _ ?_ (fun hHeld => ?_)
  · exact ⟨ldS [_, _, _, _, _] hA2 (rfl), ldS [_, _, _, _, _, _] hA2 (rfl)⟩
  clear hK K
  (try simp only [Act.put, List.setIfInBounds_toArray, List.set_cons_zero, List.set_cons_succ])
  refine wpAnyH_ready (rs := [13]) (by kernel_rfl) (by simp) ?_
  refine (AllReadyH.cons (o := ⟨some 22, _, _, _, _, _⟩) rfl (fun K hK => ?_) AllReadyH.nil)
  rw [if_pos (by rfl)]
  refine ow_of_wl (ops := #[]) (by rfl) ?_
  apply wl_bsX ([methV 45 (ptrV ga), methV 46 (ptrV ga), cloV 83 [ptrV g0, ptrV g1, ptrV g2], cloV 84 [ptrV k0, ptrV k1], cloV 65 [ptrV g3, ptrV g4]]) ([methV 45 (ptrV ga), methV 46 (ptrV ga), cloV 83 [ptrV g0, ptrV g1, ptrV g2], cloV 84 [ptrV k0, ptrV k1], cloV 65 [ptrV g3, ptrV g4]]) hA2
  rfl
  rfl
  exact rfl
  exact rfl
  infer_instance
  infer_instance
  rfl
  rfl
  rfl
  intro gs w5 hA3
  refine q0_nil ?_
  refine hK.out _ _ ?_ (fun hHeld => ?_)
  · exact ⟨ldS [_, _, _, _, _, _] hA3 (rfl), ldS [_, _, _, _, _, _, _] hA3 (rfl)⟩
  clear hK K
  (try simp only [Act.put, List.setIfInBounds_toArray, List.set_cons_zero, List.set_cons_succ])
  refine wpAnyH_ready (rs := [14]) (by kernel_rfl) (by simp) ?_
  refine (AllReadyH.cons (o := ⟨some 23, _, _, _, _, _⟩) rfl (fun K hK => ?_) AllReadyH.nil)
  rw [if_pos (by rfl)]
  go_simp
  (go_at_call 44; have hC := checks_any (k : Int) (v := .slice (some ⟨gs, 0, none⟩) 5 5) (n := 5) (fs := [methV 45 (ptrV ga), methV 46 (ptrV ga), cloV 83 [ptrV g0, ptrV g1, ptrV g2], cloV 84 [ptrV k0, ptrV k1]]) (f9 := cloV 65 [ptrV g3, ptrV g4]) (es := readL a (k : Int) (p : Int)) (e9 := 13) (A := (fun w' => St w (arF ga x a) w' (([HA.blk gs 74 ([methV 45 (ptrV ga), methV 46 (ptrV ga), cloV 83 [ptrV g0, ptrV g1, ptrV g2], cloV 84 [ptrV k0, ptrV k1], cloV 65 [ptrV g3, ptrV g4]]), .blk k1 3 [.int .i64 (k : Int)], .blk k0 25 [.pointer (some ⟨ga, 0, none⟩)], .blk g2 3 [.int .i64 (p : Int)], .blk g1 3 [.int .i64 (k : Int)], .blk g0 25 [.pointer (some ⟨ga, 0, none⟩)], .blk g4 3 [.int .i64 (k : Int)], .blk g3 25 [.pointer (some ⟨ga, 0, none⟩)]] : List HA) ++ arP ga x a))) (B := (fun w' => St w (arF ga x a) w' (([HA.blk gs 74 ([methV 45 (ptrV ga), methV 46 (ptrV ga), cloV 83 [ptrV g0, ptrV g1, ptrV g2], cloV 84 [ptrV k0, ptrV k1], cloV 65 [ptrV g3, ptrV g4]]), .blk k1 3 [.int .i64 (k : Int)], .blk k0 25 [.pointer (some ⟨ga, 0, none⟩)], .blk g2 3 [.int .i64 (p : Int)], .blk g1 3 [.int .i64 (k : Int)], .blk g0 25 [.pointer (some ⟨ga, 0, none⟩)], .blk g4 3 [.int .i64 (k : Int)], .blk g3 25 [.pointer (some ⟨ga, 0, none⟩)]] : List HA) ++ arP ga x a9))) _ (fun _ h => Rd.blk h (.head _) (Nat.le_refl _) (by decide) rfl rfl) rfl rfl (by decide) (read_probes (fun _ h => ArrAt.of h (fun p hp => List.mem_append_right _ hp) OK.out.d0) keeps_st (fun _ h => St.cell h (off := 0) (.tail _ (.tail _ (.tail _ (.tail _ (.tail _ (.head _)))))) rfl) (fun _ h => St.cell h (off := 0) (.tail _ (.tail _ (.tail _ (.tail _ (.head _))))) rfl) (fun _ h => St.cell h (off := 0) (.tail _ (.tail _ (.tail _ (.head _)))) rfl) (fun _ h => St.cell h (off := 0) (.tail _ (.tail _ (.head _))) rfl) (fun _ h => St.cell h (off := 0) (.tail _ (.head _)) rfl)) (fun _ => HPS.out _ ([HA.blk gs 74 ([methV 45 (ptrV ga), methV 46 (ptrV ga), cloV 83 [ptrV g0, ptrV g1, ptrV g2], cloV 84 [ptrV k0, ptrV k1], cloV 65 [ptrV g3, ptrV g4]]), .blk k1 3 [.int .i64 (k : Int)], .blk k0 25 [.pointer (some ⟨ga, 0, none⟩)], .blk g2 3 [.int .i64 (p : Int)], .blk g1 3 [.int .i64 (k : Int)], .blk g0 25 [.pointer (some ⟨ga, 0, none⟩)], .blk g4 3 [.int .i64 (k : Int)], .blk g3 25 [.pointer (some ⟨ga, 0, none⟩)]] : List HA) _ _ (.tail _ (.tail _ (.tail _ (.tail _ (.tail _ (.tail _ (.tail _ (.head _)))))))) (.tail _ (.tail _ (.tail _ (.tail _ (.tail _ (.tail _ (.head _)))))))) hA3; refine hC.mono ?_; rintro _ w5 hh; obtain ⟨rfl, h4⟩ := checks_last H1.out (by decide) hh; clear hC hh hA3; have hA4 := h4; clear h4)
  refine hK.out _ _ ?_ (fun hHeld => ?_)
  · exact ⟨ldS [_, _, _, _, _, _] hA4 (rfl), ldS [_, _, _, _, _, _, _] hA4 (rfl)⟩
  clear hK K
  (try simp only [Act.put, List.setIfInBounds_toArray, List.set_cons_zero, List.set_cons_succ])
  refine wpAnyH_take (i := 15) (oi := ⟨some 8, _, _, _, _, _⟩) (v := ?_) rfl (by kernel_rfl) (by kernel_rfl) (by kernel_rfl) (fun _ _ _ h => h) (Or.inl ⟨by rfl, ?_⟩) (by assumption) ?_
  rotate_left
  · intro w hSw; (try dsimp only at hSw); go_simp; try with_reducible rfl
  (try simp only [Act.put, List.setIfInBounds_toArray, List.set_cons_zero, List.set_cons_succ])
  refine wpAnyH_done (by kernel_rfl) ?_ _
  clear hHeld
  go_wp2_with (first | go_big_skip | go_big_guard | (go_at_call 50; refine (number_isE 13 (k : Int) (by unfold isE; decide) (by decide) _).mono ?_; rintro _ w6 ⟨rfl, h4⟩; have hst6 := St.call0 hA4 h4; clear h4 hA4))
  go_ret2
  exact ⟨.slice none 0 0, rfl, St.nilPQ isB _ 1 (St.sub hst6 (List.sublist_append_right _ _))⟩
theorem read_fineP {w : World} {ga : Nat} {x : GA} {a : AR} (hS : St w (arF ga x a) w (arP ga x a)) (ok : a.Ok) (hll : a.loose.length < 1000000) (k p : Nat) (h1 : firstE (readL a (k : Int) (p : Int)) = 0) (h2 : ¬ 0 < (a.dv (k : Int)).fail) :
    Calls Tryz.prog 25 #[.pointer (some ⟨ga, 0, none⟩), .int .i64 (k : Int), .int .i64 (p : Int)] w fun e w' => ∃ u, e = .returned (.tuple #[u, .int .i64 (a.readE (k : Int) (p : Int))]) ∧ St w (arF ga x a) w' (.rowP isB u 5 1 (a.readB (k : Int) (p : Int)).length (bytesV (a.readB (k : Int) (p : Int))) :: arP ga x (a.read (k : Int) (p : Int))) := by
  have hb := read_ok ok.d0 h1
  have hin : a.inD (k : Int) = true := inS_inD hb.1
  have hfm := ok.fm _ (List.mem_of_getElem? (devs_get hin))
  have HPS : Hid (∀ (M : List Nat) (L1 : List HA) (g3 g4 : Nat), HA.blk g3 25 [.pointer (some ⟨ga, 0, none⟩)] ∈ L1 → HA.blk g4 3 [.int .i64 (k : Int)] ∈ L1 →
      Probe (cloV 65 [ptrV g3, ptrV g4]) 0 (fun w' => St w M w' (L1 ++ arP ga x a)) (fun w' => St w M w' (L1 ++ arP ga x (a.failed (k : Int))))) := hid (by
    intro M L1 g3 g4 c0 c1
    have := probe_read (w0 := w) (M := M) (L1 := L1) (ga := ga) (x := x) hin ⟨hfm.2.2.2.1, hfm.2.2.2.2⟩ c0 c1
    unfold AR.failE at this
    rw [if_neg h2] at this
    exact this)
  have hee : a.failE (k : Int) = 0 := by unfold AR.failE; rw [if_neg h2]
  have hbb : a.readB (k : Int) (p : Int) = a.tells (k : Int) (p : Int) := by unfold AR.readB; rw [hb.2.1, hee]; rfl
  rw [hbb, hb.2.1, hb.2.2, hee]
  have HS := hid hb.1
  have H1 := hid h1
  have OK := hid ok
  have hst0 := hS
  have hmf := rmf
  have hfd : a.failed (k : Int) = a := by unfold AR.failed; rw [if_neg h2]
  rw [hfd] at HPS ⊢
  have hT := tells_len ok hb.1 a.loose.length
  rw [List.take_length] at hT
  have HT := hid (show (a.tells (k : Int) (p : Int)).length = 256 from hT)
  obtain ⟨R, hR⟩ : ∃ R, R = a.tells (k : Int) (p : Int) := ⟨_, rfl⟩
  have HR := hid hR
  rw [← hR] at HT ⊢
  clear hT hR hfd
  clear hb hin hfm hee hbb h1 h2 ok hS
  go_enter Tryz.func25, Tryz.ntmps25
  go_wp2_with (first | go_big_skip | go_big_guard | (refine wl_box hst0 rfl rfl rfl ?_; intro g3 w1 hst1; clear hst0) | (refine wl_box hst1 rfl rfl rfl ?_; intro g4 w2 hst2; clear hst1))
  have hX := hst2.drew
  clear hst2
  refine wp_region_held_drew (S := (fun w' => (loadVarH 3 ⟨g4, 0, none⟩).run Tryz.prog w' = .ok (.int .i64 (k : Int)) w' ∧ (loadVarH 25 ⟨g3, 0, none⟩).run Tryz.prog w' = .ok (.pointer (some ⟨ga, 0, none⟩)) w')) (by kernel_rfl) (by exact ⟨ldS [] hX (rfl), ldS [_] hX (rfl)⟩) (fun hHeld => ?_)
  refine wpAnyH_take (i := 0) (oi := ⟨some 9, _, _, _, _, _⟩) (v := ?_) rfl (by kernel_rfl) (by kernel_rfl) (by kernel_rfl) (fun _ _ _ h => h) (Or.inl ⟨by rfl, ?_⟩) (by assumption) ?_
  rotate_left
  · intro w hSw; (try dsimp only at hSw); go_simp; try with_reducible rfl
  (try simp only [Act.put, List.setIfInBounds_toArray, List.set_cons_zero, List.set_cons_succ])
  refine wpAnyH_take (i := 1) (oi := ⟨some 10, _, _, _, _, _⟩) (v := ?_) rfl (by kernel_rfl) (by kernel_rfl) (by kernel_rfl) (fun _ _ _ h => h) (Or.inl ⟨by rfl, ?_⟩) (by assumption) ?_
  rotate_left
  · intro w hSw; (try dsimp only at hSw); go_simp; try with_reducible rfl
  (try simp only [Act.put, List.setIfInBounds_toArray, List.set_cons_zero, List.set_cons_succ])
  refine wpAnyH_take (i := 3) (oi := ⟨some 12, _, _, _, _, _⟩) (v := ?_) rfl (by kernel_rfl) (by kernel_rfl) (by kernel_rfl) (fun _ _ _ h => h) (Or.inl ⟨by rfl, ?_⟩) (by assumption) ?_
  rotate_left
  · intro w hSw; (try dsimp only at hSw); go_simp; try with_reducible rfl
  (try simp only [Act.put, List.setIfInBounds_toArray, List.set_cons_zero, List.set_cons_succ])
  refine wpAnyH_take (i := 5) (oi := ⟨some 14, _, _, _, _, _⟩) (v := ?_) rfl (by kernel_rfl) (by kernel_rfl) (by kernel_rfl) (fun _ _ _ h => h) (Or.inl ⟨by rfl, ?_⟩) (by assumption) ?_
  rotate_left
  · intro w hSw; (try dsimp only at hSw); go_simp; try with_reducible rfl
  (try simp only [Act.put, List.setIfInBounds_toArray, List.set_cons_zero, List.set_cons_succ])
  refine wpAnyH_take (i := 6) (oi := ⟨some 15, _, _, _, _, _⟩) (v := ?_) rfl (by kernel_rfl) (by kernel_rfl) (by kernel_rfl) (fun _ _ _ h => h) (Or.inl ⟨by rfl, ?_⟩) (by assumption) ?_
  rotate_left
  · intro w hSw; (try dsimp only at hSw); go_simp; try with_reducible rfl
  (try simp only [Act.put, List.setIfInBounds_toArray, List.set_cons_zero, List.set_cons_succ])
  refine wpAnyH_take (i := 7) (oi := ⟨some 16, _, _, _, _, _⟩) (v := ?_) rfl (by kernel_rfl) (by kernel_rfl) (by kernel_rfl) (fun _ _ _ h => h) (Or.inl ⟨by rfl, ?_⟩) (by assumption) ?_
  rotate_left
  · intro w hSw; (try dsimp only at hSw); go_simp; try with_reducible rfl
  (try simp only [Act.put, List.setIfInBounds_toArray, List.set_cons_zero, List.set_cons_succ])
  refine wpAnyH_take (i := 9) (oi := ⟨some 18, _, _, _, _, _⟩) (v := ?_) rfl (by kernel_rfl) (by kernel_rfl) (by kernel_rfl) (fun _ _ _ h => h) (Or.inl ⟨by rfl, ?_⟩) (by assumption) ?_
  rotate_left
  · intro w hSw; (try dsimp only at hSw); go_simp; try with_reducible rfl
  (try simp only [Act.put, List.setIfInBounds_toArray, List.set_cons_zero, List.set_cons_succ])
  refine wpAnyH_take (i := 10) (oi := ⟨some 19, _, _, _, _, _⟩) (v := ?_) rfl (by kernel_rfl) (by kernel_rfl) (by kernel_rfl) (fun _ _ _ h => h) (Or.inl ⟨by rfl, ?_⟩) (by assumption) ?_
  rotate_left
  · intro w hSw; (try dsimp only at hSw); go_simp; try with_reducible rfl
  (try simp only [Act.put, List.setIfInBounds_toArray, List.set_cons_zero, List.set_cons_succ])
  refine wpAnyH_take (i := 12) (oi := ⟨some 21, _, _, _, _, _⟩) (v := ?_) rfl (by kernel_rfl) (by kernel_rfl) (by kernel_rfl) (fun _ _ _ h => h) (Or.inl ⟨by rfl, ?_⟩) (by assumption) ?_
  rotate_left
  · intro w hSw; (try dsimp only at hSw); go_simp; try with_reducible rfl
  (try simp only [Act.put, List.setIfInBounds_toArray, List.set_cons_zero, List.set_cons_succ])
  refine wpAnyH_take (i := 2) (oi := ⟨some 11, _, _, _, _, _⟩) (v := ?_) rfl (by kernel_rfl) (by kernel_rfl) (by kernel_rfl) (fun _ _ _ h => h) (Or.inl ⟨by rfl, ?_⟩) (by assumption) ?_
  rotate_left
  · intro w hSw; (try dsimp only at hSw); go_simp; try with_reducible rfl
  (try simp only [Act.put, List.setIfInBounds_toArray, List.set_cons_zero, List.set_cons_succ])
  refine wpAnyH_take (i := 4) (oi := ⟨some 13, _, _, _, _, _⟩) (v := ?_) rfl (by kernel_rfl) (by kernel_rfl) (by kernel_rfl) (fun _ _ _ h => h) (Or.inl ⟨by rfl, ?_⟩) (by assumption) ?_
  rotate_left
  · intro w hSw; (try dsimp only at hSw); go_simp; try with_reducible rfl
  (try simp only [Act.put, List.setIfInBounds_toArray, List.set_cons_zero, List.set_cons_succ])
  refine wpAnyH_ready (rs := [8]) (by kernel_rfl) (by simp) ?_
  refine (AllReadyH.cons (o := ⟨some 17, _, _, _, _, _⟩) rfl (fun K hK => ?_) AllReadyH.nil)
  rw [if_pos (by rfl)]
  go_simp
  go_at_call 47
  refine (isSector_any ga (k : Int) (p : Int) _).mono ?_
  rintro _ w3 ⟨g0, g1, g2, rfl, h4⟩
  have hA1 := St.call hX h4
  clear h4
  refine hK.out _ _ ?_ (fun hHeld => ?_)
  · exact ⟨ldS [_, _, _] hA1 (rfl), ldS [_, _, _, _] hA1 (rfl)⟩
  clear hK K
  (try simp only [Act.put, List.setIfInBounds_toArray, List.set_cons_zero, List.set_cons_succ])
  refine wpAnyH_ready (rs := [11]) (by kernel_rfl) (by simp) ?_
  refine (AllReadyH.cons (o := ⟨some 20, _, _, _, _, _⟩) rfl (fun K hK => ?_) AllReadyH.nil)
  rw [if_pos (by rfl)]
  go_simp
  go_at_call 48
  refine (isHere_any ga (k : Int) _).mono ?_
  rintro _ w4 ⟨k0, k1, rfl, h4⟩
  have hA2 := St.call hA1 h4
  clear h4
  refine hK.out _ _ ?_ (fun hHeld => ?_)
  · exact ⟨ldS [_, _, _, _, _] hA2 (rfl), ldS [_, _, _, _, _, _] hA2 (rfl)⟩
  clear hK K
  (try simp only [Act.put, List.setIfInBounds_toArray, List.set_cons_zero, List.set_cons_succ])
  refine wpAnyH_ready (rs := [13]) (by kernel_rfl) (by simp) ?_
  refine (AllReadyH.cons (o := ⟨some 22, _, _, _, _, _⟩) rfl (fun K hK => ?_) AllReadyH.nil)
  rw [if_pos (by rfl)]
  refine ow_of_wl (ops := #[]) (by rfl) ?_
  apply wl_bsX ([methV 45 (ptrV ga), methV 46 (ptrV ga), cloV 83 [ptrV g0, ptrV g1, ptrV g2], cloV 84 [ptrV k0, ptrV k1], cloV 65 [ptrV g3, ptrV g4]]) ([methV 45 (ptrV ga), methV 46 (ptrV ga), cloV 83 [ptrV g0, ptrV g1, ptrV g2], cloV 84 [ptrV k0, ptrV k1], cloV 65 [ptrV g3, ptrV g4]]) hA2
  rfl
  rfl
  exact rfl
  exact rfl
  infer_instance
  infer_instance
  rfl
  rfl
  rfl
  intro gs w5 hA3
  refine q0_nil ?_
  refine hK.out _ _ ?_ (fun hHeld => ?_)
  · exact ⟨ldS [_, _, _, _, _, _] hA3 (rfl), ldS [_, _, _, _, _, _, _] hA3 (rfl)⟩
  clear hK K
  (try simp only [Act.put, List.setIfInBounds_toArray, List.set_cons_zero, List.set_cons_succ])
  refine wpAnyH_ready (rs := [14]) (by kernel_rfl) (by simp) ?_
  refine (AllReadyH.cons (o := ⟨some 23, _, _, _, _, _⟩) rfl (fun K hK => ?_) AllReadyH.nil)
  rw [if_pos (by rfl)]
  go_simp
  (go_at_call 44; have hC := checks_any (k : Int) (v := .slice (some ⟨gs, 0, none⟩) 5 5) (n := 5) (fs := [methV 45 (ptrV ga), methV 46 (ptrV ga), cloV 83 [ptrV g0, ptrV g1, ptrV g2], cloV 84 [ptrV k0, ptrV k1]]) (f9 := cloV 65 [ptrV g3, ptrV g4]) (es := readL a (k : Int) (p : Int)) (e9 := 0) (A := (fun w' => St w (arF ga x a) w' (([HA.blk gs 74 ([methV 45 (ptrV ga), methV 46 (ptrV ga), cloV 83 [ptrV g0, ptrV g1, ptrV g2], cloV 84 [ptrV k0, ptrV k1], cloV 65 [ptrV g3, ptrV g4]]), .blk k1 3 [.int .i64 (k : Int)], .blk k0 25 [.pointer (some ⟨ga, 0, none⟩)], .blk g2 3 [.int .i64 (p : Int)], .blk g1 3 [.int .i64 (k : Int)], .blk g0 25 [.pointer (some ⟨ga, 0, none⟩)], .blk g4 3 [.int .i64 (k : Int)], .blk g3 25 [.pointer (some ⟨ga, 0, none⟩)]] : List HA) ++ arP ga x a))) (B := (fun w' => St w (arF ga x a) w' (([HA.blk gs 74 ([methV 45 (ptrV ga), methV 46 (ptrV ga), cloV 83 [ptrV g0, ptrV g1, ptrV g2], cloV 84 [ptrV k0, ptrV k1], cloV 65 [ptrV g3, ptrV g4]]), .blk k1 3 [.int .i64 (k : Int)], .blk k0 25 [.pointer (some ⟨ga, 0, none⟩)], .blk g2 3 [.int .i64 (p : Int)], .blk g1 3 [.int .i64 (k : Int)], .blk g0 25 [.pointer (some ⟨ga, 0, none⟩)], .blk g4 3 [.int .i64 (k : Int)], .blk g3 25 [.pointer (some ⟨ga, 0, none⟩)]] : List HA) ++ arP ga x a))) _ (fun _ h => Rd.blk h (.head _) (Nat.le_refl _) (by decide) rfl rfl) rfl rfl (by decide) (read_probes (fun _ h => ArrAt.of h (fun p hp => List.mem_append_right _ hp) OK.out.d0) keeps_st (fun _ h => St.cell h (off := 0) (.tail _ (.tail _ (.tail _ (.tail _ (.tail _ (.head _)))))) rfl) (fun _ h => St.cell h (off := 0) (.tail _ (.tail _ (.tail _ (.tail _ (.head _))))) rfl) (fun _ h => St.cell h (off := 0) (.tail _ (.tail _ (.tail _ (.head _)))) rfl) (fun _ h => St.cell h (off := 0) (.tail _ (.tail _ (.head _))) rfl) (fun _ h => St.cell h (off := 0) (.tail _ (.head _)) rfl)) (fun _ => HPS.out _ ([HA.blk gs 74 ([methV 45 (ptrV ga), methV 46 (ptrV ga), cloV 83 [ptrV g0, ptrV g1, ptrV g2], cloV 84 [ptrV k0, ptrV k1], cloV 65 [ptrV g3, ptrV g4]]), .blk k1 3 [.int .i64 (k : Int)], .blk k0 25 [.pointer (some ⟨ga, 0, none⟩)], .blk g2 3 [.int .i64 (p : Int)], .blk g1 3 [.int .i64 (k : Int)], .blk g0 25 [.pointer (some ⟨ga, 0, none⟩)], .blk g4 3 [.int .i64 (k : Int)], .blk g3 25 [.pointer (some ⟨ga, 0, none⟩)]] : List HA) _ _ (.tail _ (.tail _ (.tail _ (.tail _ (.tail _ (.tail _ (.tail _ (.head _)))))))) (.tail _ (.tail _ (.tail _ (.tail _ (.tail _ (.tail _ (.head _)))))))) hA3; refine hC.mono ?_; rintro _ w5 hh; obtain ⟨rfl, h4⟩ := checks_fine H1.out hh; clear hC hh hA3; have hA4 := h4; clear h4)
  refine hK.out _ _ ?_ (fun hHeld => ?_)
  · exact ⟨ldS [_, _, _, _, _, _] hA4 (rfl), ldS [_, _, _, _, _, _, _] hA4 (rfl)⟩
  clear hK K
  (try simp only [Act.put, List.setIfInBounds_toArray, List.set_cons_zero, List.set_cons_succ])
  refine wpAnyH_take (i := 15) (oi := ⟨some 8, _, _, _, _, _⟩) (v := ?_) rfl (by kernel_rfl) (by kernel_rfl) (by kernel_rfl) (fun _ _ _ h => h) (Or.inl ⟨by rfl, ?_⟩) (by assumption) ?_
  rotate_left
  · intro w hSw; (try dsimp only at hSw); go_simp; try with_reducible rfl
  (try simp only [Act.put, List.setIfInBounds_toArray, List.set_cons_zero, List.set_cons_succ])
  refine wpAnyH_done (by kernel_rfl) ?_ _
  clear hHeld
  go_wp2_with (first | go_big_skip | go_big_guard | (refine wl_loadE rfl rfl rfl ?_; first | refine ⟨_, Loads.at [_, _, _, _, _, _] hA4 rfl, ?_⟩ | refine ⟨_, Loads.at [_, _, _, _, _, _, _] hA4 rfl, ?_⟩) | (go_at_call 66; refine (tells_anyP (ArrAll.of hA4 (fun p hp => List.mem_append_right _ hp) OK.out.d0) OK.out hll k p HS.out).mono ?_; rw [← HR.out]; rintro _ w8 ⟨u, rfl, h4⟩; have hst6 := St.call hA4 h4; clear h4 hA4))
  go_ret2
  refine ⟨u, rfl, ?_⟩
  rw [HT.out]
  exact St.sub hst6 (.cons_cons _ (List.sublist_append_right _ _))
end
theorem readM_anyP {w : World} {ga : Nat} {x : GA} {a : AR} (hS : St w (arF ga x a) w (arP ga x a)) (ok : a.Ok) (hll : a.loose.length < 1000000) (dev pl : Int) :
    Calls Tryz.prog 25 #[.pointer (some ⟨ga, 0, none⟩), .int .i64 dev, .int .i64 pl] w fun e w' => ∃ u, e = .returned (.tuple #[u, .int .i64 (a.readE dev pl)]) ∧ St w (arF ga x a) w' (.rowP isB u 5 1 (a.readB dev pl).length (bytesV (a.readB dev pl)) :: arP ga x (a.read dev pl)) := by
  by_cases h1 : firstE (readL a dev pl) = 0
  · have hb := read_ok ok.d0 h1
    obtain ⟨k, rfl⟩ : ∃ k : Nat, dev = k := ⟨dev.toNat, by have := (inD_dev (inS_inD hb.1)).1; omega⟩
    obtain ⟨p, rfl⟩ : ∃ p : Nat, pl = p := ⟨pl.toNat, by have := (inS_pl hb.1).1; omega⟩
    by_cases h2 : 0 < (a.dv (k : Int)).fail
    · exact read_failP hS ok hll k p h1 h2
    · exact read_fineP hS ok hll k p h1 h2
  · exact read_badP hS ok hll dev pl h1
end Go.Proofs.YtclleohpmgihaaaGreat
namespace Go.Proofs.YtclleohpmgihaaaGreat
set_option linter.unusedVariables false
set_option linter.unusedSimpArgs false
open Go.RowKit Hp
attribute [local irreducible] Go.Calls Go.wpList
set_option maxRecDepth 100000
set_option maxHeartbeats 8000000
theorem put2 {w0 w : World} {M : List Nat} {P T : List HA} {p b : HA} (h : St w0 M w (p :: (P ++ (b :: T)))) : St w0 M w (P ++ (b :: p :: T)) := by
  refine St.perm h ?_
  have h1 : (p :: (P ++ (b :: T))).Perm (P ++ (p :: b :: T)) := (List.perm_middle (l₁ := P) (a := p) (l₂ := b :: T)).symm
  exact h1.trans (List.Perm.append_left _ (List.Perm.swap _ _ _))
theorem get2 {w0 w : World} {M : List Nat} {P T : List HA} {p b : HA} (h : St w0 M w (P ++ (b :: p :: T))) : St w0 M w (p :: (P ++ (b :: T))) := by
  refine St.perm h ?_
  have h1 : (P ++ (p :: b :: T)).Perm (p :: (P ++ (b :: T))) := List.perm_middle
  exact (List.Perm.append_left _ (List.Perm.swap _ _ _)).trans h1
theorem off_mid {w0 w : World} {M : List Nat} {P Bs R : List HA} {ga : Nat} {x : GA} {a : AR} (h : St w0 M w (P ++ (Bs ++ (arP ga x a ++ R)))) {g : Nat} {T : TypeId} {cs : List Value} (hm : HA.blk g T cs ∈ Bs) (o n c : Nat) : Off (.slice (some ⟨g, o, none⟩) n c) (arF ga x a) := by
  have h1 : St w0 M w (Bs ++ arP ga x a) := St.sub h ((List.Sublist.append_left (List.sublist_append_left _ _) _).trans (List.sublist_append_right _ _))
  intro A n' c' he _ hF
  cases he
  exact arr_off h1 hm hF
theorem to_behind {w0 w : World} {M : List Nat} {P A R : List HA} {b : HA} (h : St w0 M w (P ++ (b :: (A ++ R)))) : St w0 M w (P ++ (A ++ (b :: R))) := St.perm h (List.Perm.append_left _ List.perm_middle.symm)
theorem off_behind2 {w0 w : World} {M : List Nat} {P A R : List HA} {b : HA} (h : St w0 M w (P ++ (A ++ (b :: R)))) : St w0 M w (P ++ (A ++ R)) := St.sub h (List.Sublist.append_left (List.Sublist.append_left (List.sublist_cons_self _ _) _) _)
section
theorem loadedI18 (A : Addr) : loadVar 3 A = loadVarH 3 A := rfl
theorem loadedU18 (A : Addr) : loadVar 5 A = loadVarH 5 A := rfl
theorem loadedS18 (A : Addr) : loadVar 33 A = loadVarH 33 A := rfl
theorem loadedL18 (A : Addr) : loadVar 34 A = loadVarH 34 A := rfl
attribute [local go_sem ↓] loadedI18 loadedU18 loadedS18 loadedL18
theorem does_0 {w : World} {w1 : World} {R : List HA} {gr ga : Nat} {a : AR} {x : GA} {q : RX} (y : AC) (hS : St w [] w1 (rxP gr q ++ (arP ga x a ++ R))) (ro : RefOk a q) (ok : a.Ok) (hll : a.loose.length < 1000000) (hst0 : 0 ≤ a.steps ∧ a.steps < 4611686018427387904) (h0 : 0 < a.secs) (hy : y.Ok w) (hbn : y.bn ≤ 300) (hkn : y.kn ≤ 200) (hk : y.k = 0) : Calls Tryz.prog 8 #[.pointer (some ⟨ga, 0, none⟩), .pointer (some ⟨gr, 0, none⟩), .agg (List.toArray y.cells)] w1 fun e w' => ∃ b, e = .returned (.bool true) ∧ ∃ (x' : GA) (a' : AR) (q' : RX), b = a' ∧ Next a a' ∧ RefOk a' q' ∧ St w [] w' (rxP gr q' ++ (arP ga x' a' ++ R)) := by
  have hst := hS
  have RO := hid ro
  have OK := hid ok
  have HLL := hid hll
  have H0 := hid h0
  have HY := hid hy
  have HST0 := hid hst0
  have HBN := hid hbn
  have HKN := hid hkn
  have HLB := hid hy.lb
  have HLK := hid hy.lk
  have e0 : (y.k == 0) = true := by rw [hk]; rfl
  have HNX : Hid (Next a (a.write y.dev y.pl y.B)) := hid ⟨ok.write _ _ _, Stays.write _ _ _ _⟩
  obtain ⟨E, hE⟩ : ∃ E, E = a.writeE y.dev y.pl y.B := ⟨_, rfl⟩
  have HE := hid hE
  have eE : (E == E) = true := beq_self_eq_true E
  have HTK : Hid (((bytesV (lentB y.B)).drop 0).take (bytesV y.B).length = bytesV y.B) := hid (by rw [List.drop_zero]; unfold lentB; rw [bytesV_app, List.take_left])
  clear hS ro ok hll h0 hy hk hE hst0 hbn hkn
  go_enter Tryz.func8, Tryz.ntmps8
  go_wp2_with (first | go_big_skip | go_big_guard | (refine wl_boxA hst rfl rfl rfl ?_; intro g5 w2 hst1; clear hst; have hst2 : St w [] w2 (rxP gr q ++ (.blk g5 36 y.cells :: (arP ga x a ++ R))) := St.perm hst1 List.perm_middle.symm; clear hst1) | (refine wl_loadE rfl rfl rfl ?_; refine ⟨_, Loads.at (P := Tryz.prog) _ hst2 rfl, ?_⟩) | (go_at_call 20; refine (lent_any y.bo y.bn y.bc y.B _ (Rd.old hst2 HY.out.rb) HLB.out (by have := HBN.out; omega)).mono ?_; rintro _ w3 ⟨g7, rfl, h4⟩; have hst3 : St w [] w3 (rxP gr q ++ (.blk g5 36 y.cells :: .blk g7 5 (bytesV (lentB y.B)) :: (arP ga x a ++ R))) := put2 (St.call hst2 h4); clear h4 hst2))
  have hX := hst3.drew
  clear hst3
  refine wp_region_held_drew (S := (fun w' => (loadVarH 3 ⟨g5, 1, none⟩).run Tryz.prog w' = .ok (.int .i64 y.dev) w' ∧ (loadVarH 3 ⟨g5, 2, none⟩).run Tryz.prog w' = .ok (.int .i64 y.pl) w' ∧ (loadVarH 33 ⟨g5, 5, none⟩).run Tryz.prog w' = .ok (.slice y.bo y.bn y.bc) w')) (by kernel_rfl) (by exact ⟨Loads.at (P := Tryz.prog) _ hX rfl, Loads.at (P := Tryz.prog) _ hX rfl, Loads.at (P := Tryz.prog) _ hX rfl⟩) (fun hHeld => ?_)
  refine wpAnyH_take (i := 0) (oi := ⟨some 22, _, _, _, _, _⟩) (v := ?_) rfl (by kernel_rfl) (by kernel_rfl) (by kernel_rfl) (fun _ _ _ h => h) (Or.inl ⟨by rfl, ?_⟩) (by assumption) ?_
  rotate_left
  · intro w hSw; (try dsimp only at hSw); go_simp; try with_reducible rfl
  (try simp only [Act.put, List.setIfInBounds_toArray, List.set_cons_zero, List.set_cons_succ])
  refine wpAnyH_take (i := 1) (oi := ⟨some 23, _, _, _, _, _⟩) (v := ?_) rfl (by kernel_rfl) (by kernel_rfl) (by kernel_rfl) (fun _ _ _ h => h) (Or.inl ⟨by rfl, ?_⟩) (by assumption) ?_
  rotate_left
  · intro w hSw; (try dsimp only at hSw); go_simp; try with_reducible rfl
  (try simp only [Act.put, List.setIfInBounds_toArray, List.set_cons_zero, List.set_cons_succ])
  refine wpAnyH_take (i := 3) (oi := ⟨some 25, _, _, _, _, _⟩) (v := ?_) rfl (by kernel_rfl) (by kernel_rfl) (by kernel_rfl) (fun _ _ _ h => h) (Or.inl ⟨by rfl, ?_⟩) (by assumption) ?_
  rotate_left
  · intro w hSw; (try dsimp only at hSw); go_simp; try with_reducible rfl
  (try simp only [Act.put, List.setIfInBounds_toArray, List.set_cons_zero, List.set_cons_succ])
  refine wpAnyH_take (i := 5) (oi := ⟨some 27, _, _, _, _, _⟩) (v := ?_) rfl (by kernel_rfl) (by kernel_rfl) (by kernel_rfl) (fun _ _ _ h => h) (Or.inl ⟨by rfl, ?_⟩) (by assumption) ?_
  rotate_left
  · intro w hSw; (try dsimp only at hSw); go_simp; try with_reducible rfl
  (try simp only [Act.put, List.setIfInBounds_toArray, List.set_cons_zero, List.set_cons_succ])
  refine wpAnyH_take (i := 7) (oi := ⟨some 29, _, _, _, _, _⟩) (v := ?_) rfl (by kernel_rfl) (by kernel_rfl) (by kernel_rfl) (fun _ _ _ h => h) (Or.inl ⟨by rfl, ?_⟩) (by assumption) ?_
  rotate_left
  · intro w hSw; (try dsimp only at hSw); go_simp; try with_reducible rfl
  (try simp only [Act.put, List.setIfInBounds_toArray, List.set_cons_zero, List.set_cons_succ])
  refine wpAnyH_take (i := 8) (oi := ⟨some 30, _, _, _, _, _⟩) (v := ?_) rfl (by kernel_rfl) (by kernel_rfl) (by kernel_rfl) (fun _ _ _ h => h) (Or.inl ⟨by rfl, ?_⟩) (by assumption) ?_
  rotate_left
  · intro w hSw; (try dsimp only at hSw); go_simp; try with_reducible rfl
  (try simp only [Act.put, List.setIfInBounds_toArray, List.set_cons_zero, List.set_cons_succ])
  refine wpAnyH_take (i := 10) (oi := ⟨some 32, _, _, _, _, _⟩) (v := ?_) rfl (by kernel_rfl) (by kernel_rfl) (by kernel_rfl) (fun _ _ _ h => h) (Or.inl ⟨by rfl, ?_⟩) (by assumption) ?_
  rotate_left
  · intro w hSw; (try dsimp only at hSw); go_simp; try with_reducible rfl
  (try simp only [Act.put, List.setIfInBounds_toArray, List.set_cons_zero, List.set_cons_succ])
  refine wpAnyH_take (i := 12) (oi := ⟨some 34, _, _, _, _, _⟩) (v := ?_) rfl (by kernel_rfl) (by kernel_rfl) (by kernel_rfl) (fun _ _ _ h => h) (Or.inl ⟨by rfl, ?_⟩) (by assumption) ?_
  rotate_left
  · intro w hSw; (try dsimp only at hSw); go_simp; try with_reducible rfl
  (try simp only [Act.put, List.setIfInBounds_toArray, List.set_cons_zero, List.set_cons_succ])
  refine wpAnyH_take (i := 2) (oi := ⟨some 24, _, _, _, _, _⟩) (v := ?_) rfl (by kernel_rfl) (by kernel_rfl) (by kernel_rfl) (fun _ _ _ h => h) (Or.inl ⟨by rfl, ?_⟩) (by assumption) ?_
  rotate_left
  · intro w hSw; (try dsimp only at hSw); go_simp; try with_reducible rfl
  (try simp only [Act.put, List.setIfInBounds_toArray, List.set_cons_zero, List.set_cons_succ])
  refine wpAnyH_take (i := 4) (oi := ⟨some 26, _, _, _, _, _⟩) (v := ?_) rfl (by kernel_rfl) (by kernel_rfl) (by kernel_rfl) (fun _ _ _ h => h) (Or.inl ⟨by rfl, ?_⟩) (by assumption) ?_
  rotate_left
  · intro w hSw; (try dsimp only at hSw); go_simp; try with_reducible rfl
  (try simp only [Act.put, List.setIfInBounds_toArray, List.set_cons_zero, List.set_cons_succ])
  refine wpAnyH_take (i := 9) (oi := ⟨some 31, _, _, _, _, _⟩) (v := ?_) rfl (by kernel_rfl) (by kernel_rfl) (by kernel_rfl) (fun _ _ _ h => h) (Or.inl ⟨by rfl, ?_⟩) (by assumption) ?_
  rotate_left
  · intro w hSw; (try dsimp only at hSw); go_simp; try with_reducible rfl
  (try simp only [Act.put, List.setIfInBounds_toArray, List.set_cons_zero, List.set_cons_succ])
  refine wpAnyH_take (i := 11) (oi := ⟨some 33, _, _, _, _, _⟩) (v := ?_) rfl (by kernel_rfl) (by kernel_rfl) (by kernel_rfl) (fun _ _ _ h => h) (Or.inl ⟨by rfl, ?_⟩) (by assumption) ?_
  rotate_left
  · intro w hSw; (try dsimp only at hSw); go_simp; try with_reducible rfl
  (try simp only [Act.put, List.setIfInBounds_toArray, List.set_cons_zero, List.set_cons_succ])
  refine wpAnyH_take (i := 13) (oi := ⟨some 35, _, _, _, _, _⟩) (v := ?_) rfl (by kernel_rfl) (by kernel_rfl) (by kernel_rfl) (fun _ _ _ h => h) (Or.inl ⟨by rfl, ?_⟩) (by assumption) ?_
  rotate_left
  · intro w hSw; (try dsimp only at hSw); go_simp; try with_reducible rfl
  (try simp only [Act.put, List.setIfInBounds_toArray, List.set_cons_zero, List.set_cons_succ])
  refine wpAnyH_ready (rs := [6]) (by kernel_rfl) (by simp) ?_
  refine (AllReadyH.cons (o := ⟨some 28, _, _, _, _, _⟩) rfl (fun K hK => ?_) AllReadyH.nil)
  rw [if_pos (by rfl)]
  go_simp
  go_at_call 11
  refine (writeM_any (mid_in (Bs := [_, _]) hX) OK.out HST0.out HLL.out y.dev y.pl (some ⟨g7, 0, none⟩) y.bn (y.bn + 3) y.B (Rd.blk hX (List.mem_append_right _ (.tail _ (.head _))) (by omega) (by unfold maxLen; have := HBN.out; omega) (by rw [length_bytesV, HLB.out, Nat.mul_one]) HTK.out) HLB.out (off_mid (Bs := [_, _]) hX (.tail _ (.head _)) 0 y.bn (y.bn + 3))).mono ?_
  rw [← HE.out]
  rintro _ w4 ⟨rfl, x2, h4⟩
  have hA1 : St w [] w4 (rxP gr q ++ (.blk g5 36 y.cells :: .blk g7 5 (bytesV (lentB y.B)) :: (arP ga x2 (a.write y.dev y.pl y.B) ++ R))) := mid_out (Bs := [_, _]) hX h4
  clear h4
  refine hK.out _ _ ?_ (fun hHeld => ?_)
  · exact ⟨Loads.at (P := Tryz.prog) _ hA1 rfl, Loads.at (P := Tryz.prog) _ hA1 rfl, Loads.at (P := Tryz.prog) _ hA1 rfl⟩
  clear hK K
  (try simp only [Act.put, List.setIfInBounds_toArray, List.set_cons_zero, List.set_cons_succ])
  refine wpAnyH_ready (rs := [14]) (by kernel_rfl) (by simp) ?_
  refine (AllReadyH.cons (o := ⟨some 36, _, _, _, _, _⟩) rfl (fun K hK => ?_) AllReadyH.nil)
  rw [if_pos (by rfl)]
  go_simp
  go_at_call 21
  refine (write_r (R := (.blk g5 36 y.cells :: .blk g7 5 (bytesV (lentB y.B)) :: (arP ga x2 (a.write y.dev y.pl y.B) ++ R))) hA1 RO.out y.dev y.pl y.bo y.bn y.bc y.B (fun w9 L9 h9 => Rd.old h9 HY.out.rb) HLB.out OK.out HLL.out HST0.out).mono ?_
  rw [← HE.out]
  rintro _ w5 ⟨rfl, q2, hq, h4⟩
  have hA2 : St w [] w5 (rxP gr q2 ++ (.blk g5 36 y.cells :: .blk g7 5 (bytesV (lentB y.B)) :: (arP ga x2 (a.write y.dev y.pl y.B) ++ R))) := h4
  have HQ := hid hq
  clear h4 hq
  refine hK.out _ _ ?_ (fun hHeld => ?_)
  · exact ⟨Loads.at (P := Tryz.prog) _ hA2 rfl, Loads.at (P := Tryz.prog) _ hA2 rfl, Loads.at (P := Tryz.prog) _ hA2 rfl⟩
  clear hK K
  (try simp only [Act.put, List.setIfInBounds_toArray, List.set_cons_zero, List.set_cons_succ])
  refine wpAnyH_take (i := 15) (oi := ⟨some 37, _, _, _, _, _⟩) (v := ?_) rfl (by kernel_rfl) (by kernel_rfl) (by kernel_rfl) (fun _ _ _ h => h) (Or.inl ⟨by rfl, ?_⟩) (by assumption) ?_
  rotate_left
  · intro w hSw; (try dsimp only at hSw); go_simp; try with_reducible rfl
  (try simp only [Act.put, List.setIfInBounds_toArray, List.set_cons_zero, List.set_cons_succ])
  refine wpAnyH_take (i := 16) (oi := ⟨some 38, _, _, _, _, _⟩) (v := ?_) rfl (by kernel_rfl) (by kernel_rfl) (by kernel_rfl) (fun _ _ _ h => h) (Or.inl ⟨by rfl, ?_⟩) (by assumption) ?_
  rotate_left
  · intro w hSw; (try dsimp only at hSw); go_simp; try with_reducible rfl
  (try simp only [Act.put, List.setIfInBounds_toArray, List.set_cons_zero, List.set_cons_succ])
  refine wpAnyH_take (i := 17) (oi := ⟨some 39, _, _, _, _, _⟩) (v := ?_) rfl (by kernel_rfl) (by kernel_rfl) (by kernel_rfl) (fun _ _ _ h => h) (Or.inl ⟨by rfl, ?_⟩) (by assumption) ?_
  rotate_left
  · intro w hSw; (try dsimp only at hSw); go_simp; try with_reducible rfl
  (try simp only [Act.put, List.setIfInBounds_toArray, List.set_cons_zero, List.set_cons_succ])
  refine wpAnyH_take (i := 18) (oi := ⟨some 40, _, _, _, _, _⟩) (v := ?_) rfl (by kernel_rfl) (by kernel_rfl) (by kernel_rfl) (fun _ _ _ h => h) (Or.inl ⟨by rfl, ?_⟩) (by assumption) ?_
  rotate_left
  · intro w hSw; (try dsimp only at hSw); go_simp; try with_reducible rfl
  (try simp only [Act.put, List.setIfInBounds_toArray, List.set_cons_zero, List.set_cons_succ])
  refine wpAnyH_take (i := 19) (oi := ⟨some 41, _, _, _, _, _⟩) (v := ?_) rfl (by kernel_rfl) (by kernel_rfl) (by kernel_rfl) (fun _ _ _ h => h) (Or.inl ⟨by rfl, ?_⟩) (by assumption) ?_
  rotate_left
  · intro w hSw; (try dsimp only at hSw); go_simp; try with_reducible rfl
  (try simp only [Act.put, List.setIfInBounds_toArray, List.set_cons_zero, List.set_cons_succ])
  refine wpAnyH_ready (rs := [20]) (by kernel_rfl) (by simp) ?_
  refine (AllReadyH.cons (o := ⟨some 42, _, _, _, _, _⟩) rfl (fun K hK => ?_) AllReadyH.nil)
  rw [if_pos (by rfl)]
  go_simp
  go_at_call 22
  refine (kept_any y.bo g7 y.bn y.bc y.B _ _ w hA2 (List.mem_append_right _ (.tail _ (.head _))) (Rd.old hA2 HY.out.rb) HLB.out (by have := HBN.out; omega)).mono ?_
  rintro _ w6 ⟨rfl, h4⟩
  have hA3 := St.call0 hA2 h4
  clear h4
  refine hK.out _ _ ?_ (fun hHeld => ?_)
  · exact ⟨Loads.at (P := Tryz.prog) _ hA3 rfl, Loads.at (P := Tryz.prog) _ hA3 rfl, Loads.at (P := Tryz.prog) _ hA3 rfl⟩
  clear hK K
  (try simp only [Act.put, List.setIfInBounds_toArray, List.set_cons_zero, List.set_cons_succ])
  refine wpAnyH_take (i := 21) (oi := ⟨some 43, _, _, _, _, _⟩) (v := ?_) rfl (by kernel_rfl) (by kernel_rfl) (by kernel_rfl) (fun _ _ _ h => h) (Or.inl ⟨by rfl, ?_⟩) (by assumption) ?_
  rotate_left
  · intro w hSw; (try dsimp only at hSw); go_simp; try with_reducible rfl
  (try simp only [Act.put, List.setIfInBounds_toArray, List.set_cons_zero, List.set_cons_succ])
  refine wpAnyH_take (i := 22) (oi := ⟨some 8, _, _, _, _, _⟩) (v := ?_) rfl (by kernel_rfl) (by kernel_rfl) (by kernel_rfl) (fun _ _ _ h => h) (Or.inl ⟨by rfl, ?_⟩) (by assumption) ?_
  rotate_left
  · intro w hSw; (try dsimp only at hSw); go_simp; try with_reducible rfl
  (try simp only [Act.put, List.setIfInBounds_toArray, List.set_cons_zero, List.set_cons_succ])
  refine wpAnyH_done (by kernel_rfl) ?_ _
  clear hHeld
  go_wp2_with (first | go_big_skip | go_big_guard | (go_at_call 23; refine (over_blkL g7 y.bn (y.bn + 3) (lentB y.B) _ (St.all hA3 (.blk g7 5 (bytesV (lentB y.B))) (List.mem_append_right _ (.tail _ (.head _)))) (by rw [length_lentB, HLB.out]) (by rw [length_lentB, HLB.out]; omega) (by rw [length_lentB, HLB.out]; have := HBN.out; omega)).mono ?_; rintro _ w7 ⟨rfl, h4⟩; have hst9 := St.sub (St.call1 [] (get2 hA3) h4) (List.sublist_cons_self _ _); clear h4))
  go_ret
  exact ⟨(a.write y.dev y.pl y.B), rfl, x2, (a.write y.dev y.pl y.B), q2, rfl, HNX.out, HQ.out, off_g5 hst9⟩
theorem does_1 {w : World} {w1 : World} {R : List HA} {gr ga : Nat} {a : AR} {x : GA} {q : RX} (y : AC) (hS : St w [] w1 (rxP gr q ++ (arP ga x a ++ R))) (ro : RefOk a q) (ok : a.Ok) (hll : a.loose.length < 1000000) (hst0 : 0 ≤ a.steps ∧ a.steps < 4611686018427387904) (h0 : 0 < a.secs) (hy : y.Ok w) (hbn : y.bn ≤ 300) (hkn : y.kn ≤ 200) (hk : y.k = 1) : Calls Tryz.prog 8 #[.pointer (some ⟨ga, 0, none⟩), .pointer (some ⟨gr, 0, none⟩), .agg (List.toArray y.cells)] w1 fun e w' => ∃ b, e = .returned (.bool true) ∧ ∃ (x' : GA) (a' : AR) (q' : RX), b = a' ∧ Next a a' ∧ RefOk a' q' ∧ St w [] w' (rxP gr q' ++ (arP ga x' a' ++ R)) := by
  have hst := hS
  have RO := hid ro
  have OK := hid ok
  have HLL := hid hll
  have H0 := hid h0
  have HY := hid hy
  have HST0 := hid hst0
  have HBN := hid hbn
  have HKN := hid hkn
  have HLB := hid hy.lb
  have HLK := hid hy.lk
  have e0 : (y.k == 0) = false := by rw [hk]; rfl
  have e1 : (y.k == 1) = true := by rw [hk]; rfl
  have HNX : Hid (Next a (a.flush y.dev)) := hid ⟨ok.flush _, Stays.flush _ _⟩
  obtain ⟨E, hE⟩ : ∃ E, E = a.flushE y.dev := ⟨_, rfl⟩
  have HE := hid hE
  have eE : (E == E) = true := beq_self_eq_true E
  clear hS ro ok hll h0 hy hk hE hst0 hbn hkn
  go_enter Tryz.func8, Tryz.ntmps8
  go_wp2_with (first | go_big_skip | go_big_guard | (refine wl_boxA hst rfl rfl rfl ?_; intro g5 w2 hst1; clear hst; have hst2 : St w [] w2 (rxP gr q ++ (.blk g5 36 y.cells :: (arP ga x a ++ R))) := St.perm hst1 List.perm_middle.symm; clear hst1) | (refine wl_loadE rfl rfl rfl ?_; refine ⟨_, Loads.at (P := Tryz.prog) _ hst2 rfl, ?_⟩))
  have hX := hst2.drew
  clear hst2
  refine wp_region_held_drew (S := (fun w' => (loadVarH 3 ⟨g5, 1, none⟩).run Tryz.prog w' = .ok (.int .i64 y.dev) w')) (by kernel_rfl) (by exact Loads.at (P := Tryz.prog) _ hX rfl) (fun hHeld => ?_)
  refine wpAnyH_take (i := 0) (oi := ⟨some 49, _, _, _, _, _⟩) (v := ?_) rfl (by kernel_rfl) (by kernel_rfl) (by kernel_rfl) (fun _ _ _ h => h) (Or.inl ⟨by rfl, ?_⟩) (by assumption) ?_
  rotate_left
  · intro w hSw; (try dsimp only at hSw); go_simp; try with_reducible rfl
  (try simp only [Act.put, List.setIfInBounds_toArray, List.set_cons_zero, List.set_cons_succ])
  refine wpAnyH_take (i := 1) (oi := ⟨some 50, _, _, _, _, _⟩) (v := ?_) rfl (by kernel_rfl) (by kernel_rfl) (by kernel_rfl) (fun _ _ _ h => h) (Or.inl ⟨by rfl, ?_⟩) (by assumption) ?_
  rotate_left
  · intro w hSw; (try dsimp only at hSw); go_simp; try with_reducible rfl
  (try simp only [Act.put, List.setIfInBounds_toArray, List.set_cons_zero, List.set_cons_succ])
  refine wpAnyH_take (i := 4) (oi := ⟨some 53, _, _, _, _, _⟩) (v := ?_) rfl (by kernel_rfl) (by kernel_rfl) (by kernel_rfl) (fun _ _ _ h => h) (Or.inl ⟨by rfl, ?_⟩) (by assumption) ?_
  rotate_left
  · intro w hSw; (try dsimp only at hSw); go_simp; try with_reducible rfl
  (try simp only [Act.put, List.setIfInBounds_toArray, List.set_cons_zero, List.set_cons_succ])
  refine wpAnyH_take (i := 5) (oi := ⟨some 54, _, _, _, _, _⟩) (v := ?_) rfl (by kernel_rfl) (by kernel_rfl) (by kernel_rfl) (fun _ _ _ h => h) (Or.inl ⟨by rfl, ?_⟩) (by assumption) ?_
  rotate_left
  · intro w hSw; (try dsimp only at hSw); go_simp; try with_reducible rfl
  (try simp only [Act.put, List.setIfInBounds_toArray, List.set_cons_zero, List.set_cons_succ])
  refine wpAnyH_take (i := 2) (oi := ⟨some 51, _, _, _, _, _⟩) (v := ?_) rfl (by kernel_rfl) (by kernel_rfl) (by kernel_rfl) (fun _ _ _ h => h) (Or.inl ⟨by rfl, ?_⟩) (by assumption) ?_
  rotate_left
  · intro w hSw; (try dsimp only at hSw); go_simp; try with_reducible rfl
  (try simp only [Act.put, List.setIfInBounds_toArray, List.set_cons_zero, List.set_cons_succ])
  refine wpAnyH_take (i := 6) (oi := ⟨some 55, _, _, _, _, _⟩) (v := ?_) rfl (by kernel_rfl) (by kernel_rfl) (by kernel_rfl) (fun _ _ _ h => h) (Or.inl ⟨by rfl, ?_⟩) (by assumption) ?_
  rotate_left
  · intro w hSw; (try dsimp only at hSw); go_simp; try with_reducible rfl
  (try simp only [Act.put, List.setIfInBounds_toArray, List.set_cons_zero, List.set_cons_succ])
  refine wpAnyH_ready (rs := [3]) (by kernel_rfl) (by simp) ?_
  refine (AllReadyH.cons (o := ⟨some 52, _, _, _, _, _⟩) rfl (fun K hK => ?_) AllReadyH.nil)
  rw [if_pos (by rfl)]
  go_simp
  go_at_call 16
  refine (flushM_any (mid_in (Bs := [_]) hX) OK.out HST0.out HLL.out y.dev).mono ?_
  rw [← HE.out]
  rintro _ w4 ⟨rfl, x2, h4⟩
  have hA1 : St w [] w4 (rxP gr q ++ (.blk g5 36 y.cells :: (arP ga x2 (a.flush y.dev) ++ R))) := mid_out (Bs := [_]) hX h4
  clear h4
  refine hK.out _ _ ?_ (fun hHeld => ?_)
  · exact Loads.at (P := Tryz.prog) _ hA1 rfl
  clear hK K
  (try simp only [Act.put, List.setIfInBounds_toArray, List.set_cons_zero, List.set_cons_succ])
  refine wpAnyH_ready (rs := [7]) (by kernel_rfl) (by simp) ?_
  refine (AllReadyH.cons (o := ⟨some 56, _, _, _, _, _⟩) rfl (fun K hK => ?_) AllReadyH.nil)
  rw [if_pos (by rfl)]
  go_simp
  go_at_call 24
  refine (flush_r (R := (.blk g5 36 y.cells :: (arP ga x2 (a.flush y.dev) ++ R))) hA1 RO.out y.dev OK.out HLL.out HST0.out).mono ?_
  rw [← HE.out]
  rintro _ w5 ⟨rfl, q2, hq, h4⟩
  have hA2 : St w [] w5 (rxP gr q2 ++ (.blk g5 36 y.cells :: (arP ga x2 (a.flush y.dev) ++ R))) := h4
  have HQ := hid hq
  clear h4 hq
  refine hK.out _ _ ?_ (fun hHeld => ?_)
  · exact Loads.at (P := Tryz.prog) _ hA2 rfl
  clear hK K
  (try simp only [Act.put, List.setIfInBounds_toArray, List.set_cons_zero, List.set_cons_succ])
  refine wpAnyH_take (i := 8) (oi := ⟨some 57, _, _, _, _, _⟩) (v := ?_) rfl (by kernel_rfl) (by kernel_rfl) (by kernel_rfl) (fun _ _ _ h => h) (Or.inl ⟨by rfl, ?_⟩) (by assumption) ?_
  rotate_left
  · intro w hSw; (try dsimp only at hSw); go_simp; try with_reducible rfl
  (try simp only [Act.put, List.setIfInBounds_toArray, List.set_cons_zero, List.set_cons_succ])
  refine wpAnyH_take (i := 9) (oi := ⟨some 6, _, _, _, _, _⟩) (v := ?_) rfl (by kernel_rfl) (by kernel_rfl) (by kernel_rfl) (fun _ _ _ h => h) (Or.inl ⟨by rfl, ?_⟩) (by assumption) ?_
  rotate_left
  · intro w hSw; (try dsimp only at hSw); go_simp; try with_reducible rfl
  (try simp only [Act.put, List.setIfInBounds_toArray, List.set_cons_zero, List.set_cons_succ])
  refine wpAnyH_done (by kernel_rfl) ?_ _
  clear hHeld
  go_wp2_with (first | go_big_skip | go_big_guard | fail)
  go_ret
  exact ⟨(a.flush y.dev), rfl, x2, (a.flush y.dev), q2, rfl, HNX.out, HQ.out, off_g5 hA2⟩
theorem does_2 {w : World} {w1 : World} {R : List HA} {gr ga : Nat} {a : AR} {x : GA} {q : RX} (y : AC) (hS : St w [] w1 (rxP gr q ++ (arP ga x a ++ R))) (ro : RefOk a q) (ok : a.Ok) (hll : a.loose.length < 1000000) (hst0 : 0 ≤ a.steps ∧ a.steps < 4611686018427387904) (h0 : 0 < a.secs) (hy : y.Ok w) (hbn : y.bn ≤ 300) (hkn : y.kn ≤ 200) (hk : y.k = 2) : Calls Tryz.prog 8 #[.pointer (some ⟨ga, 0, none⟩), .pointer (some ⟨gr, 0, none⟩), .agg (List.toArray y.cells)] w1 fun e w' => ∃ b, e = .returned (.bool true) ∧ ∃ (x' : GA) (a' : AR) (q' : RX), b = a' ∧ Next a a' ∧ RefOk a' q' ∧ St w [] w' (rxP gr q' ++ (arP ga x' a' ++ R)) := by
  have hst := hS
  have RO := hid ro
  have OK := hid ok
  have HLL := hid hll
  have H0 := hid h0
  have HY := hid hy
  have HST0 := hid hst0
  have HBN := hid hbn
  have HKN := hid hkn
  have HLB := hid hy.lb
  have HLK := hid hy.lk
  have e0 : (y.k == 0) = false := by rw [hk]; rfl
  have e1 : (y.k == 1) = false := by rw [hk]; rfl
  have e2 : (y.k == 2) = true := by rw [hk]; rfl
  have HNX : Hid (Next a (a.read y.dev y.pl)) := hid ⟨ok.read _ _, Stays.read _ _ _⟩
  obtain ⟨E, hE⟩ : ∃ E, E = a.readE y.dev y.pl := ⟨_, rfl⟩
  have HE := hid hE
  obtain ⟨BB9, hB9⟩ : ∃ BB9, BB9 = a.readB y.dev y.pl := ⟨_, rfl⟩
  have HB9 := hid hB9
  have eE : (E == E) = true := beq_self_eq_true E
  have eB : (BB9 == BB9) = true := beq_self_eq_true BB9
  clear hS ro ok hll h0 hy hk hE hB9 hst0 hbn hkn
  go_enter Tryz.func8, Tryz.ntmps8
  go_wp2_with (first | go_big_skip | go_big_guard | (refine wl_boxA hst rfl rfl rfl ?_; intro g5 w2 hst1; clear hst; have hst2 : St w [] w2 (rxP gr q ++ (.blk g5 36 y.cells :: (arP ga x a ++ R))) := St.perm hst1 List.perm_middle.symm; clear hst1) | (refine wl_loadE rfl rfl rfl ?_; first | refine ⟨_, Loads.at (P := Tryz.prog) _ hst2 rfl, ?_⟩ | refine ⟨_, Loads.at (P := Tryz.prog) _ hst3 rfl, ?_⟩) | (go_at_call 25; refine (readM_anyP (mid_in (Bs := [_]) hst2) OK.out HLL.out y.dev y.pl).mono ?_; rw [← HE.out, ← HB9.out]; rintro _ w3 ⟨u, rfl, h4⟩; have hst3 : St w [] w3 (rxP gr q ++ (.blk g5 36 y.cells :: .rowP isB u 5 1 BB9.length (bytesV BB9) :: (arP ga x (a.read y.dev y.pl) ++ R))) := put2 (mid_outp (Q := [_]) (Bs := [_]) hst2 h4); clear h4 hst2) | (go_at_call 26; refine (read_r (R := .blk g5 36 y.cells :: .rowP isB u 5 1 BB9.length (bytesV BB9) :: (arP ga x (a.read y.dev y.pl) ++ R)) hst3 RO.out y.dev y.pl OK.out HLL.out).mono ?_; rw [← HE.out, ← HB9.out]; rintro _ w4 ⟨v, q2, rfl, hq, h4⟩; have hst4 : St w [] w4 (.row v 5 1 BB9.length (bytesV BB9) :: (rxP gr q2 ++ (.blk g5 36 y.cells :: .rowP isB u 5 1 BB9.length (bytesV BB9) :: (arP ga x (a.read y.dev y.pl) ++ R)))) := h4; have HQ := hid hq; clear h4 hq hst3) | (go_at_call 27; refine (sameBytes_any u v BB9.length BB9.length BB9 BB9 _ (Rd.rowP hst4 (.tail _ (List.mem_append_right _ (.tail _ (.head _))))) (Rd.row hst4 (.head _))).mono ?_; rw [beq_self_eq_true]; rintro _ w5 ⟨rfl, h4⟩; have hst5 : St w [] w5 (.rowP isB u 5 1 BB9.length (bytesV BB9) :: (rxP gr q2 ++ (.blk g5 36 y.cells :: (arP ga x (a.read y.dev y.pl) ++ R)))) := get2 (St.sub (St.call0 hst4 h4) (List.sublist_cons_self _ _)); clear h4 hst4) | (go_at_call 23; refine (over_rowP u BB9.length (bytesV BB9) _ (St.ownsP hst5 (.head _)).1 (St.ownsP hst5 (.head _)).2).mono ?_; rintro _ w6 ⟨rfl, h4⟩; have hst6 := St.callRowP hst5 h4; clear h4 hst5))
  go_ret
  exact ⟨_, rfl, x, _, q2, rfl, HNX.out, HQ.out, off_g5 hst6⟩
theorem does_3 {w : World} {w1 : World} {R : List HA} {gr ga : Nat} {a : AR} {x : GA} {q : RX} (y : AC) (hS : St w [] w1 (rxP gr q ++ (arP ga x a ++ R))) (ro : RefOk a q) (ok : a.Ok) (hll : a.loose.length < 1000000) (hst0 : 0 ≤ a.steps ∧ a.steps < 4611686018427387904) (h0 : 0 < a.secs) (hy : y.Ok w) (hbn : y.bn ≤ 300) (hkn : y.kn ≤ 200) (hk : y.k = 3) : Calls Tryz.prog 8 #[.pointer (some ⟨ga, 0, none⟩), .pointer (some ⟨gr, 0, none⟩), .agg (List.toArray y.cells)] w1 fun e w' => ∃ b, e = .returned (.bool true) ∧ ∃ (x' : GA) (a' : AR) (q' : RX), b = a' ∧ Next a a' ∧ RefOk a' q' ∧ St w [] w' (rxP gr q' ++ (arP ga x' a' ++ R)) := by
  have hst := hS
  have RO := hid ro
  have OK := hid ok
  have HLL := hid hll
  have H0 := hid h0
  have HY := hid hy
  have HST0 := hid hst0
  have HBN := hid hbn
  have HKN := hid hkn
  have HLB := hid hy.lb
  have HLK := hid hy.lk
  have e0 : (y.k == 0) = false := by rw [hk]; rfl
  have e1 : (y.k == 1) = false := by rw [hk]; rfl
  have e2 : (y.k == 2) = false := by rw [hk]; rfl
  have e3 : (y.k == 3) = true := by rw [hk]; rfl
  have HNX : Hid (Next a (a.crash y.K y.n)) := hid ⟨ok.crash _ _, Stays.crash ok _ _⟩
  obtain ⟨E, hE⟩ : ∃ E, E = a.crashE y.n := ⟨_, rfl⟩
  have HE := hid hE
  have eE : (E == E) = true := beq_self_eq_true E
  have HTK : Hid (((boolsV (lentL y.K)).drop 0).take (boolsV y.K).length = boolsV y.K) := hid (by rw [List.drop_zero, lentL_V, List.take_left])
  clear hS ro ok hll h0 hy hk hE hst0 hbn hkn
  go_enter Tryz.func8, Tryz.ntmps8
  go_wp2_with (first | go_big_skip | go_big_guard | (refine wl_boxA hst rfl rfl rfl ?_; intro g5 w2 hst1; clear hst; have hst2 : St w [] w2 (rxP gr q ++ (.blk g5 36 y.cells :: (arP ga x a ++ R))) := St.perm hst1 List.perm_middle.symm; clear hst1) | (refine wl_loadE rfl rfl rfl ?_; refine ⟨_, Loads.at (P := Tryz.prog) _ hst2 rfl, ?_⟩) | (go_at_call 28; refine (lentL_any y.ko y.kn y.kc y.K _ (Rd.old hst2 HY.out.rk) HLK.out (by have := HKN.out; omega)).mono ?_; rintro _ w3 ⟨g7, rfl, h4⟩; have hst3 : St w [] w3 (rxP gr q ++ (.blk g5 36 y.cells :: .blk g7 4 (boolsV (lentL y.K)) :: (arP ga x a ++ R))) := put2 (St.call hst2 h4); clear h4 hst2))
  have hX := hst3.drew
  clear hst3
  refine wp_region_held_drew (S := (fun w' => (loadVarH 3 ⟨g5, 3, none⟩).run Tryz.prog w' = .ok (.int .i64 y.n) w' ∧ (loadVarH 34 ⟨g5, 6, none⟩).run Tryz.prog w' = .ok (.slice y.ko y.kn y.kc) w')) (by kernel_rfl) (by exact ⟨Loads.at (P := Tryz.prog) _ hX rfl, Loads.at (P := Tryz.prog) _ hX rfl⟩) (fun hHeld => ?_)
  refine wpAnyH_take (i := 0) (oi := ⟨some 94, _, _, _, _, _⟩) (v := ?_) rfl (by kernel_rfl) (by kernel_rfl) (by kernel_rfl) (fun _ _ _ h => h) (Or.inl ⟨by rfl, ?_⟩) (by assumption) ?_
  rotate_left
  · intro w hSw; (try dsimp only at hSw); go_simp; try with_reducible rfl
  (try simp only [Act.put, List.setIfInBounds_toArray, List.set_cons_zero, List.set_cons_succ])
  refine wpAnyH_take (i := 1) (oi := ⟨some 95, _, _, _, _, _⟩) (v := ?_) rfl (by kernel_rfl) (by kernel_rfl) (by kernel_rfl) (fun _ _ _ h => h) (Or.inl ⟨by rfl, ?_⟩) (by assumption) ?_
  rotate_left
  · intro w hSw; (try dsimp only at hSw); go_simp; try with_reducible rfl
  (try simp only [Act.put, List.setIfInBounds_toArray, List.set_cons_zero, List.set_cons_succ])
  refine wpAnyH_take (i := 2) (oi := ⟨some 96, _, _, _, _, _⟩) (v := ?_) rfl (by kernel_rfl) (by kernel_rfl) (by kernel_rfl) (fun _ _ _ h => h) (Or.inl ⟨by rfl, ?_⟩) (by assumption) ?_
  rotate_left
  · intro w hSw; (try dsimp only at hSw); go_simp; try with_reducible rfl
  (try simp only [Act.put, List.setIfInBounds_toArray, List.set_cons_zero, List.set_cons_succ])
  refine wpAnyH_take (i := 5) (oi := ⟨some 99, _, _, _, _, _⟩) (v := ?_) rfl (by kernel_rfl) (by kernel_rfl) (by kernel_rfl) (fun _ _ _ h => h) (Or.inl ⟨by rfl, ?_⟩) (by assumption) ?_
  rotate_left
  · intro w hSw; (try dsimp only at hSw); go_simp; try with_reducible rfl
  (try simp only [Act.put, List.setIfInBounds_toArray, List.set_cons_zero, List.set_cons_succ])
  refine wpAnyH_take (i := 6) (oi := ⟨some 100, _, _, _, _, _⟩) (v := ?_) rfl (by kernel_rfl) (by kernel_rfl) (by kernel_rfl) (fun _ _ _ h => h) (Or.inl ⟨by rfl, ?_⟩) (by assumption) ?_
  rotate_left
  · intro w hSw; (try dsimp only at hSw); go_simp; try with_reducible rfl
  (try simp only [Act.put, List.setIfInBounds_toArray, List.set_cons_zero, List.set_cons_succ])
  refine wpAnyH_take (i := 8) (oi := ⟨some 102, _, _, _, _, _⟩) (v := ?_) rfl (by kernel_rfl) (by kernel_rfl) (by kernel_rfl) (fun _ _ _ h => h) (Or.inl ⟨by rfl, ?_⟩) (by assumption) ?_
  rotate_left
  · intro w hSw; (try dsimp only at hSw); go_simp; try with_reducible rfl
  (try simp only [Act.put, List.setIfInBounds_toArray, List.set_cons_zero, List.set_cons_succ])
  refine wpAnyH_take (i := 3) (oi := ⟨some 97, _, _, _, _, _⟩) (v := ?_) rfl (by kernel_rfl) (by kernel_rfl) (by kernel_rfl) (fun _ _ _ h => h) (Or.inl ⟨by rfl, ?_⟩) (by assumption) ?_
  rotate_left
  · intro w hSw; (try dsimp only at hSw); go_simp; try with_reducible rfl
  (try simp only [Act.put, List.setIfInBounds_toArray, List.set_cons_zero, List.set_cons_succ])
  refine wpAnyH_take (i := 7) (oi := ⟨some 101, _, _, _, _, _⟩) (v := ?_) rfl (by kernel_rfl) (by kernel_rfl) (by kernel_rfl) (fun _ _ _ h => h) (Or.inl ⟨by rfl, ?_⟩) (by assumption) ?_
  rotate_left
  · intro w hSw; (try dsimp only at hSw); go_simp; try with_reducible rfl
  (try simp only [Act.put, List.setIfInBounds_toArray, List.set_cons_zero, List.set_cons_succ])
  refine wpAnyH_take (i := 9) (oi := ⟨some 103, _, _, _, _, _⟩) (v := ?_) rfl (by kernel_rfl) (by kernel_rfl) (by kernel_rfl) (fun _ _ _ h => h) (Or.inl ⟨by rfl, ?_⟩) (by assumption) ?_
  rotate_left
  · intro w hSw; (try dsimp only at hSw); go_simp; try with_reducible rfl
  (try simp only [Act.put, List.setIfInBounds_toArray, List.set_cons_zero, List.set_cons_succ])
  refine wpAnyH_ready (rs := [4]) (by kernel_rfl) (by simp) ?_
  refine (AllReadyH.cons (o := ⟨some 98, _, _, _, _, _⟩) rfl (fun K hK => ?_) AllReadyH.nil)
  rw [if_pos (by rfl)]
  go_simp
  go_at_call 15
  refine (crashM_any (mid_in (Bs := [_, _]) hX) OK.out HLL.out (some ⟨g7, 0, none⟩) y.kn (y.kn + 3) y.K (Rd.blk hX (List.mem_append_right _ (.tail _ (.head _))) (by omega) (by unfold maxLen; have := HKN.out; omega) (by rw [boolsV_len, HLK.out, Nat.mul_one]) HTK.out) HLK.out (off_mid (Bs := [_, _]) hX (.tail _ (.head _)) 0 y.kn (y.kn + 3)) y.n).mono ?_
  rw [← HE.out]
  rintro _ w4 ⟨rfl, x2, h4⟩
  have hA1 : St w [] w4 (rxP gr q ++ (.blk g5 36 y.cells :: .blk g7 4 (boolsV (lentL y.K)) :: (arP ga x2 (a.crash y.K y.n) ++ R))) := mid_out (Bs := [_, _]) hX h4
  clear h4
  refine hK.out _ _ ?_ (fun hHeld => ?_)
  · exact ⟨Loads.at (P := Tryz.prog) _ hA1 rfl, Loads.at (P := Tryz.prog) _ hA1 rfl⟩
  clear hK K
  (try simp only [Act.put, List.setIfInBounds_toArray, List.set_cons_zero, List.set_cons_succ])
  refine wpAnyH_ready (rs := [10]) (by kernel_rfl) (by simp) ?_
  refine (AllReadyH.cons (o := ⟨some 104, _, _, _, _, _⟩) rfl (fun K hK => ?_) AllReadyH.nil)
  rw [if_pos (by rfl)]
  go_simp
  go_at_call 29
  refine (crash_r (R := (.blk g5 36 y.cells :: .blk g7 4 (boolsV (lentL y.K)) :: (arP ga x2 (a.crash y.K y.n) ++ R))) hA1 RO.out y.ko y.kn y.kc y.K (fun w9 L9 h9 => Rd.old h9 HY.out.rk) HLK.out y.n OK.out HLL.out).mono ?_
  rw [← HE.out]
  rintro _ w5 ⟨rfl, q2, hq, h4⟩
  have hA2 : St w [] w5 (rxP gr q2 ++ (.blk g5 36 y.cells :: .blk g7 4 (boolsV (lentL y.K)) :: (arP ga x2 (a.crash y.K y.n) ++ R))) := h4
  have HQ := hid hq
  clear h4 hq
  refine hK.out _ _ ?_ (fun hHeld => ?_)
  · exact ⟨Loads.at (P := Tryz.prog) _ hA2 rfl, Loads.at (P := Tryz.prog) _ hA2 rfl⟩
  clear hK K
  (try simp only [Act.put, List.setIfInBounds_toArray, List.set_cons_zero, List.set_cons_succ])
  refine wpAnyH_take (i := 11) (oi := ⟨some 105, _, _, _, _, _⟩) (v := ?_) rfl (by kernel_rfl) (by kernel_rfl) (by kernel_rfl) (fun _ _ _ h => h) (Or.inl ⟨by rfl, ?_⟩) (by assumption) ?_
  rotate_left
  · intro w hSw; (try dsimp only at hSw); go_simp; try with_reducible rfl
  (try simp only [Act.put, List.setIfInBounds_toArray, List.set_cons_zero, List.set_cons_succ])
  refine wpAnyH_take (i := 12) (oi := ⟨some 106, _, _, _, _, _⟩) (v := ?_) rfl (by kernel_rfl) (by kernel_rfl) (by kernel_rfl) (fun _ _ _ h => h) (Or.inl ⟨by rfl, ?_⟩) (by assumption) ?_
  rotate_left
  · intro w hSw; (try dsimp only at hSw); go_simp; try with_reducible rfl
  (try simp only [Act.put, List.setIfInBounds_toArray, List.set_cons_zero, List.set_cons_succ])
  refine wpAnyH_take (i := 13) (oi := ⟨some 107, _, _, _, _, _⟩) (v := ?_) rfl (by kernel_rfl) (by kernel_rfl) (by kernel_rfl) (fun _ _ _ h => h) (Or.inl ⟨by rfl, ?_⟩) (by assumption) ?_
  rotate_left
  · intro w hSw; (try dsimp only at hSw); go_simp; try with_reducible rfl
  (try simp only [Act.put, List.setIfInBounds_toArray, List.set_cons_zero, List.set_cons_succ])
  refine wpAnyH_take (i := 14) (oi := ⟨some 108, _, _, _, _, _⟩) (v := ?_) rfl (by kernel_rfl) (by kernel_rfl) (by kernel_rfl) (fun _ _ _ h => h) (Or.inl ⟨by rfl, ?_⟩) (by assumption) ?_
  rotate_left
  · intro w hSw; (try dsimp only at hSw); go_simp; try with_reducible rfl
  (try simp only [Act.put, List.setIfInBounds_toArray, List.set_cons_zero, List.set_cons_succ])
  refine wpAnyH_take (i := 15) (oi := ⟨some 109, _, _, _, _, _⟩) (v := ?_) rfl (by kernel_rfl) (by kernel_rfl) (by kernel_rfl) (fun _ _ _ h => h) (Or.inl ⟨by rfl, ?_⟩) (by assumption) ?_
  rotate_left
  · intro w hSw; (try dsimp only at hSw); go_simp; try with_reducible rfl
  (try simp only [Act.put, List.setIfInBounds_toArray, List.set_cons_zero, List.set_cons_succ])
  refine wpAnyH_ready (rs := [16]) (by kernel_rfl) (by simp) ?_
  refine (AllReadyH.cons (o := ⟨some 110, _, _, _, _, _⟩) rfl (fun K hK => ?_) AllReadyH.nil)
  rw [if_pos (by rfl)]
  go_simp
  go_at_call 30
  refine (keptL_any y.ko g7 y.kn y.kc y.K _ _ w [] hA2 (List.mem_append_right _ (.tail _ (.head _))) (Rd.old hA2 HY.out.rk) HLK.out (by have := HKN.out; omega)).mono ?_
  rintro _ w6 ⟨rfl, h4⟩
  have hA3 := St.call0 hA2 h4
  clear h4
  refine hK.out _ _ ?_ (fun hHeld => ?_)
  · exact ⟨Loads.at (P := Tryz.prog) _ hA3 rfl, Loads.at (P := Tryz.prog) _ hA3 rfl⟩
  clear hK K
  (try simp only [Act.put, List.setIfInBounds_toArray, List.set_cons_zero, List.set_cons_succ])
  refine wpAnyH_take (i := 17) (oi := ⟨some 111, _, _, _, _, _⟩) (v := ?_) rfl (by kernel_rfl) (by kernel_rfl) (by kernel_rfl) (fun _ _ _ h => h) (Or.inl ⟨by rfl, ?_⟩) (by assumption) ?_
  rotate_left
  · intro w hSw; (try dsimp only at hSw); go_simp; try with_reducible rfl
  (try simp only [Act.put, List.setIfInBounds_toArray, List.set_cons_zero, List.set_cons_succ])
  refine wpAnyH_take (i := 18) (oi := ⟨some 6, _, _, _, _, _⟩) (v := ?_) rfl (by kernel_rfl) (by kernel_rfl) (by kernel_rfl) (fun _ _ _ h => h) (Or.inl ⟨by rfl, ?_⟩) (by assumption) ?_
  rotate_left
  · intro w hSw; (try dsimp only at hSw); go_simp; try with_reducible rfl
  (try simp only [Act.put, List.setIfInBounds_toArray, List.set_cons_zero, List.set_cons_succ])
  refine wpAnyH_done (by kernel_rfl) ?_ _
  clear hHeld
  go_wp2_with (first | go_big_skip | go_big_guard | fail)
  go_ret
  exact ⟨(a.crash y.K y.n), rfl, x2, (a.crash y.K y.n), q2, rfl, HNX.out, HQ.out, off_g5 (St.sub (get2 hA3) (List.sublist_cons_self _ _))⟩
theorem does_4 {w : World} {w1 : World} {R : List HA} {gr ga : Nat} {a : AR} {x : GA} {q : RX} (y : AC) (hS : St w [] w1 (rxP gr q ++ (arP ga x a ++ R))) (ro : RefOk a q) (ok : a.Ok) (hll : a.loose.length < 1000000) (hst0 : 0 ≤ a.steps ∧ a.steps < 4611686018427387904) (h0 : 0 < a.secs) (hy : y.Ok w) (hbn : y.bn ≤ 300) (hkn : y.kn ≤ 200) (hk : y.k = 4) : Calls Tryz.prog 8 #[.pointer (some ⟨ga, 0, none⟩), .pointer (some ⟨gr, 0, none⟩), .agg (List.toArray y.cells)] w1 fun e w' => ∃ b, e = .returned (.bool true) ∧ ∃ (x' : GA) (a' : AR) (q' : RX), b = a' ∧ Next a a' ∧ RefOk a' q' ∧ St w [] w' (rxP gr q' ++ (arP ga x' a' ++ R)) := by
  have hst := hS
  have RO := hid ro
  have OK := hid ok
  have HLL := hid hll
  have H0 := hid h0
  have HY := hid hy
  have HST0 := hid hst0
  have HBN := hid hbn
  have HKN := hid hkn
  have HLB := hid hy.lb
  have HLK := hid hy.lk
  have e0 : (y.k == 0) = false := by rw [hk]; rfl
  have e1 : (y.k == 1) = false := by rw [hk]; rfl
  have e2 : (y.k == 2) = false := by rw [hk]; rfl
  have e3 : (y.k == 3) = false := by rw [hk]; rfl
  have e4 : (y.k == 4) = true := by rw [hk]; rfl
  have HNX : Hid (Next a (a.fused y.n)) := hid ⟨ok.fused hy.n.2, Stays.fused _ _⟩
  obtain ⟨E, hE⟩ : ∃ E, E = a.fuseE y.n := ⟨_, rfl⟩
  have HE := hid hE
  have eE : (E == E) = true := beq_self_eq_true E
  clear hS ro ok hll h0 hy hk hE hst0 hbn hkn
  go_enter Tryz.func8, Tryz.ntmps8
  go_wp2_with (first | go_big_skip | go_big_guard | (refine wl_boxA hst rfl rfl rfl ?_; intro g5 w2 hst1; clear hst; have hst2 : St w [] w2 (rxP gr q ++ (.blk g5 36 y.cells :: (arP ga x a ++ R))) := St.perm hst1 List.perm_middle.symm; clear hst1) | (refine wl_loadE rfl rfl rfl ?_; refine ⟨_, Loads.at (P := Tryz.prog) _ hst2 rfl, ?_⟩))
  have hX := hst2.drew
  clear hst2
  refine wp_region_held_drew (S := (fun w' => (loadVarH 3 ⟨g5, 3, none⟩).run Tryz.prog w' = .ok (.int .i64 y.n) w')) (by kernel_rfl) (by exact Loads.at (P := Tryz.prog) _ hX rfl) (fun hHeld => ?_)
  refine wpAnyH_take (i := 0) (oi := ⟨some 114, _, _, _, _, _⟩) (v := ?_) rfl (by kernel_rfl) (by kernel_rfl) (by kernel_rfl) (fun _ _ _ h => h) (Or.inl ⟨by rfl, ?_⟩) (by assumption) ?_
  rotate_left
  · intro w hSw; (try dsimp only at hSw); go_simp; try with_reducible rfl
  (try simp only [Act.put, List.setIfInBounds_toArray, List.set_cons_zero, List.set_cons_succ])
  refine wpAnyH_take (i := 1) (oi := ⟨some 115, _, _, _, _, _⟩) (v := ?_) rfl (by kernel_rfl) (by kernel_rfl) (by kernel_rfl) (fun _ _ _ h => h) (Or.inl ⟨by rfl, ?_⟩) (by assumption) ?_
  rotate_left
  · intro w hSw; (try dsimp only at hSw); go_simp; try with_reducible rfl
  (try simp only [Act.put, List.setIfInBounds_toArray, List.set_cons_zero, List.set_cons_succ])
  refine wpAnyH_take (i := 4) (oi := ⟨some 118, _, _, _, _, _⟩) (v := ?_) rfl (by kernel_rfl) (by kernel_rfl) (by kernel_rfl) (fun _ _ _ h => h) (Or.inl ⟨by rfl, ?_⟩) (by assumption) ?_
  rotate_left
  · intro w hSw; (try dsimp only at hSw); go_simp; try with_reducible rfl
  (try simp only [Act.put, List.setIfInBounds_toArray, List.set_cons_zero, List.set_cons_succ])
  refine wpAnyH_take (i := 5) (oi := ⟨some 119, _, _, _, _, _⟩) (v := ?_) rfl (by kernel_rfl) (by kernel_rfl) (by kernel_rfl) (fun _ _ _ h => h) (Or.inl ⟨by rfl, ?_⟩) (by assumption) ?_
  rotate_left
  · intro w hSw; (try dsimp only at hSw); go_simp; try with_reducible rfl
  (try simp only [Act.put, List.setIfInBounds_toArray, List.set_cons_zero, List.set_cons_succ])
  refine wpAnyH_take (i := 2) (oi := ⟨some 116, _, _, _, _, _⟩) (v := ?_) rfl (by kernel_rfl) (by kernel_rfl) (by kernel_rfl) (fun _ _ _ h => h) (Or.inl ⟨by rfl, ?_⟩) (by assumption) ?_
  rotate_left
  · intro w hSw; (try dsimp only at hSw); go_simp; try with_reducible rfl
  (try simp only [Act.put, List.setIfInBounds_toArray, List.set_cons_zero, List.set_cons_succ])
  refine wpAnyH_take (i := 6) (oi := ⟨some 120, _, _, _, _, _⟩) (v := ?_) rfl (by kernel_rfl) (by kernel_rfl) (by kernel_rfl) (fun _ _ _ h => h) (Or.inl ⟨by rfl, ?_⟩) (by assumption) ?_
  rotate_left
  · intro w hSw; (try dsimp only at hSw); go_simp; try with_reducible rfl
  (try simp only [Act.put, List.setIfInBounds_toArray, List.set_cons_zero, List.set_cons_succ])
  refine wpAnyH_ready (rs := [3]) (by kernel_rfl) (by simp) ?_
  refine (AllReadyH.cons (o := ⟨some 117, _, _, _, _, _⟩) rfl (fun K hK => ?_) AllReadyH.nil)
  rw [if_pos (by rfl)]
  go_simp
  go_at_call 31
  refine (fuseM_any (mid_in (Bs := [_]) hX) OK.out y.n).mono ?_
  rw [← HE.out]
  rintro _ w4 ⟨rfl, h4⟩
  have hA1 : St w [] w4 (rxP gr q ++ (.blk g5 36 y.cells :: (arP ga x (a.fused y.n) ++ R))) := mid_out (Bs := [_]) hX h4
  clear h4
  refine hK.out _ _ ?_ (fun hHeld => ?_)
  · exact Loads.at (P := Tryz.prog) _ hA1 rfl
  clear hK K
  (try simp only [Act.put, List.setIfInBounds_toArray, List.set_cons_zero, List.set_cons_succ])
  refine wpAnyH_ready (rs := [7]) (by kernel_rfl) (by simp) ?_
  refine (AllReadyH.cons (o := ⟨some 121, _, _, _, _, _⟩) rfl (fun K hK => ?_) AllReadyH.nil)
  rw [if_pos (by rfl)]
  go_simp
  go_at_call 32
  refine (fuse_r (R := (.blk g5 36 y.cells :: (arP ga x (a.fused y.n) ++ R))) hA1 RO.out y.n OK.out).mono ?_
  rw [← HE.out]
  rintro _ w5 ⟨rfl, q2, hq, h4⟩
  have hA2 : St w [] w5 (rxP gr q2 ++ (.blk g5 36 y.cells :: (arP ga x (a.fused y.n) ++ R))) := h4
  have HQ := hid hq
  clear h4 hq
  refine hK.out _ _ ?_ (fun hHeld => ?_)
  · exact Loads.at (P := Tryz.prog) _ hA2 rfl
  clear hK K
  (try simp only [Act.put, List.setIfInBounds_toArray, List.set_cons_zero, List.set_cons_succ])
  refine wpAnyH_take (i := 8) (oi := ⟨some 122, _, _, _, _, _⟩) (v := ?_) rfl (by kernel_rfl) (by kernel_rfl) (by kernel_rfl) (fun _ _ _ h => h) (Or.inl ⟨by rfl, ?_⟩) (by assumption) ?_
  rotate_left
  · intro w hSw; (try dsimp only at hSw); go_simp; try with_reducible rfl
  (try simp only [Act.put, List.setIfInBounds_toArray, List.set_cons_zero, List.set_cons_succ])
  refine wpAnyH_take (i := 9) (oi := ⟨some 6, _, _, _, _, _⟩) (v := ?_) rfl (by kernel_rfl) (by kernel_rfl) (by kernel_rfl) (fun _ _ _ h => h) (Or.inl ⟨by rfl, ?_⟩) (by assumption) ?_
  rotate_left
  · intro w hSw; (try dsimp only at hSw); go_simp; try with_reducible rfl
  (try simp only [Act.put, List.setIfInBounds_toArray, List.set_cons_zero, List.set_cons_succ])
  refine wpAnyH_done (by kernel_rfl) ?_ _
  clear hHeld
  go_wp2_with (first | go_big_skip | go_big_guard | fail)
  go_ret
  exact ⟨(a.fused y.n), rfl, x, (a.fused y.n), q2, rfl, HNX.out, HQ.out, off_g5 hA2⟩
theorem does_5 {w : World} {w1 : World} {R : List HA} {gr ga : Nat} {a : AR} {x : GA} {q : RX} (y : AC) (hS : St w [] w1 (rxP gr q ++ (arP ga x a ++ R))) (ro : RefOk a q) (ok : a.Ok) (hll : a.loose.length < 1000000) (hst0 : 0 ≤ a.steps ∧ a.steps < 4611686018427387904) (h0 : 0 < a.secs) (hy : y.Ok w) (hbn : y.bn ≤ 300) (hkn : y.kn ≤ 200) (hk : y.k = 5) : Calls Tryz.prog 8 #[.pointer (some ⟨ga, 0, none⟩), .pointer (some ⟨gr, 0, none⟩), .agg (List.toArray y.cells)] w1 fun e w' => ∃ b, e = .returned (.bool true) ∧ ∃ (x' : GA) (a' : AR) (q' : RX), b = a' ∧ Next a a' ∧ RefOk a' q' ∧ St w [] w' (rxP gr q' ++ (arP ga x' a' ++ R)) := by
  have hst := hS
  have RO := hid ro
  have OK := hid ok
  have HLL := hid hll
  have H0 := hid h0
  have HY := hid hy
  have HST0 := hid hst0
  have HBN := hid hbn
  have HKN := hid hkn
  have HLB := hid hy.lb
  have HLK := hid hy.lk
  have e0 : (y.k == 0) = false := by rw [hk]; rfl
  have e1 : (y.k == 1) = false := by rw [hk]; rfl
  have e2 : (y.k == 2) = false := by rw [hk]; rfl
  have e3 : (y.k == 3) = false := by rw [hk]; rfl
  have e4 : (y.k == 4) = false := by rw [hk]; rfl
  have e5 : (y.k == 5) = true := by rw [hk]; rfl
  have HNX : Hid (Next a (a.spoil y.dev y.pl y.n y.mask)) := hid ⟨ok.spoil _ _ _ _, Stays.spoil _ _ _ _ _⟩
  obtain ⟨E, hE⟩ : ∃ E, E = a.spoilE y.dev y.pl y.n := ⟨_, rfl⟩
  have HE := hid hE
  have eE : (E == E) = true := beq_self_eq_true E
  clear hS ro ok hll h0 hy hk hE hst0 hbn hkn
  go_enter Tryz.func8, Tryz.ntmps8
  go_wp2_with (first | go_big_skip | go_big_guard | (refine wl_boxA hst rfl rfl rfl ?_; intro g5 w2 hst1; clear hst; have hst2 : St w [] w2 (rxP gr q ++ (.blk g5 36 y.cells :: (arP ga x a ++ R))) := St.perm hst1 List.perm_middle.symm; clear hst1) | (refine wl_loadE rfl rfl rfl ?_; refine ⟨_, Loads.at (P := Tryz.prog) _ hst2 rfl, ?_⟩))
  have hX := hst2.drew
  clear hst2
  refine wp_region_held_drew (S := (fun w' => (loadVarH 3 ⟨g5, 1, none⟩).run Tryz.prog w' = .ok (.int .i64 y.dev) w' ∧ (loadVarH 3 ⟨g5, 2, none⟩).run Tryz.prog w' = .ok (.int .i64 y.pl) w' ∧ (loadVarH 3 ⟨g5, 3, none⟩).run Tryz.prog w' = .ok (.int .i64 y.n) w' ∧ (loadVarH 5 ⟨g5, 4, none⟩).run Tryz.prog w' = .ok (.int .u8 (y.mask.toNat : Int)) w')) (by kernel_rfl) (by exact ⟨Loads.at (P := Tryz.prog) _ hX rfl, Loads.at (P := Tryz.prog) _ hX rfl, Loads.at (P := Tryz.prog) _ hX rfl, Loads.at (P := Tryz.prog) _ hX rfl⟩) (fun hHeld => ?_)
  refine wpAnyH_take (i := 0) (oi := ⟨some 125, _, _, _, _, _⟩) (v := ?_) rfl (by kernel_rfl) (by kernel_rfl) (by kernel_rfl) (fun _ _ _ h => h) (Or.inl ⟨by rfl, ?_⟩) (by assumption) ?_
  rotate_left
  · intro w hSw; (try dsimp only at hSw); go_simp; try with_reducible rfl
  (try simp only [Act.put, List.setIfInBounds_toArray, List.set_cons_zero, List.set_cons_succ])
  refine wpAnyH_take (i := 1) (oi := ⟨some 126, _, _, _, _, _⟩) (v := ?_) rfl (by kernel_rfl) (by kernel_rfl) (by kernel_rfl) (fun _ _ _ h => h) (Or.inl ⟨by rfl, ?_⟩) (by assumption) ?_
  rotate_left
  · intro w hSw; (try dsimp only at hSw); go_simp; try with_reducible rfl
  (try simp only [Act.put, List.setIfInBounds_toArray, List.set_cons_zero, List.set_cons_succ])
  refine wpAnyH_take (i := 3) (oi := ⟨some 128, _, _, _, _, _⟩) (v := ?_) rfl (by kernel_rfl) (by kernel_rfl) (by kernel_rfl) (fun _ _ _ h => h) (Or.inl ⟨by rfl, ?_⟩) (by assumption) ?_
  rotate_left
  · intro w hSw; (try dsimp only at hSw); go_simp; try with_reducible rfl
  (try simp only [Act.put, List.setIfInBounds_toArray, List.set_cons_zero, List.set_cons_succ])
  refine wpAnyH_take (i := 5) (oi := ⟨some 130, _, _, _, _, _⟩) (v := ?_) rfl (by kernel_rfl) (by kernel_rfl) (by kernel_rfl) (fun _ _ _ h => h) (Or.inl ⟨by rfl, ?_⟩) (by assumption) ?_
  rotate_left
  · intro w hSw; (try dsimp only at hSw); go_simp; try with_reducible rfl
  (try simp only [Act.put, List.setIfInBounds_toArray, List.set_cons_zero, List.set_cons_succ])
  refine wpAnyH_take (i := 7) (oi := ⟨some 132, _, _, _, _, _⟩) (v := ?_) rfl (by kernel_rfl) (by kernel_rfl) (by kernel_rfl) (fun _ _ _ h => h) (Or.inl ⟨by rfl, ?_⟩) (by assumption) ?_
  rotate_left
  · intro w hSw; (try dsimp only at hSw); go_simp; try with_reducible rfl
  (try simp only [Act.put, List.setIfInBounds_toArray, List.set_cons_zero, List.set_cons_succ])
  refine wpAnyH_take (i := 10) (oi := ⟨some 135, _, _, _, _, _⟩) (v := ?_) rfl (by kernel_rfl) (by kernel_rfl) (by kernel_rfl) (fun _ _ _ h => h) (Or.inl ⟨by rfl, ?_⟩) (by assumption) ?_
  rotate_left
  · intro w hSw; (try dsimp only at hSw); go_simp; try with_reducible rfl
  (try simp only [Act.put, List.setIfInBounds_toArray, List.set_cons_zero, List.set_cons_succ])
  refine wpAnyH_take (i := 11) (oi := ⟨some 136, _, _, _, _, _⟩) (v := ?_) rfl (by kernel_rfl) (by kernel_rfl) (by kernel_rfl) (fun _ _ _ h => h) (Or.inl ⟨by rfl, ?_⟩) (by assumption) ?_
  rotate_left
  · intro w hSw; (try dsimp only at hSw); go_simp; try with_reducible rfl
  (try simp only [Act.put, List.setIfInBounds_toArray, List.set_cons_zero, List.set_cons_succ])
  refine wpAnyH_take (i := 13) (oi := ⟨some 138, _, _, _, _, _⟩) (v := ?_) rfl (by kernel_rfl) (by kernel_rfl) (by kernel_rfl) (fun _ _ _ h => h) (Or.inl ⟨by rfl, ?_⟩) (by assumption) ?_
  rotate_left
  · intro w hSw; (try dsimp only at hSw); go_simp; try with_reducible rfl
  (try simp only [Act.put, List.setIfInBounds_toArray, List.set_cons_zero, List.set_cons_succ])
  refine wpAnyH_take (i := 15) (oi := ⟨some 140, _, _, _, _, _⟩) (v := ?_) rfl (by kernel_rfl) (by kernel_rfl) (by kernel_rfl) (fun _ _ _ h => h) (Or.inl ⟨by rfl, ?_⟩) (by assumption) ?_
  rotate_left
  · intro w hSw; (try dsimp only at hSw); go_simp; try with_reducible rfl
  (try simp only [Act.put, List.setIfInBounds_toArray, List.set_cons_zero, List.set_cons_succ])
  refine wpAnyH_take (i := 17) (oi := ⟨some 142, _, _, _, _, _⟩) (v := ?_) rfl (by kernel_rfl) (by kernel_rfl) (by kernel_rfl) (fun _ _ _ h => h) (Or.inl ⟨by rfl, ?_⟩) (by assumption) ?_
  rotate_left
  · intro w hSw; (try dsimp only at hSw); go_simp; try with_reducible rfl
  (try simp only [Act.put, List.setIfInBounds_toArray, List.set_cons_zero, List.set_cons_succ])
  refine wpAnyH_take (i := 2) (oi := ⟨some 127, _, _, _, _, _⟩) (v := ?_) rfl (by kernel_rfl) (by kernel_rfl) (by kernel_rfl) (fun _ _ _ h => h) (Or.inl ⟨by rfl, ?_⟩) (by assumption) ?_
  rotate_left
  · intro w hSw; (try dsimp only at hSw); go_simp; try with_reducible rfl
  (try simp only [Act.put, List.setIfInBounds_toArray, List.set_cons_zero, List.set_cons_succ])
  refine wpAnyH_take (i := 4) (oi := ⟨some 129, _, _, _, _, _⟩) (v := ?_) rfl (by kernel_rfl) (by kernel_rfl) (by kernel_rfl) (fun _ _ _ h => h) (Or.inl ⟨by rfl, ?_⟩) (by assumption) ?_
  rotate_left
  · intro w hSw; (try dsimp only at hSw); go_simp; try with_reducible rfl
  (try simp only [Act.put, List.setIfInBounds_toArray, List.set_cons_zero, List.set_cons_succ])
  refine wpAnyH_take (i := 6) (oi := ⟨some 131, _, _, _, _, _⟩) (v := ?_) rfl (by kernel_rfl) (by kernel_rfl) (by kernel_rfl) (fun _ _ _ h => h) (Or.inl ⟨by rfl, ?_⟩) (by assumption) ?_
  rotate_left
  · intro w hSw; (try dsimp only at hSw); go_simp; try with_reducible rfl
  (try simp only [Act.put, List.setIfInBounds_toArray, List.set_cons_zero, List.set_cons_succ])
  refine wpAnyH_take (i := 8) (oi := ⟨some 133, _, _, _, _, _⟩) (v := ?_) rfl (by kernel_rfl) (by kernel_rfl) (by kernel_rfl) (fun _ _ _ h => h) (Or.inl ⟨by rfl, ?_⟩) (by assumption) ?_
  rotate_left
  · intro w hSw; (try dsimp only at hSw); go_simp; try with_reducible rfl
  (try simp only [Act.put, List.setIfInBounds_toArray, List.set_cons_zero, List.set_cons_succ])
  refine wpAnyH_take (i := 12) (oi := ⟨some 137, _, _, _, _, _⟩) (v := ?_) rfl (by kernel_rfl) (by kernel_rfl) (by kernel_rfl) (fun _ _ _ h => h) (Or.inl ⟨by rfl, ?_⟩) (by assumption) ?_
  rotate_left
  · intro w hSw; (try dsimp only at hSw); go_simp; try with_reducible rfl
  (try simp only [Act.put, List.setIfInBounds_toArray, List.set_cons_zero, List.set_cons_succ])
  refine wpAnyH_take (i := 14) (oi := ⟨some 139, _, _, _, _, _⟩) (v := ?_) rfl (by kernel_rfl) (by kernel_rfl) (by kernel_rfl) (fun _ _ _ h => h) (Or.inl ⟨by rfl, ?_⟩) (by assumption) ?_
  rotate_left
  · intro w hSw; (try dsimp only at hSw); go_simp; try with_reducible rfl
  (try simp only [Act.put, List.setIfInBounds_toArray, List.set_cons_zero, List.set_cons_succ])
  refine wpAnyH_take (i := 16) (oi := ⟨some 141, _, _, _, _, _⟩) (v := ?_) rfl (by kernel_rfl) (by kernel_rfl) (by kernel_rfl) (fun _ _ _ h => h) (Or.inl ⟨by rfl, ?_⟩) (by assumption) ?_
  rotate_left
  · intro w hSw; (try dsimp only at hSw); go_simp; try with_reducible rfl
  (try simp only [Act.put, List.setIfInBounds_toArray, List.set_cons_zero, List.set_cons_succ])
  refine wpAnyH_take (i := 18) (oi := ⟨some 143, _, _, _, _, _⟩) (v := ?_) rfl (by kernel_rfl) (by kernel_rfl) (by kernel_rfl) (fun _ _ _ h => h) (Or.inl ⟨by rfl, ?_⟩) (by assumption) ?_
  rotate_left
  · intro w hSw; (try dsimp only at hSw); go_simp; try with_reducible rfl
  (try simp only [Act.put, List.setIfInBounds_toArray, List.set_cons_zero, List.set_cons_succ])
  refine wpAnyH_ready (rs := [9]) (by kernel_rfl) (by simp) ?_
  refine (AllReadyH.cons (o := ⟨some 134, _, _, _, _, _⟩) rfl (fun K hK => ?_) AllReadyH.nil)
  rw [if_pos (by rfl)]
  go_simp
  go_at_call 33
  refine (spoilM_any (mid_in (Bs := [_]) hX) OK.out y.dev y.pl y.n y.mask).mono ?_
  rw [← HE.out]
  rintro _ w4 ⟨rfl, x2, h4⟩
  have hA1 : St w [] w4 (rxP gr q ++ (.blk g5 36 y.cells :: (arP ga x2 (a.spoil y.dev y.pl y.n y.mask) ++ R))) := mid_out (Bs := [_]) hX h4
  clear h4
  refine hK.out _ _ ?_ (fun hHeld => ?_)
  · exact ⟨Loads.at (P := Tryz.prog) _ hA1 rfl, Loads.at (P := Tryz.prog) _ hA1 rfl, Loads.at (P := Tryz.prog) _ hA1 rfl, Loads.at (P := Tryz.prog) _ hA1 rfl⟩
  clear hK K
  (try simp only [Act.put, List.setIfInBounds_toArray, List.set_cons_zero, List.set_cons_succ])
  refine wpAnyH_ready (rs := [19]) (by kernel_rfl) (by simp) ?_
  refine (AllReadyH.cons (o := ⟨some 144, _, _, _, _, _⟩) rfl (fun K hK => ?_) AllReadyH.nil)
  rw [if_pos (by rfl)]
  go_simp
  go_at_call 34
  refine (spoil_r (R := (.blk g5 36 y.cells :: (arP ga x2 (a.spoil y.dev y.pl y.n y.mask) ++ R))) hA1 RO.out y.dev y.pl y.n y.mask OK.out).mono ?_
  rw [← HE.out]
  rintro _ w5 ⟨rfl, q2, hq, h4⟩
  have hA2 : St w [] w5 (rxP gr q2 ++ (.blk g5 36 y.cells :: (arP ga x2 (a.spoil y.dev y.pl y.n y.mask) ++ R))) := h4
  have HQ := hid hq
  clear h4 hq
  refine hK.out _ _ ?_ (fun hHeld => ?_)
  · exact ⟨Loads.at (P := Tryz.prog) _ hA2 rfl, Loads.at (P := Tryz.prog) _ hA2 rfl, Loads.at (P := Tryz.prog) _ hA2 rfl, Loads.at (P := Tryz.prog) _ hA2 rfl⟩
  clear hK K
  (try simp only [Act.put, List.setIfInBounds_toArray, List.set_cons_zero, List.set_cons_succ])
  refine wpAnyH_take (i := 20) (oi := ⟨some 145, _, _, _, _, _⟩) (v := ?_) rfl (by kernel_rfl) (by kernel_rfl) (by kernel_rfl) (fun _ _ _ h => h) (Or.inl ⟨by rfl, ?_⟩) (by assumption) ?_
  rotate_left
  · intro w hSw; (try dsimp only at hSw); go_simp; try with_reducible rfl
  (try simp only [Act.put, List.setIfInBounds_toArray, List.set_cons_zero, List.set_cons_succ])
  refine wpAnyH_take (i := 21) (oi := ⟨some 6, _, _, _, _, _⟩) (v := ?_) rfl (by kernel_rfl) (by kernel_rfl) (by kernel_rfl) (fun _ _ _ h => h) (Or.inl ⟨by rfl, ?_⟩) (by assumption) ?_
  rotate_left
  · intro w hSw; (try dsimp only at hSw); go_simp; try with_reducible rfl
  (try simp only [Act.put, List.setIfInBounds_toArray, List.set_cons_zero, List.set_cons_succ])
  refine wpAnyH_done (by kernel_rfl) ?_ _
  clear hHeld
  go_wp2_with (first | go_big_skip | go_big_guard | fail)
  go_ret
  exact ⟨(a.spoil y.dev y.pl y.n y.mask), rfl, x2, (a.spoil y.dev y.pl y.n y.mask), q2, rfl, HNX.out, HQ.out, off_g5 hA2⟩
theorem does_none {w : World} {w1 : World} {R : List HA} {gr ga : Nat} {a : AR} {x : GA} {q : RX} (y : AC) (hS : St w [] w1 (rxP gr q ++ (arP ga x a ++ R))) (ro : RefOk a q) (ok : a.Ok) (hll : a.loose.length < 1000000) (hst0 : 0 ≤ a.steps ∧ a.steps < 4611686018427387904) (h0 : 0 < a.secs) (hy : y.Ok w) (hbn : y.bn ≤ 300) (hkn : y.kn ≤ 200) (k0 : y.k ≠ 0) (k1 : y.k ≠ 1) (k2 : y.k ≠ 2) (k3 : y.k ≠ 3) (k4 : y.k ≠ 4) (k5 : y.k ≠ 5) : Calls Tryz.prog 8 #[.pointer (some ⟨ga, 0, none⟩), .pointer (some ⟨gr, 0, none⟩), .agg (List.toArray y.cells)] w1 fun e w' => ∃ b, e = .returned (.bool true) ∧ ∃ (x' : GA) (a' : AR) (q' : RX), b = a' ∧ Next a a' ∧ RefOk a' q' ∧ St w [] w' (rxP gr q' ++ (arP ga x' a' ++ R)) := by
  have hst := hS
  have RO := hid ro
  have OK := hid ok
  have HLL := hid hll
  have H0 := hid h0
  have HY := hid hy
  have HST0 := hid hst0
  have HBN := hid hbn
  have HKN := hid hkn
  have HLB := hid hy.lb
  have HLK := hid hy.lk
  have e0 : (y.k == 0) = false := beq_eq_false_iff_ne.2 k0
  have e1 : (y.k == 1) = false := beq_eq_false_iff_ne.2 k1
  have e2 : (y.k == 2) = false := beq_eq_false_iff_ne.2 k2
  have e3 : (y.k == 3) = false := beq_eq_false_iff_ne.2 k3
  have e4 : (y.k == 4) = false := beq_eq_false_iff_ne.2 k4
  have e5 : (y.k == 5) = false := beq_eq_false_iff_ne.2 k5
  clear hS ro ok hll h0 hy hbn hkn k0 k1 k2 k3 k4 k5 hst0
  go_enter Tryz.func8, Tryz.ntmps8
  go_wp2_with (first | go_big_skip | go_big_guard | (refine wl_boxA hst rfl rfl rfl ?_; intro g5 w2 hst1; clear hst; have hst2 : St w [] w2 (rxP gr q ++ (.blk g5 36 y.cells :: (arP ga x a ++ R))) := St.perm hst1 List.perm_middle.symm; clear hst1) | (refine wl_loadE rfl rfl rfl ?_; refine ⟨_, Loads.at (P := Tryz.prog) _ hst2 rfl, ?_⟩) | (refine wl_loadE rfl rfl rfl ?_; refine ⟨_, Loads.atA (P := Tryz.prog) (T := 36) y.cells _ hst2 rfl rfl, ?_⟩) | (go_at_call 35; refine (befalls2 (R := .blk g5 36 y.cells :: R) y (to_behind hst2) RO.out OK.out HLL.out HST0.out H0.out HY.out).mono ?_; rintro _ w3 ⟨a2, rfl, x2, a3, q2, rfl, hn, hq, h4⟩; have HN := hid hn; have HQ := hid hq; have hst3 := off_behind2 h4; clear h4 hn hq hst2))
  go_ret
  exact ⟨_, rfl, x2, _, q2, rfl, HN.out, HQ.out, hst3⟩
theorem does2 {w : World} {w1 : World} {R : List HA} {gr ga : Nat} {a : AR} {x : GA} {q : RX} (y : AC) (hS : St w [] w1 (rxP gr q ++ (arP ga x a ++ R))) (ro : RefOk a q) (ok : a.Ok) (hll : a.loose.length < 1000000) (hst0 : 0 ≤ a.steps ∧ a.steps < 4611686018427387904) (h0 : 0 < a.secs) (hy : y.Ok w) (hbn : y.bn ≤ 300) (hkn : y.kn ≤ 200) : Calls Tryz.prog 8 #[.pointer (some ⟨ga, 0, none⟩), .pointer (some ⟨gr, 0, none⟩), .agg (List.toArray y.cells)] w1 fun e w' => ∃ b, e = .returned (.bool true) ∧ ∃ (x' : GA) (a' : AR) (q' : RX), b = a' ∧ Next a a' ∧ RefOk a' q' ∧ St w [] w' (rxP gr q' ++ (arP ga x' a' ++ R)) := by
  by_cases k0 : y.k = 0
  · exact does_0 y hS ro ok hll hst0 h0 hy hbn hkn k0
  by_cases k1 : y.k = 1
  · exact does_1 y hS ro ok hll hst0 h0 hy hbn hkn k1
  by_cases k2 : y.k = 2
  · exact does_2 y hS ro ok hll hst0 h0 hy hbn hkn k2
  by_cases k3 : y.k = 3
  · exact does_3 y hS ro ok hll hst0 h0 hy hbn hkn k3
  by_cases k4 : y.k = 4
  · exact does_4 y hS ro ok hll hst0 h0 hy hbn hkn k4
  by_cases k5 : y.k = 5
  · exact does_5 y hS ro ok hll hst0 h0 hy hbn hkn k5
  exact does_none y hS ro ok hll hst0 h0 hy hbn hkn k0 k1 k2 k3 k4 k5
end
end Go.Proofs.YtclleohpmgihaaaGreat
namespace Go.Proofs.YtclleohpmgihaaaGreat
set_option linter.unusedVariables false
set_option linter.unusedSimpArgs false
open Go.RowKit Hp
attribute [local irreducible] Go.Calls Go.wpList
set_option maxRecDepth 100000
set_option maxHeartbeats 8000000
section
theorem loadedI19 (A : Addr) : loadVar 3 A = loadVarH 3 A := rfl
theorem loadedD19 (A : Addr) : loadVar 54 A = loadVarH 54 A := rfl
theorem loadedW19 (A : Addr) : loadVar 55 A = loadVarH 55 A := rfl
attribute [local go_sem ↓] loadedI19 loadedD19 loadedW19
theorem alike2 {w : World} {w1 : World} {R : List HA} {gr ga : Nat} {a : AR} {x : GA} {q : RX} (hS : St w [] w1 (rxP gr q ++ (arP ga x a ++ R))) (ro : RefOk a q) (ok : a.Ok) (hll : a.loose.length < 1000000) :
    Calls Tryz.prog 9 #[.pointer (some ⟨ga, 0, none⟩), .pointer (some ⟨gr, 0, none⟩)] w1 fun e w' => e = .returned (.bool true) ∧ St w [] w' (rxP gr q ++ (arP ga x a ++ R)) := by
  have hst : St w [] w1 (.blk gr 57 q.hdr :: .blk q.gd 60 q.dc :: .row q.lv 96 3 q.loose.length q.lc :: (q.tail ++ (arP ga x a ++ R))) := hS
  have RO := hid ro
  have OK := hid ok
  have HLL := hid hll
  have e1 : ((q.devs.length : Int) != (q.devs.length : Int)) = false := by simp
  have e2 : ((q.many : Int) != (q.many : Int)) = false := by simp
  have e3 : ((q.loose.length : Int) != (q.loose.length : Int)) = false := by simp
  have e4 : (q.steps != q.steps) = false := by simp
  have hnd : q.devs.length < 100 := by rw [ro.dn]; have := ok.dn; omega
  have hmn : q.many ≤ 4096 := by rw [ro.mn]; exact ok.sn
  obtain ⟨lao, lc, hlv, _, _, _⟩ := row_form hst (.tail _ (.tail _ (.head _)))
  have HH2 : Hid (q.hdr[2]? = some (.slice lao q.loose.length lc)) := hid (by show some q.lv = _; rw [hlv])
  clear hlv hS ro ok hll
  go_enter Tryz.func9, Tryz.ntmps9
  go_wp2_with (first | go_big_skip | go_big_guard | fail)
  have hX := hst.drew
  clear hst
  refine wp_region_held_drew (S := (fun w' => (loadVarH 54 ⟨gr, 0, none⟩).run Tryz.prog w' = .ok (.slice (some ⟨q.gd, 0, none⟩) q.devs.length q.cd) w' ∧ (loadVarH 3 ⟨gr, 1, none⟩).run Tryz.prog w' = .ok (.int .i64 (q.many : Int)) w' ∧ (loadVarH 55 ⟨gr, 2, none⟩).run Tryz.prog w' = .ok (.slice lao q.loose.length lc) w' ∧ (loadVarH 3 ⟨gr, 5, none⟩).run Tryz.prog w' = .ok (.int .i64 q.steps) w')) (by kernel_rfl) (by exact ⟨ldS [] hX rfl, ldS [] hX rfl, ldS [] hX HH2.out, ldS [] hX rfl⟩) (fun hHeld => ?_)
  refine wpAnyH_take (i := 0) (oi := ⟨some 11, _, _, _, _, _⟩) (v := ?_) rfl (by kernel_rfl) (by kernel_rfl) (by kernel_rfl) (fun _ _ _ h => h) (Or.inl ⟨by rfl, ?_⟩) (by assumption) ?_
  rotate_left
  · intro w hSw; (try dsimp only at hSw); go_simp; try with_reducible rfl
  (try simp only [Act.put, List.setIfInBounds_toArray, List.set_cons_zero, List.set_cons_succ])
  refine wpAnyH_take (i := 2) (oi := ⟨some 13, _, _, _, _, _⟩) (v := ?_) rfl (by kernel_rfl) (by kernel_rfl) (by kernel_rfl) (fun _ _ _ h => h) (Or.inl ⟨by rfl, ?_⟩) (by assumption) ?_
  rotate_left
  · intro w hSw; (try dsimp only at hSw); go_simp; try with_reducible rfl
  (try simp only [Act.put, List.setIfInBounds_toArray, List.set_cons_zero, List.set_cons_succ])
  refine wpAnyH_take (i := 3) (oi := ⟨some 14, _, _, _, _, _⟩) (v := ?_) rfl (by kernel_rfl) (by kernel_rfl) (by kernel_rfl) (fun _ _ _ h => h) (Or.inl ⟨by rfl, ?_⟩) (by assumption) ?_
  rotate_left
  · intro w hSw; (try dsimp only at hSw); go_simp; try with_reducible rfl
  (try simp only [Act.put, List.setIfInBounds_toArray, List.set_cons_zero, List.set_cons_succ])
  refine wpAnyH_take (i := 4) (oi := ⟨some 15, _, _, _, _, _⟩) (v := ?_) rfl (by kernel_rfl) (by kernel_rfl) (by kernel_rfl) (fun _ _ _ h => h) (Or.inl ⟨by rfl, ?_⟩) (by assumption) ?_
  rotate_left
  · intro w hSw; (try dsimp only at hSw); go_simp; try with_reducible rfl
  (try simp only [Act.put, List.setIfInBounds_toArray, List.set_cons_zero, List.set_cons_succ])
  refine wpAnyH_take (i := 5) (oi := ⟨some 16, _, _, _, _, _⟩) (v := ?_) rfl (by kernel_rfl) (by kernel_rfl) (by kernel_rfl) (fun _ _ _ h => h) (Or.inl ⟨by rfl, ?_⟩) (by assumption) ?_
  rotate_left
  · intro w hSw; (try dsimp only at hSw); go_simp; try with_reducible rfl
  (try simp only [Act.put, List.setIfInBounds_toArray, List.set_cons_zero, List.set_cons_succ])
  refine wpAnyH_take (i := 6) (oi := ⟨some 17, _, _, _, _, _⟩) (v := ?_) rfl (by kernel_rfl) (by kernel_rfl) (by kernel_rfl) (fun _ _ _ h => h) (Or.inl ⟨by rfl, ?_⟩) (by assumption) ?_
  rotate_left
  · intro w hSw; (try dsimp only at hSw); go_simp; try with_reducible rfl
  (try simp only [Act.put, List.setIfInBounds_toArray, List.set_cons_zero, List.set_cons_succ])
  refine wpAnyH_ready (rs := [1]) (by kernel_rfl) (by simp) ?_
  refine (AllReadyH.cons (o := ⟨some 12, _, _, _, _, _⟩) rfl (fun K hK => ?_) AllReadyH.nil)
  rw [if_pos (by rfl)]
  go_simp
  go_at_call 36
  refine (devs_any (ArrAt.of hX (fun p hp => .tail _ (.tail _ (.tail _ (List.mem_append_right _ (List.mem_append_left _ hp))))) OK.out.d0)).mono ?_
  rw [← RO.out.dn]
  rintro _ w9 ⟨rfl, h4⟩
  have hA1 := St.call0 hX h4
  clear h4
  refine hK.out _ _ ?_ (fun hHeld => ?_)
  · exact ⟨ldS [] hA1 rfl, ldS [] hA1 rfl, ldS [] hA1 HH2.out, ldS [] hA1 rfl⟩
  clear hK K
  (try simp only [Act.put, List.setIfInBounds_toArray, List.set_cons_zero, List.set_cons_succ])
  refine wpAnyH_take (i := 7) (oi := ⟨some 18, _, _, _, _, _⟩) (v := ?_) rfl (by kernel_rfl) (by kernel_rfl) (by kernel_rfl) (fun _ _ _ h => h) (Or.inl ⟨by rfl, ?_⟩) (by assumption) ?_
  rotate_left
  · intro w hSw; (try dsimp only at hSw); go_simp; try with_reducible rfl
  (try simp only [Act.put, List.setIfInBounds_toArray, List.set_cons_zero, List.set_cons_succ])
  refine wpAnyH_take (i := 8) (oi := ⟨some 19, _, _, _, _, _⟩) (v := ?_) rfl (by kernel_rfl) (by kernel_rfl) (by kernel_rfl) (fun _ _ _ h => h) (Or.inl ⟨by rfl, ?_⟩) (by assumption) ?_
  rotate_left
  · intro w hSw; (try dsimp only at hSw); go_simp; try with_reducible rfl
  (try simp only [Act.put, List.setIfInBounds_toArray, List.set_cons_zero, List.set_cons_succ])
  refine wpAnyH_take (i := 9) (oi := ⟨some 20, _, _, _, _, _⟩) (v := ?_) rfl (by kernel_rfl) (by kernel_rfl) (by kernel_rfl) (fun _ _ _ h => h) (Or.inl ⟨by rfl, ?_⟩) (by assumption) ?_
  rotate_left
  · intro w hSw; (try dsimp only at hSw); go_simp; try with_reducible rfl
  (try simp only [Act.put, List.setIfInBounds_toArray, List.set_cons_zero, List.set_cons_succ])
  refine wpAnyH_take (i := 11) (oi := ⟨some 22, _, _, _, _, _⟩) (v := ?_) rfl (by kernel_rfl) (by kernel_rfl) (by kernel_rfl) (fun _ _ _ h => h) (Or.inl ⟨by rfl, ?_⟩) (by assumption) ?_
  rotate_left
  · intro w hSw; (try dsimp only at hSw); go_simp; try with_reducible rfl
  (try simp only [Act.put, List.setIfInBounds_toArray, List.set_cons_zero, List.set_cons_succ])
  refine wpAnyH_take (i := 12) (oi := ⟨some 23, _, _, _, _, _⟩) (v := ?_) rfl (by kernel_rfl) (by kernel_rfl) (by kernel_rfl) (fun _ _ _ h => h) (Or.inl ⟨by rfl, ?_⟩) (by assumption) ?_
  rotate_left
  · intro w hSw; (try dsimp only at hSw); go_simp; try with_reducible rfl
  (try simp only [Act.put, List.setIfInBounds_toArray, List.set_cons_zero, List.set_cons_succ])
  refine wpAnyH_take (i := 13) (oi := ⟨some 24, _, _, _, _, _⟩) (v := ?_) rfl (by kernel_rfl) (by kernel_rfl) (by kernel_rfl) (fun _ _ _ h => h) (Or.inl ⟨by rfl, ?_⟩) (by assumption) ?_
  rotate_left
  · intro w hSw; (try dsimp only at hSw); go_simp; try with_reducible rfl
  (try simp only [Act.put, List.setIfInBounds_toArray, List.set_cons_zero, List.set_cons_succ])
  refine wpAnyH_take (i := 14) (oi := ⟨some 25, _, _, _, _, _⟩) (v := ?_) rfl (by kernel_rfl) (by kernel_rfl) (by kernel_rfl) (fun _ _ _ h => h) (Or.inl ⟨by rfl, ?_⟩) (by assumption) ?_
  rotate_left
  · intro w hSw; (try dsimp only at hSw); go_simp; try with_reducible rfl
  (try simp only [Act.put, List.setIfInBounds_toArray, List.set_cons_zero, List.set_cons_succ])
  refine wpAnyH_ready (rs := [10]) (by kernel_rfl) (by simp) ?_
  refine (AllReadyH.cons (o := ⟨some 21, _, _, _, _, _⟩) rfl (fun K hK => ?_) AllReadyH.nil)
  rw [if_pos (by rfl)]
  go_simp
  go_at_call 37
  refine (sectors_any (ArrAt.of hA1 (fun p hp => .tail _ (.tail _ (.tail _ (List.mem_append_right _ (List.mem_append_left _ hp))))) OK.out.d0)).mono ?_
  rw [← RO.out.mn]
  rintro _ w9 ⟨rfl, h4⟩
  have hA2 := St.call0 hA1 h4
  clear h4
  refine hK.out _ _ ?_ (fun hHeld => ?_)
  · exact ⟨ldS [] hA2 rfl, ldS [] hA2 rfl, ldS [] hA2 HH2.out, ldS [] hA2 rfl⟩
  clear hK K
  (try simp only [Act.put, List.setIfInBounds_toArray, List.set_cons_zero, List.set_cons_succ])
  refine wpAnyH_take (i := 15) (oi := ⟨some 26, _, _, _, _, _⟩) (v := ?_) rfl (by kernel_rfl) (by kernel_rfl) (by kernel_rfl) (fun _ _ _ h => h) (Or.inl ⟨by rfl, ?_⟩) (by assumption) ?_
  rotate_left
  · intro w hSw; (try dsimp only at hSw); go_simp; try with_reducible rfl
  (try simp only [Act.put, List.setIfInBounds_toArray, List.set_cons_zero, List.set_cons_succ])
  refine wpAnyH_take (i := 16) (oi := ⟨some 27, _, _, _, _, _⟩) (v := ?_) rfl (by kernel_rfl) (by kernel_rfl) (by kernel_rfl) (fun _ _ _ h => h) (Or.inl ⟨by rfl, ?_⟩) (by assumption) ?_
  rotate_left
  · intro w hSw; (try dsimp only at hSw); go_simp; try with_reducible rfl
  (try simp only [Act.put, List.setIfInBounds_toArray, List.set_cons_zero, List.set_cons_succ])
  refine wpAnyH_take (i := 17) (oi := ⟨some 28, _, _, _, _, _⟩) (v := ?_) rfl (by kernel_rfl) (by kernel_rfl) (by kernel_rfl) (fun _ _ _ h => h) (Or.inl ⟨by rfl, ?_⟩) (by assumption) ?_
  rotate_left
  · intro w hSw; (try dsimp only at hSw); go_simp; try with_reducible rfl
  (try simp only [Act.put, List.setIfInBounds_toArray, List.set_cons_zero, List.set_cons_succ])
  refine wpAnyH_take (i := 18) (oi := ⟨some 29, _, _, _, _, _⟩) (v := ?_) rfl (by kernel_rfl) (by kernel_rfl) (by kernel_rfl) (fun _ _ _ h => h) (Or.inl ⟨by rfl, ?_⟩) (by assumption) ?_
  rotate_left
  · intro w hSw; (try dsimp only at hSw); go_simp; try with_reducible rfl
  (try simp only [Act.put, List.setIfInBounds_toArray, List.set_cons_zero, List.set_cons_succ])
  refine wpAnyH_take (i := 20) (oi := ⟨some 31, _, _, _, _, _⟩) (v := ?_) rfl (by kernel_rfl) (by kernel_rfl) (by kernel_rfl) (fun _ _ _ h => h) (Or.inl ⟨by rfl, ?_⟩) (by assumption) ?_
  rotate_left
  · intro w hSw; (try dsimp only at hSw); go_simp; try with_reducible rfl
  (try simp only [Act.put, List.setIfInBounds_toArray, List.set_cons_zero, List.set_cons_succ])
  refine wpAnyH_take (i := 21) (oi := ⟨some 32, _, _, _, _, _⟩) (v := ?_) rfl (by kernel_rfl) (by kernel_rfl) (by kernel_rfl) (fun _ _ _ h => h) (Or.inl ⟨by rfl, ?_⟩) (by assumption) ?_
  rotate_left
  · intro w hSw; (try dsimp only at hSw); go_simp; try with_reducible rfl
  (try simp only [Act.put, List.setIfInBounds_toArray, List.set_cons_zero, List.set_cons_succ])
  refine wpAnyH_take (i := 22) (oi := ⟨some 33, _, _, _, _, _⟩) (v := ?_) rfl (by kernel_rfl) (by kernel_rfl) (by kernel_rfl) (fun _ _ _ h => h) (Or.inl ⟨by rfl, ?_⟩) (by assumption) ?_
  rotate_left
  · intro w hSw; (try dsimp only at hSw); go_simp; try with_reducible rfl
  (try simp only [Act.put, List.setIfInBounds_toArray, List.set_cons_zero, List.set_cons_succ])
  refine wpAnyH_take (i := 23) (oi := ⟨some 34, _, _, _, _, _⟩) (v := ?_) rfl (by kernel_rfl) (by kernel_rfl) (by kernel_rfl) (fun _ _ _ h => h) (Or.inl ⟨by rfl, ?_⟩) (by assumption) ?_
  rotate_left
  · intro w hSw; (try dsimp only at hSw); go_simp; try with_reducible rfl
  (try simp only [Act.put, List.setIfInBounds_toArray, List.set_cons_zero, List.set_cons_succ])
  refine wpAnyH_take (i := 24) (oi := ⟨some 35, _, _, _, _, _⟩) (v := ?_) rfl (by kernel_rfl) (by kernel_rfl) (by kernel_rfl) (fun _ _ _ h => h) (Or.inl ⟨by rfl, ?_⟩) (by assumption) ?_
  rotate_left
  · intro w hSw; (try dsimp only at hSw); go_simp; try with_reducible rfl
  (try simp only [Act.put, List.setIfInBounds_toArray, List.set_cons_zero, List.set_cons_succ])
  refine wpAnyH_ready (rs := [19]) (by kernel_rfl) (by simp) ?_
  refine (AllReadyH.cons (o := ⟨some 30, _, _, _, _, _⟩) rfl (fun K hK => ?_) AllReadyH.nil)
  rw [if_pos (by rfl)]
  go_simp
  go_at_call 14
  refine (loose_any (ArrAll.of hA2 (fun p hp => .tail _ (.tail _ (.tail _ (List.mem_append_right _ (List.mem_append_left _ hp))))) OK.out.d0)).mono ?_
  rw [← RO.out.ln]
  rintro _ w9 ⟨rfl, h4⟩
  have hA3 := St.call0 hA2 h4
  clear h4
  refine hK.out _ _ ?_ (fun hHeld => ?_)
  · exact ⟨ldS [] hA3 rfl, ldS [] hA3 rfl, ldS [] hA3 HH2.out, ldS [] hA3 rfl⟩
  clear hK K
  (try simp only [Act.put, List.setIfInBounds_toArray, List.set_cons_zero, List.set_cons_succ])
  refine wpAnyH_take (i := 25) (oi := ⟨some 36, _, _, _, _, _⟩) (v := ?_) rfl (by kernel_rfl) (by kernel_rfl) (by kernel_rfl) (fun _ _ _ h => h) (Or.inl ⟨by rfl, ?_⟩) (by assumption) ?_
  rotate_left
  · intro w hSw; (try dsimp only at hSw); go_simp; try with_reducible rfl
  (try simp only [Act.put, List.setIfInBounds_toArray, List.set_cons_zero, List.set_cons_succ])
  refine wpAnyH_take (i := 26) (oi := ⟨some 37, _, _, _, _, _⟩) (v := ?_) rfl (by kernel_rfl) (by kernel_rfl) (by kernel_rfl) (fun _ _ _ h => h) (Or.inl ⟨by rfl, ?_⟩) (by assumption) ?_
  rotate_left
  · intro w hSw; (try dsimp only at hSw); go_simp; try with_reducible rfl
  (try simp only [Act.put, List.setIfInBounds_toArray, List.set_cons_zero, List.set_cons_succ])
  refine wpAnyH_take (i := 27) (oi := ⟨some 38, _, _, _, _, _⟩) (v := ?_) rfl (by kernel_rfl) (by kernel_rfl) (by kernel_rfl) (fun _ _ _ h => h) (Or.inl ⟨by rfl, ?_⟩) (by assumption) ?_
  rotate_left
  · intro w hSw; (try dsimp only at hSw); go_simp; try with_reducible rfl
  (try simp only [Act.put, List.setIfInBounds_toArray, List.set_cons_zero, List.set_cons_succ])
  refine wpAnyH_take (i := 28) (oi := ⟨some 39, _, _, _, _, _⟩) (v := ?_) rfl (by kernel_rfl) (by kernel_rfl) (by kernel_rfl) (fun _ _ _ h => h) (Or.inl ⟨by rfl, ?_⟩) (by assumption) ?_
  rotate_left
  · intro w hSw; (try dsimp only at hSw); go_simp; try with_reducible rfl
  (try simp only [Act.put, List.setIfInBounds_toArray, List.set_cons_zero, List.set_cons_succ])
  refine wpAnyH_take (i := 30) (oi := ⟨some 41, _, _, _, _, _⟩) (v := ?_) rfl (by kernel_rfl) (by kernel_rfl) (by kernel_rfl) (fun _ _ _ h => h) (Or.inl ⟨by rfl, ?_⟩) (by assumption) ?_
  rotate_left
  · intro w hSw; (try dsimp only at hSw); go_simp; try with_reducible rfl
  (try simp only [Act.put, List.setIfInBounds_toArray, List.set_cons_zero, List.set_cons_succ])
  refine wpAnyH_take (i := 31) (oi := ⟨some 42, _, _, _, _, _⟩) (v := ?_) rfl (by kernel_rfl) (by kernel_rfl) (by kernel_rfl) (fun _ _ _ h => h) (Or.inl ⟨by rfl, ?_⟩) (by assumption) ?_
  rotate_left
  · intro w hSw; (try dsimp only at hSw); go_simp; try with_reducible rfl
  (try simp only [Act.put, List.setIfInBounds_toArray, List.set_cons_zero, List.set_cons_succ])
  refine wpAnyH_take (i := 32) (oi := ⟨some 43, _, _, _, _, _⟩) (v := ?_) rfl (by kernel_rfl) (by kernel_rfl) (by kernel_rfl) (fun _ _ _ h => h) (Or.inl ⟨by rfl, ?_⟩) (by assumption) ?_
  rotate_left
  · intro w hSw; (try dsimp only at hSw); go_simp; try with_reducible rfl
  (try simp only [Act.put, List.setIfInBounds_toArray, List.set_cons_zero, List.set_cons_succ])
  refine wpAnyH_take (i := 33) (oi := ⟨some 44, _, _, _, _, _⟩) (v := ?_) rfl (by kernel_rfl) (by kernel_rfl) (by kernel_rfl) (fun _ _ _ h => h) (Or.inl ⟨by rfl, ?_⟩) (by assumption) ?_
  rotate_left
  · intro w hSw; (try dsimp only at hSw); go_simp; try with_reducible rfl
  (try simp only [Act.put, List.setIfInBounds_toArray, List.set_cons_zero, List.set_cons_succ])
  refine wpAnyH_ready (rs := [29]) (by kernel_rfl) (by simp) ?_
  refine (AllReadyH.cons (o := ⟨some 40, _, _, _, _, _⟩) rfl (fun K hK => ?_) AllReadyH.nil)
  rw [if_pos (by rfl)]
  go_simp
  go_at_call 18
  refine (steps_any (ArrAt.of hA3 (fun p hp => .tail _ (.tail _ (.tail _ (List.mem_append_right _ (List.mem_append_left _ hp))))) OK.out.d0)).mono ?_
  rw [← RO.out.steps]
  rintro _ w9 ⟨rfl, h4⟩
  have hA4 := St.call0 hA3 h4
  clear h4
  refine hK.out _ _ ?_ (fun hHeld => ?_)
  · exact ⟨ldS [] hA4 rfl, ldS [] hA4 rfl, ldS [] hA4 HH2.out, ldS [] hA4 rfl⟩
  clear hK K
  (try simp only [Act.put, List.setIfInBounds_toArray, List.set_cons_zero, List.set_cons_succ])
  refine wpAnyH_take (i := 34) (oi := ⟨some 45, _, _, _, _, _⟩) (v := ?_) rfl (by kernel_rfl) (by kernel_rfl) (by kernel_rfl) (fun _ _ _ h => h) (Or.inl ⟨by rfl, ?_⟩) (by assumption) ?_
  rotate_left
  · intro w hSw; (try dsimp only at hSw); go_simp; try with_reducible rfl
  (try simp only [Act.put, List.setIfInBounds_toArray, List.set_cons_zero, List.set_cons_succ])
  refine wpAnyH_take (i := 35) (oi := ⟨some 46, _, _, _, _, _⟩) (v := ?_) rfl (by kernel_rfl) (by kernel_rfl) (by kernel_rfl) (fun _ _ _ h => h) (Or.inl ⟨by rfl, ?_⟩) (by assumption) ?_
  rotate_left
  · intro w hSw; (try dsimp only at hSw); go_simp; try with_reducible rfl
  (try simp only [Act.put, List.setIfInBounds_toArray, List.set_cons_zero, List.set_cons_succ])
  refine wpAnyH_done (by kernel_rfl) ?_ _
  clear hHeld
  have hs0 : St w [] _ (rxP gr q ++ (arP ga x a ++ R)) := hA4
  clear hA4
  go_wp2_with (first | go_big_skip | go_big_guard | fail)
  go_loopw [5] (fun i wr => ∃ m : Nat, m ≤ q.devs.length ∧ i = .int .i64 (m : Int) ∧ St w [] wr (rxP gr q ++ (arP ga x a ++ R))) (fun i _ => q.devs.length - (intOf i).toNat)
  case atStart => exact ⟨0, Nat.zero_le _, rfl, hs0⟩
  case round =>
    clear hs0
    obtain ⟨m, hm, rfl, hs1⟩ := hrel
    by_cases hlm : m < q.devs.length
    · have d1 : decide ((m : Int) < (q.devs.length : Int)) = true := decide_eq_true (by omega)
      have z1 : IntKind.i64.wrap ((m : Int) + 1) = (m : Int) + 1 := IntWalk.i64_in _ (by omega)
      obtain ⟨B, hB⟩ : ∃ B, B = a.up (m : Int) := ⟨_, rfl⟩
      have HB := hid hB
      have f1 : (B != B) = false := by simp
      clear hB
      go_wp2_with (first | go_big_skip | go_big_guard | (refine wl_loadE rfl rfl rfl ?_; first | refine ⟨_, Loads.at (P := Tryz.prog) [] hs1 rfl, ?_⟩) | (go_at_call 38; refine (up_any (ArrAt.of hs1 (fun p hp => List.mem_append_right _ (List.mem_append_left _ hp)) OK.out.d0) (m : Int)).mono ?_; rw [← HB.out]; rintro _ w4 ⟨rfl, h4⟩; have hs2 := St.call0 hs1 h4; clear h4 hs1) | (go_at_call 39; refine (up_r (R := (arP ga x a ++ R)) hs2 RO.out (m : Int)).mono ?_; rw [← HB.out]; rintro _ w5 ⟨rfl, h4⟩; have hs3 := h4; clear h4 hs2))
      go_loopw [6] (fun i wr => ∃ k : Nat, k ≤ 20 ∧ i = .int .i64 (k : Int) ∧ St w [] wr (rxP gr q ++ (arP ga x a ++ R))) (fun i _ => 20 - (intOf i).toNat)
      case atStart => exact ⟨0, by decide, rfl, hs3⟩
      case round =>
        clear hs3
        obtain ⟨k, hk, rfl, hs4⟩ := hrel
        by_cases hkm : k < q.many
        · have d2 : decide ((k : Int) < (q.many : Int)) = true := decide_eq_true (by omega)
          by_cases hk20 : k < 20
          · have d3 : decide ((k : Int) < 20) = true := decide_eq_true (by omega)
            have z2 : IntKind.i64.wrap ((k : Int) + 1) = (k : Int) + 1 := IntWalk.i64_in _ (by omega)
            obtain ⟨PB, hPB⟩ : ∃ PB, PB = a.peekB (m : Int) (k : Int) := ⟨_, rfl⟩
            obtain ⟨BB9, hPL⟩ : ∃ BB9, BB9 = a.peekL (m : Int) (k : Int) := ⟨_, rfl⟩
            have HPB := hid hPB
            have HPL := hid hPL
            have f2 : (PB != PB) = false := by simp
            clear hPB hPL
            go_wp2_with (first | go_big_skip | go_big_guard | (refine wl_loadE rfl rfl rfl ?_; first | refine ⟨_, Loads.at (P := Tryz.prog) [] hs4 rfl, ?_⟩) | (go_at_call 40; refine (peek_any (ArrAll.of hs4 (fun p hp => List.mem_append_right _ (List.mem_append_left _ hp)) OK.out.d0) OK.out HLL.out (m : Int) (k : Int)).mono ?_; rw [← HPB.out, ← HPL.out]; rintro _ w6 ⟨u, rfl, h4⟩; have hs5 := St.toR (St.call hs4 h4); clear h4 hs4) | (go_at_call 41; refine (peek_r (R := .row u 5 1 BB9.length (bytesV BB9) :: (arP ga x a ++ R)) hs5 RO.out (m : Int) (k : Int) OK.out HLL.out).mono ?_; rw [← HPB.out, ← HPL.out]; rintro _ w7 ⟨v, rfl, h4⟩; have hs6 := h4; clear h4 hs5) | (go_at_call 27; refine (sameBytes_any u v BB9.length BB9.length BB9 BB9 _ (Rd.row hs6 (.tail _ (List.mem_append_right _ (.head _)))) (Rd.row hs6 (.head _))).mono ?_; rw [beq_self_eq_true]; rintro _ w8 ⟨rfl, h4⟩; have hs7 := St.offR (St.sub (St.call0 hs6 h4) (List.sublist_cons_self _ _)); clear h4 hs6))
            go_roundw
            case rel => exact ⟨k + 1, by omega, rfl, hs7⟩
            case measure => simp [intOf]; omega
          · have d3 : decide ((k : Int) < 20) = false := decide_eq_false (by omega)
            go_wp2_with (first | go_big_skip | go_big_guard | (refine wl_loadE rfl rfl rfl ?_; first | refine ⟨_, Loads.at (P := Tryz.prog) [] hs4 rfl, ?_⟩))
            go_roundw
            case rel => exact ⟨m + 1, by omega, rfl, hs4⟩
            case measure => simp [intOf]; omega
        · have d2 : decide ((k : Int) < (q.many : Int)) = false := decide_eq_false (by omega)
          go_wp2_with (first | go_big_skip | go_big_guard | (refine wl_loadE rfl rfl rfl ?_; first | refine ⟨_, Loads.at (P := Tryz.prog) [] hs4 rfl, ?_⟩))
          go_roundw
          case rel => exact ⟨m + 1, by omega, rfl, hs4⟩
          case measure => simp [intOf]; omega
    · obtain rfl : m = q.devs.length := by omega
      have d1 : decide ((q.devs.length : Int) < (q.devs.length : Int)) = false := decide_eq_false (by omega)
      go_wp2_with (first | go_big_skip | go_big_guard | (refine wl_loadE rfl rfl rfl ?_; first | refine ⟨_, Loads.at (P := Tryz.prog) [] hs1 rfl, ?_⟩))
      go_ret
      exact ⟨rfl, hs1⟩
end
theorem newA_odd (d s : Int) (h : ¬ ((2 ≤ d ∧ d ≤ 8) ∧ (8 ≤ s ∧ s ≤ 4096))) (w : World) : Calls Tryz.prog 6 #[.int .i64 d, .int .i64 s] w fun e w' => e = .returned (.tuple #[.pointer none, .int .i64 2]) ∧ St w [] w' [] := by
  have hst := St.refl w
  by_cases c0 : d < 2
  · have t0 : decide (d < 2) = true := decide_eq_true c0
    clear h c0
    go_enter Tryz.func6, Tryz.ntmps6
    go_wp2_with (first | go_big_skip | go_big_guard | fail)
    go_ret2
    exact ⟨rfl, hst⟩
  have t0 : decide (d < 2) = false := decide_eq_false c0
  by_cases c1 : 8 < d
  · have t1 : decide (8 < d) = true := decide_eq_true c1
    have u1 : decide (d > 8) = true := t1
    clear h c0 c1
    go_enter Tryz.func6, Tryz.ntmps6
    go_wp2_with (first | go_big_skip | go_big_guard | fail)
    go_ret2
    exact ⟨rfl, hst⟩
  have t1 : decide (8 < d) = false := decide_eq_false c1
  have u1 : decide (d > 8) = false := t1
  by_cases c2 : s < 8
  · have t2 : decide (s < 8) = true := decide_eq_true c2
    clear h c0 c1 c2
    go_enter Tryz.func6, Tryz.ntmps6
    go_wp2_with (first | go_big_skip | go_big_guard | fail)
    go_ret2
    exact ⟨rfl, hst⟩
  have t2 : decide (s < 8) = false := decide_eq_false c2
  by_cases c3 : 4096 < s
  · have t3 : decide (4096 < s) = true := decide_eq_true c3
    have u3 : decide (s > 4096) = true := t3
    clear h c0 c1 c2 c3
    go_enter Tryz.func6, Tryz.ntmps6
    go_wp2_with (first | go_big_skip | go_big_guard | fail)
    go_ret2
    exact ⟨rfl, hst⟩
  have t3 : decide (4096 < s) = false := decide_eq_false c3
  have u3 : decide (s > 4096) = false := t3
  exact absurd ⟨⟨by omega, by omega⟩, ⟨by omega, by omega⟩⟩ h
theorem newR_odd (d s : Int) (h : ¬ ((2 ≤ d ∧ d ≤ 8) ∧ (8 ≤ s ∧ s ≤ 4096))) (w : World) : Calls Tryz.prog 7 #[.int .i64 d, .int .i64 s] w fun e w' => e = .returned (.tuple #[.pointer none, .int .i64 2]) ∧ St w [] w' [] := by
  have hst := St.refl w
  by_cases c0 : d < 2
  · have t0 : decide (d < 2) = true := decide_eq_true c0
    clear h c0
    go_enter Tryz.func7, Tryz.ntmps7
    go_wp2_with (first | go_big_skip | go_big_guard | fail)
    go_ret2
    exact ⟨rfl, hst⟩
  have t0 : decide (d < 2) = false := decide_eq_false c0
  by_cases c1 : 8 < d
  · have t1 : decide (8 < d) = true := decide_eq_true c1
    have u1 : decide (d > 8) = true := t1
    clear h c0 c1
    go_enter Tryz.func7, Tryz.ntmps7
    go_wp2_with (first | go_big_skip | go_big_guard | fail)
    go_ret2
    exact ⟨rfl, hst⟩
  have t1 : decide (8 < d) = false := decide_eq_false c1
  have u1 : decide (d > 8) = false := t1
  by_cases c2 : s < 8
  · have t2 : decide (s < 8) = true := decide_eq_true c2
    clear h c0 c1 c2
    go_enter Tryz.func7, Tryz.ntmps7
    go_wp2_with (first | go_big_skip | go_big_guard | fail)
    go_ret2
    exact ⟨rfl, hst⟩
  have t2 : decide (s < 8) = false := decide_eq_false c2
  by_cases c3 : 4096 < s
  · have t3 : decide (4096 < s) = true := decide_eq_true c3
    have u3 : decide (s > 4096) = true := t3
    clear h c0 c1 c2 c3
    go_enter Tryz.func7, Tryz.ntmps7
    go_wp2_with (first | go_big_skip | go_big_guard | fail)
    go_ret2
    exact ⟨rfl, hst⟩
  have t3 : decide (4096 < s) = false := decide_eq_false c3
  have u3 : decide (s > 4096) = false := t3
  exact absurd ⟨⟨by omega, by omega⟩, ⟨by omega, by omega⟩⟩ h
end Go.Proofs.YtclleohpmgihaaaGreat
namespace Go.Proofs.YtclleohpmgihaaaGreat
set_option linter.unusedVariables false
set_option linter.unusedSimpArgs false
open Go.RowKit Hp
attribute [local irreducible] Go.Calls Go.wpList
set_option maxRecDepth 100000
set_option maxHeartbeats 8000000
theorem newA_sc {s d : Nat} {gs : List Nat} (hd : 2 ≤ d ∧ d ≤ 8) (hs : 8 ≤ s ∧ s ≤ 4096) (hg : gs.length = d) : Sc (newA s gs) 0 := by
  refine ⟨newA_ok ⟨by omega, by omega⟩ (by omega), ?_, ⟨Int.le_refl _, Int.le_refl _⟩, Nat.le_refl _⟩
  cases gs with
  | nil => simp at hg; omega
  | cons g l =>
    show 8 ≤ (blank s g).firm.length
    rw [show (blank s g).firm.length = s from List.length_replicate]
    exact hs.1
theorem script_long (zd zs : Int) (ao : Option Addr) (N c : Nat) (ys : List AC) (w : World) (hv : Rd w (.slice ao N c) 7 N (ys.flatMap AC.cells)) (hN : ys.length = N) (hy : ∀ y ∈ ys, y.Ok w) (hs : ¬ shortC ys N) :
    Calls Tryz.prog 3 #[.int .i64 zd, .int .i64 zs, .slice ao N c] w fun e w' => e = .returned (.bool true) ∧ St w [] w' [] := by
  have hst := St.refl w
  have HYY := hid hy
  have HN := hid hN
  have HSH := hid hs
  clear hN hy hs
  go_enter Tryz.func3, Tryz.ntmps3
  go_wp2_with (first | go_big_skip | go_big_guard | (go_at_call 4; refine (longC_yes ao N c ys _ hv HN.out HYY.out HSH.out).mono ?_; rintro _ w81 ⟨rfl, h4⟩; have hm0 := St.call0 hst h4; clear h4 hst) | (go_at_call 5; refine (awake_any _).mono ?_; rintro _ w80 ⟨rfl, h4⟩; have hst9 := St.call0 hm0 h4; clear h4 hm0))
  go_ret
  exact ⟨rfl, hst9⟩
theorem script_odd (zd zs : Int) (ao : Option Addr) (N c : Nat) (ys : List AC) (w : World) (hv : Rd w (.slice ao N c) 7 N (ys.flatMap AC.cells)) (hN : ys.length = N) (hy : ∀ y ∈ ys, y.Ok w) (hs : shortC ys N) (h : ¬ ((2 ≤ zd ∧ zd ≤ 8) ∧ (8 ≤ zs ∧ zs ≤ 4096))) :
    Calls Tryz.prog 3 #[.int .i64 zd, .int .i64 zs, .slice ao N c] w fun e w' => e = .returned (.bool true) ∧ St w [] w' [] := by
  have hst := St.refl w
  have HYY := hid hy
  have HN := hid hN
  have HSH := hid hs
  clear hN hy hs
  have HO := hid h
  clear h
  go_enter Tryz.func3, Tryz.ntmps3
  go_wp2_with (first | go_big_skip | go_big_guard | (go_at_call 4; refine (longC_no ao N c ys _ hv HN.out HYY.out HSH.out).mono ?_; rintro _ w81 ⟨rfl, h4⟩; have hm0 := St.call0 hst h4; clear h4 hst) | (go_at_call 6; refine (newA_odd zd zs HO.out _).mono ?_; rintro _ w2 ⟨rfl, h4⟩; have hm1 := St.call0 hm0 h4; clear h4 hm0) | (go_at_call 7; refine (newR_odd zd zs HO.out _).mono ?_; rintro _ w3 ⟨rfl, h4⟩; have hm2 := St.call0 hm1 h4; clear h4 hm1))
  go_loopw [11] (fun i wr => i = .int .i64 0 ∧ St w [] wr []) (fun _ _ => 0)
  case atStart => exact ⟨rfl, hm2⟩
  case round =>
    clear hm2
    obtain ⟨rfl, hm3⟩ := hrel
    go_wp2_with (first | go_big_skip | go_big_guard | (go_at_call 5; refine (awake_any _).mono ?_; rintro _ w80 ⟨rfl, h4⟩; have hst9 := St.call0 hm3 h4; clear h4 hm3))
    go_ret
    exact ⟨rfl, hst9⟩
theorem script_fine (d s : Nat) (hd : 2 ≤ d ∧ d ≤ 8) (hs9 : 8 ≤ s ∧ s ≤ 4096) (ao : Option Addr) (N c : Nat) (ys : List AC) (w : World) (hv : Rd w (.slice ao N c) 7 N (ys.flatMap AC.cells)) (hN : ys.length = N) (hy : ∀ y ∈ ys, y.Ok w) (hs : shortC ys N) :
    Calls Tryz.prog 3 #[.int .i64 (d : Int), .int .i64 (s : Int), .slice ao N c] w fun e w' => e = .returned (.bool true) ∧ St w [] w' [] := by
  have hst := St.refl w
  have HYY := hid hy
  have HN := hid hN
  have HSH := hid hs
  clear hN hy hs
  have hN100 : N ≤ 100 := HSH.out.1
  go_enter Tryz.func3, Tryz.ntmps3
  go_wp2_with (first | go_big_skip | go_big_guard | (go_at_call 4; refine (longC_no ao N c ys _ hv HN.out HYY.out HSH.out).mono ?_; rintro _ w81 ⟨rfl, h4⟩; have hm0 := St.call0 hst h4; clear h4 hst) | (go_at_call 6; refine (newM_any d s hd hs9 _).mono ?_; rintro _ w2 ⟨ga, x0, gs, rfl, hg, h4⟩; have hm1 : St w [] w2 (arP ga x0 (newA s gs) ++ []) := St.call hm0 h4; have HG := hid hg; clear h4 hm0 hg) | (go_at_call 7; refine (new_r hm1 d s hd hs9).mono ?_; rintro _ w3 ⟨gr, q0, rfl, hq, h4⟩; have hm2 : St w [] w3 (rxP gr q0 ++ (arP ga x0 (newA s gs) ++ [])) := h4; have HQ := hid hq; clear h4 hm1 hq))
  have hsc := newA_sc hd hs9 HG.out
  have hro := HQ.out gs HG.out
  obtain ⟨a0, ha0⟩ : ∃ a0, a0 = newA s gs := ⟨_, rfl⟩
  rw [← ha0] at hm2 hsc hro
  clear ha0
  go_loopw [11] (fun i wr => ∃ (m : Nat) (x : GA) (a : AR) (q : RX), m ≤ N ∧ i = .int .i64 (m : Int) ∧ Sc a m ∧ RefOk a q ∧ St w [] wr (rxP gr q ++ (arP ga x a ++ []))) (fun i _ => N - (intOf i).toNat)
  case atStart => exact ⟨0, x0, a0, q0, Nat.zero_le _, rfl, hsc, hro, hm2⟩
  case round =>
    clear hm2 hsc hro
    obtain ⟨m, x, a, q, hm, rfl, hsc, hro, hst⟩ := hrel
    have HSC := hid hsc
    have HRO := hid hro
    clear hsc hro
    by_cases hlm : m < N
    · have d1 : decide ((m : Int) < (N : Int)) = true := decide_eq_true (by omega)
      have z1 : IntKind.i64.wrap ((m : Int) + 1) = (m : Int) + 1 := IntWalk.i64_in _ (by omega)
      obtain ⟨y, hy⟩ : ∃ y, ys[m]? = some y := ⟨_, List.getElem?_eq_getElem (by rw [HN.out]; exact hlm)⟩
      obtain ⟨b, off, rfl, _⟩ := hv.at hlm
      have HYM := hid (List.mem_of_getElem? hy)
      have HY := hid (HYY.out y HYM.out)
      have hra := hid (acs_range hv hy)
      have HSY := hid (HSH.out.2 y HYM.out)
      have hl1 : a.loose.length < 1000000 := by have := HSC.out.ll; omega
      have hs1 : 0 ≤ a.steps ∧ a.steps < 4611686018427387904 := by have := HSC.out.st; omega
      have HL1 := hid hl1
      have HS1 := hid hs1
      clear hy hl1 hs1
      go_wp2_with (first | go_big_skip | go_big_guard | (refine wl_loadE rfl rfl rfl ?_; refine ⟨_, Loads.oldA (cs := y.cells) (n := 7) hst rfl hra.out, ?_⟩) | (go_at_call 8; refine (does2 (R := []) y hst HRO.out HSC.out.ok HL1.out HS1.out (by have := HSC.out.sec; omega) HY.out HSY.out.1 HSY.out.2).mono ?_; rintro _ w5 ⟨a2, rfl, x2, a3, q2, rfl, hn, hq, h4⟩; have HN2 := hid hn; have HQ2 := hid hq; have hst2 := h4; clear h4 hn hq hst) | (go_at_call 9; refine (alike2 (R := []) hst2 HQ2.out HN2.out.ok (by have := HN2.out.st.ll; have := HSC.out.ll; omega)).mono ?_; rintro _ w6 ⟨rfl, h4⟩; have hst3 := h4; clear h4 hst2))
      go_roundw
      case rel => exact ⟨m + 1, x2, _, q2, by omega, rfl, HSC.out.next HN2.out.ok HN2.out.st, HQ2.out, hst3⟩
      case measure => simp [intOf]; omega
    · obtain rfl : m = N := by omega
      have d1 : decide ((m : Int) < (m : Int)) = false := decide_eq_false (by omega)
      go_wp2_with (first | go_big_skip | go_big_guard | (go_at_call 5; refine (awake_any _).mono ?_; rintro _ w80 ⟨rfl, h4⟩; have hst9 := St.call0 hst h4; clear h4 hst))
      go_ret
      exact ⟨rfl, hst9.nil⟩
theorem script_law (zd zs : Int) (ao : Option Addr) (N c : Nat) (ys : List AC) (w : World) (hv : Rd w (.slice ao N c) 7 N (ys.flatMap AC.cells)) (hN : ys.length = N) (hy : ∀ y ∈ ys, y.Ok w) :
    Calls Tryz.prog 3 #[.int .i64 zd, .int .i64 zs, .slice ao N c] w fun e w' => e = .returned (.bool true) ∧ St w [] w' [] := by
  by_cases hs : shortC ys N
  · by_cases h : (2 ≤ zd ∧ zd ≤ 8) ∧ (8 ≤ zs ∧ zs ≤ 4096)
    · obtain ⟨d, rfl⟩ : ∃ d : Nat, zd = d := ⟨zd.toNat, by omega⟩
      obtain ⟨s, rfl⟩ : ∃ s : Nat, zs = s := ⟨zs.toNat, by omega⟩
      exact script_fine d s (by omega) (by omega) ao N c ys w hv hN hy hs
    · exact script_odd zd zs ao N c ys w hv hN hy hs h
  · exact script_long zd zs ao N c ys w hv hN hy hs
end Go.Proofs.YtclleohpmgihaaaGreat
namespace Go.Proofs.YtclleohpmgihaaaGreat
set_option linter.unusedVariables false
set_option linter.unusedSimpArgs false
open Go.ChangeShapes Go.WideShapes Go.ChangeAt Go.RowKit Hp
set_option maxRecDepth 100000 in
theorem arrayScript_lifted (os : Os) (started : os.Started) (H : Type) (enc : TypeId × Value → H) :
    ReturnsInHanded {} Tryz.checked os 3 .any (Rows.arrayScriptSpec.pre6 enc Tryz.prog Tryz.f3 Rows.arrayScriptRow.domain false) (Rows.arrayScriptSpec.post enc Tryz.prog Tryz.f3 false true false false) := by
  refine returnsInHanded_of_change (C := Tryz.checked) own started (by kernel_rfl) Tryz.func3
    (ChangeSpec.witness6 (enc := enc) (C := Tryz.checked) false ⟨#[], #[.int .i64 0, .int .i64 0, .slice none 0 0], []⟩ 8 (by kernel_rfl) (by kernel_rfl) (by kernel_rfl) (by kernel_rfl)) ?_
  intro W base args ds gs before hval0 hW hcnd _
  have hval : ∀ (j : Nat) t v, Tryz.f3.params[j]? = some t → args[j]? = some v → Value.okWide Tryz.prog W .any base t v := hval0
  have hW' := hW
  obtain ⟨p, q, hAA0, hV, rfl, hfz, hnd⟩ := hW
  have hA : DataW.TrodAll enc Tryz.prog W 0 (fun _ => true) true Tryz.f3.params.toList args.toList ds p := hAA0
  rw [Tryz.params3] at hA hval
  have hk := hA
  obtain ⟨v0, v1, v2, d0, d1, d2, p0, p1, p2, rfl, rfl, rfl, h0, h1, h2⟩ := trodAll_three hA
  obtain ⟨rfl, rfl⟩ := trodVars_none hV
  obtain ⟨n0, h0⟩ := h0
  obtain ⟨z0, rfl, hl0, hu0⟩ := open_int (hval 0 _ v0 rfl rfl) h0
  obtain ⟨n1, h1⟩ := h1
  obtain ⟨z1, rfl, hl1, hu1⟩ := open_int (hval 1 _ v1 rfl rfl) h1
  obtain ⟨n2, h2⟩ := h2
  obtain ⟨ao2, n2, c2, xs2, rfl, hA2, hn2, hk2⟩ := open_acts (hval 2 _ v2 rfl rfl) h2
  clear hAA0 hval0
  simp only [List.append_nil] at hW'
  refine (script_law z0 z1 ao2 n2 c2 xs2 W hA2 hn2 hk2).mono fun e W' ⟨he, hg⟩ => ?_
  subst he
  exact ⟨_, rfl, post_of_kept (pv := []) hW' (fun _ _ _ => (trodAll_cons_mk (shut_bool Tryz.underlying4 _) trodAll_mk0)) (fun sp hsp => by
      rw [Tryz.params3]
      exact args_kept (by decide) hk hg.below (fun p hp => hW'.lt p hp) sp hsp) (fun _ _ => rfl) (by simp)
    (hg.below.frame _)⟩
theorem arrayScript_over : Rows.arrayScriptRow.holds Tryz.pinned (OpenSpec.ofChange Rows.arrayScriptSpec) :=
  OpenClaim.holds_of_wide 3 Tryz.f3 rfl rfl rfl rfl rfl rfl rfl ⟨rfl, rfl, rfl, rfl, rfl⟩ rfl rfl rfl rfl rfl (by kernel_rfl) Tryz.func3 (by kernel_rfl)
    (of_decide_eq_true (by kernel_rfl)) (by unfold Func.isWrapper; first | (rw [if_pos (by decide +kernel)]; kernel_rfl) | (rw [if_neg (by decide +kernel)]; exact ⟨rfl, rfl⟩))
    (fun os started H enc _ => arrayScript_lifted os started H enc)

theorem arrayScript_proved : Rows.ArrayScriptSaid :=
  arrayScript_over
end Go.Proofs.YtclleohpmgihaaaGreat
