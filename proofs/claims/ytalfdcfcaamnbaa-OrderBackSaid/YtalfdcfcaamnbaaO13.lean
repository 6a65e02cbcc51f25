import Derived.Test.YtalfdcfcaamnbaaO8
namespace Go.Proofs.Ytalfdcfcaamnbaa
set_option linter.unusedVariables false
set_option linter.unusedSimpArgs false
open Go.RowKit Hp
attribute [local irreducible] Go.Calls Go.wpList
set_option maxRecDepth 100000
set_option maxHeartbeats 4000000
section
attribute [local go_sem ↓] loadedPi loadedInt loadedPs loadedPb
theorem num2_at (g : Nat) (bv : Value) (B : List UInt8) (s : RS) (F : List Nat) (L1 L2 : List HA) (ga off : Nat) (T : TypeId) (cs : List Value) (w : World) (hst : St w F w (rP g bv B s ++ (L1 ++ .blk ga T cs :: L2))) (hp : s.pos ≤ B.length) (hB : B.length ≤ 100000) (ho : off < cs.length) {gn gz gl gh : Nat} {size low high : Int} (agn : w.cell? ⟨gn, 0, none⟩ = some (.pointer (some ⟨ga, off, none⟩))) (bgn : gn ∉ F) (agz : w.cell? ⟨gz, 0, none⟩ = some (.int .i64 size)) (bgz : gz ∉ F) (agl : w.cell? ⟨gl, 0, none⟩ = some (.int .i64 low)) (bgl : gl ∉ F) (agh : w.cell? ⟨gh, 0, none⟩ = some (.int .i64 high)) (bgh : gh ∉ F) (hs : -9223372036854775808 ≤ size ∧ size ≤ 9223372036854775807) :
    Calls Try.prog 74 #[.pointer (some ⟨g, 0, none⟩), .pointer (some ⟨gz, 0, none⟩), .pointer (some ⟨gl, 0, none⟩), .pointer (some ⟨gh, 0, none⟩), .pointer (some ⟨gn, 0, none⟩)] w fun e w' => e = .returned (.tuple #[]) ∧ St w F w' (rP g bv B (stepR s (numRR B s.pos size low high) 0).1 ++ (L1 ++ .blk ga T (putAt cs off [.int .i64 (stepR s (numRR B s.pos size low high) 0).2]) :: L2)) := by
  have kagn := hid agn
  have kbgn := hid bgn
  have kagz := hid agz
  have kbgz := hid bgz
  have kagl := hid agl
  have kbgl := hid bgl
  have kagh := hid agh
  have kbgh := hid bgh
  obtain ⟨R, hR⟩ : ∃ R, R = L1 ++ HA.blk ga T cs :: L2 := ⟨_, rfl⟩
  have HR := hid hR
  obtain ⟨W0, hW⟩ : ∃ W0, W0 = rP g bv B s ++ R := ⟨_, rfl⟩
  have HW := hid hW
  rw [← hR, ← hW] at hst
  clear hR hW
  obtain ⟨S', hS'⟩ : ∃ S', S' = stepR s (numRR B s.pos size low high) 0 := ⟨_, rfl⟩
  have HS := hid hS'
  rw [← hS']
  clear hS'
  go_enter Try.func74, Try.ntmps74
  go_wp2_with (first | go_big_skip | go_big_guard | fail)
  have hD := hst.drew
  clear hst
  refine wp_region_held_drew (S := (fun w' => (loadVarH 83 ⟨gn, 0, none⟩).run Try.prog w' = .ok (.pointer (some ⟨ga, off, none⟩)) w' ∧ (loadVarH 3 ⟨gz, 0, none⟩).run Try.prog w' = .ok (.int .i64 size) w' ∧ (loadVarH 3 ⟨gl, 0, none⟩).run Try.prog w' = .ok (.int .i64 low) w' ∧ (loadVarH 3 ⟨gh, 0, none⟩).run Try.prog w' = .ok (.int .i64 high) w')) (by kernel_rfl) (by exact ⟨ldOMx hD kagn.out kbgn.out, ldOMx hD kagz.out kbgz.out, ldOMx hD kagl.out kbgl.out, ldOMx hD kagh.out kbgh.out⟩) (fun hHeld => ?_)
  refine wpAnyH_take (i := 0) (oi := ⟨some 6, _, _, _, _, _⟩) (v := ?_) rfl (by kernel_rfl) (by kernel_rfl) (by kernel_rfl) (fun _ _ _ h => h) (Or.inl ⟨by rfl, ?_⟩) (by assumption) ?_
  rotate_left
  · intro w hSw; (try dsimp only at hSw); go_simp; try with_reducible rfl
  (try simp only [Act.put, List.setIfInBounds_toArray, List.set_cons_zero, List.set_cons_succ])
  refine wpAnyH_take (i := 1) (oi := ⟨some 7, _, _, _, _, _⟩) (v := ?_) rfl (by kernel_rfl) (by kernel_rfl) (by kernel_rfl) (fun _ _ _ h => h) (Or.inl ⟨by rfl, ?_⟩) (by assumption) ?_
  rotate_left
  · intro w hSw; (try dsimp only at hSw); go_simp; try with_reducible rfl
  (try simp only [Act.put, List.setIfInBounds_toArray, List.set_cons_zero, List.set_cons_succ])
  refine wpAnyH_take (i := 2) (oi := ⟨some 8, _, _, _, _, _⟩) (v := ?_) rfl (by kernel_rfl) (by kernel_rfl) (by kernel_rfl) (fun _ _ _ h => h) (Or.inl ⟨by rfl, ?_⟩) (by assumption) ?_
  rotate_left
  · intro w hSw; (try dsimp only at hSw); go_simp; try with_reducible rfl
  (try simp only [Act.put, List.setIfInBounds_toArray, List.set_cons_zero, List.set_cons_succ])
  refine wpAnyH_take (i := 3) (oi := ⟨some 9, _, _, _, _, _⟩) (v := ?_) rfl (by kernel_rfl) (by kernel_rfl) (by kernel_rfl) (fun _ _ _ h => h) (Or.inl ⟨by rfl, ?_⟩) (by assumption) ?_
  rotate_left
  · intro w hSw; (try dsimp only at hSw); go_simp; try with_reducible rfl
  (try simp only [Act.put, List.setIfInBounds_toArray, List.set_cons_zero, List.set_cons_succ])
  refine wpAnyH_take (i := 4) (oi := ⟨some 10, _, _, _, _, _⟩) (v := ?_) rfl (by kernel_rfl) (by kernel_rfl) (by kernel_rfl) (fun _ _ _ h => h) (Or.inl ⟨by rfl, ?_⟩) (by assumption) ?_
  rotate_left
  · intro w hSw; (try dsimp only at hSw); go_simp; try with_reducible rfl
  (try simp only [Act.put, List.setIfInBounds_toArray, List.set_cons_zero, List.set_cons_succ])
  refine wpAnyH_ready (rs := [5]) (by kernel_rfl) (by simp) ?_
  refine (AllReadyH.cons (o := ⟨some 11, _, _, _, _, _⟩) rfl (fun K hK => ?_) AllReadyH.nil)
  rw [if_pos (by rfl)]
  go_simp
  go_at_call 75
  have hQ := hD
  rw [HW.out] at hQ
  have hS := (St.sub hQ (List.sublist_append_left _ _)).selfF
  refine (rNum_any g bv B s size low high _ hS hp hB hs).mono ?_
  rintro _ w9 ⟨he, h4⟩
  rw [← HS.out] at he h4
  subst he
  have hE := St.callF (rP g bv B s) hQ h4
  clear h4 hQ hS
  refine hK.out _ _ ?_ (fun hHeld => ?_)
  · exact ⟨ldOMx hE kagn.out kbgn.out, ldOMx hE kagz.out kbgz.out, ldOMx hE kagl.out kbgl.out, ldOMx hE kagh.out kbgh.out⟩
  clear hK K
  (try simp only [Act.put, List.setIfInBounds_toArray, List.set_cons_zero, List.set_cons_succ])
  refine wpAnyH_take (i := 6) (oi := ⟨some 12, _, _, _, _, _⟩) (v := ?_) rfl (by kernel_rfl) (by kernel_rfl) (by kernel_rfl) (fun _ _ _ h => h) (Or.inl ⟨by rfl, ?_⟩) (by assumption) ?_
  rotate_left
  · intro w hSw; (try dsimp only at hSw); go_simp; try with_reducible rfl
  (try simp only [Act.put, List.setIfInBounds_toArray, List.set_cons_zero, List.set_cons_succ])
  refine wpAnyH_ready (rs := [7]) (by kernel_rfl) (by simp) ?_
  refine (AllReadyH.cons (o := ⟨none, _, _, _, _, _⟩) rfl (fun K hK => ?_) AllReadyH.nil)
  rw [if_pos (by rfl)]
  refine ow_of_wl (ops := #[]) (by rfl) ?_
  have hE2 := hE
  rw [HR.out, ← List.append_assoc] at hE2
  refine wl_store _ hE2 rfl rfl rfl (v := .int _ _) rfl rfl rfl (by show off + 1 ≤ _; omega) ?_
  intro w11 hG
  clear hE2
  rw [List.append_assoc] at hG
  refine q0_nil ?_
  refine hK.out _ _ ?_ (fun hHeld => ?_)
  · exact ⟨ldOMx hG kagn.out kbgn.out, ldOMx hG kagz.out kbgz.out, ldOMx hG kagl.out kbgl.out, ldOMx hG kagh.out kbgh.out⟩
  clear hK K
  (try simp only [Act.put, List.setIfInBounds_toArray, List.set_cons_zero, List.set_cons_succ])
  refine wpAnyH_done (by kernel_rfl) ?_ _
  clear hHeld
  go_end0
  exact ⟨rfl, hG⟩
theorem text2_at (g : Nat) (bv : Value) (B : List UInt8) (s : RS) (F : List Nat) (L1 L2 : List HA) (ga off : Nat) (T : TypeId) (cs : List Value) (w : World) (hst : St w F w (rP g bv B s ++ (L1 ++ .blk ga T cs :: L2))) (hp : s.pos ≤ B.length) (hB : B.length ≤ 100000) (ho : off < cs.length) {gn : Nat} (agn : w.cell? ⟨gn, 0, none⟩ = some (.pointer (some ⟨ga, off, none⟩))) (bgn : gn ∉ F) :
    Calls Try.prog 78 #[.pointer (some ⟨g, 0, none⟩), .pointer (some ⟨gn, 0, none⟩)] w fun e w' => e = .returned (.tuple #[]) ∧ St w F w' (rP g bv B (stepR s (textRR B s.pos 48) []).1 ++ (L1 ++ .blk ga T (putAt cs off [strV (stepR s (textRR B s.pos 48) []).2]) :: L2)) := by
  have kagn := hid agn
  have kbgn := hid bgn
  obtain ⟨R, hR⟩ : ∃ R, R = L1 ++ HA.blk ga T cs :: L2 := ⟨_, rfl⟩
  have HR := hid hR
  obtain ⟨W0, hW⟩ : ∃ W0, W0 = rP g bv B s ++ R := ⟨_, rfl⟩
  have HW := hid hW
  rw [← hR, ← hW] at hst
  clear hR hW
  obtain ⟨S', hS'⟩ : ∃ S', S' = stepR s (textRR B s.pos 48) [] := ⟨_, rfl⟩
  have HS := hid hS'
  rw [← hS']
  clear hS'
  go_enter Try.func78, Try.ntmps78
  go_wp2_with (first | go_big_skip | go_big_guard | fail)
  have hD := hst.drew
  clear hst
  refine wp_region_held_drew (S := (fun w' => (loadVarH 92 ⟨gn, 0, none⟩).run Try.prog w' = .ok (.pointer (some ⟨ga, off, none⟩)) w')) (by kernel_rfl) (by exact ldOMx hD kagn.out kbgn.out) (fun hHeld => ?_)
  refine wpAnyH_take (i := 0) (oi := ⟨some 3, _, _, _, _, _⟩) (v := ?_) rfl (by kernel_rfl) (by kernel_rfl) (by kernel_rfl) (fun _ _ _ h => h) (Or.inl ⟨by rfl, ?_⟩) (by assumption) ?_
  rotate_left
  · intro w hSw; (try dsimp only at hSw); go_simp; try with_reducible rfl
  (try simp only [Act.put, List.setIfInBounds_toArray, List.set_cons_zero, List.set_cons_succ])
  refine wpAnyH_take (i := 1) (oi := ⟨some 4, _, _, _, _, _⟩) (v := ?_) rfl (by kernel_rfl) (by kernel_rfl) (by kernel_rfl) (fun _ _ _ h => h) (Or.inl ⟨by rfl, ?_⟩) (by assumption) ?_
  rotate_left
  · intro w hSw; (try dsimp only at hSw); go_simp; try with_reducible rfl
  (try simp only [Act.put, List.setIfInBounds_toArray, List.set_cons_zero, List.set_cons_succ])
  refine wpAnyH_ready (rs := [2]) (by kernel_rfl) (by simp) ?_
  refine (AllReadyH.cons (o := ⟨some 5, _, _, _, _, _⟩) rfl (fun K hK => ?_) AllReadyH.nil)
  rw [if_pos (by rfl)]
  go_simp
  go_at_call 79
  have hQ := hD
  rw [HW.out] at hQ
  have hS := (St.sub hQ (List.sublist_append_left _ _)).selfF
  refine (rText_any g bv B s 48 _ hS hp hB (by decide)).mono ?_
  rintro _ w9 ⟨he, h4⟩
  rw [← HS.out] at he h4
  subst he
  have hE := St.callF (rP g bv B s) hQ h4
  clear h4 hQ hS
  refine hK.out _ _ ?_ (fun hHeld => ?_)
  · exact ldOMx hE kagn.out kbgn.out
  clear hK K
  (try simp only [Act.put, List.setIfInBounds_toArray, List.set_cons_zero, List.set_cons_succ])
  refine wpAnyH_take (i := 3) (oi := ⟨some 6, _, _, _, _, _⟩) (v := ?_) rfl (by kernel_rfl) (by kernel_rfl) (by kernel_rfl) (fun _ _ _ h => h) (Or.inl ⟨by rfl, ?_⟩) (by assumption) ?_
  rotate_left
  · intro w hSw; (try dsimp only at hSw); go_simp; try with_reducible rfl
  (try simp only [Act.put, List.setIfInBounds_toArray, List.set_cons_zero, List.set_cons_succ])
  refine wpAnyH_ready (rs := [4]) (by kernel_rfl) (by simp) ?_
  refine (AllReadyH.cons (o := ⟨none, _, _, _, _, _⟩) rfl (fun K hK => ?_) AllReadyH.nil)
  rw [if_pos (by rfl)]
  refine ow_of_wl (ops := #[]) (by rfl) ?_
  have hE2 := hE
  rw [HR.out, ← List.append_assoc] at hE2
  refine wl_store _ hE2 rfl rfl rfl (v := .string _) rfl rfl rfl (by show off + 1 ≤ _; omega) ?_
  intro w11 hG
  clear hE2
  rw [List.append_assoc] at hG
  refine q0_nil ?_
  refine hK.out _ _ ?_ (fun hHeld => ?_)
  · exact ldOMx hG kagn.out kbgn.out
  clear hK K
  (try simp only [Act.put, List.setIfInBounds_toArray, List.set_cons_zero, List.set_cons_succ])
  refine wpAnyH_done (by kernel_rfl) ?_ _
  clear hHeld
  go_end0
  exact ⟨rfl, hG⟩
/-- How many bytes, and the bytes. -/
def rawS (B : List UInt8) (s : RS) : RS × List UInt8 := stepR (stepR s (numRR B s.pos 3 0 16384) 0).1 (rawRR B (stepR s (numRR B s.pos 3 0 16384) 0).1.pos (stepR s (numRR B s.pos 3 0 16384) 0).2) []
theorem raw2_at (g : Nat) (bv : Value) (B : List UInt8) (s : RS) (F : List Nat) (L1 L2 : List HA) (ga off : Nat) (T : TypeId) (cs : List Value) (w : World) (hst : St w F w (rP g bv B s ++ (L1 ++ .blk ga T cs :: L2))) (hp : s.pos ≤ B.length) (hB : B.length ≤ 100000) (ho : off < cs.length) {gn : Nat} (agn : w.cell? ⟨gn, 0, none⟩ = some (.pointer (some ⟨ga, off, none⟩))) (bgn : gn ∉ F) (hp2 : (stepR s (numRR B s.pos 3 0 16384) 0).1.pos ≤ B.length) (hz : -9223372036854775808 ≤ (stepR s (numRR B s.pos 3 0 16384) 0).2 ∧ (stepR s (numRR B s.pos 3 0 16384) 0).2 ≤ 9223372036854775807) :
    Calls Try.prog 84 #[.pointer (some ⟨g, 0, none⟩), .pointer (some ⟨gn, 0, none⟩)] w fun e w' => e = .returned (.tuple #[]) ∧ ∃ u, St w F w' (rP g bv B (rawS B s).1 ++ ((.rowP isB u 5 1 (rawS B s).2.length (bytesV (rawS B s).2) :: L1) ++ .blk ga T (putAt cs off [u]) :: L2)) := by
  have kagn := hid agn
  have kbgn := hid bgn
  obtain ⟨R, hR⟩ : ∃ R, R = L1 ++ HA.blk ga T cs :: L2 := ⟨_, rfl⟩
  have HR := hid hR
  obtain ⟨W0, hW⟩ : ∃ W0, W0 = rP g bv B s ++ R := ⟨_, rfl⟩
  have HW := hid hW
  rw [← hR, ← hW] at hst
  clear hR hW
  obtain ⟨S1, hS1⟩ : ∃ S1, S1 = stepR s (numRR B s.pos 3 0 16384) 0 := ⟨_, rfl⟩
  have HS1 := hid hS1
  obtain ⟨S', hS'⟩ : ∃ S', S' = rawS B s := ⟨_, rfl⟩
  have HS := hid (show stepR S1.1 (rawRR B S1.1.pos S1.2) [] = S' by rw [hS', hS1]; rfl)
  rw [← hS'] at *
  rw [← hS1] at hp2 hz
  clear hS' hS1
  go_enter Try.func84, Try.ntmps84
  go_wp2_with (first | go_big_skip | go_big_guard | fail)
  have hD := hst.drew
  clear hst
  refine wp_region_held_drew (S := (fun w' => (loadVarH 96 ⟨gn, 0, none⟩).run Try.prog w' = .ok (.pointer (some ⟨ga, off, none⟩)) w')) (by kernel_rfl) (by exact ldOMx hD kagn.out kbgn.out) (fun hHeld => ?_)
  refine wpAnyH_take (i := 0) (oi := ⟨some 3, _, _, _, _, _⟩) (v := ?_) rfl (by kernel_rfl) (by kernel_rfl) (by kernel_rfl) (fun _ _ _ h => h) (Or.inl ⟨by rfl, ?_⟩) (by assumption) ?_
  rotate_left
  · intro w hSw; (try dsimp only at hSw); go_simp; try with_reducible rfl
  (try simp only [Act.put, List.setIfInBounds_toArray, List.set_cons_zero, List.set_cons_succ])
  refine wpAnyH_take (i := 1) (oi := ⟨some 4, _, _, _, _, _⟩) (v := ?_) rfl (by kernel_rfl) (by kernel_rfl) (by kernel_rfl) (fun _ _ _ h => h) (Or.inl ⟨by rfl, ?_⟩) (by assumption) ?_
  rotate_left
  · intro w hSw; (try dsimp only at hSw); go_simp; try with_reducible rfl
  (try simp only [Act.put, List.setIfInBounds_toArray, List.set_cons_zero, List.set_cons_succ])
  refine wpAnyH_take (i := 2) (oi := ⟨some 5, _, _, _, _, _⟩) (v := ?_) rfl (by kernel_rfl) (by kernel_rfl) (by kernel_rfl) (fun _ _ _ h => h) (Or.inl ⟨by rfl, ?_⟩) (by assumption) ?_
  rotate_left
  · intro w hSw; (try dsimp only at hSw); go_simp; try with_reducible rfl
  (try simp only [Act.put, List.setIfInBounds_toArray, List.set_cons_zero, List.set_cons_succ])
  refine wpAnyH_ready (rs := [3]) (by kernel_rfl) (by simp) ?_
  refine (AllReadyH.cons (o := ⟨some 6, _, _, _, _, _⟩) rfl (fun K hK => ?_) AllReadyH.nil)
  rw [if_pos (by rfl)]
  go_simp
  go_at_call 75
  have hQ := hD
  rw [HW.out] at hQ
  have hS := (St.sub hQ (List.sublist_append_left _ _)).selfF
  refine (rNum_any g bv B s 3 0 16384 _ hS hp hB (by decide)).mono ?_
  rintro _ w9 ⟨he, h4⟩
  rw [← HS1.out] at he h4
  subst he
  have hE := St.callF (rP g bv B s) hQ h4
  clear h4 hQ hS
  refine hK.out _ _ ?_ (fun hHeld => ?_)
  · exact ldOMx hE kagn.out kbgn.out
  clear hK K
  (try simp only [Act.put, List.setIfInBounds_toArray, List.set_cons_zero, List.set_cons_succ])
  refine wpAnyH_ready (rs := [4]) (by kernel_rfl) (by simp) ?_
  refine (AllReadyH.cons (o := ⟨some 7, _, _, _, _, _⟩) rfl (fun K hK => ?_) AllReadyH.nil)
  rw [if_pos (by rfl)]
  go_simp
  go_at_call 85
  have hS := (St.sub hE (List.sublist_append_left _ _)).selfF
  refine (rRaw_any g bv B S1.1 S1.2 _ hS hp2 hB hz).mono ?_
  rw [HS.out]
  rintro _ w10 ⟨u, rfl, h4⟩
  have hE3 := St.callF (rP g bv B S1.1) hE h4
  clear h4 hS
  rw [HR.out, List.append_assoc] at hE3
  obtain ⟨au, cu, rfl⟩ := St.rowPSliceF (rP g bv B S'.1) hE3
  refine hK.out _ _ ?_ (fun hHeld => ?_)
  · exact ldOMx hE3 kagn.out kbgn.out
  clear hK K
  (try simp only [Act.put, List.setIfInBounds_toArray, List.set_cons_zero, List.set_cons_succ])
  refine wpAnyH_take (i := 5) (oi := ⟨some 8, _, _, _, _, _⟩) (v := ?_) rfl (by kernel_rfl) (by kernel_rfl) (by kernel_rfl) (fun _ _ _ h => h) (Or.inl ⟨by rfl, ?_⟩) (by assumption) ?_
  rotate_left
  · intro w hSw; (try dsimp only at hSw); go_simp; try with_reducible rfl
  (try simp only [Act.put, List.setIfInBounds_toArray, List.set_cons_zero, List.set_cons_succ])
  refine wpAnyH_ready (rs := [6]) (by kernel_rfl) (by simp) ?_
  refine (AllReadyH.cons (o := ⟨none, _, _, _, _, _⟩) rfl (fun K hK => ?_) AllReadyH.nil)
  rw [if_pos (by rfl)]
  refine ow_of_wl (ops := #[]) (by rfl) ?_
  have hE2 := hE3
  rw [← List.append_assoc [_] L1, ← List.append_assoc (rP g bv B S'.1)] at hE2
  refine wl_store _ hE2 rfl rfl rfl (v := .slice _ _ _) rfl rfl rfl (by show off + 1 ≤ _; omega) ?_
  intro w11 hG
  clear hE2
  rw [List.append_assoc (rP g bv B S'.1)] at hG
  refine q0_nil ?_
  refine hK.out _ _ ?_ (fun hHeld => ?_)
  · exact ldOMx hG kagn.out kbgn.out
  clear hK K
  (try simp only [Act.put, List.setIfInBounds_toArray, List.set_cons_zero, List.set_cons_succ])
  refine wpAnyH_done (by kernel_rfl) ?_ _
  clear hHeld
  go_end0
  exact ⟨rfl, _, hG⟩
end
end Go.Proofs.Ytalfdcfcaamnbaa
