/- PROVED: the law OrderKnown returns true at any input, and nothing that was there has turned. No condition. -/
import Derived.Test.YtalfdcfcaamnbaaJOrderKnownb
import Derived.Test.YtalfdcfcaamnbaaPost
namespace Go.Proofs.Ytalfdcfcaamnbaa
set_option linter.unusedVariables false
set_option linter.unusedSimpArgs false
open Go.RowKit Hp
attribute [local irreducible] Go.Calls Go.wpList
set_option maxRecDepth 100000
set_option maxHeartbeats 4000000
theorem loadedRyy (A : Addr) : loadVar 49 A = loadVarH 49 A := rfl
theorem Hp.St.newOffs {w0 w : World} {L : List HA} (h : St w0 [] w L) {ks : List Nat} (hk : ∀ k ∈ ks, ∃ T cs, HA.blk k T cs ∈ L) {v : Value} {sz n : Nat} {xs : List Value} (hr : Rd w0 v sz n xs) (hs : 0 < sz) : Off v ks := by
  refine Off.old hr hs fun k hm => ?_
  obtain ⟨T, cs, hx⟩ := hk k hm
  rcases h.own _ hx k rfl with h1 | h1
  · exact h1
  · cases h1
/-- What GetReply tells. -/
def GetRP (w : World) (r : RV × Int × Int) (e : Ending) (w' : World) : Prop := ∃ lv bv, e = .returned (.tuple #[.agg (r.1.cells lv bv).toArray, .agg #[.int .i64 r.2.1, .int .i64 r.2.2]]) ∧
  St w [] w' [.rowP isI lv 3 1 r.1.n.length (intsV r.1.n), .rowP isB bv 5 1 r.1.b.length (bytesV r.1.b)]
section
attribute [local go_sem ↓] loadedRyy loadedFt
theorem ogetR_bad (ao : Option Addr) (n c : Nat) (B : List UInt8) (w : World) (hr : Rd w (.slice ao n c) 1 n (bytesV B)) (hn : B.length = n) (hb : n ≤ 100000) (h0 : (endR B (goAll ((⟨0, 0, 0⟩, RV.none) : RS × RV) (getRF B)).1).1 ≠ 0) :
    Calls Try.prog 30 #[.slice ao n c] w (GetRP w (getR B)) := by
  have hst0 := St.refl w
  have HR := hid hr
  have HN := hid hn
  have hBl : B.length ≤ 100000 := by rw [hn]; exact hb
  obtain ⟨S, hS⟩ : ∃ S, S = (goAll ((⟨0, 0, 0⟩, RV.none) : RS × RV) (getRF B)) := ⟨_, rfl⟩
  have HS := hid hS
  obtain ⟨f, hf⟩ : ∃ f, f = endR B S.1 := ⟨_, rfl⟩
  have HF := hid hf
  rw [← hS] at h0
  rw [← hf] at h0
  obtain ⟨R, hR⟩ : ∃ R, R = getR B := ⟨_, rfl⟩
  rw [← hR]
  have e : R = (RV.none, f.1, f.2) := by
    rw [hR]; unfold getR; simp only [← hS, ← hf]
    rw [if_neg h0, if_neg h0]
  have d0 : (f.1 == 0) = false := by simpa using h0
  have d1 : (f.1 != 0) = true := by simpa using h0
  have HE := hid e
  clear hS hf hR e h0 hr hn
  go_enter Try.func30, Try.ntmps30
  go_wp2_with (first | go_big_skip | go_big_guard | (refine wl_alloc (T := 49) hst0 rfl rfl ?_; intro g2 _ hst1; clear hst0) | (refine wl_alloc hst1 rfl rfl ?_; intro g3 _ hst2; clear hst1) | (refine wl_alloc (T := 49) hst2 rfl rfl ?_; intro go _ hst3; clear hst2) | (refine wl_alloc (T := 3) hst3 rfl rfl ?_; intro ge _ hst3a; clear hst3) | (refine wl_store [] hst3a rfl rfl rfl (v := .int _ _) rfl rfl rfl (by show (1 : Nat) ≤ 1; decide) ?_; intro w9 hst3b; clear hst3a; have hst3c : St w [] w9 [.blk go 49 [.int .i64 0, .slice none 0 0, .slice none 0 0], .blk ge 3 [.int .i64 0], .blk g3 42 [.int .i64 0, .int .i64 0], .blk g2 49 [.int .i64 0, .slice none 0 0, .slice none 0 0]] := St.front [_] hst3b; clear hst3b) | (go_at_call 51; refine (replies_any go ge _).mono ?_; rintro _ w10 ⟨gp, n0, z0, l0, h0, n1, z1, m1, f1, n2, rfl, hh⟩; have hst4 := St.call hst3c hh; clear hh hst3c) | (go_at_call 44; have hSel := (St.sub hst4 ((List.Sublist.trans (List.Sublist.cons_cons _ (List.Sublist.cons_cons _ (List.nil_sublist _))) (List.sublist_append_right _ _)) : List.Sublist [_, _] _)).selfF; refine (parts_get (σ := RV) (τ := Value × Value) ao n c B (some ⟨gp, 0, none⟩) 3 3 (repliesPs n0 z0 l0 h0 n1 z1 m1 f1 n2) (getRF B) (repM go ge) [go, ge] RV.none (.slice none 0 0, .slice none 0 0) w10 hSel (Rd.old hst4 HR.out) HN.out hb (Rd.blk hst4 (.head _) (Nat.le_refl _) (by decide) rfl rfl) (fun b off hbo => by cases hbo; exact replies_off hst4 0 _ _ _ rfl) (St.newOffs hst4 (fun k hk => by simp only [List.mem_cons, List.not_mem_nil, or_false] at hk; rcases hk with rfl | rfl; exact ⟨_, _, List.mem_append_right _ (.head _)⟩; exact ⟨_, _, List.mem_append_right _ (.tail _ (.head _))⟩) HR.out (by decide)) rfl rfl (by decide) replies_gfn (replies_gok hBl hst4) (getRF_pos B)).mono ?_; rw [← HS.out, ← HF.out]; rintro _ w11 ⟨a1, rfl, hh⟩; have hst4p := St.perm hst4 (List.perm_append_comm (l₁ := .blk gp 89 (partsC (repliesPs n0 z0 l0 h0 n1 z1 m1 f1 n2)) :: repliesBoxes go ge n0 z0 l0 h0 n1 z1 m1 f1 n2)); have hst5 := St.sub (St.callF [_, _] hst4p hh) (List.Sublist.append (List.Sublist.refl _) (List.sublist_append_left [_, _] _)); clear hh hst4 hst4p hSel) | (refine wl_alloc hst5 rfl rfl ?_; intro g5 w12 hst6; clear hst5) | (refine wl_storeA [] hst6 rfl rfl rfl rfl rfl rfl rfl ?_; intro w13 hst7; clear hst6; obtain ⟨lv, bv⟩ := a1; unfold repM at hst7; obtain ⟨ab, cb, rfl⟩ := St.rowPSliceF [_] hst7; obtain ⟨al, cl, rfl⟩ := St.rowPSliceF [_, _, _] hst7) | (refine wl_loadE rfl rfl rfl ?_; first | refine ⟨_, Loads.at [_, _, _, _] hst7 rfl, ?_⟩ | refine ⟨_, Loads.at [] hst9 rfl, ?_⟩ | refine ⟨_, Loads.at [] hst12 rfl, ?_⟩) | (refine wl_store [_, _] hst7 rfl rfl rfl (v := .int _ _) rfl rfl rfl (by show (1 : Nat) ≤ 3; decide) ?_; intro w15 hst8; clear hst7; have hst9 : St w [] w15 [.blk g5 42 [.int .i64 f.1, .int .i64 f.2], .rowP isB (.slice ab S.2.b.length cb) 5 1 S.2.b.length (bytesV S.2.b), .blk go 49 (S.2.cells (.slice al S.2.n.length cl) (.slice ab S.2.b.length cb)), .rowP isI (.slice al S.2.n.length cl) 3 1 S.2.n.length (intsV S.2.n), .blk ge 3 [.int .i64 S.2.err], .blk g3 42 [.int .i64 0, .int .i64 0], .blk g2 49 [.int .i64 0, .slice none 0 0, .slice none 0 0]] := hst8; clear hst8))
  have hX := hst9.drew
  clear hst9
  refine wp_region_held_drew (S := (fun w' => (loadVarH 42 ⟨g5, 0, none⟩).run Try.prog w' = .ok (.agg (List.toArray ([.int .i64 f.1, .int .i64 f.2]))) w')) (by kernel_rfl) (by exact ldA ([.int .i64 f.1, .int .i64 f.2]) [] hX (rfl) (rfl)) (fun hHeld => ?_)
  refine wpAnyH_take (i := 0) (oi := ⟨some 24, _, _, _, _, _⟩) (v := ?_) rfl (by kernel_rfl) (by kernel_rfl) (by kernel_rfl) (fun _ _ _ h => h) (Or.inl ⟨by rfl, ?_⟩) (by assumption) ?_
  rotate_left
  · intro w hSw; (try dsimp only at hSw); go_simp; try with_reducible rfl
  (try simp only [Act.put, List.setIfInBounds_toArray, List.set_cons_zero, List.set_cons_succ])
  refine wpAnyH_take (i := 1) (oi := ⟨some 25, _, _, _, _, _⟩) (v := ?_) rfl (by kernel_rfl) (by kernel_rfl) (by kernel_rfl) (fun _ _ _ h => h) (Or.inl ⟨by rfl, ?_⟩) (by assumption) ?_
  rotate_left
  · intro w hSw; (try dsimp only at hSw); go_simp; try with_reducible rfl
  (try simp only [Act.put, List.setIfInBounds_toArray, List.set_cons_zero, List.set_cons_succ])
  refine wpAnyH_ready (rs := [2]) (by kernel_rfl) (by simp) ?_
  refine (AllReadyH.cons (o := ⟨none, _, _, _, _, _⟩) rfl (fun K hK => ?_) AllReadyH.nil)
  rw [if_pos (by rfl)]
  refine ow_of_wl (ops := #[]) (by rfl) ?_
  refine wl_storeA [_, _, _, _, _, _] hX rfl rfl rfl rfl rfl rfl rfl ?_
  intro w26 hZ6
  refine q0_nil ?_
  refine hK.out _ _ ?_ (fun hHeld => ?_)
  · exact ldA ([.int .i64 f.1, .int .i64 f.2]) [] hZ6 (rfl) (rfl)
  clear hK K
  (try simp only [Act.put, List.setIfInBounds_toArray, List.set_cons_zero, List.set_cons_succ])
  refine wpAnyH_ready (rs := [3]) (by kernel_rfl) (by simp) ?_
  refine (AllReadyH.cons (o := ⟨none, _, _, _, _, _⟩) rfl (fun K hK => ?_) AllReadyH.nil)
  rw [if_pos (by rfl)]
  refine ow_of_wl (ops := #[]) (by rfl) ?_
  refine wl_storeA [_, _, _, _, _] hZ6 rfl rfl rfl rfl rfl rfl rfl ?_
  intro w25 hZ5
  refine q0_nil ?_
  refine hK.out _ _ ?_ (fun hHeld => ?_)
  · exact ldA ([.int .i64 f.1, .int .i64 f.2]) [] hZ5 (rfl) (rfl)
  clear hK K
  (try simp only [Act.put, List.setIfInBounds_toArray, List.set_cons_zero, List.set_cons_succ])
  refine wpAnyH_done (by kernel_rfl) ?_ _
  clear hHeld
  go_wp2_with (first | go_big_skip | go_big_guard | fail)
  refine bodyPost_ret (results_cell2L rfl rfl rfl (Loads.whole (T := 49) [_, _, _, _, _, _] hZ5 rfl) (Loads.whole (T := 42) [_, _, _, _, _] hZ5 rfl)) rfl ?_
  rw [HE.out]
  exact ⟨.slice none 0 0, .slice none 0 0, rfl, St.nilPQ isI _ 1 (St.nilPQ isB _ 1 hZ5.nil)⟩
theorem ogetR_odd (ao : Option Addr) (n c : Nat) (B : List UInt8) (w : World) (hr : Rd w (.slice ao n c) 1 n (bytesV B)) (hn : B.length = n) (hb : n ≤ 100000) (h0 : (endR B (goAll ((⟨0, 0, 0⟩, RV.none) : RS × RV) (getRF B)).1).1 = 0) (h1 : (goAll ((⟨0, 0, 0⟩, RV.none) : RS × RV) (getRF B)).2.fine = false) :
    Calls Try.prog 30 #[.slice ao n c] w (GetRP w (getR B)) := by
  have hst0 := St.refl w
  have HR := hid hr
  have HN := hid hn
  have hBl : B.length ≤ 100000 := by rw [hn]; exact hb
  obtain ⟨S, hS⟩ : ∃ S, S = (goAll ((⟨0, 0, 0⟩, RV.none) : RS × RV) (getRF B)) := ⟨_, rfl⟩
  have HS := hid hS
  obtain ⟨f, hf⟩ : ∃ f, f = endR B S.1 := ⟨_, rfl⟩
  have HF := hid hf
  rw [← hS] at h0 h1
  rw [← hf] at h0
  obtain ⟨R, hR⟩ : ∃ R, R = getR B := ⟨_, rfl⟩
  rw [← hR]
  have e : R = (RV.none, 2, f.2) := by
    rw [hR]; unfold getR; simp only [← hS, ← hf]
    rw [if_pos h0, h1]; rfl
  have d0 : (f.1 == 0) = true := by simpa using h0
  have H1 := hid h1
  have HE := hid e
  clear hS hf hR e h0 h1 hr hn
  go_enter Try.func30, Try.ntmps30
  go_wp2_with (first | go_big_skip | go_big_guard | (refine wl_alloc (T := 49) hst0 rfl rfl ?_; intro g2 _ hst1; clear hst0) | (refine wl_alloc hst1 rfl rfl ?_; intro g3 _ hst2; clear hst1) | (refine wl_alloc (T := 49) hst2 rfl rfl ?_; intro go _ hst3; clear hst2) | (refine wl_alloc (T := 3) hst3 rfl rfl ?_; intro ge _ hst3a; clear hst3) | (refine wl_store [] hst3a rfl rfl rfl (v := .int _ _) rfl rfl rfl (by show (1 : Nat) ≤ 1; decide) ?_; intro w9 hst3b; clear hst3a; have hst3c : St w [] w9 [.blk go 49 [.int .i64 0, .slice none 0 0, .slice none 0 0], .blk ge 3 [.int .i64 0], .blk g3 42 [.int .i64 0, .int .i64 0], .blk g2 49 [.int .i64 0, .slice none 0 0, .slice none 0 0]] := St.front [_] hst3b; clear hst3b) | (go_at_call 51; refine (replies_any go ge _).mono ?_; rintro _ w10 ⟨gp, n0, z0, l0, h0, n1, z1, m1, f1, n2, rfl, hh⟩; have hst4 := St.call hst3c hh; clear hh hst3c) | (go_at_call 44; have hSel := (St.sub hst4 ((List.Sublist.trans (List.Sublist.cons_cons _ (List.Sublist.cons_cons _ (List.nil_sublist _))) (List.sublist_append_right _ _)) : List.Sublist [_, _] _)).selfF; refine (parts_get (σ := RV) (τ := Value × Value) ao n c B (some ⟨gp, 0, none⟩) 3 3 (repliesPs n0 z0 l0 h0 n1 z1 m1 f1 n2) (getRF B) (repM go ge) [go, ge] RV.none (.slice none 0 0, .slice none 0 0) w10 hSel (Rd.old hst4 HR.out) HN.out hb (Rd.blk hst4 (.head _) (Nat.le_refl _) (by decide) rfl rfl) (fun b off hbo => by cases hbo; exact replies_off hst4 0 _ _ _ rfl) (St.newOffs hst4 (fun k hk => by simp only [List.mem_cons, List.not_mem_nil, or_false] at hk; rcases hk with rfl | rfl; exact ⟨_, _, List.mem_append_right _ (.head _)⟩; exact ⟨_, _, List.mem_append_right _ (.tail _ (.head _))⟩) HR.out (by decide)) rfl rfl (by decide) replies_gfn (replies_gok hBl hst4) (getRF_pos B)).mono ?_; rw [← HS.out, ← HF.out]; rintro _ w11 ⟨a1, rfl, hh⟩; have hst4p := St.perm hst4 (List.perm_append_comm (l₁ := .blk gp 89 (partsC (repliesPs n0 z0 l0 h0 n1 z1 m1 f1 n2)) :: repliesBoxes go ge n0 z0 l0 h0 n1 z1 m1 f1 n2)); have hst5 := St.sub (St.callF [_, _] hst4p hh) (List.Sublist.append (List.Sublist.refl _) (List.sublist_append_left [_, _] _)); clear hh hst4 hst4p hSel) | (refine wl_alloc hst5 rfl rfl ?_; intro g5 w12 hst6; clear hst5) | (refine wl_storeA [] hst6 rfl rfl rfl rfl rfl rfl rfl ?_; intro w13 hst7; clear hst6; obtain ⟨lv, bv⟩ := a1; unfold repM at hst7; obtain ⟨ab, cb, rfl⟩ := St.rowPSliceF [_] hst7; obtain ⟨al, cl, rfl⟩ := St.rowPSliceF [_, _, _] hst7) | (refine wl_loadE rfl rfl rfl ?_; first | refine ⟨_, Loads.at [_, _, _, _] hst7 rfl, ?_⟩ | refine ⟨_, Loads.at [] hst9 rfl, ?_⟩ | refine ⟨_, Loads.at [] hst12 rfl, ?_⟩) | (refine wl_store [_, _] hst7 rfl rfl rfl (v := .int _ _) rfl rfl rfl (by show (1 : Nat) ≤ 3; decide) ?_; intro w15 hst8; clear hst7; have hst9 : St w [] w15 [.blk g5 42 [.int .i64 f.1, .int .i64 f.2], .rowP isB (.slice ab S.2.b.length cb) 5 1 S.2.b.length (bytesV S.2.b), .blk go 49 (S.2.cells (.slice al S.2.n.length cl) (.slice ab S.2.b.length cb)), .rowP isI (.slice al S.2.n.length cl) 3 1 S.2.n.length (intsV S.2.n), .blk ge 3 [.int .i64 S.2.err], .blk g3 42 [.int .i64 0, .int .i64 0], .blk g2 49 [.int .i64 0, .slice none 0 0, .slice none 0 0]] := hst8; clear hst8) | (refine wl_loadE rfl rfl rfl ?_; refine ⟨_, Loads.whole (T := 49) [_, _] hst9 rfl, ?_⟩) | (go_at_call 50; refine (fine_any S.2 al ab S.2.n.length cl S.2.b.length cb _ (Rd.rowP hst9 (.tail _ (.tail _ (.tail _ (.head _))))) rfl rfl).mono ?_; rw [H1.out]; rintro _ w16 ⟨rfl, h4⟩; have hst10 := St.call0 hst9 h4; clear h4 hst9) | (refine wl_store [] hst10 rfl rfl rfl (v := .int _ _) rfl rfl rfl (by show (1 : Nat) ≤ 2; decide) ?_; intro w17 hst11; clear hst10; have hst12 : St w [] w17 [.blk g5 42 [.int .i64 2, .int .i64 f.2], .rowP isB (.slice ab S.2.b.length cb) 5 1 S.2.b.length (bytesV S.2.b), .blk go 49 (S.2.cells (.slice al S.2.n.length cl) (.slice ab S.2.b.length cb)), .rowP isI (.slice al S.2.n.length cl) 3 1 S.2.n.length (intsV S.2.n), .blk ge 3 [.int .i64 S.2.err], .blk g3 42 [.int .i64 0, .int .i64 0], .blk g2 49 [.int .i64 0, .slice none 0 0, .slice none 0 0]] := hst11; clear hst11))
  have hX := hst12.drew
  clear hst12
  refine wp_region_held_drew (S := (fun w' => (loadVarH 42 ⟨g5, 0, none⟩).run Try.prog w' = .ok (.agg (List.toArray ([.int .i64 2, .int .i64 f.2]))) w')) (by kernel_rfl) (by exact ldA ([.int .i64 2, .int .i64 f.2]) [] hX (rfl) (rfl)) (fun hHeld => ?_)
  refine wpAnyH_take (i := 0) (oi := ⟨some 24, _, _, _, _, _⟩) (v := ?_) rfl (by kernel_rfl) (by kernel_rfl) (by kernel_rfl) (fun _ _ _ h => h) (Or.inl ⟨by rfl, ?_⟩) (by assumption) ?_
  rotate_left
  · intro w hSw; (try dsimp only at hSw); go_simp; try with_reducible rfl
  (try simp only [Act.put, List.setIfInBounds_toArray, List.set_cons_zero, List.set_cons_succ])
  refine wpAnyH_take (i := 1) (oi := ⟨some 25, _, _, _, _, _⟩) (v := ?_) rfl (by kernel_rfl) (by kernel_rfl) (by kernel_rfl) (fun _ _ _ h => h) (Or.inl ⟨by rfl, ?_⟩) (by assumption) ?_
  rotate_left
  · intro w hSw; (try dsimp only at hSw); go_simp; try with_reducible rfl
  (try simp only [Act.put, List.setIfInBounds_toArray, List.set_cons_zero, List.set_cons_succ])
  refine wpAnyH_ready (rs := [2]) (by kernel_rfl) (by simp) ?_
  refine (AllReadyH.cons (o := ⟨none, _, _, _, _, _⟩) rfl (fun K hK => ?_) AllReadyH.nil)
  rw [if_pos (by rfl)]
  refine ow_of_wl (ops := #[]) (by rfl) ?_
  refine wl_storeA [_, _, _, _, _, _] hX rfl rfl rfl rfl rfl rfl rfl ?_
  intro w26 hZ6
  refine q0_nil ?_
  refine hK.out _ _ ?_ (fun hHeld => ?_)
  · exact ldA ([.int .i64 2, .int .i64 f.2]) [] hZ6 (rfl) (rfl)
  clear hK K
  (try simp only [Act.put, List.setIfInBounds_toArray, List.set_cons_zero, List.set_cons_succ])
  refine wpAnyH_ready (rs := [3]) (by kernel_rfl) (by simp) ?_
  refine (AllReadyH.cons (o := ⟨none, _, _, _, _, _⟩) rfl (fun K hK => ?_) AllReadyH.nil)
  rw [if_pos (by rfl)]
  refine ow_of_wl (ops := #[]) (by rfl) ?_
  refine wl_storeA [_, _, _, _, _] hZ6 rfl rfl rfl rfl rfl rfl rfl ?_
  intro w25 hZ5
  refine q0_nil ?_
  refine hK.out _ _ ?_ (fun hHeld => ?_)
  · exact ldA ([.int .i64 2, .int .i64 f.2]) [] hZ5 (rfl) (rfl)
  clear hK K
  (try simp only [Act.put, List.setIfInBounds_toArray, List.set_cons_zero, List.set_cons_succ])
  refine wpAnyH_done (by kernel_rfl) ?_ _
  clear hHeld
  go_wp2_with (first | go_big_skip | go_big_guard | fail)
  refine bodyPost_ret (results_cell2L rfl rfl rfl (Loads.whole (T := 49) [_, _, _, _, _, _] hZ5 rfl) (Loads.whole (T := 42) [_, _, _, _, _] hZ5 rfl)) rfl ?_
  rw [HE.out]
  exact ⟨.slice none 0 0, .slice none 0 0, rfl, St.nilPQ isI _ 1 (St.nilPQ isB _ 1 hZ5.nil)⟩
theorem ogetR_ok (ao : Option Addr) (n c : Nat) (B : List UInt8) (w : World) (hr : Rd w (.slice ao n c) 1 n (bytesV B)) (hn : B.length = n) (hb : n ≤ 100000) (h0 : (endR B (goAll ((⟨0, 0, 0⟩, RV.none) : RS × RV) (getRF B)).1).1 = 0) (h1 : (goAll ((⟨0, 0, 0⟩, RV.none) : RS × RV) (getRF B)).2.fine = true) :
    Calls Try.prog 30 #[.slice ao n c] w (GetRP w (getR B)) := by
  have hst0 := St.refl w
  have HR := hid hr
  have HN := hid hn
  have hBl : B.length ≤ 100000 := by rw [hn]; exact hb
  obtain ⟨S, hS⟩ : ∃ S, S = (goAll ((⟨0, 0, 0⟩, RV.none) : RS × RV) (getRF B)) := ⟨_, rfl⟩
  have HS := hid hS
  obtain ⟨f, hf⟩ : ∃ f, f = endR B S.1 := ⟨_, rfl⟩
  have HF := hid hf
  rw [← hS] at h0 h1
  rw [← hf] at h0
  obtain ⟨R, hR⟩ : ∃ R, R = getR B := ⟨_, rfl⟩
  rw [← hR]
  have e : R = (S.2, f.1, f.2) := by
    rw [hR]; unfold getR; simp only [← hS, ← hf]
    rw [if_pos h0, if_pos h1, if_pos rfl, h0]
  have d0 : (f.1 == 0) = true := by simpa using h0
  have d1 : (f.1 != 0) = false := by simpa using h0
  have H1 := hid h1
  have HE := hid e
  clear hS hf hR e h0 h1 hr hn
  go_enter Try.func30, Try.ntmps30
  go_wp2_with (first | go_big_skip | go_big_guard | (refine wl_alloc (T := 49) hst0 rfl rfl ?_; intro g2 _ hst1; clear hst0) | (refine wl_alloc hst1 rfl rfl ?_; intro g3 _ hst2; clear hst1) | (refine wl_alloc (T := 49) hst2 rfl rfl ?_; intro go _ hst3; clear hst2) | (refine wl_alloc (T := 3) hst3 rfl rfl ?_; intro ge _ hst3a; clear hst3) | (refine wl_store [] hst3a rfl rfl rfl (v := .int _ _) rfl rfl rfl (by show (1 : Nat) ≤ 1; decide) ?_; intro w9 hst3b; clear hst3a; have hst3c : St w [] w9 [.blk go 49 [.int .i64 0, .slice none 0 0, .slice none 0 0], .blk ge 3 [.int .i64 0], .blk g3 42 [.int .i64 0, .int .i64 0], .blk g2 49 [.int .i64 0, .slice none 0 0, .slice none 0 0]] := St.front [_] hst3b; clear hst3b) | (go_at_call 51; refine (replies_any go ge _).mono ?_; rintro _ w10 ⟨gp, n0, z0, l0, h0, n1, z1, m1, f1, n2, rfl, hh⟩; have hst4 := St.call hst3c hh; clear hh hst3c) | (go_at_call 44; have hSel := (St.sub hst4 ((List.Sublist.trans (List.Sublist.cons_cons _ (List.Sublist.cons_cons _ (List.nil_sublist _))) (List.sublist_append_right _ _)) : List.Sublist [_, _] _)).selfF; refine (parts_get (σ := RV) (τ := Value × Value) ao n c B (some ⟨gp, 0, none⟩) 3 3 (repliesPs n0 z0 l0 h0 n1 z1 m1 f1 n2) (getRF B) (repM go ge) [go, ge] RV.none (.slice none 0 0, .slice none 0 0) w10 hSel (Rd.old hst4 HR.out) HN.out hb (Rd.blk hst4 (.head _) (Nat.le_refl _) (by decide) rfl rfl) (fun b off hbo => by cases hbo; exact replies_off hst4 0 _ _ _ rfl) (St.newOffs hst4 (fun k hk => by simp only [List.mem_cons, List.not_mem_nil, or_false] at hk; rcases hk with rfl | rfl; exact ⟨_, _, List.mem_append_right _ (.head _)⟩; exact ⟨_, _, List.mem_append_right _ (.tail _ (.head _))⟩) HR.out (by decide)) rfl rfl (by decide) replies_gfn (replies_gok hBl hst4) (getRF_pos B)).mono ?_; rw [← HS.out, ← HF.out]; rintro _ w11 ⟨a1, rfl, hh⟩; have hst4p := St.perm hst4 (List.perm_append_comm (l₁ := .blk gp 89 (partsC (repliesPs n0 z0 l0 h0 n1 z1 m1 f1 n2)) :: repliesBoxes go ge n0 z0 l0 h0 n1 z1 m1 f1 n2)); have hst5 := St.sub (St.callF [_, _] hst4p hh) (List.Sublist.append (List.Sublist.refl _) (List.sublist_append_left [_, _] _)); clear hh hst4 hst4p hSel) | (refine wl_alloc hst5 rfl rfl ?_; intro g5 w12 hst6; clear hst5) | (refine wl_storeA [] hst6 rfl rfl rfl rfl rfl rfl rfl ?_; intro w13 hst7; clear hst6; obtain ⟨lv, bv⟩ := a1; unfold repM at hst7; obtain ⟨ab, cb, rfl⟩ := St.rowPSliceF [_] hst7; obtain ⟨al, cl, rfl⟩ := St.rowPSliceF [_, _, _] hst7) | (refine wl_loadE rfl rfl rfl ?_; first | refine ⟨_, Loads.at [_, _, _, _] hst7 rfl, ?_⟩ | refine ⟨_, Loads.at [] hst9 rfl, ?_⟩ | refine ⟨_, Loads.at [] hst10 rfl, ?_⟩) | (refine wl_store [_, _] hst7 rfl rfl rfl (v := .int _ _) rfl rfl rfl (by show (1 : Nat) ≤ 3; decide) ?_; intro w15 hst8; clear hst7; have hst9 : St w [] w15 [.blk g5 42 [.int .i64 f.1, .int .i64 f.2], .rowP isB (.slice ab S.2.b.length cb) 5 1 S.2.b.length (bytesV S.2.b), .blk go 49 (S.2.cells (.slice al S.2.n.length cl) (.slice ab S.2.b.length cb)), .rowP isI (.slice al S.2.n.length cl) 3 1 S.2.n.length (intsV S.2.n), .blk ge 3 [.int .i64 S.2.err], .blk g3 42 [.int .i64 0, .int .i64 0], .blk g2 49 [.int .i64 0, .slice none 0 0, .slice none 0 0]] := hst8; clear hst8) | (refine wl_loadE rfl rfl rfl ?_; refine ⟨_, Loads.whole (T := 49) [_, _] hst9 rfl, ?_⟩) | (go_at_call 50; refine (fine_any S.2 al ab S.2.n.length cl S.2.b.length cb _ (Rd.rowP hst9 (.tail _ (.tail _ (.tail _ (.head _))))) rfl rfl).mono ?_; rw [H1.out]; rintro _ w16 ⟨rfl, h4⟩; have hst10 := St.call0 hst9 h4; clear h4 hst9))
  have hX := hst10.drew
  clear hst10
  refine wp_region_held_drew (S := (fun w' => (loadVarH 42 ⟨g5, 0, none⟩).run Try.prog w' = .ok (.agg (List.toArray ([.int .i64 f.1, .int .i64 f.2]))) w' ∧ (loadVarH 49 ⟨go, 0, none⟩).run Try.prog w' = .ok (.agg (List.toArray (S.2.cells (.slice al S.2.n.length cl) (.slice ab S.2.b.length cb)))) w')) (by kernel_rfl) (by exact ⟨ldA ([.int .i64 f.1, .int .i64 f.2]) [] hX (rfl) (rfl), ldA (S.2.cells (.slice al S.2.n.length cl) (.slice ab S.2.b.length cb)) [_, _] hX (rfl) (rfl)⟩) (fun hHeld => ?_)
  refine wpAnyH_take (i := 0) (oi := ⟨some 26, _, _, _, _, _⟩) (v := ?_) rfl (by kernel_rfl) (by kernel_rfl) (by kernel_rfl) (fun _ _ _ h => h) (Or.inl ⟨by rfl, ?_⟩) (by assumption) ?_
  rotate_left
  · intro w hSw; (try dsimp only at hSw); go_simp; try with_reducible rfl
  (try simp only [Act.put, List.setIfInBounds_toArray, List.set_cons_zero, List.set_cons_succ])
  refine wpAnyH_take (i := 1) (oi := ⟨some 27, _, _, _, _, _⟩) (v := ?_) rfl (by kernel_rfl) (by kernel_rfl) (by kernel_rfl) (fun _ _ _ h => h) (Or.inl ⟨by rfl, ?_⟩) (by assumption) ?_
  rotate_left
  · intro w hSw; (try dsimp only at hSw); go_simp; try with_reducible rfl
  (try simp only [Act.put, List.setIfInBounds_toArray, List.set_cons_zero, List.set_cons_succ])
  refine wpAnyH_ready (rs := [2]) (by kernel_rfl) (by simp) ?_
  refine (AllReadyH.cons (o := ⟨none, _, _, _, _, _⟩) rfl (fun K hK => ?_) AllReadyH.nil)
  rw [if_pos (by rfl)]
  refine ow_of_wl (ops := #[]) (by rfl) ?_
  refine wl_storeA [_, _, _, _, _, _] hX rfl rfl rfl rfl rfl rfl rfl ?_
  intro w26 hZ6
  refine q0_nil ?_
  refine hK.out _ _ ?_ (fun hHeld => ?_)
  · exact ⟨ldA ([.int .i64 f.1, .int .i64 f.2]) [] hZ6 (rfl) (rfl), ldA (S.2.cells (.slice al S.2.n.length cl) (.slice ab S.2.b.length cb)) [_, _] hZ6 (rfl) (rfl)⟩
  clear hK K
  (try simp only [Act.put, List.setIfInBounds_toArray, List.set_cons_zero, List.set_cons_succ])
  refine wpAnyH_ready (rs := [3]) (by kernel_rfl) (by simp) ?_
  refine (AllReadyH.cons (o := ⟨none, _, _, _, _, _⟩) rfl (fun K hK => ?_) AllReadyH.nil)
  rw [if_pos (by rfl)]
  refine ow_of_wl (ops := #[]) (by rfl) ?_
  refine wl_storeA [_, _, _, _, _] hZ6 rfl rfl rfl rfl rfl rfl rfl ?_
  intro w25 hZ5
  refine q0_nil ?_
  refine hK.out _ _ ?_ (fun hHeld => ?_)
  · exact ⟨ldA ([.int .i64 f.1, .int .i64 f.2]) [] hZ5 (rfl) (rfl), ldA (S.2.cells (.slice al S.2.n.length cl) (.slice ab S.2.b.length cb)) [_, _] hZ5 (rfl) (rfl)⟩
  clear hK K
  (try simp only [Act.put, List.setIfInBounds_toArray, List.set_cons_zero, List.set_cons_succ])
  refine wpAnyH_done (by kernel_rfl) ?_ _
  clear hHeld
  go_wp2_with (first | go_big_skip | go_big_guard | fail)
  refine bodyPost_ret (results_cell2L rfl rfl rfl (Loads.whole (T := 49) [_, _, _, _, _, _] hZ5 rfl) (Loads.whole (T := 42) [_, _, _, _, _] hZ5 rfl)) rfl ?_
  rw [HE.out]
  refine ⟨_, _, rfl, ?_⟩
  exact St.sub (St.front (L1 := [_, _, _, _, _, _]) (St.front (L1 := [_, _, _, _, _]) (St.front (L1 := [_, _, _, _]) (St.front (L1 := [_, _, _, _, _]) (St.front (L1 := [_, _, _, _, _, _]) (St.front (L1 := [_, _, _, _, _, _]) (St.front (L1 := [_, _, _, _, _, _]) hZ5))))))) (.cons_cons _ (.cons_cons _ (List.nil_sublist _)))
theorem ogetR_any (ao : Option Addr) (n c : Nat) (B : List UInt8) (w : World) (hr : Rd w (.slice ao n c) 1 n (bytesV B)) (hn : B.length = n) (hb : n ≤ 100000) :
    Calls Try.prog 30 #[.slice ao n c] w (GetRP w (getR B)) := by
  by_cases h0 : (endR B (goAll ((⟨0, 0, 0⟩, RV.none) : RS × RV) (getRF B)).1).1 = 0
  · cases h1 : (goAll ((⟨0, 0, 0⟩, RV.none) : RS × RV) (getRF B)).2.fine
    · exact ogetR_odd ao n c B w hr hn hb h0 h1
    · exact ogetR_ok ao n c B w hr hn hb h0 h1
  · exact ogetR_bad ao n c B w hr hn hb h0
end
end Go.Proofs.Ytalfdcfcaamnbaa
namespace Go.Proofs.Ytalfdcfcaamnbaa
set_option linter.unusedVariables false
set_option linter.unusedSimpArgs false
open Go.RowKit Hp
attribute [local irreducible] Go.Calls Go.wpList
set_option maxRecDepth 100000
set_option maxHeartbeats 4000000
def kA : OV := ⟨1, 0, 0, [97], [98], [], []⟩
def kB : OV := ⟨25, 0, 0, [], [], [], []⟩
def kC : OV := ⟨12, 2147483648, 0, [97], [], [], []⟩
theorem kA_c : kA.check = 2 := by decide +kernel
theorem kB_c : kB.check = 2 := by decide +kernel
theorem kC_c : kC.check = 2 := by decide +kernel
def r1 : RV := ⟨17, [], []⟩
def r2 : RV := ⟨0, [258], [7]⟩
def r3 : RV := ⟨17, [], [7]⟩
theorem r1_ok : r1.Ok := ⟨by decide, by decide, by decide, by decide⟩
theorem r2_ok : r2.Ok := ⟨by decide, by decide, by decide, by decide⟩
theorem r3_ok : r3.Ok := ⟨by decide, by decide, by decide, by decide⟩
theorem r1_put : putR r1 = (0, [0, 17, 0, 0, 0, 0, 0]) := by decide +kernel
theorem r2_put : putR r2 = (0, [0, 0, 0, 1, 0, 0, 0, 1, 2, 0, 0, 1, 7]) := by decide +kernel
theorem r3_put : putR r3 = (2, []) := by decide +kernel
theorem o1_get : getO [] = (OV.none, 4, 0) := by kernel_rfl
theorem o2_get : getO (List.replicate 111 0) = (OV.none, 5, 0) := by kernel_rfl
theorem r4_get : getR ([0, 17, 0, 0, 0, 0, 0] ++ [0]) = (RV.none, 4, 7) := by kernel_rfl
theorem zeros_V (n : Nat) : bytesV (List.replicate n 0) = List.replicate n (.int .u8 0) := by simp [bytesV]
theorem oknown_any (w : World) : Calls Try.prog 6 #[] w fun e w' => e = .returned (.bool true) ∧ St w [] w' [] := by
  have hs0 := St.refl w
  go_enter Try.func6, Try.ntmps6
  go_wp2_with (first | go_big_skip | go_big_guard | (refine wl_buildX (T := 25) (cs := [.int .i64 1, .string ⟨#[97]⟩, .string ⟨#[98]⟩, .int .i64 0, .int .i64 0, .slice none 0 0, .slice none 0 0]) [(0, .int .i64 1), (1, .string ⟨#[97]⟩), (2, .string ⟨#[98]⟩)] rfl rfl (by exact rfl) (by kernel_rfl) ?_) | (go_at_call 15; refine (check_any kA none none 0 0 0 0 _ (Rd.nil _ _) rfl rfl (by decide)).mono ?_; rw [kA_c]; rintro _ w101 ⟨rfl, h4⟩; have hs1 := St.call0 hs0 h4; clear h4 hs0) | (refine wl_buildX (T := 25) (cs := [.int .i64 25, .string ⟨#[]⟩, .string ⟨#[]⟩, .int .i64 0, .int .i64 0, .slice none 0 0, .slice none 0 0]) [(0, .int .i64 25)] rfl rfl (by exact rfl) (by kernel_rfl) ?_) | (go_at_call 15; refine (check_any kB none none 0 0 0 0 _ (Rd.nil _ _) rfl rfl (by decide)).mono ?_; rw [kB_c]; rintro _ w102 ⟨rfl, h4⟩; have hs2 := St.call0 hs1 h4; clear h4 hs1) | (refine wl_buildX (T := 25) (cs := [.int .i64 12, .string ⟨#[97]⟩, .string ⟨#[]⟩, .int .i64 2147483648, .int .i64 0, .slice none 0 0, .slice none 0 0]) [(0, .int .i64 12), (1, .string ⟨#[97]⟩), (3, .int .i64 2147483648)] rfl rfl (by exact rfl) (by kernel_rfl) ?_) | (go_at_call 15; refine (check_any kC none none 0 0 0 0 _ (Rd.nil _ _) rfl rfl (by decide)).mono ?_; rw [kC_c]; rintro _ w103 ⟨rfl, h4⟩; have hs3 := St.call0 hs2 h4; clear h4 hs2) | (refine wl_buildX (T := 49) (cs := [.int .i64 17, .slice none 0 0, .slice none 0 0]) [(0, .int .i64 17)] rfl rfl (by exact rfl) (by kernel_rfl) ?_) | (go_at_call 27; refine (oputR_any r1 r1_ok none none 0 0 0 0 _ (Rd.nil _ _) (Rd.nil _ _) rfl rfl).mono ?_; rw [r1_put]; rintro _ w104 ⟨ua, rfl, h4⟩; have h5 : St _ [] w104 [.rowP isB ua 5 1 7 (bytesV [0, 17, 0, 0, 0, 0, 0])] := h4; have hs4 := St.call hs3 h5; clear h4 h5 hs3) | (apply wl_bsX [.int .i64 258] [.int .i64 258] hs4; rfl; rfl; exact rfl; exact rfl; infer_instance; infer_instance; rfl; rfl; rfl; intro gi w105 hs5; clear hs4) | (apply wl_bsX [.int .u8 7] [.int .u8 7] hs5; rfl; rfl; exact rfl; exact rfl; infer_instance; infer_instance; rfl; rfl; rfl; intro gb w106 hs6; clear hs5) | (refine wl_buildX (T := 49) (cs := [.int .i64 0, .slice (some ⟨gi, 0, none⟩) 1 1, .slice (some ⟨gb, 0, none⟩) 1 1]) [(1, .slice (some ⟨gi, 0, none⟩) 1 1), (2, .slice (some ⟨gb, 0, none⟩) 1 1)] rfl rfl (by exact rfl) (by kernel_rfl) ?_) | (go_at_call 27; refine (oputR_any r2 r2_ok (some ⟨gi, 0, none⟩) (some ⟨gb, 0, none⟩) 1 1 1 1 _ (Rd.blk hs6 (.tail _ (.head _)) (Nat.le_refl _) (by decide) rfl rfl) (Rd.blk hs6 (.head _) (Nat.le_refl _) (by decide) rfl rfl) rfl rfl).mono ?_; rw [r2_put]; rintro _ w107 ⟨ub, rfl, h4⟩; have h5 : St _ [] w107 [.rowP isB ub 5 1 13 (bytesV [0, 0, 0, 1, 0, 0, 0, 1, 2, 0, 0, 1, 7])] := h4; have hs7 := St.call hs6 h5; clear h4 h5 hs6) | (apply wl_bsX [.int .u8 7] [.int .u8 7] hs7; rfl; rfl; exact rfl; exact rfl; infer_instance; infer_instance; rfl; rfl; rfl; intro gc w108 hs8; clear hs7) | (refine wl_buildX (T := 49) (cs := [.int .i64 17, .slice none 0 0, .slice (some ⟨gc, 0, none⟩) 1 1]) [(0, .int .i64 17), (2, .slice (some ⟨gc, 0, none⟩) 1 1)] rfl rfl (by exact rfl) (by kernel_rfl) ?_) | (go_at_call 27; refine (oputR_any r3 r3_ok none (some ⟨gc, 0, none⟩) 0 0 1 1 _ (Rd.nil _ _) (Rd.blk hs8 (.head _) (Nat.le_refl _) (by decide) rfl rfl) rfl rfl).mono ?_; rw [r3_put]; rintro _ w109 ⟨uc, rfl, h4⟩; have h5 : St _ [] w109 [.rowP isB uc 5 1 0 (bytesV [])] := h4; have hs9 := St.call hs8 h5; clear h4 h5 hs8) | (apply wl_bsX [.int .u8 0, .int .u8 17, .int .u8 0, .int .u8 0, .int .u8 0, .int .u8 0, .int .u8 0] [.int .u8 0, .int .u8 17, .int .u8 0, .int .u8 0, .int .u8 0, .int .u8 0, .int .u8 0] hs9; rfl; rfl; exact rfl; exact rfl; infer_instance; infer_instance; rfl; rfl; rfl; intro g7 w110 hs10; clear hs9) | (go_at_call 14; refine (sameBytes_any _ _ 7 7 [0, 17, 0, 0, 0, 0, 0] [0, 17, 0, 0, 0, 0, 0] _ (Rd.rowP hs10 (.tail _ (.tail _ (.tail _ (.tail _ (.tail _ (.tail _ (.head _)))))))) (Rd.blk hs10 (.head _) (Nat.le_refl _) (by decide) rfl rfl)).mono ?_; rw [beq_self_eq_true]; rintro _ w111 ⟨rfl, h4⟩; have hs11 := St.call0 hs10 h4; clear h4 hs10) | (apply wl_bsX [.int .u8 0, .int .u8 0, .int .u8 0, .int .u8 1, .int .u8 0, .int .u8 0, .int .u8 0, .int .u8 1, .int .u8 2, .int .u8 0, .int .u8 0, .int .u8 1, .int .u8 7] [.int .u8 0, .int .u8 0, .int .u8 0, .int .u8 1, .int .u8 0, .int .u8 0, .int .u8 0, .int .u8 1, .int .u8 2, .int .u8 0, .int .u8 0, .int .u8 1, .int .u8 7] hs11; rfl; rfl; exact rfl; exact rfl; infer_instance; infer_instance; rfl; rfl; rfl; intro g13 w112 hs12; clear hs11) | (go_at_call 14; refine (sameBytes_any _ _ 13 13 [0, 0, 0, 1, 0, 0, 0, 1, 2, 0, 0, 1, 7] [0, 0, 0, 1, 0, 0, 0, 1, 2, 0, 0, 1, 7] _ (Rd.rowP hs12 (.tail _ (.tail _ (.tail _ (.tail _ (.head _)))))) (Rd.blk hs12 (.head _) (Nat.le_refl _) (by decide) rfl rfl)).mono ?_; rw [beq_self_eq_true]; rintro _ w113 ⟨rfl, h4⟩; have hs13 := St.call0 hs12 h4; clear h4 hs12) | (go_at_call 22; refine (oget_any none 0 0 [] _ (Rd.nil _ _) rfl (by decide)).mono ?_; rw [o1_get]; rintro _ w114 ⟨lb, bb, rfl, h4⟩; have hs14 := St.call hs13 h4; clear h4 hs13; obtain ⟨alb, clb, rfl⟩ := St.rowPSliceF [] hs14; obtain ⟨abb, cbb, rfl⟩ := St.rowPSliceF [_] hs14) | (refine wl_alloc (T := 25) hs14 rfl rfl ?_; intro e1 w115 hs15; clear hs14) | (refine wl_alloc (T := 42) hs15 rfl rfl ?_; intro f1 w116 hs16; clear hs15) | (refine wl_storeA (T := 25) (vs := [.int .i64 0, .string ⟨#[]⟩, .string ⟨#[]⟩, .int .i64 0, .int .i64 0, .slice alb 0 clb, .slice abb 0 cbb]) [_] hs16 rfl rfl (by kernel_rfl) (by kernel_rfl) rfl rfl rfl ?_; intro w117 hs17; clear hs16) | (refine wl_storeA (T := 42) (vs := [.int .i64 4, .int .i64 0]) [] hs17 rfl rfl (by kernel_rfl) (by kernel_rfl) rfl rfl rfl ?_; intro w118 hs18; clear hs17) | (apply wl_make 111 111 hs18; rfl; rfl; exact rfl; exact rfl; infer_instance; infer_instance; infer_instance; exact rfl; exact rfl; exact Nat.le_refl _; (constructor <;> decide); intro gm w119 hs19; clear hs18) | (go_at_call 22; refine (oget_any (some ⟨gm, 0, none⟩) 111 111 (List.replicate 111 0) _ (Rd.blk hs19 (.head _) (Nat.le_refl _) (by decide) (by kernel_rfl) (by kernel_rfl)) (by decide +kernel) (by decide)).mono ?_; rw [o2_get]; rintro _ w120 ⟨ld, bd, rfl, h4⟩; have hs20 := St.call hs19 h4; clear h4 hs19; obtain ⟨ald, cld, rfl⟩ := St.rowPSliceF [] hs20; obtain ⟨abd, cbd, rfl⟩ := St.rowPSliceF [_] hs20) | (refine wl_alloc (T := 25) hs20 rfl rfl ?_; intro e2 w121 hs21; clear hs20) | (refine wl_alloc (T := 42) hs21 rfl rfl ?_; intro f2 w122 hs22; clear hs21) | (refine wl_storeA (T := 25) (vs := [.int .i64 0, .string ⟨#[]⟩, .string ⟨#[]⟩, .int .i64 0, .int .i64 0, .slice ald 0 cld, .slice abd 0 cbd]) [_] hs22 rfl rfl (by kernel_rfl) (by kernel_rfl) rfl rfl rfl ?_; intro w123 hs23; clear hs22) | (refine wl_storeA (T := 42) (vs := [.int .i64 5, .int .i64 0]) [] hs23 rfl rfl (by kernel_rfl) (by kernel_rfl) rfl rfl rfl ?_; intro w124 hs24; clear hs23) | (apply wl_bsX [.int .u8 0] [.int .u8 0] hs24; rfl; rfl; exact rfl; exact rfl; infer_instance; infer_instance; rfl; rfl; rfl; intro gz w125 hs25; clear hs24) | (apply wl_appP (p := isB) (ys := bytesV [0]) [_, _, _, _, _, _, _, _, _, _, _, _, _, _, _, _, _] hs25; rfl; rfl; exact rfl; exact rfl; infer_instance; infer_instance; infer_instance; infer_instance; exact (Rd.blk0 hs25 rfl (by decide)); exact rfl; rfl; exact isB_bytes _; (unfold maxLen; omega); intro uz w126 hs26 _; clear hs25; rw [← bytesV_app] at hs26; obtain ⟨auz, cuz, rfl⟩ := St.rowPSliceF [_, _, _, _, _, _, _, _, _, _, _, _, _, _, _, _, _] hs26) | (go_at_call 30; refine (ogetR_any _ 8 _ ([0, 17, 0, 0, 0, 0, 0] ++ [0]) _ (Rd.rowP hs26 (.tail _ (.tail _ (.tail _ (.tail _ (.tail _ (.tail _ (.tail _ (.tail _ (.tail _ (.tail _ (.tail _ (.tail _ (.tail _ (.tail _ (.tail _ (.tail _ (.tail _ (.head _))))))))))))))))))) rfl (by decide)).mono ?_; rw [r4_get]; rintro _ w127 ⟨lf, bf, rfl, h4⟩; have hs27 := St.call hs26 h4; clear h4 hs26; obtain ⟨alf, clf, rfl⟩ := St.rowPSliceF [] hs27; obtain ⟨abf, cbf, rfl⟩ := St.rowPSliceF [_] hs27) | (refine wl_alloc (T := 49) hs27 rfl rfl ?_; intro e3 w128 hs28; clear hs27) | (refine wl_alloc (T := 42) hs28 rfl rfl ?_; intro f3 w129 hs29; clear hs28) | (refine wl_storeA (T := 49) (vs := [.int .i64 0, .slice alf 0 clf, .slice abf 0 cbf]) [_] hs29 rfl rfl (by kernel_rfl) (by kernel_rfl) rfl rfl rfl ?_; intro w130 hs30; clear hs29) | (refine wl_storeA (T := 42) (vs := [.int .i64 4, .int .i64 7]) [] hs30 rfl rfl (by kernel_rfl) (by kernel_rfl) rfl rfl rfl ?_; intro w131 hs31; clear hs30) | (go_at_call 10; refine (awake_any _).mono ?_; rintro _ w132 ⟨rfl, h4⟩; have hs32 := St.call0 hs31 h4; clear h4 hs31) | (refine wl_loadE rfl rfl rfl ?_; first | refine ⟨_, Loads.whole (T := 42) [_, _, _, _, _, _, _, _, _, _] hs32 rfl, ?_⟩ | refine ⟨_, Loads.whole (T := 42) [_, _, _, _, _] hs32 rfl, ?_⟩ | refine ⟨_, Loads.whole (T := 42) [] hs32 rfl, ?_⟩) | (refine wl_buildX (T := 42) (cs := [.int .i64 4, .int .i64 0]) [(0, .int .i64 4)] rfl rfl (by exact rfl) (by kernel_rfl) ?_) | (refine wl_buildX (T := 42) (cs := [.int .i64 5, .int .i64 0]) [(0, .int .i64 5)] rfl rfl (by exact rfl) (by kernel_rfl) ?_) | (refine wl_buildX (T := 42) (cs := [.int .i64 4, .int .i64 7]) [(0, .int .i64 4), (1, .int .i64 7)] rfl rfl (by exact rfl) (by kernel_rfl) ?_))
  go_ret
  exact ⟨rfl, hs32.nil⟩
end Go.Proofs.Ytalfdcfcaamnbaa
namespace Go.Proofs.Ytalfdcfcaamnbaa
set_option linter.unusedVariables false
set_option linter.unusedSimpArgs false
open Go.ChangeShapes Go.WideShapes Go.ChangeAt Go.RowKit Hp
set_option maxRecDepth 100000 in
theorem orderKnown_lifted (os : Os) (started : os.Started) (H : Type) (enc : TypeId × Value → H) :
    ReturnsInHanded {} Try.checked os 6 .any (Rows.orderKnownSpec.pre6 enc Try.prog Try.f6 Rows.orderKnownRow.domain false) (Rows.orderKnownSpec.post enc Try.prog Try.f6 false true false false) := by
  refine returnsInHanded_of_change (C := Try.checked) own started (by kernel_rfl) Try.func6
    (ChangeSpec.witness6 (enc := enc) (C := Try.checked) false ⟨#[], #[], []⟩ 8 (by kernel_rfl) (by kernel_rfl) (by kernel_rfl) (by kernel_rfl)) ?_
  intro W base args ds gs before hval0 hW hcnd _
  have hval : ∀ (j : Nat) t v, Try.f6.params[j]? = some t → args[j]? = some v → Value.okWide Try.prog W .any base t v := hval0
  have hW' := hW
  obtain ⟨p, q, hAA0, hV, rfl, hfz, hnd⟩ := hW
  have hA : DataW.TrodAll enc Try.prog W 0 (fun _ => true) true Try.f6.params.toList args.toList ds p := hAA0
  rw [Try.params6] at hA hval
  obtain ⟨rfl, rfl, rfl⟩ := trodAll_none hA
  obtain ⟨rfl, rfl⟩ := trodVars_none hV
  clear hAA0 hval0
  simp only [List.append_nil] at hW'
  refine (oknown_any W).mono fun e W' ⟨he, hg⟩ => ?_
  subst he
  exact ⟨_, rfl, post_of_kept (pa := []) (pv := []) hW' (fun _ _ _ => (trodAll_cons_mk (shut_bool Try.underlying4 _) trodAll_mk0)) (fun sp _ => rfl) (fun _ _ => rfl) rfl
    (hg.below.frame _)⟩
theorem orderKnown_over : Rows.orderKnownRow.holds Try.pinned (OpenSpec.ofChange Rows.orderKnownSpec) :=
  OpenClaim.holds_of_wide 6 Try.f6 rfl rfl rfl rfl rfl rfl rfl ⟨rfl, rfl, rfl, rfl, rfl⟩ rfl rfl rfl rfl rfl (by kernel_rfl) Try.func6 (by kernel_rfl)
    (of_decide_eq_true (by kernel_rfl)) (by unfold Func.isWrapper; first | (rw [if_pos (by decide +kernel)]; kernel_rfl) | (rw [if_neg (by decide +kernel)]; exact ⟨rfl, rfl⟩))
    (fun os started H enc _ => orderKnown_lifted os started H enc)

theorem orderKnown_proved : Rows.OrderKnownSaid :=
  orderKnown_over
end Go.Proofs.Ytalfdcfcaamnbaa
