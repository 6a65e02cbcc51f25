import Derived.Test.YtmdfbdfijnmhkaaGreatJMirrorKnownc
import Derived.Test.YtmdfbdfijnmhkaaGreatJMirrorKnownb
import Derived.RangeFuncFrom
import Derived.Sort.CutIn
import Derived.Test.YtmdfbdfijnmhkaaGreatKB
namespace Go.Proofs.YtmdfbdfijnmhkaaGreat
set_option linter.unusedVariables false
set_option linter.unusedSimpArgs false
open Go.RowKit Hp
attribute [local irreducible] Go.Calls Go.wpList
set_option maxRecDepth 100000
set_option maxHeartbeats 4000000
theorem readE_inS {a : AR} {dev pl : Int} (h : a.readE dev pl = 0 ∨ a.readE dev pl = 13) : a.inS dev pl = true := by
  unfold AR.readE at h
  split at h
  · rcases h with h | h <;> cases h
  · split at h
    · rcases h with h | h <;> cases h
    · split at h
      · rcases h with h | h <;> cases h
      · rename_i h2
        simpa using h2
theorem readB_len {a : AR} (ok : a.Ok) {dev pl : Int} (h : a.readE dev pl = 0) : (a.readB dev pl).length = 256 := by
  have hs := readE_inS (.inl h)
  have hp := inS_pl hs
  have hd := inD_dev (inS_inD hs)
  unfold AR.readB
  rw [if_pos h]
  obtain ⟨k, rfl⟩ : ∃ k : Nat, dev = k := ⟨dev.toNat, by omega⟩
  obtain ⟨p, rfl⟩ : ∃ p : Nat, pl = p := ⟨pl.toNat, by omega⟩
  have hT := tells_len ok hs a.loose.length
  rwa [List.take_length] at hT
theorem writeE_inS {a : AR} {dev pl : Int} {b : List UInt8} (h : a.writeE dev pl b = 0) : a.inS dev pl = true := by
  unfold AR.writeE at h
  split at h
  · cases h
  · split at h
    · cases h
    · split at h
      · cases h
      · rename_i h2
        simpa using h2
theorem inS_dev {a : AR} {dev pl : Int} (h : a.inS dev pl = true) : ∃ k : Nat, dev = k ∧ k < a.devs.length := by
  have := inD_dev (inS_inD h)
  exact ⟨dev.toNat, by omega, by omega⟩
theorem MGood.ll {m : MV} {N : Nat} (h : MGood m N) (hN : N ≤ 900000) : m.a.loose.length < 1000000 := by have := h.sc.ll; omega
theorem MGood.st {m : MV} {N : Nat} (h : MGood m N) (hN : N ≤ 900000) : 0 ≤ m.a.steps ∧ m.a.steps < 4611686018427387904 := by have := h.sc.st; omega
section
theorem loadedIm3 (A : Addr) : loadVar 3 A = loadVarH 3 A := rfl
theorem loadedAm3 (A : Addr) : loadVar 23 A = loadVarH 23 A := rfl
theorem loadedDm3 (A : Addr) : loadVar 32 A = loadVarH 32 A := rfl
attribute [local go_sem ↓] loadedIm3 loadedAm3 loadedDm3
theorem look_out {w0 w : World} {M : List Nat} {R : List HA} {gm ga : Nat} {x : GA} {m : MV} {N : Nat} (hS : St w0 M w (mP gm ga x m ++ R)) (hg : MGood m N) (hN : N ≤ 900000) (dev pl : Int) (S : List UInt8) (hL : L32 S) (h1 : m.a.readE dev pl = 10) :
    Calls Tryz.prog 118 #[PM gm, .agg #[.int .i64 dev, .int .i64 pl], .agg (bytesV S).toArray] w fun e w' => ∃ v, e = .returned (.agg #[.int .i64 (m.kind dev pl S), v]) ∧ St w0 M w' (.rowP isB v 5 1 (m.lookB dev pl S).length (bytesV (m.lookB dev pl S)) :: (mP gm ga x (m.looked dev pl S) ++ R)) := by
  have hk : m.kind dev pl S = 3 := by unfold MV.kind; rw [if_pos h1]
  have hb : m.lookB dev pl S = [] := by unfold MV.lookB; rw [hk]; rfl
  have hm : m.looked dev pl S = ⟨m.a.read dev pl, m.e⟩ := by unfold MV.looked; rw [if_neg (by rw [h1]; decide), if_neg (by rw [hk]; decide)]
  rw [hk, hb, hm]
  have HG := hid hg
  have HLL := hid (hg.ll hN)
  have HL := hid hL
  obtain ⟨B, hB⟩ : ∃ B, B = m.a.readB dev pl := ⟨_, rfl⟩
  have HB := hid hB.symm
  obtain ⟨A', hA⟩ : ∃ A', A' = m.a.read dev pl := ⟨_, rfl⟩
  have HA := hid hA.symm
  rw [← hA]
  have HE := hid h1
  have hst := hS
  clear hS hg hk hb hm h1 hB hA hL
  unfold PM
  go_enter Tryz.func118, Tryz.ntmps118
  go_wp2_with (first | go_big_skip | go_big_guard | (refine wl_boxA hst rfl rfl rfl ?_; intro g4 w1 hst1; clear hst) | (refine wl_boxA hst1 rfl rfl rfl ?_; intro g5 w2 hst2; clear hst1) | (refine wl_alloc (T := 128) hst2 rfl rfl ?_; intro g6 w3 hst3; clear hst2))
  have hX := hst3.drew
  clear hst3
  refine wp_region_held_drew (S := (fun w' => (loadVarH 3 ⟨g4, 0, none⟩).run Tryz.prog w' = .ok (.int .i64 dev) w' ∧ (loadVarH 3 ⟨g4, 1, none⟩).run Tryz.prog w' = .ok (.int .i64 pl) w' ∧ (loadVarH 23 ⟨gm, 0, none⟩).run Tryz.prog w' = .ok (.pointer (some ⟨ga, 0, none⟩)) w')) (by kernel_rfl) (by exact ⟨Loads.at (P := Tryz.prog) [_, _] hX rfl, Loads.at (P := Tryz.prog) [_, _] hX rfl, Loads.at (P := Tryz.prog) [_, _, _] hX rfl⟩) (fun hHeld => ?_)
  refine wpAnyH_take (i := 0) (oi := ⟨some 10, _, _, _, _, _⟩) (v := ?_) rfl (by kernel_rfl) (by kernel_rfl) (by kernel_rfl) (fun _ _ _ h => h) (Or.inl ⟨by rfl, ?_⟩) (by assumption) ?_
  rotate_left
  · intro w hSw; (try dsimp only at hSw); go_simp; try with_reducible rfl
  (try simp only [Act.put, List.setIfInBounds_toArray, List.set_cons_zero, List.set_cons_succ])
  refine wpAnyH_take (i := 4) (oi := ⟨some 14, _, _, _, _, _⟩) (v := ?_) rfl (by kernel_rfl) (by kernel_rfl) (by kernel_rfl) (fun _ _ _ h => h) (Or.inl ⟨by rfl, ?_⟩) (by assumption) ?_
  rotate_left
  · intro w hSw; (try dsimp only at hSw); go_simp; try with_reducible rfl
  (try simp only [Act.put, List.setIfInBounds_toArray, List.set_cons_zero, List.set_cons_succ])
  refine wpAnyH_take (i := 6) (oi := ⟨some 16, _, _, _, _, _⟩) (v := ?_) rfl (by kernel_rfl) (by kernel_rfl) (by kernel_rfl) (fun _ _ _ h => h) (Or.inl ⟨by rfl, ?_⟩) (by assumption) ?_
  rotate_left
  · intro w hSw; (try dsimp only at hSw); go_simp; try with_reducible rfl
  (try simp only [Act.put, List.setIfInBounds_toArray, List.set_cons_zero, List.set_cons_succ])
  refine wpAnyH_take (i := 1) (oi := ⟨some 11, _, _, _, _, _⟩) (v := ?_) rfl (by kernel_rfl) (by kernel_rfl) (by kernel_rfl) (fun _ _ _ h => h) (Or.inl ⟨by rfl, ?_⟩) (by assumption) ?_
  rotate_left
  · intro w hSw; (try dsimp only at hSw); go_simp; try with_reducible rfl
  (try simp only [Act.put, List.setIfInBounds_toArray, List.set_cons_zero, List.set_cons_succ])
  refine wpAnyH_take (i := 5) (oi := ⟨some 15, _, _, _, _, _⟩) (v := ?_) rfl (by kernel_rfl) (by kernel_rfl) (by kernel_rfl) (fun _ _ _ h => h) (Or.inl ⟨by rfl, ?_⟩) (by assumption) ?_
  rotate_left
  · intro w hSw; (try dsimp only at hSw); go_simp; try with_reducible rfl
  (try simp only [Act.put, List.setIfInBounds_toArray, List.set_cons_zero, List.set_cons_succ])
  refine wpAnyH_take (i := 7) (oi := ⟨some 17, _, _, _, _, _⟩) (v := ?_) rfl (by kernel_rfl) (by kernel_rfl) (by kernel_rfl) (fun _ _ _ h => h) (Or.inl ⟨by rfl, ?_⟩) (by assumption) ?_
  rotate_left
  · intro w hSw; (try dsimp only at hSw); go_simp; try with_reducible rfl
  (try simp only [Act.put, List.setIfInBounds_toArray, List.set_cons_zero, List.set_cons_succ])
  refine wpAnyH_take (i := 2) (oi := ⟨some 12, _, _, _, _, _⟩) (v := ?_) rfl (by kernel_rfl) (by kernel_rfl) (by kernel_rfl) (fun _ _ _ h => h) (Or.inl ⟨by rfl, ?_⟩) (by assumption) ?_
  rotate_left
  · intro w hSw; (try dsimp only at hSw); go_simp; try with_reducible rfl
  (try simp only [Act.put, List.setIfInBounds_toArray, List.set_cons_zero, List.set_cons_succ])
  refine wpAnyH_take (i := 3) (oi := ⟨some 13, _, _, _, _, _⟩) (v := ?_) rfl (by kernel_rfl) (by kernel_rfl) (by kernel_rfl) (fun _ _ _ h => h) (Or.inl ⟨by rfl, ?_⟩) (by assumption) ?_
  rotate_left
  · intro w hSw; (try dsimp only at hSw); go_simp; try with_reducible rfl
  (try simp only [Act.put, List.setIfInBounds_toArray, List.set_cons_zero, List.set_cons_succ])
  refine wpAnyH_ready (rs := [8]) (by kernel_rfl) (by simp) ?_
  refine (AllReadyH.cons (o := ⟨some 18, _, _, _, _, _⟩) rfl (fun K hK => ?_) AllReadyH.nil)
  rw [if_pos (by rfl)]
  go_simp
  go_at_call 36
  have HC := readM_anyP (mid_in (P := [_, _, _]) (Bs := [_]) hX) HG.out.sc.ok HLL.out dev pl
  rw [HE.out, HB.out, HA.out] at HC
  refine HC.mono ?_
  clear HC
  rintro _ w4 ⟨u, rfl, h4⟩
  obtain ⟨ua, uc, rfl⟩ := St.rowPSlice [] h4
  have hE : St w0 M w4 (.rowP isB (.slice ua B.length uc) 5 1 B.length (bytesV B) :: .blk g6 128 [.int .i64 0, .slice none 0 0] :: .blk g5 32 (bytesV S) :: .blk g4 83 [.int .i64 dev, .int .i64 pl] :: mB gm ga m :: (arP ga x A' ++ R)) := mid_outp (P := [_, _, _]) (Bs := [_]) (Q := [_]) hX h4
  clear h4
  refine hK.out _ _ ?_ (fun hHeld => ?_)
  · exact ⟨Loads.at (P := Tryz.prog) [_, _, _] hE rfl, Loads.at (P := Tryz.prog) [_, _, _] hE rfl, Loads.at (P := Tryz.prog) [_, _, _, _] hE rfl⟩
  clear hK K
  (try simp only [Act.put, List.setIfInBounds_toArray, List.set_cons_zero, List.set_cons_succ])
  refine wpAnyH_take (i := 9) (oi := ⟨some 9, _, _, _, _, _⟩) (v := ?_) rfl (by kernel_rfl) (by kernel_rfl) (by kernel_rfl) (fun _ _ _ h => h) (Or.inl ⟨by rfl, ?_⟩) (by assumption) ?_
  rotate_left
  · intro w hSw; (try dsimp only at hSw); go_simp; try with_reducible rfl
  (try simp only [Act.put, List.setIfInBounds_toArray, List.set_cons_zero, List.set_cons_succ])
  refine wpAnyH_take (i := 10) (oi := ⟨some 19, _, _, _, _, _⟩) (v := ?_) rfl (by kernel_rfl) (by kernel_rfl) (by kernel_rfl) (fun _ _ _ h => h) (Or.inl ⟨by rfl, ?_⟩) (by assumption) ?_
  rotate_left
  · intro w hSw; (try dsimp only at hSw); go_simp; try with_reducible rfl
  (try simp only [Act.put, List.setIfInBounds_toArray, List.set_cons_zero, List.set_cons_succ])
  refine wpAnyH_take (i := 11) (oi := ⟨some 20, _, _, _, _, _⟩) (v := ?_) rfl (by kernel_rfl) (by kernel_rfl) (by kernel_rfl) (fun _ _ _ h => h) (Or.inl ⟨by rfl, ?_⟩) (by assumption) ?_
  rotate_left
  · intro w hSw; (try dsimp only at hSw); go_simp; try with_reducible rfl
  (try simp only [Act.put, List.setIfInBounds_toArray, List.set_cons_zero, List.set_cons_succ])
  refine wpAnyH_take (i := 12) (oi := ⟨some 7, _, _, _, _, _⟩) (v := ?_) rfl (by kernel_rfl) (by kernel_rfl) (by kernel_rfl) (fun _ _ _ h => h) (Or.inl ⟨by rfl, ?_⟩) (by assumption) ?_
  rotate_left
  · intro w hSw; (try dsimp only at hSw); go_simp; try with_reducible rfl
  (try simp only [Act.put, List.setIfInBounds_toArray, List.set_cons_zero, List.set_cons_succ])
  refine wpAnyH_take (i := 13) (oi := ⟨some 8, _, _, _, _, _⟩) (v := ?_) rfl (by kernel_rfl) (by kernel_rfl) (by kernel_rfl) (fun _ _ _ h => h) (Or.inl ⟨by rfl, ?_⟩) (by assumption) ?_
  rotate_left
  · intro w hSw; (try dsimp only at hSw); go_simp; try with_reducible rfl
  (try simp only [Act.put, List.setIfInBounds_toArray, List.set_cons_zero, List.set_cons_succ])
  refine wpAnyH_done (by kernel_rfl) ?_ _
  clear hHeld
  go_wp2_with (first | go_big_skip | go_big_guard | (refine wl_buildX (cs := [.int .i64 3, .slice none 0 0]) [(0, .int .i64 3)] rfl rfl (by exact rfl) (by kernel_rfl) ?_) | (refine wl_storeA [_] hE rfl rfl rfl rfl rfl rfl rfl ?_; intro _ hst6; clear hE))
  have hl := Loads.atA (P := Tryz.prog) (off := 0) (T := 128) [.int .i64 3, .slice none 0 0] [_] hst6 rfl rfl
  refine bodyPost_ret (results_cellL rfl rfl hl) rfl ⟨.slice none 0 0, rfl, St.nilPQ isB _ 1 (St.sub hst6 (.cons _ (.cons _ (.cons _ (.cons _ (List.Sublist.refl _))))))⟩
theorem look_fail {w0 w : World} {M : List Nat} {R : List HA} {gm ga : Nat} {x : GA} {m : MV} {N : Nat} (hS : St w0 M w (mP gm ga x m ++ R)) (hg : MGood m N) (hN : N ≤ 900000) (dev pl : Int) (S : List UInt8) (hL : L32 S) (h1 : m.a.readE dev pl = 13) :
    Calls Tryz.prog 118 #[PM gm, .agg #[.int .i64 dev, .int .i64 pl], .agg (bytesV S).toArray] w fun e w' => ∃ v, e = .returned (.agg #[.int .i64 (m.kind dev pl S), v]) ∧ St w0 M w' (.rowP isB v 5 1 (m.lookB dev pl S).length (bytesV (m.lookB dev pl S)) :: (mP gm ga x (m.looked dev pl S) ++ R)) := by
  have hk : m.kind dev pl S = 2 := by unfold MV.kind; rw [if_neg (by rw [h1]; decide), if_pos (by rw [h1]; decide)]
  have hb : m.lookB dev pl S = [] := by unfold MV.lookB; rw [hk]; rfl
  have hm : m.looked dev pl S = ⟨m.a.read dev pl, m.e.modify dev.toNat fRd⟩ := by unfold MV.looked; rw [if_pos h1]
  rw [hk, hb, hm]
  have HG := hid hg
  have HLL := hid (hg.ll hN)
  have HL := hid hL
  obtain ⟨B, hB⟩ : ∃ B, B = m.a.readB dev pl := ⟨_, rfl⟩
  have HB := hid hB.symm
  obtain ⟨A', hA⟩ : ∃ A', A' = m.a.read dev pl := ⟨_, rfl⟩
  have HA := hid hA.symm
  rw [← hA]
  have HE := hid h1
  obtain ⟨kd, rfl, hkd⟩ := inS_dev (readE_inS (.inr h1))
  have HKD := hid hkd
  rw [Int.toNat_natCast]
  have hst := hS
  clear hS hg hk hb hm h1 hB hA hL hkd
  unfold PM
  go_enter Tryz.func118, Tryz.ntmps118
  go_wp2_with (first | go_big_skip | go_big_guard | (refine wl_boxA hst rfl rfl rfl ?_; intro g4 w1 hst1; clear hst) | (refine wl_boxA hst1 rfl rfl rfl ?_; intro g5 w2 hst2; clear hst1) | (refine wl_alloc (T := 128) hst2 rfl rfl ?_; intro g6 w3 hst3; clear hst2))
  have hX := hst3.drew
  clear hst3
  refine wp_region_held_drew (S := (fun w' => (loadVarH 3 ⟨g4, 0, none⟩).run Tryz.prog w' = .ok (.int .i64 (kd : Int)) w' ∧ (loadVarH 3 ⟨g4, 1, none⟩).run Tryz.prog w' = .ok (.int .i64 pl) w' ∧ (loadVarH 23 ⟨gm, 0, none⟩).run Tryz.prog w' = .ok (.pointer (some ⟨ga, 0, none⟩)) w')) (by kernel_rfl) (by exact ⟨Loads.at (P := Tryz.prog) [_, _] hX rfl, Loads.at (P := Tryz.prog) [_, _] hX rfl, Loads.at (P := Tryz.prog) [_, _, _] hX rfl⟩) (fun hHeld => ?_)
  refine wpAnyH_take (i := 0) (oi := ⟨some 10, _, _, _, _, _⟩) (v := ?_) rfl (by kernel_rfl) (by kernel_rfl) (by kernel_rfl) (fun _ _ _ h => h) (Or.inl ⟨by rfl, ?_⟩) (by assumption) ?_
  rotate_left
  · intro w hSw; (try dsimp only at hSw); go_simp; try with_reducible rfl
  (try simp only [Act.put, List.setIfInBounds_toArray, List.set_cons_zero, List.set_cons_succ])
  refine wpAnyH_take (i := 4) (oi := ⟨some 14, _, _, _, _, _⟩) (v := ?_) rfl (by kernel_rfl) (by kernel_rfl) (by kernel_rfl) (fun _ _ _ h => h) (Or.inl ⟨by rfl, ?_⟩) (by assumption) ?_
  rotate_left
  · intro w hSw; (try dsimp only at hSw); go_simp; try with_reducible rfl
  (try simp only [Act.put, List.setIfInBounds_toArray, List.set_cons_zero, List.set_cons_succ])
  refine wpAnyH_take (i := 6) (oi := ⟨some 16, _, _, _, _, _⟩) (v := ?_) rfl (by kernel_rfl) (by kernel_rfl) (by kernel_rfl) (fun _ _ _ h => h) (Or.inl ⟨by rfl, ?_⟩) (by assumption) ?_
  rotate_left
  · intro w hSw; (try dsimp only at hSw); go_simp; try with_reducible rfl
  (try simp only [Act.put, List.setIfInBounds_toArray, List.set_cons_zero, List.set_cons_succ])
  refine wpAnyH_take (i := 1) (oi := ⟨some 11, _, _, _, _, _⟩) (v := ?_) rfl (by kernel_rfl) (by kernel_rfl) (by kernel_rfl) (fun _ _ _ h => h) (Or.inl ⟨by rfl, ?_⟩) (by assumption) ?_
  rotate_left
  · intro w hSw; (try dsimp only at hSw); go_simp; try with_reducible rfl
  (try simp only [Act.put, List.setIfInBounds_toArray, List.set_cons_zero, List.set_cons_succ])
  refine wpAnyH_take (i := 5) (oi := ⟨some 15, _, _, _, _, _⟩) (v := ?_) rfl (by kernel_rfl) (by kernel_rfl) (by kernel_rfl) (fun _ _ _ h => h) (Or.inl ⟨by rfl, ?_⟩) (by assumption) ?_
  rotate_left
  · intro w hSw; (try dsimp only at hSw); go_simp; try with_reducible rfl
  (try simp only [Act.put, List.setIfInBounds_toArray, List.set_cons_zero, List.set_cons_succ])
  refine wpAnyH_take (i := 7) (oi := ⟨some 17, _, _, _, _, _⟩) (v := ?_) rfl (by kernel_rfl) (by kernel_rfl) (by kernel_rfl) (fun _ _ _ h => h) (Or.inl ⟨by rfl, ?_⟩) (by assumption) ?_
  rotate_left
  · intro w hSw; (try dsimp only at hSw); go_simp; try with_reducible rfl
  (try simp only [Act.put, List.setIfInBounds_toArray, List.set_cons_zero, List.set_cons_succ])
  refine wpAnyH_take (i := 2) (oi := ⟨some 12, _, _, _, _, _⟩) (v := ?_) rfl (by kernel_rfl) (by kernel_rfl) (by kernel_rfl) (fun _ _ _ h => h) (Or.inl ⟨by rfl, ?_⟩) (by assumption) ?_
  rotate_left
  · intro w hSw; (try dsimp only at hSw); go_simp; try with_reducible rfl
  (try simp only [Act.put, List.setIfInBounds_toArray, List.set_cons_zero, List.set_cons_succ])
  refine wpAnyH_take (i := 3) (oi := ⟨some 13, _, _, _, _, _⟩) (v := ?_) rfl (by kernel_rfl) (by kernel_rfl) (by kernel_rfl) (fun _ _ _ h => h) (Or.inl ⟨by rfl, ?_⟩) (by assumption) ?_
  rotate_left
  · intro w hSw; (try dsimp only at hSw); go_simp; try with_reducible rfl
  (try simp only [Act.put, List.setIfInBounds_toArray, List.set_cons_zero, List.set_cons_succ])
  refine wpAnyH_ready (rs := [8]) (by kernel_rfl) (by simp) ?_
  refine (AllReadyH.cons (o := ⟨some 18, _, _, _, _, _⟩) rfl (fun K hK => ?_) AllReadyH.nil)
  rw [if_pos (by rfl)]
  go_simp
  go_at_call 36
  have HC := readM_anyP (mid_in (P := [_, _, _]) (Bs := [_]) hX) HG.out.sc.ok HLL.out (kd : Int) pl
  rw [HE.out, HB.out, HA.out] at HC
  refine HC.mono ?_
  clear HC
  rintro _ w4 ⟨u, rfl, h4⟩
  obtain ⟨ua, uc, rfl⟩ := St.rowPSlice [] h4
  have hE : St w0 M w4 (.rowP isB (.slice ua B.length uc) 5 1 B.length (bytesV B) :: .blk g6 128 [.int .i64 0, .slice none 0 0] :: .blk g5 32 (bytesV S) :: .blk g4 83 [.int .i64 (kd : Int), .int .i64 pl] :: mB gm ga m :: (arP ga x A' ++ R)) := mid_outp (P := [_, _, _]) (Bs := [_]) (Q := [_]) hX h4
  clear h4
  refine hK.out _ _ ?_ (fun hHeld => ?_)
  · exact ⟨Loads.at (P := Tryz.prog) [_, _, _] hE rfl, Loads.at (P := Tryz.prog) [_, _, _] hE rfl, Loads.at (P := Tryz.prog) [_, _, _, _] hE rfl⟩
  clear hK K
  (try simp only [Act.put, List.setIfInBounds_toArray, List.set_cons_zero, List.set_cons_succ])
  refine wpAnyH_take (i := 9) (oi := ⟨some 9, _, _, _, _, _⟩) (v := ?_) rfl (by kernel_rfl) (by kernel_rfl) (by kernel_rfl) (fun _ _ _ h => h) (Or.inl ⟨by rfl, ?_⟩) (by assumption) ?_
  rotate_left
  · intro w hSw; (try dsimp only at hSw); go_simp; try with_reducible rfl
  (try simp only [Act.put, List.setIfInBounds_toArray, List.set_cons_zero, List.set_cons_succ])
  refine wpAnyH_take (i := 10) (oi := ⟨some 19, _, _, _, _, _⟩) (v := ?_) rfl (by kernel_rfl) (by kernel_rfl) (by kernel_rfl) (fun _ _ _ h => h) (Or.inl ⟨by rfl, ?_⟩) (by assumption) ?_
  rotate_left
  · intro w hSw; (try dsimp only at hSw); go_simp; try with_reducible rfl
  (try simp only [Act.put, List.setIfInBounds_toArray, List.set_cons_zero, List.set_cons_succ])
  refine wpAnyH_take (i := 11) (oi := ⟨some 20, _, _, _, _, _⟩) (v := ?_) rfl (by kernel_rfl) (by kernel_rfl) (by kernel_rfl) (fun _ _ _ h => h) (Or.inl ⟨by rfl, ?_⟩) (by assumption) ?_
  rotate_left
  · intro w hSw; (try dsimp only at hSw); go_simp; try with_reducible rfl
  (try simp only [Act.put, List.setIfInBounds_toArray, List.set_cons_zero, List.set_cons_succ])
  refine wpAnyH_take (i := 12) (oi := ⟨some 7, _, _, _, _, _⟩) (v := ?_) rfl (by kernel_rfl) (by kernel_rfl) (by kernel_rfl) (fun _ _ _ h => h) (Or.inl ⟨by rfl, ?_⟩) (by assumption) ?_
  rotate_left
  · intro w hSw; (try dsimp only at hSw); go_simp; try with_reducible rfl
  (try simp only [Act.put, List.setIfInBounds_toArray, List.set_cons_zero, List.set_cons_succ])
  refine wpAnyH_take (i := 13) (oi := ⟨some 8, _, _, _, _, _⟩) (v := ?_) rfl (by kernel_rfl) (by kernel_rfl) (by kernel_rfl) (fun _ _ _ h => h) (Or.inl ⟨by rfl, ?_⟩) (by assumption) ?_
  rotate_left
  · intro w hSw; (try dsimp only at hSw); go_simp; try with_reducible rfl
  (try simp only [Act.put, List.setIfInBounds_toArray, List.set_cons_zero, List.set_cons_succ])
  refine wpAnyH_done (by kernel_rfl) ?_ _
  clear hHeld
  go_wp2_with (first | go_big_skip | go_big_guard | (refine wl_loadE rfl rfl rfl ?_; refine ⟨_, Loads.at (P := Tryz.prog) [_, _, _] hE rfl, ?_⟩) | (go_at_call 110; refine (counts_rd (St.front (L1 := [_, _, _, _]) hE) HG.out (by omega) kd HKD.out).mono ?_; rintro _ w6 ⟨rfl, h4⟩; have hst5 := h4; clear h4 hE) | (refine wl_buildX (cs := [.int .i64 2, .slice none 0 0]) [(0, .int .i64 2)] rfl rfl (by exact rfl) (by kernel_rfl) ?_) | (refine wl_storeA [_, _] hst5 rfl rfl rfl rfl rfl rfl rfl ?_; intro _ hst6; clear hst5))
  have hl := Loads.atA (P := Tryz.prog) (off := 0) (T := 128) [.int .i64 2, .slice none 0 0] [_, _] hst6 rfl rfl
  refine bodyPost_ret (results_cellL rfl rfl hl) rfl ⟨.slice none 0 0, rfl, St.nilPQ isB _ 1 (St.sub hst6 (.cons_cons _ (.cons _ (.cons _ (.cons _ (.cons _ (List.Sublist.refl _)))))))⟩
theorem look_lost {w0 w : World} {M : List Nat} {R : List HA} {gm ga : Nat} {x : GA} {m : MV} {N : Nat} (hS : St w0 M w (mP gm ga x m ++ R)) (hg : MGood m N) (hN : N ≤ 900000) (dev pl : Int) (S : List UInt8) (hL : L32 S) (h1 : m.a.readE dev pl ≠ 0) (h2 : m.a.readE dev pl ≠ 10) (h3 : m.a.readE dev pl ≠ 13) :
    Calls Tryz.prog 118 #[PM gm, .agg #[.int .i64 dev, .int .i64 pl], .agg (bytesV S).toArray] w fun e w' => ∃ v, e = .returned (.agg #[.int .i64 (m.kind dev pl S), v]) ∧ St w0 M w' (.rowP isB v 5 1 (m.lookB dev pl S).length (bytesV (m.lookB dev pl S)) :: (mP gm ga x (m.looked dev pl S) ++ R)) := by
  have hk : m.kind dev pl S = 2 := by unfold MV.kind; rw [if_neg h2, if_pos h1]
  have hb : m.lookB dev pl S = [] := by unfold MV.lookB; rw [hk]; rfl
  have hm : m.looked dev pl S = ⟨m.a.read dev pl, m.e⟩ := by unfold MV.looked; rw [if_neg h3, if_neg (by rw [hk]; decide)]
  rw [hk, hb, hm]
  have HG := hid hg
  have HLL := hid (hg.ll hN)
  have HL := hid hL
  obtain ⟨B, hB⟩ : ∃ B, B = m.a.readB dev pl := ⟨_, rfl⟩
  have HB := hid hB.symm
  obtain ⟨A', hA⟩ : ∃ A', A' = m.a.read dev pl := ⟨_, rfl⟩
  have HA := hid hA.symm
  rw [← hA]
  obtain ⟨E, hE⟩ : ∃ E, E = m.a.readE dev pl := ⟨_, rfl⟩
  rw [← hE] at h1 h2 h3
  have HE := hid hE.symm
  have d1 : (E == 10) = false := beq_eq_false_iff_ne.2 h2
  have d2 : (E == 13) = false := beq_eq_false_iff_ne.2 h3
  have d3 : (E != 0) = true := by simpa using h1
  clear hE h3
  have hst := hS
  clear hS hg hk hb hm h1 hB hA hL h2
  unfold PM
  go_enter Tryz.func118, Tryz.ntmps118
  go_wp2_with (first | go_big_skip | go_big_guard | (refine wl_boxA hst rfl rfl rfl ?_; intro g4 w1 hst1; clear hst) | (refine wl_boxA hst1 rfl rfl rfl ?_; intro g5 w2 hst2; clear hst1) | (refine wl_alloc (T := 128) hst2 rfl rfl ?_; intro g6 w3 hst3; clear hst2))
  have hX := hst3.drew
  clear hst3
  refine wp_region_held_drew (S := (fun w' => (loadVarH 3 ⟨g4, 0, none⟩).run Tryz.prog w' = .ok (.int .i64 dev) w' ∧ (loadVarH 3 ⟨g4, 1, none⟩).run Tryz.prog w' = .ok (.int .i64 pl) w' ∧ (loadVarH 23 ⟨gm, 0, none⟩).run Tryz.prog w' = .ok (.pointer (some ⟨ga, 0, none⟩)) w')) (by kernel_rfl) (by exact ⟨Loads.at (P := Tryz.prog) [_, _] hX rfl, Loads.at (P := Tryz.prog) [_, _] hX rfl, Loads.at (P := Tryz.prog) [_, _, _] hX rfl⟩) (fun hHeld => ?_)
  refine wpAnyH_take (i := 0) (oi := ⟨some 10, _, _, _, _, _⟩) (v := ?_) rfl (by kernel_rfl) (by kernel_rfl) (by kernel_rfl) (fun _ _ _ h => h) (Or.inl ⟨by rfl, ?_⟩) (by assumption) ?_
  rotate_left
  · intro w hSw; (try dsimp only at hSw); go_simp; try with_reducible rfl
  (try simp only [Act.put, List.setIfInBounds_toArray, List.set_cons_zero, List.set_cons_succ])
  refine wpAnyH_take (i := 4) (oi := ⟨some 14, _, _, _, _, _⟩) (v := ?_) rfl (by kernel_rfl) (by kernel_rfl) (by kernel_rfl) (fun _ _ _ h => h) (Or.inl ⟨by rfl, ?_⟩) (by assumption) ?_
  rotate_left
  · intro w hSw; (try dsimp only at hSw); go_simp; try with_reducible rfl
  (try simp only [Act.put, List.setIfInBounds_toArray, List.set_cons_zero, List.set_cons_succ])
  refine wpAnyH_take (i := 6) (oi := ⟨some 16, _, _, _, _, _⟩) (v := ?_) rfl (by kernel_rfl) (by kernel_rfl) (by kernel_rfl) (fun _ _ _ h => h) (Or.inl ⟨by rfl, ?_⟩) (by assumption) ?_
  rotate_left
  · intro w hSw; (try dsimp only at hSw); go_simp; try with_reducible rfl
  (try simp only [Act.put, List.setIfInBounds_toArray, List.set_cons_zero, List.set_cons_succ])
  refine wpAnyH_take (i := 1) (oi := ⟨some 11, _, _, _, _, _⟩) (v := ?_) rfl (by kernel_rfl) (by kernel_rfl) (by kernel_rfl) (fun _ _ _ h => h) (Or.inl ⟨by rfl, ?_⟩) (by assumption) ?_
  rotate_left
  · intro w hSw; (try dsimp only at hSw); go_simp; try with_reducible rfl
  (try simp only [Act.put, List.setIfInBounds_toArray, List.set_cons_zero, List.set_cons_succ])
  refine wpAnyH_take (i := 5) (oi := ⟨some 15, _, _, _, _, _⟩) (v := ?_) rfl (by kernel_rfl) (by kernel_rfl) (by kernel_rfl) (fun _ _ _ h => h) (Or.inl ⟨by rfl, ?_⟩) (by assumption) ?_
  rotate_left
  · intro w hSw; (try dsimp only at hSw); go_simp; try with_reducible rfl
  (try simp only [Act.put, List.setIfInBounds_toArray, List.set_cons_zero, List.set_cons_succ])
  refine wpAnyH_take (i := 7) (oi := ⟨some 17, _, _, _, _, _⟩) (v := ?_) rfl (by kernel_rfl) (by kernel_rfl) (by kernel_rfl) (fun _ _ _ h => h) (Or.inl ⟨by rfl, ?_⟩) (by assumption) ?_
  rotate_left
  · intro w hSw; (try dsimp only at hSw); go_simp; try with_reducible rfl
  (try simp only [Act.put, List.setIfInBounds_toArray, List.set_cons_zero, List.set_cons_succ])
  refine wpAnyH_take (i := 2) (oi := ⟨some 12, _, _, _, _, _⟩) (v := ?_) rfl (by kernel_rfl) (by kernel_rfl) (by kernel_rfl) (fun _ _ _ h => h) (Or.inl ⟨by rfl, ?_⟩) (by assumption) ?_
  rotate_left
  · intro w hSw; (try dsimp only at hSw); go_simp; try with_reducible rfl
  (try simp only [Act.put, List.setIfInBounds_toArray, List.set_cons_zero, List.set_cons_succ])
  refine wpAnyH_take (i := 3) (oi := ⟨some 13, _, _, _, _, _⟩) (v := ?_) rfl (by kernel_rfl) (by kernel_rfl) (by kernel_rfl) (fun _ _ _ h => h) (Or.inl ⟨by rfl, ?_⟩) (by assumption) ?_
  rotate_left
  · intro w hSw; (try dsimp only at hSw); go_simp; try with_reducible rfl
  (try simp only [Act.put, List.setIfInBounds_toArray, List.set_cons_zero, List.set_cons_succ])
  refine wpAnyH_ready (rs := [8]) (by kernel_rfl) (by simp) ?_
  refine (AllReadyH.cons (o := ⟨some 18, _, _, _, _, _⟩) rfl (fun K hK => ?_) AllReadyH.nil)
  rw [if_pos (by rfl)]
  go_simp
  go_at_call 36
  have HC := readM_anyP (mid_in (P := [_, _, _]) (Bs := [_]) hX) HG.out.sc.ok HLL.out dev pl
  rw [HE.out, HB.out, HA.out] at HC
  refine HC.mono ?_
  clear HC
  rintro _ w4 ⟨u, rfl, h4⟩
  obtain ⟨ua, uc, rfl⟩ := St.rowPSlice [] h4
  have hE : St w0 M w4 (.rowP isB (.slice ua B.length uc) 5 1 B.length (bytesV B) :: .blk g6 128 [.int .i64 0, .slice none 0 0] :: .blk g5 32 (bytesV S) :: .blk g4 83 [.int .i64 dev, .int .i64 pl] :: mB gm ga m :: (arP ga x A' ++ R)) := mid_outp (P := [_, _, _]) (Bs := [_]) (Q := [_]) hX h4
  clear h4
  refine hK.out _ _ ?_ (fun hHeld => ?_)
  · exact ⟨Loads.at (P := Tryz.prog) [_, _, _] hE rfl, Loads.at (P := Tryz.prog) [_, _, _] hE rfl, Loads.at (P := Tryz.prog) [_, _, _, _] hE rfl⟩
  clear hK K
  (try simp only [Act.put, List.setIfInBounds_toArray, List.set_cons_zero, List.set_cons_succ])
  refine wpAnyH_take (i := 9) (oi := ⟨some 9, _, _, _, _, _⟩) (v := ?_) rfl (by kernel_rfl) (by kernel_rfl) (by kernel_rfl) (fun _ _ _ h => h) (Or.inl ⟨by rfl, ?_⟩) (by assumption) ?_
  rotate_left
  · intro w hSw; (try dsimp only at hSw); go_simp; try with_reducible rfl
  (try simp only [Act.put, List.setIfInBounds_toArray, List.set_cons_zero, List.set_cons_succ])
  refine wpAnyH_take (i := 10) (oi := ⟨some 19, _, _, _, _, _⟩) (v := ?_) rfl (by kernel_rfl) (by kernel_rfl) (by kernel_rfl) (fun _ _ _ h => h) (Or.inl ⟨by rfl, ?_⟩) (by assumption) ?_
  rotate_left
  · intro w hSw; (try dsimp only at hSw); go_simp; try with_reducible rfl
  (try simp only [Act.put, List.setIfInBounds_toArray, List.set_cons_zero, List.set_cons_succ])
  refine wpAnyH_take (i := 11) (oi := ⟨some 20, _, _, _, _, _⟩) (v := ?_) rfl (by kernel_rfl) (by kernel_rfl) (by kernel_rfl) (fun _ _ _ h => h) (Or.inl ⟨by rfl, ?_⟩) (by assumption) ?_
  rotate_left
  · intro w hSw; (try dsimp only at hSw); go_simp; try with_reducible rfl
  (try simp only [Act.put, List.setIfInBounds_toArray, List.set_cons_zero, List.set_cons_succ])
  refine wpAnyH_take (i := 12) (oi := ⟨some 7, _, _, _, _, _⟩) (v := ?_) rfl (by kernel_rfl) (by kernel_rfl) (by kernel_rfl) (fun _ _ _ h => h) (Or.inl ⟨by rfl, ?_⟩) (by assumption) ?_
  rotate_left
  · intro w hSw; (try dsimp only at hSw); go_simp; try with_reducible rfl
  (try simp only [Act.put, List.setIfInBounds_toArray, List.set_cons_zero, List.set_cons_succ])
  refine wpAnyH_take (i := 13) (oi := ⟨some 8, _, _, _, _, _⟩) (v := ?_) rfl (by kernel_rfl) (by kernel_rfl) (by kernel_rfl) (fun _ _ _ h => h) (Or.inl ⟨by rfl, ?_⟩) (by assumption) ?_
  rotate_left
  · intro w hSw; (try dsimp only at hSw); go_simp; try with_reducible rfl
  (try simp only [Act.put, List.setIfInBounds_toArray, List.set_cons_zero, List.set_cons_succ])
  refine wpAnyH_done (by kernel_rfl) ?_ _
  clear hHeld
  go_wp2_with (first | go_big_skip | go_big_guard | (refine wl_buildX (cs := [.int .i64 2, .slice none 0 0]) [(0, .int .i64 2)] rfl rfl (by exact rfl) (by kernel_rfl) ?_) | (refine wl_storeA [_] hE rfl rfl rfl rfl rfl rfl rfl ?_; intro _ hst6; clear hE))
  have hl := Loads.atA (P := Tryz.prog) (off := 0) (T := 128) [.int .i64 2, .slice none 0 0] [_] hst6 rfl rfl
  refine bodyPost_ret (results_cellL rfl rfl hl) rfl ⟨.slice none 0 0, rfl, St.nilPQ isB _ 1 (St.sub hst6 (.cons _ (.cons _ (.cons _ (.cons _ (List.Sublist.refl _))))))⟩
theorem look_bad {w0 w : World} {M : List Nat} {R : List HA} {gm ga : Nat} {x : GA} {m : MV} {N : Nat} (hS : St w0 M w (mP gm ga x m ++ R)) (hg : MGood m N) (hN : N ≤ 900000) (dev pl : Int) (S : List UInt8) (hL : L32 S) (h1 : m.a.readE dev pl = 0) (h2 : sumB (m.a.readB dev pl) ≠ S) :
    Calls Tryz.prog 118 #[PM gm, .agg #[.int .i64 dev, .int .i64 pl], .agg (bytesV S).toArray] w fun e w' => ∃ v, e = .returned (.agg #[.int .i64 (m.kind dev pl S), v]) ∧ St w0 M w' (.rowP isB v 5 1 (m.lookB dev pl S).length (bytesV (m.lookB dev pl S)) :: (mP gm ga x (m.looked dev pl S) ++ R)) := by
  have hk : m.kind dev pl S = 1 := by unfold MV.kind; rw [if_neg (by rw [h1]; decide), if_neg (by rw [h1]; decide), if_neg h2]
  have hb : m.lookB dev pl S = [] := by unfold MV.lookB; rw [hk]; rfl
  have hm : m.looked dev pl S = ⟨m.a.read dev pl, m.e.modify dev.toNat fSm⟩ := by unfold MV.looked; rw [if_neg (by rw [h1]; decide), if_pos hk]
  rw [hk, hb, hm]
  have HG := hid hg
  have HLL := hid (hg.ll hN)
  have HL := hid hL
  obtain ⟨B, hB⟩ : ∃ B, B = m.a.readB dev pl := ⟨_, rfl⟩
  have HB := hid hB.symm
  obtain ⟨A', hA⟩ : ∃ A', A' = m.a.read dev pl := ⟨_, rfl⟩
  have HA := hid hA.symm
  rw [← hA]
  have HE := hid h1
  obtain ⟨kd, rfl, hkd⟩ := inS_dev (readE_inS (.inl h1))
  have HKD := hid hkd
  rw [Int.toNat_natCast]
  have HBL := hid (show B.length ≤ 100000 from by rw [hB, readB_len hg.sc.ok h1]; decide)
  have HQ : Hid ((sumB B == S) = false) := hid (by rw [hB]; exact beq_eq_false_iff_ne.2 h2)
  have HS32 := hid (show (sumB B).length = 32 from length_bytesS _)
  have hst := hS
  clear hS hg hk hb hm h1 hB hA hL h2 hkd
  unfold PM
  go_enter Tryz.func118, Tryz.ntmps118
  go_wp2_with (first | go_big_skip | go_big_guard | (refine wl_boxA hst rfl rfl rfl ?_; intro g4 w1 hst1; clear hst) | (refine wl_boxA hst1 rfl rfl rfl ?_; intro g5 w2 hst2; clear hst1) | (refine wl_alloc (T := 128) hst2 rfl rfl ?_; intro g6 w3 hst3; clear hst2))
  have hX := hst3.drew
  clear hst3
  refine wp_region_held_drew (S := (fun w' => (loadVarH 3 ⟨g4, 0, none⟩).run Tryz.prog w' = .ok (.int .i64 (kd : Int)) w' ∧ (loadVarH 3 ⟨g4, 1, none⟩).run Tryz.prog w' = .ok (.int .i64 pl) w' ∧ (loadVarH 23 ⟨gm, 0, none⟩).run Tryz.prog w' = .ok (.pointer (some ⟨ga, 0, none⟩)) w')) (by kernel_rfl) (by exact ⟨Loads.at (P := Tryz.prog) [_, _] hX rfl, Loads.at (P := Tryz.prog) [_, _] hX rfl, Loads.at (P := Tryz.prog) [_, _, _] hX rfl⟩) (fun hHeld => ?_)
  refine wpAnyH_take (i := 0) (oi := ⟨some 10, _, _, _, _, _⟩) (v := ?_) rfl (by kernel_rfl) (by kernel_rfl) (by kernel_rfl) (fun _ _ _ h => h) (Or.inl ⟨by rfl, ?_⟩) (by assumption) ?_
  rotate_left
  · intro w hSw; (try dsimp only at hSw); go_simp; try with_reducible rfl
  (try simp only [Act.put, List.setIfInBounds_toArray, List.set_cons_zero, List.set_cons_succ])
  refine wpAnyH_take (i := 4) (oi := ⟨some 14, _, _, _, _, _⟩) (v := ?_) rfl (by kernel_rfl) (by kernel_rfl) (by kernel_rfl) (fun _ _ _ h => h) (Or.inl ⟨by rfl, ?_⟩) (by assumption) ?_
  rotate_left
  · intro w hSw; (try dsimp only at hSw); go_simp; try with_reducible rfl
  (try simp only [Act.put, List.setIfInBounds_toArray, List.set_cons_zero, List.set_cons_succ])
  refine wpAnyH_take (i := 6) (oi := ⟨some 16, _, _, _, _, _⟩) (v := ?_) rfl (by kernel_rfl) (by kernel_rfl) (by kernel_rfl) (fun _ _ _ h => h) (Or.inl ⟨by rfl, ?_⟩) (by assumption) ?_
  rotate_left
  · intro w hSw; (try dsimp only at hSw); go_simp; try with_reducible rfl
  (try simp only [Act.put, List.setIfInBounds_toArray, List.set_cons_zero, List.set_cons_succ])
  refine wpAnyH_take (i := 1) (oi := ⟨some 11, _, _, _, _, _⟩) (v := ?_) rfl (by kernel_rfl) (by kernel_rfl) (by kernel_rfl) (fun _ _ _ h => h) (Or.inl ⟨by rfl, ?_⟩) (by assumption) ?_
  rotate_left
  · intro w hSw; (try dsimp only at hSw); go_simp; try with_reducible rfl
  (try simp only [Act.put, List.setIfInBounds_toArray, List.set_cons_zero, List.set_cons_succ])
  refine wpAnyH_take (i := 5) (oi := ⟨some 15, _, _, _, _, _⟩) (v := ?_) rfl (by kernel_rfl) (by kernel_rfl) (by kernel_rfl) (fun _ _ _ h => h) (Or.inl ⟨by rfl, ?_⟩) (by assumption) ?_
  rotate_left
  · intro w hSw; (try dsimp only at hSw); go_simp; try with_reducible rfl
  (try simp only [Act.put, List.setIfInBounds_toArray, List.set_cons_zero, List.set_cons_succ])
  refine wpAnyH_take (i := 7) (oi := ⟨some 17, _, _, _, _, _⟩) (v := ?_) rfl (by kernel_rfl) (by kernel_rfl) (by kernel_rfl) (fun _ _ _ h => h) (Or.inl ⟨by rfl, ?_⟩) (by assumption) ?_
  rotate_left
  · intro w hSw; (try dsimp only at hSw); go_simp; try with_reducible rfl
  (try simp only [Act.put, List.setIfInBounds_toArray, List.set_cons_zero, List.set_cons_succ])
  refine wpAnyH_take (i := 2) (oi := ⟨some 12, _, _, _, _, _⟩) (v := ?_) rfl (by kernel_rfl) (by kernel_rfl) (by kernel_rfl) (fun _ _ _ h => h) (Or.inl ⟨by rfl, ?_⟩) (by assumption) ?_
  rotate_left
  · intro w hSw; (try dsimp only at hSw); go_simp; try with_reducible rfl
  (try simp only [Act.put, List.setIfInBounds_toArray, List.set_cons_zero, List.set_cons_succ])
  refine wpAnyH_take (i := 3) (oi := ⟨some 13, _, _, _, _, _⟩) (v := ?_) rfl (by kernel_rfl) (by kernel_rfl) (by kernel_rfl) (fun _ _ _ h => h) (Or.inl ⟨by rfl, ?_⟩) (by assumption) ?_
  rotate_left
  · intro w hSw; (try dsimp only at hSw); go_simp; try with_reducible rfl
  (try simp only [Act.put, List.setIfInBounds_toArray, List.set_cons_zero, List.set_cons_succ])
  refine wpAnyH_ready (rs := [8]) (by kernel_rfl) (by simp) ?_
  refine (AllReadyH.cons (o := ⟨some 18, _, _, _, _, _⟩) rfl (fun K hK => ?_) AllReadyH.nil)
  rw [if_pos (by rfl)]
  go_simp
  go_at_call 36
  have HC := readM_anyP (mid_in (P := [_, _, _]) (Bs := [_]) hX) HG.out.sc.ok HLL.out (kd : Int) pl
  rw [HE.out, HB.out, HA.out] at HC
  refine HC.mono ?_
  clear HC
  rintro _ w4 ⟨u, rfl, h4⟩
  obtain ⟨ua, uc, rfl⟩ := St.rowPSlice [] h4
  have hE : St w0 M w4 (.rowP isB (.slice ua B.length uc) 5 1 B.length (bytesV B) :: .blk g6 128 [.int .i64 0, .slice none 0 0] :: .blk g5 32 (bytesV S) :: .blk g4 83 [.int .i64 (kd : Int), .int .i64 pl] :: mB gm ga m :: (arP ga x A' ++ R)) := mid_outp (P := [_, _, _]) (Bs := [_]) (Q := [_]) hX h4
  clear h4
  refine hK.out _ _ ?_ (fun hHeld => ?_)
  · exact ⟨Loads.at (P := Tryz.prog) [_, _, _] hE rfl, Loads.at (P := Tryz.prog) [_, _, _] hE rfl, Loads.at (P := Tryz.prog) [_, _, _, _] hE rfl⟩
  clear hK K
  (try simp only [Act.put, List.setIfInBounds_toArray, List.set_cons_zero, List.set_cons_succ])
  refine wpAnyH_take (i := 9) (oi := ⟨some 9, _, _, _, _, _⟩) (v := ?_) rfl (by kernel_rfl) (by kernel_rfl) (by kernel_rfl) (fun _ _ _ h => h) (Or.inl ⟨by rfl, ?_⟩) (by assumption) ?_
  rotate_left
  · intro w hSw; (try dsimp only at hSw); go_simp; try with_reducible rfl
  (try simp only [Act.put, List.setIfInBounds_toArray, List.set_cons_zero, List.set_cons_succ])
  refine wpAnyH_take (i := 10) (oi := ⟨some 19, _, _, _, _, _⟩) (v := ?_) rfl (by kernel_rfl) (by kernel_rfl) (by kernel_rfl) (fun _ _ _ h => h) (Or.inl ⟨by rfl, ?_⟩) (by assumption) ?_
  rotate_left
  · intro w hSw; (try dsimp only at hSw); go_simp; try with_reducible rfl
  (try simp only [Act.put, List.setIfInBounds_toArray, List.set_cons_zero, List.set_cons_succ])
  refine wpAnyH_take (i := 11) (oi := ⟨some 20, _, _, _, _, _⟩) (v := ?_) rfl (by kernel_rfl) (by kernel_rfl) (by kernel_rfl) (fun _ _ _ h => h) (Or.inl ⟨by rfl, ?_⟩) (by assumption) ?_
  rotate_left
  · intro w hSw; (try dsimp only at hSw); go_simp; try with_reducible rfl
  (try simp only [Act.put, List.setIfInBounds_toArray, List.set_cons_zero, List.set_cons_succ])
  refine wpAnyH_take (i := 12) (oi := ⟨some 7, _, _, _, _, _⟩) (v := ?_) rfl (by kernel_rfl) (by kernel_rfl) (by kernel_rfl) (fun _ _ _ h => h) (Or.inl ⟨by rfl, ?_⟩) (by assumption) ?_
  rotate_left
  · intro w hSw; (try dsimp only at hSw); go_simp; try with_reducible rfl
  (try simp only [Act.put, List.setIfInBounds_toArray, List.set_cons_zero, List.set_cons_succ])
  refine wpAnyH_take (i := 13) (oi := ⟨some 8, _, _, _, _, _⟩) (v := ?_) rfl (by kernel_rfl) (by kernel_rfl) (by kernel_rfl) (fun _ _ _ h => h) (Or.inl ⟨by rfl, ?_⟩) (by assumption) ?_
  rotate_left
  · intro w hSw; (try dsimp only at hSw); go_simp; try with_reducible rfl
  (try simp only [Act.put, List.setIfInBounds_toArray, List.set_cons_zero, List.set_cons_succ])
  refine wpAnyH_done (by kernel_rfl) ?_ _
  clear hHeld
  go_wp2_with (first | go_big_skip | go_big_guard | fail)
  have hY := hE.drew
  clear hE
  refine wp_region_held_drew (S := (fun w' => (loadVarH 32 ⟨g5, 0, none⟩).run Tryz.prog w' = .ok (.agg (List.toArray (bytesV S))) w')) (by kernel_rfl) (by exact Loads.atA (P := Tryz.prog) (bytesV S) [_, _] hY HL.out.v List.take_length) (fun hHeld => ?_)
  refine wpAnyH_take (i := 0) (oi := ⟨some 38, _, _, _, _, _⟩) (v := ?_) rfl (by kernel_rfl) (by kernel_rfl) (by kernel_rfl) (fun _ _ _ h => h) (Or.inl ⟨by rfl, ?_⟩) (by assumption) ?_
  rotate_left
  · intro w hSw; (try dsimp only at hSw); go_simp; try with_reducible rfl
  (try simp only [Act.put, List.setIfInBounds_toArray, List.set_cons_zero, List.set_cons_succ])
  refine wpAnyH_take (i := 2) (oi := ⟨some 40, _, _, _, _, _⟩) (v := ?_) rfl (by kernel_rfl) (by kernel_rfl) (by kernel_rfl) (fun _ _ _ h => h) (Or.inl ⟨by rfl, ?_⟩) (by assumption) ?_
  rotate_left
  · intro w hSw; (try dsimp only at hSw); go_simp; try with_reducible rfl
  (try simp only [Act.put, List.setIfInBounds_toArray, List.set_cons_zero, List.set_cons_succ])
  refine wpAnyH_ready (rs := [1]) (by kernel_rfl) (by simp) ?_
  refine (AllReadyH.cons (o := ⟨some 39, _, _, _, _, _⟩) rfl (fun K hK => ?_) AllReadyH.nil)
  rw [if_pos (by rfl)]
  go_simp
  go_at_call 23
  refine (sum_any ua B.length uc B _ (Rd.rowP hY (.head _)) rfl HBL.out).mono ?_
  rintro _ w5 ⟨rfl, h4⟩
  have hF := St.call0 hY h4
  clear h4
  refine hK.out _ _ ?_ (fun hHeld => ?_)
  · exact Loads.atA (P := Tryz.prog) (bytesV S) [_, _] hF HL.out.v List.take_length
  clear hK K
  (try simp only [Act.put, List.setIfInBounds_toArray, List.set_cons_zero, List.set_cons_succ])
  refine wpAnyH_ready (rs := [3]) (by kernel_rfl) (by simp) ?_
  refine (AllReadyH.cons (o := ⟨some 41, _, _, _, _, _⟩) rfl (fun K hK => ?_) AllReadyH.nil)
  rw [if_pos (by rfl)]
  refine ow_of_wl (ops := #[]) (by rfl) ?_
  refine wl_neq_bytes rfl rfl rfl rfl ⟨HS32.out, HL.out⟩ ?_
  rw [HQ.out]
  refine q0_nil ?_
  refine hK.out _ _ ?_ (fun hHeld => ?_)
  · exact Loads.atA (P := Tryz.prog) (bytesV S) [_, _] hF HL.out.v List.take_length
  clear hK K
  (try simp only [Act.put, List.setIfInBounds_toArray, List.set_cons_zero, List.set_cons_succ])
  refine wpAnyH_take (i := 4) (oi := ⟨some 37, _, _, _, _, _⟩) (v := ?_) rfl (by kernel_rfl) (by kernel_rfl) (by kernel_rfl) (fun _ _ _ h => h) (Or.inl ⟨by rfl, ?_⟩) (by assumption) ?_
  rotate_left
  · intro w hSw; (try dsimp only at hSw); go_simp; try with_reducible rfl
  (try simp only [Act.put, List.setIfInBounds_toArray, List.set_cons_zero, List.set_cons_succ])
  refine wpAnyH_done (by kernel_rfl) ?_ _
  clear hHeld
  go_wp2_with (first | go_big_skip | go_big_guard | (refine wl_loadE rfl rfl rfl ?_; refine ⟨_, Loads.at (P := Tryz.prog) [_, _, _] hF rfl, ?_⟩) | (go_at_call 110; refine (counts_sm (St.front (L1 := [_, _, _, _]) hF) HG.out (by omega) kd HKD.out).mono ?_; rintro _ w6 ⟨rfl, h4⟩; have hst5 := h4; clear h4 hF) | (refine wl_buildX (cs := [.int .i64 1, .slice none 0 0]) [(0, .int .i64 1)] rfl rfl (by exact rfl) (by kernel_rfl) ?_) | (refine wl_storeA [_, _] hst5 rfl rfl rfl rfl rfl rfl rfl ?_; intro _ hst6; clear hst5))
  have hl := Loads.atA (P := Tryz.prog) (off := 0) (T := 128) [.int .i64 1, .slice none 0 0] [_, _] hst6 rfl rfl
  refine bodyPost_ret (results_cellL rfl rfl hl) rfl ⟨.slice none 0 0, rfl, St.nilPQ isB _ 1 (St.sub hst6 (.cons_cons _ (.cons _ (.cons _ (.cons _ (.cons _ (List.Sublist.refl _)))))))⟩
theorem look_good {w0 w : World} {M : List Nat} {R : List HA} {gm ga : Nat} {x : GA} {m : MV} {N : Nat} (hS : St w0 M w (mP gm ga x m ++ R)) (hg : MGood m N) (hN : N ≤ 900000) (dev pl : Int) (S : List UInt8) (hL : L32 S) (h1 : m.a.readE dev pl = 0) (h2 : sumB (m.a.readB dev pl) = S) :
    Calls Tryz.prog 118 #[PM gm, .agg #[.int .i64 dev, .int .i64 pl], .agg (bytesV S).toArray] w fun e w' => ∃ v, e = .returned (.agg #[.int .i64 (m.kind dev pl S), v]) ∧ St w0 M w' (.rowP isB v 5 1 (m.lookB dev pl S).length (bytesV (m.lookB dev pl S)) :: (mP gm ga x (m.looked dev pl S) ++ R)) := by
  have hk : m.kind dev pl S = 0 := by unfold MV.kind; rw [if_neg (by rw [h1]; decide), if_neg (by rw [h1]; decide), if_pos h2]
  have hb : m.lookB dev pl S = m.a.readB dev pl := by unfold MV.lookB; rw [hk]; rfl
  have hm : m.looked dev pl S = ⟨m.a.read dev pl, m.e⟩ := by unfold MV.looked; rw [if_neg (by rw [h1]; decide), if_neg (by rw [hk]; decide)]
  rw [hk, hb, hm]
  have HG := hid hg
  have HLL := hid (hg.ll hN)
  have HL := hid hL
  obtain ⟨B, hB⟩ : ∃ B, B = m.a.readB dev pl := ⟨_, rfl⟩
  have HB := hid hB.symm
  obtain ⟨A', hA⟩ : ∃ A', A' = m.a.read dev pl := ⟨_, rfl⟩
  have HA := hid hA.symm
  rw [← hB]
  rw [← hA]
  have HE := hid h1
  have HBL := hid (show B.length ≤ 100000 from by rw [hB, readB_len hg.sc.ok h1]; decide)
  have HQ : Hid ((sumB B == S) = true) := hid (by rw [hB]; exact beq_iff_eq.2 h2)
  have HS32 := hid (show (sumB B).length = 32 from length_bytesS _)
  have hst := hS
  clear hS hg hk hb hm h1 hB hA hL h2
  unfold PM
  go_enter Tryz.func118, Tryz.ntmps118
  go_wp2_with (first | go_big_skip | go_big_guard | (refine wl_boxA hst rfl rfl rfl ?_; intro g4 w1 hst1; clear hst) | (refine wl_boxA hst1 rfl rfl rfl ?_; intro g5 w2 hst2; clear hst1) | (refine wl_alloc (T := 128) hst2 rfl rfl ?_; intro g6 w3 hst3; clear hst2))
  have hX := hst3.drew
  clear hst3
  refine wp_region_held_drew (S := (fun w' => (loadVarH 3 ⟨g4, 0, none⟩).run Tryz.prog w' = .ok (.int .i64 dev) w' ∧ (loadVarH 3 ⟨g4, 1, none⟩).run Tryz.prog w' = .ok (.int .i64 pl) w' ∧ (loadVarH 23 ⟨gm, 0, none⟩).run Tryz.prog w' = .ok (.pointer (some ⟨ga, 0, none⟩)) w')) (by kernel_rfl) (by exact ⟨Loads.at (P := Tryz.prog) [_, _] hX rfl, Loads.at (P := Tryz.prog) [_, _] hX rfl, Loads.at (P := Tryz.prog) [_, _, _] hX rfl⟩) (fun hHeld => ?_)
  refine wpAnyH_take (i := 0) (oi := ⟨some 10, _, _, _, _, _⟩) (v := ?_) rfl (by kernel_rfl) (by kernel_rfl) (by kernel_rfl) (fun _ _ _ h => h) (Or.inl ⟨by rfl, ?_⟩) (by assumption) ?_
  rotate_left
  · intro w hSw; (try dsimp only at hSw); go_simp; try with_reducible rfl
  (try simp only [Act.put, List.setIfInBounds_toArray, List.set_cons_zero, List.set_cons_succ])
  refine wpAnyH_take (i := 4) (oi := ⟨some 14, _, _, _, _, _⟩) (v := ?_) rfl (by kernel_rfl) (by kernel_rfl) (by kernel_rfl) (fun _ _ _ h => h) (Or.inl ⟨by rfl, ?_⟩) (by assumption) ?_
  rotate_left
  · intro w hSw; (try dsimp only at hSw); go_simp; try with_reducible rfl
  (try simp only [Act.put, List.setIfInBounds_toArray, List.set_cons_zero, List.set_cons_succ])
  refine wpAnyH_take (i := 6) (oi := ⟨some 16, _, _, _, _, _⟩) (v := ?_) rfl (by kernel_rfl) (by kernel_rfl) (by kernel_rfl) (fun _ _ _ h => h) (Or.inl ⟨by rfl, ?_⟩) (by assumption) ?_
  rotate_left
  · intro w hSw; (try dsimp only at hSw); go_simp; try with_reducible rfl
  (try simp only [Act.put, List.setIfInBounds_toArray, List.set_cons_zero, List.set_cons_succ])
  refine wpAnyH_take (i := 1) (oi := ⟨some 11, _, _, _, _, _⟩) (v := ?_) rfl (by kernel_rfl) (by kernel_rfl) (by kernel_rfl) (fun _ _ _ h => h) (Or.inl ⟨by rfl, ?_⟩) (by assumption) ?_
  rotate_left
  · intro w hSw; (try dsimp only at hSw); go_simp; try with_reducible rfl
  (try simp only [Act.put, List.setIfInBounds_toArray, List.set_cons_zero, List.set_cons_succ])
  refine wpAnyH_take (i := 5) (oi := ⟨some 15, _, _, _, _, _⟩) (v := ?_) rfl (by kernel_rfl) (by kernel_rfl) (by kernel_rfl) (fun _ _ _ h => h) (Or.inl ⟨by rfl, ?_⟩) (by assumption) ?_
  rotate_left
  · intro w hSw; (try dsimp only at hSw); go_simp; try with_reducible rfl
  (try simp only [Act.put, List.setIfInBounds_toArray, List.set_cons_zero, List.set_cons_succ])
  refine wpAnyH_take (i := 7) (oi := ⟨some 17, _, _, _, _, _⟩) (v := ?_) rfl (by kernel_rfl) (by kernel_rfl) (by kernel_rfl) (fun _ _ _ h => h) (Or.inl ⟨by rfl, ?_⟩) (by assumption) ?_
  rotate_left
  · intro w hSw; (try dsimp only at hSw); go_simp; try with_reducible rfl
  (try simp only [Act.put, List.setIfInBounds_toArray, List.set_cons_zero, List.set_cons_succ])
  refine wpAnyH_take (i := 2) (oi := ⟨some 12, _, _, _, _, _⟩) (v := ?_) rfl (by kernel_rfl) (by kernel_rfl) (by kernel_rfl) (fun _ _ _ h => h) (Or.inl ⟨by rfl, ?_⟩) (by assumption) ?_
  rotate_left
  · intro w hSw; (try dsimp only at hSw); go_simp; try with_reducible rfl
  (try simp only [Act.put, List.setIfInBounds_toArray, List.set_cons_zero, List.set_cons_succ])
  refine wpAnyH_take (i := 3) (oi := ⟨some 13, _, _, _, _, _⟩) (v := ?_) rfl (by kernel_rfl) (by kernel_rfl) (by kernel_rfl) (fun _ _ _ h => h) (Or.inl ⟨by rfl, ?_⟩) (by assumption) ?_
  rotate_left
  · intro w hSw; (try dsimp only at hSw); go_simp; try with_reducible rfl
  (try simp only [Act.put, List.setIfInBounds_toArray, List.set_cons_zero, List.set_cons_succ])
  refine wpAnyH_ready (rs := [8]) (by kernel_rfl) (by simp) ?_
  refine (AllReadyH.cons (o := ⟨some 18, _, _, _, _, _⟩) rfl (fun K hK => ?_) AllReadyH.nil)
  rw [if_pos (by rfl)]
  go_simp
  go_at_call 36
  have HC := readM_anyP (mid_in (P := [_, _, _]) (Bs := [_]) hX) HG.out.sc.ok HLL.out dev pl
  rw [HE.out, HB.out, HA.out] at HC
  refine HC.mono ?_
  clear HC
  rintro _ w4 ⟨u, rfl, h4⟩
  obtain ⟨ua, uc, rfl⟩ := St.rowPSlice [] h4
  have hE : St w0 M w4 (.rowP isB (.slice ua B.length uc) 5 1 B.length (bytesV B) :: .blk g6 128 [.int .i64 0, .slice none 0 0] :: .blk g5 32 (bytesV S) :: .blk g4 83 [.int .i64 dev, .int .i64 pl] :: mB gm ga m :: (arP ga x A' ++ R)) := mid_outp (P := [_, _, _]) (Bs := [_]) (Q := [_]) hX h4
  clear h4
  refine hK.out _ _ ?_ (fun hHeld => ?_)
  · exact ⟨Loads.at (P := Tryz.prog) [_, _, _] hE rfl, Loads.at (P := Tryz.prog) [_, _, _] hE rfl, Loads.at (P := Tryz.prog) [_, _, _, _] hE rfl⟩
  clear hK K
  (try simp only [Act.put, List.setIfInBounds_toArray, List.set_cons_zero, List.set_cons_succ])
  refine wpAnyH_take (i := 9) (oi := ⟨some 9, _, _, _, _, _⟩) (v := ?_) rfl (by kernel_rfl) (by kernel_rfl) (by kernel_rfl) (fun _ _ _ h => h) (Or.inl ⟨by rfl, ?_⟩) (by assumption) ?_
  rotate_left
  · intro w hSw; (try dsimp only at hSw); go_simp; try with_reducible rfl
  (try simp only [Act.put, List.setIfInBounds_toArray, List.set_cons_zero, List.set_cons_succ])
  refine wpAnyH_take (i := 10) (oi := ⟨some 19, _, _, _, _, _⟩) (v := ?_) rfl (by kernel_rfl) (by kernel_rfl) (by kernel_rfl) (fun _ _ _ h => h) (Or.inl ⟨by rfl, ?_⟩) (by assumption) ?_
  rotate_left
  · intro w hSw; (try dsimp only at hSw); go_simp; try with_reducible rfl
  (try simp only [Act.put, List.setIfInBounds_toArray, List.set_cons_zero, List.set_cons_succ])
  refine wpAnyH_take (i := 11) (oi := ⟨some 20, _, _, _, _, _⟩) (v := ?_) rfl (by kernel_rfl) (by kernel_rfl) (by kernel_rfl) (fun _ _ _ h => h) (Or.inl ⟨by rfl, ?_⟩) (by assumption) ?_
  rotate_left
  · intro w hSw; (try dsimp only at hSw); go_simp; try with_reducible rfl
  (try simp only [Act.put, List.setIfInBounds_toArray, List.set_cons_zero, List.set_cons_succ])
  refine wpAnyH_take (i := 12) (oi := ⟨some 7, _, _, _, _, _⟩) (v := ?_) rfl (by kernel_rfl) (by kernel_rfl) (by kernel_rfl) (fun _ _ _ h => h) (Or.inl ⟨by rfl, ?_⟩) (by assumption) ?_
  rotate_left
  · intro w hSw; (try dsimp only at hSw); go_simp; try with_reducible rfl
  (try simp only [Act.put, List.setIfInBounds_toArray, List.set_cons_zero, List.set_cons_succ])
  refine wpAnyH_take (i := 13) (oi := ⟨some 8, _, _, _, _, _⟩) (v := ?_) rfl (by kernel_rfl) (by kernel_rfl) (by kernel_rfl) (fun _ _ _ h => h) (Or.inl ⟨by rfl, ?_⟩) (by assumption) ?_
  rotate_left
  · intro w hSw; (try dsimp only at hSw); go_simp; try with_reducible rfl
  (try simp only [Act.put, List.setIfInBounds_toArray, List.set_cons_zero, List.set_cons_succ])
  refine wpAnyH_done (by kernel_rfl) ?_ _
  clear hHeld
  go_wp2_with (first | go_big_skip | go_big_guard | fail)
  have hY := hE.drew
  clear hE
  refine wp_region_held_drew (S := (fun w' => (loadVarH 32 ⟨g5, 0, none⟩).run Tryz.prog w' = .ok (.agg (List.toArray (bytesV S))) w')) (by kernel_rfl) (by exact Loads.atA (P := Tryz.prog) (bytesV S) [_, _] hY HL.out.v List.take_length) (fun hHeld => ?_)
  refine wpAnyH_take (i := 0) (oi := ⟨some 38, _, _, _, _, _⟩) (v := ?_) rfl (by kernel_rfl) (by kernel_rfl) (by kernel_rfl) (fun _ _ _ h => h) (Or.inl ⟨by rfl, ?_⟩) (by assumption) ?_
  rotate_left
  · intro w hSw; (try dsimp only at hSw); go_simp; try with_reducible rfl
  (try simp only [Act.put, List.setIfInBounds_toArray, List.set_cons_zero, List.set_cons_succ])
  refine wpAnyH_take (i := 2) (oi := ⟨some 40, _, _, _, _, _⟩) (v := ?_) rfl (by kernel_rfl) (by kernel_rfl) (by kernel_rfl) (fun _ _ _ h => h) (Or.inl ⟨by rfl, ?_⟩) (by assumption) ?_
  rotate_left
  · intro w hSw; (try dsimp only at hSw); go_simp; try with_reducible rfl
  (try simp only [Act.put, List.setIfInBounds_toArray, List.set_cons_zero, List.set_cons_succ])
  refine wpAnyH_ready (rs := [1]) (by kernel_rfl) (by simp) ?_
  refine (AllReadyH.cons (o := ⟨some 39, _, _, _, _, _⟩) rfl (fun K hK => ?_) AllReadyH.nil)
  rw [if_pos (by rfl)]
  go_simp
  go_at_call 23
  refine (sum_any ua B.length uc B _ (Rd.rowP hY (.head _)) rfl HBL.out).mono ?_
  rintro _ w5 ⟨rfl, h4⟩
  have hF := St.call0 hY h4
  clear h4
  refine hK.out _ _ ?_ (fun hHeld => ?_)
  · exact Loads.atA (P := Tryz.prog) (bytesV S) [_, _] hF HL.out.v List.take_length
  clear hK K
  (try simp only [Act.put, List.setIfInBounds_toArray, List.set_cons_zero, List.set_cons_succ])
  refine wpAnyH_ready (rs := [3]) (by kernel_rfl) (by simp) ?_
  refine (AllReadyH.cons (o := ⟨some 41, _, _, _, _, _⟩) rfl (fun K hK => ?_) AllReadyH.nil)
  rw [if_pos (by rfl)]
  refine ow_of_wl (ops := #[]) (by rfl) ?_
  refine wl_neq_bytes rfl rfl rfl rfl ⟨HS32.out, HL.out⟩ ?_
  rw [HQ.out]
  refine q0_nil ?_
  refine hK.out _ _ ?_ (fun hHeld => ?_)
  · exact Loads.atA (P := Tryz.prog) (bytesV S) [_, _] hF HL.out.v List.take_length
  clear hK K
  (try simp only [Act.put, List.setIfInBounds_toArray, List.set_cons_zero, List.set_cons_succ])
  refine wpAnyH_take (i := 4) (oi := ⟨some 37, _, _, _, _, _⟩) (v := ?_) rfl (by kernel_rfl) (by kernel_rfl) (by kernel_rfl) (fun _ _ _ h => h) (Or.inl ⟨by rfl, ?_⟩) (by assumption) ?_
  rotate_left
  · intro w hSw; (try dsimp only at hSw); go_simp; try with_reducible rfl
  (try simp only [Act.put, List.setIfInBounds_toArray, List.set_cons_zero, List.set_cons_succ])
  refine wpAnyH_done (by kernel_rfl) ?_ _
  clear hHeld
  go_wp2_with (first | go_big_skip | go_big_guard | (refine wl_buildX (cs := [.int .i64 0, .slice ua B.length uc]) [(0, .int .i64 0), (1, .slice ua B.length uc)] rfl rfl (by exact rfl) (by kernel_rfl) ?_) | (refine wl_storeA [_] hF rfl rfl rfl rfl rfl rfl rfl ?_; intro _ hst6; clear hF))
  have hl := Loads.atA (P := Tryz.prog) (off := 0) (T := 128) [.int .i64 0, .slice ua B.length uc] [_] hst6 rfl rfl
  refine bodyPost_ret (results_cellL rfl rfl hl) rfl ⟨.slice ua B.length uc, rfl, St.sub hst6 (.cons_cons _ (.cons _ (.cons _ (.cons _ (List.Sublist.refl _)))))⟩
theorem look_any {w0 w : World} {M : List Nat} {R : List HA} {gm ga : Nat} {x : GA} {m : MV} {N : Nat} (hS : St w0 M w (mP gm ga x m ++ R)) (hg : MGood m N) (hN : N ≤ 900000) (dev pl : Int) (S : List UInt8) (hL : L32 S) :
    Calls Tryz.prog 118 #[PM gm, .agg #[.int .i64 dev, .int .i64 pl], .agg (bytesV S).toArray] w fun e w' => ∃ v, e = .returned (.agg #[.int .i64 (m.kind dev pl S), v]) ∧ St w0 M w' (.rowP isB v 5 1 (m.lookB dev pl S).length (bytesV (m.lookB dev pl S)) :: (mP gm ga x (m.looked dev pl S) ++ R)) := by
  by_cases h1 : m.a.readE dev pl = 10
  · exact look_out hS hg hN dev pl S hL h1
  by_cases h2 : m.a.readE dev pl = 13
  · exact look_fail hS hg hN dev pl S hL h2
  by_cases h3 : m.a.readE dev pl = 0
  · by_cases h4 : sumB (m.a.readB dev pl) = S
    · exact look_good hS hg hN dev pl S hL h3 h4
    · exact look_bad hS hg hN dev pl S hL h3 h4
  · exact look_lost hS hg hN dev pl S hL h3 h1 h2
end
end Go.Proofs.YtmdfbdfijnmhkaaGreat
namespace Go.Proofs.YtmdfbdfijnmhkaaGreat
set_option linter.unusedVariables false
set_option linter.unusedSimpArgs false
open Go.RowKit Hp
attribute [local irreducible] Go.Calls Go.wpList
set_option maxRecDepth 100000
set_option maxHeartbeats 4000000
structure GB (w0 : World) (M : List Nat) (R : List HA) (v : Value) (n : Nat) (bs : List UInt8) : Prop where
  rd : ∀ w, St w0 M w R → Rd w v 1 n (bytesV bs)
  len : bs.length = n
  out : ∀ A k c, v = .slice (some A) k c → 0 < k → (∃ q ∈ R, q.foot = some A.block) ∨ (A.block < w0.heap.size ∧ A.block ∉ M)
theorem GB.off {w0 w : World} {M : List Nat} {P R : List HA} {v : Value} {n : Nat} {bs : List UInt8} (hb : GB w0 M R v n bs) (h : St w0 M w (P ++ R)) : Off v (P.filterMap HA.foot) := by
  intro A k c he hk hF
  obtain ⟨p, hp, hf⟩ := List.mem_filterMap.1 hF
  have hap := h.apart
  unfold Apart at hap
  rw [List.pairwise_append] at hap
  rcases hb.out A k c he hk with ⟨q, hq, hqf⟩ | ⟨h1, h2⟩
  · exact hap.2.2 p hp q hq _ hf hqf
  · rcases h.own p (List.mem_append_left _ hp) _ hf with h3 | h3
    · omega
    · exact h2 h3
theorem GB.more {w0 : World} {M : List Nat} {P R : List HA} {v : Value} {n : Nat} {bs : List UInt8} (hb : GB w0 M R v n bs) : GB w0 M (P ++ R) v n bs :=
  ⟨fun w h => hb.rd w (St.sub h (List.sublist_append_right _ _)), hb.len, fun A k c he hk => (hb.out A k c he hk).imp (fun ⟨q, hq, hf⟩ => ⟨q, List.mem_append_right _ hq, hf⟩) id⟩
theorem GB.old {w : World} {R : List HA} {ao : Option Addr} {n c : Nat} {bs : List UInt8} (h : Rd w (.slice ao n c) 1 n (bytesV bs)) (hl : bs.length = n) : GB w [] R (.slice ao n c) n bs := by
  refine ⟨fun w' hst => Rd.old hst h, hl, fun A k c' he hk => .inr ⟨?_, by simp⟩⟩
  cases he
  obtain ⟨b, off, hA, hr⟩ := h.at (k := 0) hk
  cases hA
  cases bs with
  | nil => simp at hl; omega
  | cons y l => exact World.block_lt_of_cell? w ⟨b, off + 0, none⟩ (hr 0 _ rfl)
theorem GB.row {w0 : World} {M : List Nat} {R : List HA} {ao : Option Addr} {n c : Nat} {bs : List UInt8} {T : TypeId} (hm : HA.rowP isB (.slice ao n c) T 1 n (bytesV bs) ∈ R) (hl : bs.length = n) : GB w0 M R (.slice ao n c) n bs := by
  refine ⟨fun w' hst => Rd.rowP hst hm, hl, fun A k c' he hk => .inl ⟨_, hm, ?_⟩⟩
  cases he
  rfl
theorem GB.blk {w0 : World} {M : List Nat} {R : List HA} {g n c : Nat} {bs cs : List UInt8} {T : TypeId} (hm : HA.blk g T (bytesV cs) ∈ R) (hl : bs.length = n) (hc : cs.take n = bs) (hn : n ≤ c) (hcm : c ≤ maxLen) : GB w0 M R (.slice (some ⟨g, 0, none⟩) n c) n bs := by
  refine ⟨fun w' hst => Rd.blk hst hm hn hcm (by rw [length_bytesV, hl, Nat.mul_one]) ?_, hl, fun A k c' he hk => .inl ⟨_, hm, ?_⟩⟩
  · rw [List.drop_zero, length_bytesV, hl, ← hc]
    simp [bytesV, List.map_take]
  · cases he
    rfl
section
attribute [local go_sem ↓] loadedIm3 loadedAm3
theorem heal_ok {w0 w : World} {M : List Nat} {R : List HA} {gm ga : Nat} {x : GA} {m : MV} {N : Nat} (hS : St w0 M w (mP gm ga x m ++ R)) (hg : MGood m N) (hN : N ≤ 900000) (dev pl : Int) (ao : Option Addr) (n c : Nat) (bs : List UInt8) (hb : GB w0 M R (.slice ao n c) n bs) (h1 : m.a.writeE dev pl bs = 0) :
    Calls Tryz.prog 58 #[PM gm, .agg #[.int .i64 dev, .int .i64 pl], .slice ao n c] w fun e w' => ∃ x', e = .returned (.bool (m.a.writeE dev pl bs == 0)) ∧ St w0 M w' (mP gm ga x' (m.healed dev pl bs) ++ R) := by
  have hm : m.healed dev pl bs = ⟨m.a.write dev pl bs, m.e.modify dev.toNat fHe⟩ := by unfold MV.healed; rw [if_pos h1]
  rw [hm]
  have HG := hid hg
  have HLL := hid (hg.ll hN)
  have HST := hid (hg.st hN)
  have HB := hid hb
  have HOF : Hid (∀ w' x', St w0 M w' (arP ga x' m.a ++ R) → Off (.slice ao n c) (arF ga x' m.a)) := hid (fun w' x' h => hb.off h)
  obtain ⟨A', hA⟩ : ∃ A', A' = m.a.write dev pl bs := ⟨_, rfl⟩
  have HA := hid hA.symm
  rw [← hA]
  have HE := hid h1
  rw [h1]
  obtain ⟨kd, rfl, hkd⟩ := inS_dev (writeE_inS h1)
  have HKD := hid hkd
  rw [Int.toNat_natCast]
  clear hkd
  have hst := hS
  clear hS hg hm h1 hA hb
  unfold PM
  go_enter Tryz.func58, Tryz.ntmps58
  go_wp2_with (first | go_big_skip | go_big_guard | (refine wl_boxA hst rfl rfl rfl ?_; intro g4 w1 hst1; clear hst))
  have hX := hst1.drew
  clear hst1
  refine wp_region_held_drew (S := (fun w' => (loadVarH 3 ⟨g4, 0, none⟩).run Tryz.prog w' = .ok (.int .i64 (kd : Int)) w' ∧ (loadVarH 3 ⟨g4, 1, none⟩).run Tryz.prog w' = .ok (.int .i64 pl) w' ∧ (loadVarH 23 ⟨gm, 0, none⟩).run Tryz.prog w' = .ok (.pointer (some ⟨ga, 0, none⟩)) w')) (by kernel_rfl) (by exact ⟨Loads.at (P := Tryz.prog) [] hX rfl, Loads.at (P := Tryz.prog) [] hX rfl, Loads.at (P := Tryz.prog) [_] hX rfl⟩) (fun hHeld => ?_)
  refine wpAnyH_take (i := 0) (oi := ⟨some 7, _, _, _, _, _⟩) (v := ?_) rfl (by kernel_rfl) (by kernel_rfl) (by kernel_rfl) (fun _ _ _ h => h) (Or.inl ⟨by rfl, ?_⟩) (by assumption) ?_
  rotate_left
  · intro w hSw; (try dsimp only at hSw); go_simp; try with_reducible rfl
  (try simp only [Act.put, List.setIfInBounds_toArray, List.set_cons_zero, List.set_cons_succ])
  refine wpAnyH_take (i := 4) (oi := ⟨some 11, _, _, _, _, _⟩) (v := ?_) rfl (by kernel_rfl) (by kernel_rfl) (by kernel_rfl) (fun _ _ _ h => h) (Or.inl ⟨by rfl, ?_⟩) (by assumption) ?_
  rotate_left
  · intro w hSw; (try dsimp only at hSw); go_simp; try with_reducible rfl
  (try simp only [Act.put, List.setIfInBounds_toArray, List.set_cons_zero, List.set_cons_succ])
  refine wpAnyH_take (i := 6) (oi := ⟨some 13, _, _, _, _, _⟩) (v := ?_) rfl (by kernel_rfl) (by kernel_rfl) (by kernel_rfl) (fun _ _ _ h => h) (Or.inl ⟨by rfl, ?_⟩) (by assumption) ?_
  rotate_left
  · intro w hSw; (try dsimp only at hSw); go_simp; try with_reducible rfl
  (try simp only [Act.put, List.setIfInBounds_toArray, List.set_cons_zero, List.set_cons_succ])
  refine wpAnyH_take (i := 8) (oi := ⟨some 15, _, _, _, _, _⟩) (v := ?_) rfl (by kernel_rfl) (by kernel_rfl) (by kernel_rfl) (fun _ _ _ h => h) (Or.inl ⟨by rfl, ?_⟩) (by assumption) ?_
  rotate_left
  · intro w hSw; (try dsimp only at hSw); go_simp; try with_reducible rfl
  (try simp only [Act.put, List.setIfInBounds_toArray, List.set_cons_zero, List.set_cons_succ])
  refine wpAnyH_take (i := 1) (oi := ⟨some 8, _, _, _, _, _⟩) (v := ?_) rfl (by kernel_rfl) (by kernel_rfl) (by kernel_rfl) (fun _ _ _ h => h) (Or.inl ⟨by rfl, ?_⟩) (by assumption) ?_
  rotate_left
  · intro w hSw; (try dsimp only at hSw); go_simp; try with_reducible rfl
  (try simp only [Act.put, List.setIfInBounds_toArray, List.set_cons_zero, List.set_cons_succ])
  refine wpAnyH_take (i := 5) (oi := ⟨some 12, _, _, _, _, _⟩) (v := ?_) rfl (by kernel_rfl) (by kernel_rfl) (by kernel_rfl) (fun _ _ _ h => h) (Or.inl ⟨by rfl, ?_⟩) (by assumption) ?_
  rotate_left
  · intro w hSw; (try dsimp only at hSw); go_simp; try with_reducible rfl
  (try simp only [Act.put, List.setIfInBounds_toArray, List.set_cons_zero, List.set_cons_succ])
  refine wpAnyH_take (i := 7) (oi := ⟨some 14, _, _, _, _, _⟩) (v := ?_) rfl (by kernel_rfl) (by kernel_rfl) (by kernel_rfl) (fun _ _ _ h => h) (Or.inl ⟨by rfl, ?_⟩) (by assumption) ?_
  rotate_left
  · intro w hSw; (try dsimp only at hSw); go_simp; try with_reducible rfl
  (try simp only [Act.put, List.setIfInBounds_toArray, List.set_cons_zero, List.set_cons_succ])
  refine wpAnyH_take (i := 2) (oi := ⟨some 9, _, _, _, _, _⟩) (v := ?_) rfl (by kernel_rfl) (by kernel_rfl) (by kernel_rfl) (fun _ _ _ h => h) (Or.inl ⟨by rfl, ?_⟩) (by assumption) ?_
  rotate_left
  · intro w hSw; (try dsimp only at hSw); go_simp; try with_reducible rfl
  (try simp only [Act.put, List.setIfInBounds_toArray, List.set_cons_zero, List.set_cons_succ])
  refine wpAnyH_take (i := 3) (oi := ⟨some 10, _, _, _, _, _⟩) (v := ?_) rfl (by kernel_rfl) (by kernel_rfl) (by kernel_rfl) (fun _ _ _ h => h) (Or.inl ⟨by rfl, ?_⟩) (by assumption) ?_
  rotate_left
  · intro w hSw; (try dsimp only at hSw); go_simp; try with_reducible rfl
  (try simp only [Act.put, List.setIfInBounds_toArray, List.set_cons_zero, List.set_cons_succ])
  refine wpAnyH_ready (rs := [9]) (by kernel_rfl) (by simp) ?_
  refine (AllReadyH.cons (o := ⟨some 16, _, _, _, _, _⟩) rfl (fun K hK => ?_) AllReadyH.nil)
  rw [if_pos (by rfl)]
  go_simp
  go_at_call 44
  have HC := writeM_any (mid_in (P := [_]) (Bs := [_]) hX) HG.out.sc.ok HST.out HLL.out (kd : Int) pl ao n c bs (HB.out.rd _ (St.sub hX (.cons _ (.cons _ (List.sublist_append_right _ _))))) HB.out.len (HOF.out _ _ (St.sub hX (.cons _ (.cons _ (List.Sublist.refl _)))))
  rw [HE.out, HA.out] at HC
  refine HC.mono ?_
  clear HC
  rintro _ w4 ⟨rfl, x2, h4⟩
  have hE : St w0 M w4 (.blk g4 83 [.int .i64 (kd : Int), .int .i64 pl] :: mB gm ga m :: (arP ga x2 A' ++ R)) := mid_out (P := [_]) (Bs := [_]) hX h4
  clear h4
  refine hK.out _ _ ?_ (fun hHeld => ?_)
  · exact ⟨Loads.at (P := Tryz.prog) [] hE rfl, Loads.at (P := Tryz.prog) [] hE rfl, Loads.at (P := Tryz.prog) [_] hE rfl⟩
  clear hK K
  (try simp only [Act.put, List.setIfInBounds_toArray, List.set_cons_zero, List.set_cons_succ])
  refine wpAnyH_take (i := 10) (oi := ⟨some 17, _, _, _, _, _⟩) (v := ?_) rfl (by kernel_rfl) (by kernel_rfl) (by kernel_rfl) (fun _ _ _ h => h) (Or.inl ⟨by rfl, ?_⟩) (by assumption) ?_
  rotate_left
  · intro w hSw; (try dsimp only at hSw); go_simp; try with_reducible rfl
  (try simp only [Act.put, List.setIfInBounds_toArray, List.set_cons_zero, List.set_cons_succ])
  refine wpAnyH_done (by kernel_rfl) ?_ _
  clear hHeld
  go_wp2_with (first | go_big_skip | go_big_guard | (refine wl_loadE rfl rfl rfl ?_; refine ⟨_, Loads.at (P := Tryz.prog) [] hE rfl, ?_⟩) | (go_at_call 110; refine (counts_he (St.front (L1 := [_]) hE) HG.out (by omega) kd HKD.out).mono ?_; rintro _ w6 ⟨rfl, h4⟩; have hst5 := h4; clear h4 hE))
  go_ret
  exact ⟨x2, rfl, St.sub hst5 (.cons_cons _ (.cons _ (List.Sublist.refl _)))⟩
theorem heal_no {w0 w : World} {M : List Nat} {R : List HA} {gm ga : Nat} {x : GA} {m : MV} {N : Nat} (hS : St w0 M w (mP gm ga x m ++ R)) (hg : MGood m N) (hN : N ≤ 900000) (dev pl : Int) (ao : Option Addr) (n c : Nat) (bs : List UInt8) (hb : GB w0 M R (.slice ao n c) n bs) (h1 : m.a.writeE dev pl bs ≠ 0) :
    Calls Tryz.prog 58 #[PM gm, .agg #[.int .i64 dev, .int .i64 pl], .slice ao n c] w fun e w' => ∃ x', e = .returned (.bool (m.a.writeE dev pl bs == 0)) ∧ St w0 M w' (mP gm ga x' (m.healed dev pl bs) ++ R) := by
  have hm : m.healed dev pl bs = ⟨m.a.write dev pl bs, m.e⟩ := by unfold MV.healed; rw [if_neg h1]
  rw [hm]
  have HG := hid hg
  have HLL := hid (hg.ll hN)
  have HST := hid (hg.st hN)
  have HB := hid hb
  have HOF : Hid (∀ w' x', St w0 M w' (arP ga x' m.a ++ R) → Off (.slice ao n c) (arF ga x' m.a)) := hid (fun w' x' h => hb.off h)
  obtain ⟨A', hA⟩ : ∃ A', A' = m.a.write dev pl bs := ⟨_, rfl⟩
  have HA := hid hA.symm
  rw [← hA]
  obtain ⟨E, hE⟩ : ∃ E, E = m.a.writeE dev pl bs := ⟨_, rfl⟩
  rw [← hE] at h1 ⊢
  have HE := hid hE.symm
  have d1 : (E != 0) = true := by simpa using h1
  have d2 : (E == 0) = false := beq_eq_false_iff_ne.2 h1
  rw [d2]
  clear hE
  have hst := hS
  clear hS hg hm h1 hA hb
  unfold PM
  go_enter Tryz.func58, Tryz.ntmps58
  go_wp2_with (first | go_big_skip | go_big_guard | (refine wl_boxA hst rfl rfl rfl ?_; intro g4 w1 hst1; clear hst))
  have hX := hst1.drew
  clear hst1
  refine wp_region_held_drew (S := (fun w' => (loadVarH 3 ⟨g4, 0, none⟩).run Tryz.prog w' = .ok (.int .i64 dev) w' ∧ (loadVarH 3 ⟨g4, 1, none⟩).run Tryz.prog w' = .ok (.int .i64 pl) w' ∧ (loadVarH 23 ⟨gm, 0, none⟩).run Tryz.prog w' = .ok (.pointer (some ⟨ga, 0, none⟩)) w')) (by kernel_rfl) (by exact ⟨Loads.at (P := Tryz.prog) [] hX rfl, Loads.at (P := Tryz.prog) [] hX rfl, Loads.at (P := Tryz.prog) [_] hX rfl⟩) (fun hHeld => ?_)
  refine wpAnyH_take (i := 0) (oi := ⟨some 7, _, _, _, _, _⟩) (v := ?_) rfl (by kernel_rfl) (by kernel_rfl) (by kernel_rfl) (fun _ _ _ h => h) (Or.inl ⟨by rfl, ?_⟩) (by assumption) ?_
  rotate_left
  · intro w hSw; (try dsimp only at hSw); go_simp; try with_reducible rfl
  (try simp only [Act.put, List.setIfInBounds_toArray, List.set_cons_zero, List.set_cons_succ])
  refine wpAnyH_take (i := 4) (oi := ⟨some 11, _, _, _, _, _⟩) (v := ?_) rfl (by kernel_rfl) (by kernel_rfl) (by kernel_rfl) (fun _ _ _ h => h) (Or.inl ⟨by rfl, ?_⟩) (by assumption) ?_
  rotate_left
  · intro w hSw; (try dsimp only at hSw); go_simp; try with_reducible rfl
  (try simp only [Act.put, List.setIfInBounds_toArray, List.set_cons_zero, List.set_cons_succ])
  refine wpAnyH_take (i := 6) (oi := ⟨some 13, _, _, _, _, _⟩) (v := ?_) rfl (by kernel_rfl) (by kernel_rfl) (by kernel_rfl) (fun _ _ _ h => h) (Or.inl ⟨by rfl, ?_⟩) (by assumption) ?_
  rotate_left
  · intro w hSw; (try dsimp only at hSw); go_simp; try with_reducible rfl
  (try simp only [Act.put, List.setIfInBounds_toArray, List.set_cons_zero, List.set_cons_succ])
  refine wpAnyH_take (i := 8) (oi := ⟨some 15, _, _, _, _, _⟩) (v := ?_) rfl (by kernel_rfl) (by kernel_rfl) (by kernel_rfl) (fun _ _ _ h => h) (Or.inl ⟨by rfl, ?_⟩) (by assumption) ?_
  rotate_left
  · intro w hSw; (try dsimp only at hSw); go_simp; try with_reducible rfl
  (try simp only [Act.put, List.setIfInBounds_toArray, List.set_cons_zero, List.set_cons_succ])
  refine wpAnyH_take (i := 1) (oi := ⟨some 8, _, _, _, _, _⟩) (v := ?_) rfl (by kernel_rfl) (by kernel_rfl) (by kernel_rfl) (fun _ _ _ h => h) (Or.inl ⟨by rfl, ?_⟩) (by assumption) ?_
  rotate_left
  · intro w hSw; (try dsimp only at hSw); go_simp; try with_reducible rfl
  (try simp only [Act.put, List.setIfInBounds_toArray, List.set_cons_zero, List.set_cons_succ])
  refine wpAnyH_take (i := 5) (oi := ⟨some 12, _, _, _, _, _⟩) (v := ?_) rfl (by kernel_rfl) (by kernel_rfl) (by kernel_rfl) (fun _ _ _ h => h) (Or.inl ⟨by rfl, ?_⟩) (by assumption) ?_
  rotate_left
  · intro w hSw; (try dsimp only at hSw); go_simp; try with_reducible rfl
  (try simp only [Act.put, List.setIfInBounds_toArray, List.set_cons_zero, List.set_cons_succ])
  refine wpAnyH_take (i := 7) (oi := ⟨some 14, _, _, _, _, _⟩) (v := ?_) rfl (by kernel_rfl) (by kernel_rfl) (by kernel_rfl) (fun _ _ _ h => h) (Or.inl ⟨by rfl, ?_⟩) (by assumption) ?_
  rotate_left
  · intro w hSw; (try dsimp only at hSw); go_simp; try with_reducible rfl
  (try simp only [Act.put, List.setIfInBounds_toArray, List.set_cons_zero, List.set_cons_succ])
  refine wpAnyH_take (i := 2) (oi := ⟨some 9, _, _, _, _, _⟩) (v := ?_) rfl (by kernel_rfl) (by kernel_rfl) (by kernel_rfl) (fun _ _ _ h => h) (Or.inl ⟨by rfl, ?_⟩) (by assumption) ?_
  rotate_left
  · intro w hSw; (try dsimp only at hSw); go_simp; try with_reducible rfl
  (try simp only [Act.put, List.setIfInBounds_toArray, List.set_cons_zero, List.set_cons_succ])
  refine wpAnyH_take (i := 3) (oi := ⟨some 10, _, _, _, _, _⟩) (v := ?_) rfl (by kernel_rfl) (by kernel_rfl) (by kernel_rfl) (fun _ _ _ h => h) (Or.inl ⟨by rfl, ?_⟩) (by assumption) ?_
  rotate_left
  · intro w hSw; (try dsimp only at hSw); go_simp; try with_reducible rfl
  (try simp only [Act.put, List.setIfInBounds_toArray, List.set_cons_zero, List.set_cons_succ])
  refine wpAnyH_ready (rs := [9]) (by kernel_rfl) (by simp) ?_
  refine (AllReadyH.cons (o := ⟨some 16, _, _, _, _, _⟩) rfl (fun K hK => ?_) AllReadyH.nil)
  rw [if_pos (by rfl)]
  go_simp
  go_at_call 44
  have HC := writeM_any (mid_in (P := [_]) (Bs := [_]) hX) HG.out.sc.ok HST.out HLL.out dev pl ao n c bs (HB.out.rd _ (St.sub hX (.cons _ (.cons _ (List.sublist_append_right _ _))))) HB.out.len (HOF.out _ _ (St.sub hX (.cons _ (.cons _ (List.Sublist.refl _)))))
  rw [HE.out, HA.out] at HC
  refine HC.mono ?_
  clear HC
  rintro _ w4 ⟨rfl, x2, h4⟩
  have hE : St w0 M w4 (.blk g4 83 [.int .i64 dev, .int .i64 pl] :: mB gm ga m :: (arP ga x2 A' ++ R)) := mid_out (P := [_]) (Bs := [_]) hX h4
  clear h4
  refine hK.out _ _ ?_ (fun hHeld => ?_)
  · exact ⟨Loads.at (P := Tryz.prog) [] hE rfl, Loads.at (P := Tryz.prog) [] hE rfl, Loads.at (P := Tryz.prog) [_] hE rfl⟩
  clear hK K
  (try simp only [Act.put, List.setIfInBounds_toArray, List.set_cons_zero, List.set_cons_succ])
  refine wpAnyH_take (i := 10) (oi := ⟨some 17, _, _, _, _, _⟩) (v := ?_) rfl (by kernel_rfl) (by kernel_rfl) (by kernel_rfl) (fun _ _ _ h => h) (Or.inl ⟨by rfl, ?_⟩) (by assumption) ?_
  rotate_left
  · intro w hSw; (try dsimp only at hSw); go_simp; try with_reducible rfl
  (try simp only [Act.put, List.setIfInBounds_toArray, List.set_cons_zero, List.set_cons_succ])
  refine wpAnyH_done (by kernel_rfl) ?_ _
  clear hHeld
  go_wp2_with (first | go_big_skip | go_big_guard | fail)
  go_ret
  exact ⟨x2, rfl, St.sub hE (.cons _ (List.Sublist.refl _))⟩
theorem heal_any {w0 w : World} {M : List Nat} {R : List HA} {gm ga : Nat} {x : GA} {m : MV} {N : Nat} (hS : St w0 M w (mP gm ga x m ++ R)) (hg : MGood m N) (hN : N ≤ 900000) (dev pl : Int) (ao : Option Addr) (n c : Nat) (bs : List UInt8) (hb : GB w0 M R (.slice ao n c) n bs) :
    Calls Tryz.prog 58 #[PM gm, .agg #[.int .i64 dev, .int .i64 pl], .slice ao n c] w fun e w' => ∃ x', e = .returned (.bool (m.a.writeE dev pl bs == 0)) ∧ St w0 M w' (mP gm ga x' (m.healed dev pl bs) ++ R) := by
  by_cases h1 : m.a.writeE dev pl bs = 0
  · exact heal_ok hS hg hN dev pl ao n c bs hb h1
  · exact heal_no hS hg hN dev pl ao n c bs hb h1
end
theorem readE_out {a : AR} (hn : a.devs ≠ []) : a.readE (-1) 0 = (if a.out then 10 else 5) ∧ a.read (-1) 0 = a := by
  have h1 : a.inS (-1) 0 = false := by unfold AR.inS AR.inD; rfl
  have h2 : a.readE (-1) 0 = (if a.out then 10 else 5) := by
    unfold AR.readE
    rw [if_neg hn, h1]
    rfl
  refine ⟨h2, ?_⟩
  unfold AR.read
  rw [h2, if_neg (by split <;> decide)]
theorem broken_any {w0 w : World} {M : List Nat} {R : List HA} {gm ga : Nat} {x : GA} {m : MV} {N : Nat} (hS : St w0 M w (mP gm ga x m ++ R)) (hg : MGood m N) (hN : N ≤ 900000) :
    Calls Tryz.prog 66 #[PM gm] w fun e w' => e = .returned (.bool m.a.out) ∧ St w0 M w' (mP gm ga x m ++ R) := by
  have hr := readE_out hg.sc.ok.d0
  have HG := hid hg
  have HLL := hid (hg.ll hN)
  have hst := hS
  cases ho : m.a.out
  · rw [ho] at hr
    have HE := hid (show m.a.readE (-1) 0 = 5 from hr.1)
    have HA := hid hr.2
    clear hr ho hS hg
    unfold PM
    go_enter Tryz.func66, Tryz.ntmps66
    go_wp2_with (first | go_big_skip | go_big_guard | (refine wl_loadE rfl rfl rfl ?_; refine ⟨_, Loads.at (P := Tryz.prog) [] hst rfl, ?_⟩) | (go_at_call 36; have HC := readM_anyP (mid_in (P := []) (Bs := [_]) hst) HG.out.sc.ok HLL.out (-1) 0; rw [HE.out, HA.out] at HC; refine HC.mono ?_; clear HC; rintro _ w4 ⟨u, rfl, h4⟩; have hst2 : St w0 M w4 (mP gm ga x m ++ R) := St.sub (mid_outp (P := []) (Bs := [_]) (Q := [_]) hst h4) (.cons _ (List.Sublist.refl _)); clear h4 hst))
    go_ret
    exact ⟨rfl, hst2⟩
  · rw [ho] at hr
    have HE := hid (show m.a.readE (-1) 0 = 10 from hr.1)
    have HA := hid hr.2
    clear hr ho hS hg
    unfold PM
    go_enter Tryz.func66, Tryz.ntmps66
    go_wp2_with (first | go_big_skip | go_big_guard | (refine wl_loadE rfl rfl rfl ?_; refine ⟨_, Loads.at (P := Tryz.prog) [] hst rfl, ?_⟩) | (go_at_call 36; have HC := readM_anyP (mid_in (P := []) (Bs := [_]) hst) HG.out.sc.ok HLL.out (-1) 0; rw [HE.out, HA.out] at HC; refine HC.mono ?_; clear HC; rintro _ w4 ⟨u, rfl, h4⟩; have hst2 : St w0 M w4 (mP gm ga x m ++ R) := St.sub (mid_outp (P := []) (Bs := [_]) (Q := [_]) hst h4) (.cons _ (List.Sublist.refl _)); clear h4 hst))
    go_ret
    exact ⟨rfl, hst2⟩
end Go.Proofs.YtmdfbdfijnmhkaaGreat
namespace Go.Proofs.YtmdfbdfijnmhkaaGreat
set_option linter.unusedVariables false
set_option linter.unusedSimpArgs false
open Go.RowKit Hp
attribute [local irreducible] Go.Calls Go.wpList
set_option maxRecDepth 100000
set_option maxHeartbeats 4000000
theorem apart16_any (ao : Option Addr) (n c : Nat) (l : List (Int × Int)) (w : World) (hA : Rd w (.slice ao n c) 2 n (addrsV l)) (hn : l.length = n) :
    Calls Tryz.prog 64 #[.slice ao n c] w fun e w' => e = .returned (.bool (apartB l)) ∧ St w [] w' [] := by
  have hst := St.refl w
  have hbd := hA.bd
  have hbd1 := hbd.1
  have hbd2 := hbd.2.1
  clear hbd
  have Hn := hid hn
  clear hn
  go_enter Tryz.func64, Tryz.ntmps64
  go_wp2_with (first | go_big_skip | go_big_guard | fail)
  go_loopw [9] (fun i wr => ∃ k : Nat, k ≤ n ∧ i = .int .i64 k ∧ Hid (∀ i j, i < k → j < i → (l.getD i (0, 0)).1 ≠ (l.getD j (0, 0)).1) ∧ St w [] wr []) (fun i _ => n - (intOf i).toNat)
  case atStart => exact ⟨0, Nat.zero_le _, rfl, hid (fun i j hi => by omega), hst⟩
  case round =>
    clear hst
    obtain ⟨k, hk, rfl, hq, hst2⟩ := hrel
    by_cases hlt : k < n
    · obtain ⟨b, off, rfl, hr⟩ := hA.at hlt
      obtain ⟨z, hz⟩ : ∃ z, z = l.getD k (0, 0) := ⟨_, rfl⟩
      have hb := addr_both hr (k := k) (by rw [Hn.out]; exact hlt)
      rw [← hz] at hb
      have Hz := hid hz
      have HB := hid hb
      have HR := hid hr
      have HQ := hid hq
      clear hz hb hq
      have d0 : decide ((k : Int) < (n : Int)) = true := decide_eq_true (by omega)
      have d9 : (0 : Int) ≤ (k : Int) := by omega
      have d8 : (k : Int) ≤ (c : Int) := by omega
      go_wp2_with (first | go_big_skip | go_big_guard | (refine wl_index rfl rfl rfl rfl (hlt) ?_) | (refine wl_loadE rfl rfl rfl ?_; first | refine ⟨_, Loads.oldA hst2 rfl (HB.out), ?_⟩) | (refine wl_alloc hst2 rfl rfl ?_; intro g4 w3 hst3; clear hst2) | (refine wl_store [] hst3 rfl rfl rfl (v := .agg (List.toArray _)) rfl rfl rfl ?_ ?_; (exact Nat.le_refl _); intro w4 hst4; clear hst3; (simp [putAt] at hst4)))
      go_loopw [18] (fun j wr => ∃ q : Nat, q ≤ k ∧ j = .int .i64 q ∧ Hid (∀ r, r < q → z.1 ≠ (l.getD r (0, 0)).1) ∧ St w [] wr [.blk g4 83 [.int .i64 z.1, .int .i64 z.2]]) (fun j _ => k - (intOf j).toNat)
      case atStart => exact ⟨0, Nat.zero_le _, rfl, hid (fun r hr => by omega), hst4⟩
      case round =>
        clear hst4
        obtain ⟨q, hqk, rfl, hne, hst5⟩ := hrel
        by_cases hlq : q < k
        · obtain ⟨y, hy⟩ : ∃ y, y = l.getD q (0, 0) := ⟨_, rfl⟩
          have hc := addr_both HR.out (k := q) (by rw [Hn.out]; omega)
          rw [← hy] at hc
          have Hy := hid hy
          have HC := hid hc
          have HNE := hid hne
          clear hy hc hne
          have d1 : decide ((q : Int) < (k : Int)) = true := decide_eq_true (by omega)
          by_cases he : z.1 = y.1
          · have d2 : (z.1 == y.1) = true := by simpa using he
            go_wp2_with (first | go_big_skip | go_big_guard | (refine wl_index rfl rfl rfl rfl (hlq) ?_) | (refine wl_loadE rfl rfl rfl ?_; first | refine ⟨_, Loads.oldA hst5 rfl (HC.out), ?_⟩) | (refine wl_alloc hst5 rfl rfl ?_; intro g6 w5 hst6; clear hst5) | (refine wl_store [] hst6 rfl rfl rfl (v := .agg (List.toArray _)) rfl rfl rfl ?_ ?_; (exact Nat.le_refl _); intro w6 hst7; clear hst6; (simp [putAt] at hst7)) | (refine wl_loadE rfl rfl rfl ?_; first | refine ⟨_, Loads.at (P := Tryz.prog) [] hst7 rfl, ?_⟩ | refine ⟨_, Loads.at (P := Tryz.prog) [_] hst7 rfl, ?_⟩))
            go_ret
            exact ⟨ret_bool (apart_no (i := k) (j := q) (by rw [Hn.out]; exact hlt) hlq (by rw [← Hz.out, ← Hy.out]; exact he)).symm, hst7.nil⟩
          · have d2 : (z.1 == y.1) = false := by simpa using he
            have HE := hid he
            clear he
            go_wp2_with (first | go_big_skip | go_big_guard | (refine wl_index rfl rfl rfl rfl (hlq) ?_) | (refine wl_loadE rfl rfl rfl ?_; first | refine ⟨_, Loads.oldA hst5 rfl (HC.out), ?_⟩) | (refine wl_alloc hst5 rfl rfl ?_; intro g6 w5 hst6; clear hst5) | (refine wl_store [] hst6 rfl rfl rfl (v := .agg (List.toArray _)) rfl rfl rfl ?_ ?_; (exact Nat.le_refl _); intro w6 hst7; clear hst6; (simp [putAt] at hst7)) | (refine wl_loadE rfl rfl rfl ?_; first | refine ⟨_, Loads.at (P := Tryz.prog) [] hst7 rfl, ?_⟩ | refine ⟨_, Loads.at (P := Tryz.prog) [_] hst7 rfl, ?_⟩))
            have hne2 : Hid (∀ r, r < q + 1 → z.1 ≠ (l.getD r (0, 0)).1) := hid (fun r hr => by
              by_cases e : r = q
              · rw [e, ← Hy.out]; exact HE.out
              · exact HNE.out r (by omega))
            go_roundw
            case rel => exact ⟨q + 1, by omega, by go_num, hne2, St.sub hst7 (.cons _ (List.Sublist.refl _))⟩
            case measure => simp [intOf]; omega
        · have d1 : decide ((q : Int) < (k : Int)) = false := decide_eq_false (by omega)
          obtain rfl : q = k := by omega
          have hq2 : Hid (∀ i j, i < q + 1 → j < i → (l.getD i (0, 0)).1 ≠ (l.getD j (0, 0)).1) := hid (fun i j hi hj => by
            by_cases e : i = q
            · rw [e, ← Hz.out]; exact hne.out j (by omega)
            · exact HQ.out i j (by omega) hj)
          clear hne
          go_wp2_with (first | go_big_skip | go_big_guard | fail)
          go_roundw
          case rel => exact ⟨q + 1, by omega, by go_num, hq2, hst5.nil⟩
          case measure => simp [intOf]; omega
    · have d0 : decide ((k : Int) < (n : Int)) = false := decide_eq_false (by omega)
      have HY := hid (apart_yes (l := l) fun i j hi hj => hq.out i j (by rw [Hn.out] at hi; omega) hj)
      clear hq
      go_wp2_with (first | go_big_skip | go_big_guard | fail)
      go_ret
      exact ⟨ret_bool HY.out.symm, hst2⟩
theorem mirC_range {w0 w : World} {M : List Nat} {R : List HA} {gm ga : Nat} {x : GA} {m : MV} {N : Nat} (hS : St w0 M w (mP gm ga x m ++ R)) (hg : MGood m N) {k : Nat} (hk : k < m.a.devs.length) : w.rangeAt gm (1 + k * 3) (m.er (k : Int)).cells := by
  intro j v hj
  have hj3 : j < 3 := (List.getElem?_eq_some_iff.1 hj).1
  exact hS.cell (T := 97) (cs := mirC ga m) (.head _) (mirC_get (er_get hg hk) hj hj3)
theorem errs_lo {w0 w : World} {M : List Nat} {R : List HA} {gm ga : Nat} {x : GA} {m : MV} {N : Nat} (hS : St w0 M w (mP gm ga x m ++ R)) (hg : MGood m N) (dev : Int) (h : dev < 0) :
    Calls Tryz.prog 31 #[PM gm, .int .i64 dev] w fun e w' => e = .returned (.agg (List.toArray (m.errs dev).cells)) ∧ St w [] w' [] := by
  have hin : m.a.inD dev = false := by unfold AR.inD; rw [decide_eq_false (by omega), Bool.false_and]
  have hs : m.errs dev = ⟨0, 0, 0⟩ := by unfold MV.errs; rw [hin]; rfl
  rw [hs]
  have hst := St.refl w
  have H := hid (St.mat hS hg.sc.ok.d0)
  obtain ⟨nd, hnd⟩ : ∃ nd, nd = m.a.devs.length := ⟨_, rfl⟩
  have Hnd := hid hnd
  have d1 : decide (dev < 0) = true := decide_eq_true h
  clear hS hg hin hs hnd
  unfold PM
  go_enter Tryz.func31, Tryz.ntmps31
  go_wp2_with (first | go_big_skip | go_big_guard | (refine wl_alloc (T := 71) hst rfl rfl ?_; intro g4 w1 hst1; clear hst) | (go_at_call 62; refine (mirNone_any (MirAt.later hst1 H.out)).mono ?_; rintro _ w2 ⟨rfl, h4⟩; have hst2 := St.call0 hst1 h4; clear h4 hst1) | (refine wl_build0 rfl rfl ?_) | (refine wl_storeA [] hst2 rfl rfl rfl rfl rfl rfl rfl ?_; intro _ hst6; clear hst2))
  have hl := Loads.atA (P := Tryz.prog) (off := 0) (T := 71) ([.int .i64 0, .int .i64 0, .int .i64 0]) [] hst6 rfl rfl
  refine bodyPost_ret (results_cellL rfl rfl hl) rfl ⟨rfl, hst6.nil⟩
theorem errs_hi {w0 w : World} {M : List Nat} {R : List HA} {gm ga : Nat} {x : GA} {m : MV} {N : Nat} (hS : St w0 M w (mP gm ga x m ++ R)) (hg : MGood m N) (dev : Int) (h0 : ¬ dev < 0) (h : (m.a.devs.length : Int) ≤ dev) :
    Calls Tryz.prog 31 #[PM gm, .int .i64 dev] w fun e w' => e = .returned (.agg (List.toArray (m.errs dev).cells)) ∧ St w [] w' [] := by
  have hin : m.a.inD dev = false := by unfold AR.inD; rw [decide_eq_false (p := dev < _) (by omega), Bool.and_false]
  have hs : m.errs dev = ⟨0, 0, 0⟩ := by unfold MV.errs; rw [hin]; rfl
  rw [hs]
  have hst := St.refl w
  have H := hid (St.mat hS hg.sc.ok.d0)
  obtain ⟨nd, hnd⟩ : ∃ nd, nd = m.a.devs.length := ⟨_, rfl⟩
  have Hnd := hid hnd
  rw [← hnd] at h
  have d1 : decide (dev < 0) = false := decide_eq_false (by omega)
  have d2 : decide (dev ≥ (nd : Int)) = true := decide_eq_true (by omega)
  clear hS hg hin hs hnd
  unfold PM
  go_enter Tryz.func31, Tryz.ntmps31
  go_wp2_with (first | go_big_skip | go_big_guard | (refine wl_alloc (T := 71) hst rfl rfl ?_; intro g4 w1 hst1; clear hst) | (go_at_call 62; refine (mirNone_any (MirAt.later hst1 H.out)).mono ?_; rintro _ w2 ⟨rfl, h4⟩; have hst2 := St.call0 hst1 h4; clear h4 hst1) | (refine wl_loadE rfl rfl rfl ?_; refine ⟨_, Loads.old (P := Tryz.prog) hst2 H.out.c, ?_⟩) | (go_at_call 67; have HD9 := devs_any (ArrAt.later hst2 H.out.arr.toArrAt); rw [← Hnd.out] at HD9; refine HD9.mono ?_; clear HD9; rintro _ w3 ⟨rfl, h4⟩; have hst3 := St.call0 hst2 h4; clear h4 hst2) | (refine wl_build0 rfl rfl ?_) | (refine wl_storeA [] hst3 rfl rfl rfl rfl rfl rfl rfl ?_; intro _ hst6; clear hst3))
  have hl := Loads.atA (P := Tryz.prog) (off := 0) (T := 71) ([.int .i64 0, .int .i64 0, .int .i64 0]) [] hst6 rfl rfl
  refine bodyPost_ret (results_cellL rfl rfl hl) rfl ⟨rfl, hst6.nil⟩
theorem errs_ok {w0 w : World} {M : List Nat} {R : List HA} {gm ga : Nat} {x : GA} {m : MV} {N : Nat} (hS : St w0 M w (mP gm ga x m ++ R)) (hg : MGood m N) (dev : Int) (h0 : ¬ dev < 0) (h : ¬ (m.a.devs.length : Int) ≤ dev) :
    Calls Tryz.prog 31 #[PM gm, .int .i64 dev] w fun e w' => e = .returned (.agg (List.toArray (m.errs dev).cells)) ∧ St w [] w' [] := by
  have hin : m.a.inD dev = true := by unfold AR.inD; simp; omega
  have hs : m.errs dev = m.er dev := by unfold MV.errs; rw [hin]; rfl
  rw [hs]
  have hst := St.refl w
  have H := hid (St.mat hS hg.sc.ok.d0)
  obtain ⟨nd, hnd⟩ : ∃ nd, nd = m.a.devs.length := ⟨_, rfl⟩
  have Hnd := hid hnd
  obtain ⟨kd, rfl⟩ : ∃ kd : Nat, dev = kd := ⟨dev.toNat, by omega⟩
  have h8 : kd < 8 := by have := hg.sc.ok.dn; omega
  have HRG := hid (mirC_range hS hg (k := kd) (by omega))
  obtain ⟨y, hy⟩ : ∃ y, y = m.er (kd : Int) := ⟨_, rfl⟩
  rw [← hy] at HRG ⊢
  rw [← hnd] at h
  have d1 : decide ((kd : Int) < 0) = false := decide_eq_false (by omega)
  have d2 : decide ((kd : Int) ≥ (nd : Int)) = false := decide_eq_false (by omega)
  clear hS hg hin hs hnd hy
  unfold PM
  go_enter Tryz.func31, Tryz.ntmps31
  go_wp2_with (first | go_big_skip | go_big_guard | (refine wl_alloc (T := 71) hst rfl rfl ?_; intro g4 w1 hst1; clear hst) | (go_at_call 62; refine (mirNone_any (MirAt.later hst1 H.out)).mono ?_; rintro _ w2 ⟨rfl, h4⟩; have hst2 := St.call0 hst1 h4; clear h4 hst1) | (refine wl_loadE rfl rfl rfl ?_; refine ⟨_, Loads.old (P := Tryz.prog) hst2 H.out.c, ?_⟩) | (go_at_call 67; have HD9 := devs_any (ArrAt.later hst2 H.out.arr.toArrAt); rw [← Hnd.out] at HD9; refine HD9.mono ?_; clear HD9; rintro _ w3 ⟨rfl, h4⟩; have hst3 := St.call0 hst2 h4; clear h4 hst2) | (refine wl_loadE rfl rfl rfl ?_; refine ⟨_, Loads.oldA (P := Tryz.prog) (T := 71) (n := 3) hst3 rfl HRG.out, ?_⟩) | (refine wl_storeA [] hst3 rfl rfl rfl rfl rfl rfl rfl ?_; intro _ hst6; clear hst3))
  have hl := Loads.atA (P := Tryz.prog) (off := 0) (T := 71) (y.cells) [] hst6 rfl rfl
  refine bodyPost_ret (results_cellL rfl rfl hl) rfl ⟨rfl, hst6.nil⟩
theorem errs_any {w0 w : World} {M : List Nat} {R : List HA} {gm ga : Nat} {x : GA} {m : MV} {N : Nat} (hS : St w0 M w (mP gm ga x m ++ R)) (hg : MGood m N) (dev : Int) :
    Calls Tryz.prog 31 #[PM gm, .int .i64 dev] w fun e w' => e = .returned (.agg (List.toArray (m.errs dev).cells)) ∧ St w [] w' [] := by
  by_cases h0 : dev < 0
  · exact errs_lo hS hg dev h0
  · by_cases h : (m.a.devs.length : Int) ≤ dev
    · exact errs_hi hS hg dev h0 h
    · exact errs_ok hS hg dev h0 h
end Go.Proofs.YtmdfbdfijnmhkaaGreat
namespace Go.Proofs.YtmdfbdfijnmhkaaGreat
set_option linter.unusedVariables false
set_option linter.unusedSimpArgs false
open Go.RowKit Go.Shelf
namespace Hp
variable {P : Program} {F : Fence} {n : Nat}
def mPost {σ : Type} (I : σ → World → Prop) (N : σ → Prop) (Ix : Code → World → Prop) (W : World) : Exit → Act → World → Prop
  | .normal, _, W' => KeepsOthers W W' ∧ ∃ s, N s ∧ I s W'
  | .ret, _, W' => KeepsOthers W W' ∧ Ix .ret W'
  | .exit id, _, W' => KeepsOthers W W' ∧ Ix (.exit id) W'
  | .goto t, _, W' => KeepsOthers W W' ∧ Ix (.goto t) W'
  | .panic _, _, _ => False
  | .outgrown, _, _ => False
def SeqM {σ ξ : Type} (F : Fence) (n : Nat) (P : Program) (g : Nat) (lb : Array Value) (encs : ξ → Array Value) (I : σ → World → Prop) (Y : ξ → World → Prop) (nx : ξ → σ → Prop) (s0 : σ) (E : σ → Prop) : Prop :=
  ∀ (l : Nat) (R Jx : World → Prop), (∀ W W', R W → KeepsOthers W W' → R W') →
    (∀ x W, Y x W → R W → YieldAt F (n - 1) P l (encs x) W fun e W' => (e = .returned (.bool true) ∧ (∃ s, nx x s ∧ I s W') ∧ R W') ∨ (e = .returned (.bool false) ∧ Jx W')) →
    ∀ W, I s0 W → R W → CallsIn F n P g (#[.func (.yield l) #[] #[]] ++ lb) W fun e W' => (∃ v, e = .returned v) ∧ ((∃ s, E s ∧ I s W' ∧ R W') ∨ Jx W')
theorem wpIn_rangeM {σ ξ : Type} {g : Operand} {ps : Array Tmp} {assign body : Code} {Q : Exit → Act → World → Prop} {a : Act} {w : World}
    (hro : F.round = none) (h1 : 1 ≤ n) {gf : Nat} {lb : Array Value} (hg : a.eval g = .func (.func gf) #[] lb) (hFg : F.fn gf) (eg : ∀ args w, (callFunc gf args).run P w = .ok (.enter gf args) w)
    {encs : ξ → Array Value} (hps : ∀ x, (encs x).size = ps.size) (I : σ → World → Prop) (Y : ξ → World → Prop) (B : ξ → Act → World → Prop) (Ix : Code → World → Prop) (nx : ξ → σ → Prop) (s0 : σ) (E : σ → Prop)
    (hseq : SeqM F (n - 1) P gf lb encs I Y nx s0 E)
    (hI : OwnFrom w.heap.size I) (hB : ∀ x a', OwnFrom w.heap.size (fun (_ : Unit) W => B x a' W)) (hIx : OwnFrom w.heap.size Ix) (h0 : I s0 w)
    (hassign : ∀ (l : Nat) (x : ξ) (W : World) (K : Act → World → Prop), Y x W → (∀ a' W', KeepsOthers W W' → B x a' W' → K a' W') →
      assign.wpIn (F.inRound l) (n - 1 - 1) P (Exit.then K (fun _ _ _ => False)) { tmps := (ps.zip (encs x)).foldl (fun t (p, v) => t.setIfInBounds p v) a.tmps, defers := [] } W)
    (hbody : ∀ (l : Nat) (x : ξ) (a' : Act) (W : World), B x a' W → body.wpIn (F.inRound l) (n - 1 - 1) P (mPost I (nx x) Ix W) a' W)
    (hdone : ∀ (D : Nat) (s : σ) (W : World), w.heap.size ≤ D → E s → I s W → W.heap[D]? = some (.deferred (some [])) → Q .normal { a with defers := { target := .collected D, args := #[] } :: a.defers } W)
    (hstop : ∀ (D : Nat) (c : Code) (W : World), w.heap.size ≤ D → Ix c W → W.heap[D]? = some (.deferred (some [])) → c.wpIn F n P Q { a with defers := { target := .collected D, args := #[] } :: a.defers } W) :
    (Code.rangeFunc g ps assign body).wpIn F n P Q a w := by
  refine wpIn_rangeFunc ?_
  intro fn hfn
  rw [hro]
  obtain ⟨rec, hrec⟩ : ∃ rec : LoopState → Option Code → Loop, rec = fun st pe => { state := st, pending := pe, fn, tmps := a.tmps, params := ps, assign, body, defers := w.heap.size } := ⟨_, rfl⟩
  obtain ⟨W1, hW1⟩ : ∃ W1, (w.alloc (.deferred (some []))).alloc (.loop (rec .ready none)) = W1 := ⟨_, rfl⟩
  have hL1 : W1.heap[w.heap.size + 1]? = some (.loop (rec .ready none)) := by
    rw [← hW1]; have := World.alloc_heap_new (w.alloc (.deferred (some []))) (.loop (rec .ready none)); rwa [World.size_alloc] at this
  have hK1 : W1.heap[w.heap.size]? = some (.deferred (some [])) := by
    rw [← hW1]; exact (Below.heap_alloc _ _ _ (by simp)).trans (World.alloc_heap_new w _)
  have hI1 : I s0 W1 := by rw [← hW1]; exact hI.alloc _ (hI.alloc _ h0)
  refine ⟨w.heap.size + 1, [{ target := .collected w.heap.size, args := #[] }], W1, { target := .fn (.func gf) lb, args := #[.func (.yield (w.heap.size + 1)) #[] #[]] }, W1, gf,
    #[.func (.yield (w.heap.size + 1)) #[] #[]] ++ lb, W1, ?_, ?_, ?_, ?_, fun _ => h1, ?_⟩
  · rw [← hW1, hrec]; exact run_enterLoop_outer _ _ _ _ _
  · simp only [resolve, hg]
    simp [go_sem]
  · intro f' hf'; simp [Target.leads] at hf'; subst hf'; exact hFg
  · simp [invoke, go_sem, eg]
  · refine (hseq (w.heap.size + 1)
      (fun W => W.heap[w.heap.size + 1]? = some (.loop (rec .ready none)) ∧ W.heap[w.heap.size]? = some (.deferred (some [])))
      (fun W => ∃ c, Ix c W ∧ W.heap[w.heap.size + 1]? = some (.loop (rec .done (some c))) ∧ W.heap[w.heap.size]? = some (.deferred (some [])))
      (fun A B hs hk => ⟨hk.same _ _ hs.1 rfl, hk.same _ _ hs.2 rfl⟩) ?_ W1 hI1 ⟨hL1, hK1⟩).mono ?_
    · rintro x W hyx ⟨hl, hk⟩
      have hy := run_yield (P := P) (args := encs x) hl (by rw [hrec]; exact hps x)
      rw [hrec] at hy
      refine ⟨fn, _, assign, body, hy, roundIn_of_wpIn hfn (hassign _ x W _ hyx ?_)⟩
      clear hy
      intro a' Wa hkfa hax
      replace hl := hkfa.same _ _ hl rfl
      replace hk := hkfa.same _ _ hk rfl
      clear hkfa hyx
      obtain ⟨V, rfl⟩ : ∃ V, V = Wa := ⟨_, rfl⟩
      have hlt : w.heap.size + 1 < V.heap.size := (Array.getElem?_eq_some_iff.1 hl).1
      refine ⟨_, run_beginRound hl (by rw [hrec]), ?_⟩
      have hl2 : (V.putObj (w.heap.size + 1) (.loop { rec .ready none with state := .busy })).heap[w.heap.size + 1]? = some (.loop { rec .ready none with state := .busy }) := World.putObj_heap_same hlt
      have hk2 : (V.putObj (w.heap.size + 1) (.loop { rec .ready none with state := .busy })).heap[w.heap.size]? = some (.deferred (some [])) := (World.putObj_heap_other (by omega)).trans hk
      refine wpIn_mono (hbody _ x a' _ ((hB x a').putObj (s := ()) _ hax (by omega) hl rfl)) ?_
      have fin : ∀ (jump : Option Code) (W3 : World), KeepsOthers (V.putObj (w.heap.size + 1) (.loop { rec .ready none with state := .busy })) W3 →
          (Instr.endRound (w.heap.size + 1) jump).run P W3 = .ok (.bool jump.isNone) (W3.putObj (w.heap.size + 1) (.loop (rec (if jump.isNone then .ready else .done) jump))) ∧
          W3.heap[w.heap.size + 1]? = some (.loop { rec .ready none with state := .busy }) ∧
          (W3.putObj (w.heap.size + 1) (.loop (rec (if jump.isNone then .ready else .done) jump))).heap[w.heap.size + 1]? = some (.loop (rec (if jump.isNone then .ready else .done) jump)) ∧
          (W3.putObj (w.heap.size + 1) (.loop (rec (if jump.isNone then .ready else .done) jump))).heap[w.heap.size]? = some (.deferred (some [])) := fun jump W3 hk3 => by
        have hl3 := hk3.same _ _ hl2 rfl
        have := run_endRound (P := P) jump hl3
        rw [hrec] at this ⊢
        exact ⟨this, by rw [hrec] at hl3; exact hl3, World.putObj_heap_same (Array.getElem?_eq_some_iff.1 hl3).1, (World.putObj_heap_other (by omega)).trans (hk3.same _ _ hk2 rfl)⟩
      rintro e a3 W3 hp
      cases e with
      | normal =>
        obtain ⟨hk3, s, hns, hi3⟩ := hp
        obtain ⟨hr, hl3, hl4, hk4⟩ := fin none W3 hk3
        exact ⟨_, _, hr, .inl ⟨rfl, ⟨s, hns, hI.putObj _ hi3 (by omega) hl3 rfl⟩, hl4, hk4⟩⟩
      | ret =>
        obtain ⟨hk3, hi3⟩ := hp
        obtain ⟨hr, hl3, hl4, hk4⟩ := fin (some .ret) W3 hk3
        exact ⟨_, _, hr, .inr ⟨rfl, .ret, hIx.putObj _ hi3 (by omega) hl3 rfl, hl4, hk4⟩⟩
      | exit id =>
        obtain ⟨hk3, hi3⟩ := hp
        obtain ⟨hr, hl3, hl4, hk4⟩ := fin (some (.exit id)) W3 hk3
        exact ⟨_, _, hr, .inr ⟨rfl, .exit id, hIx.putObj _ hi3 (by omega) hl3 rfl, hl4, hk4⟩⟩
      | goto t =>
        obtain ⟨hk3, hi3⟩ := hp
        obtain ⟨hr, hl3, hl4, hk4⟩ := fin (some (.goto t)) W3 hk3
        exact ⟨_, _, hr, .inr ⟨rfl, .goto t, hIx.putObj _ hi3 (by omega) hl3 rfl, hl4, hk4⟩⟩
      | panic ch => exact hp.elim
      | outgrown => exact hp.elim
    · rintro e W2 ⟨⟨v, rfl⟩, (⟨s, hE, hi, hl, hk⟩ | ⟨c, hi, hl, hk⟩)⟩
      · exact ⟨none, _, by have := run_endLoop (P := P) hl (by rw [hrec]; simp); rw [hrec] at this; exact this, hdone _ s _ (Nat.le_refl _) hE (hI.putObj _ hi (by omega) hl rfl) ((World.putObj_heap_other (by omega)).trans hk)⟩
      · exact ⟨some c, _, by have := run_endLoop (P := P) hl (by rw [hrec]; simp); rw [hrec] at this; exact this, hstop _ c _ (Nat.le_refl _) (hIx.putObj _ hi (by omega) hl rfl) ((World.putObj_heap_other (by omega)).trans hk)⟩
theorem wp_rangeM {σ ξ : Type} (p q : Nat) {g : Operand} {assign body : Code} {Q : Exit → Act → World → Prop} {a : Act} {w : World}
    {gf : Nat} {lb : Array Value} (hg : a.eval g = .func (.func gf) #[] lb) (eg : Enters P gf)
    {enc : ξ → Value × Value} (I : σ → World → Prop) (Y : ξ → World → Prop) (B : Act → ξ → Act → World → Prop) (Ix : Code → World → Prop) (nx : ξ → σ → Prop) (s0 : σ) (E : σ → Prop)
    (hseq : SeqM Fence.wide 4 P gf lb (fun x => #[(enc x).1, (enc x).2]) I Y nx s0 E)
    (hI : OwnFrom w.heap.size I) (hB : ∀ x a', OwnFrom w.heap.size (fun (_ : Unit) W => B a x a' W)) (hIx : OwnFrom w.heap.size Ix) (h0 : I s0 w)
    (hassign : ∀ (l : Nat) (x : ξ) (W : World) (K : Act → World → Prop), Y x W → (∀ a' W', KeepsOthers W W' → B a x a' W' → K a' W') →
      assign.wpIn (Fence.wide.inRound l) 3 P (Exit.then K (fun _ _ _ => False)) { tmps := (a.tmps.setIfInBounds p (enc x).1).setIfInBounds q (enc x).2, defers := [] } W)
    (hbody : ∀ (l : Nat) (x : ξ) (a' : Act) (W : World), B a x a' W → body.wpIn (Fence.wide.inRound l) 3 P (mPost I (nx x) Ix W) a' W)
    (hdone : ∀ (D : Nat) (s : σ) (W : World), w.heap.size ≤ D → E s → I s W → W.heap[D]? = some (.deferred (some [])) → Q .normal { a with defers := { target := .collected D, args := #[] } :: a.defers } W)
    (hstop : ∀ (D : Nat) (c : Code) (W : World), w.heap.size ≤ D → Ix c W → W.heap[D]? = some (.deferred (some [])) → c.wp P Q { a with defers := { target := .collected D, args := #[] } :: a.defers } W) :
    (Code.rangeFunc g #[p, q] assign body).wp P Q a w := by
  refine (wpIn_wide (n := 5)).1 ?_
  exact wpIn_rangeM (F := Fence.wide) (n := 5) rfl (by decide) hg trivial eg (fun _ => rfl) I Y (B a) Ix nx s0 E hseq hI hB hIx h0
    (fun l x W K hy hK => by
      have h := hassign l x W K hy hK
      have e : Array.foldl (fun (t : Array Value) (q : Tmp × Value) => match q with | (p, v) => t.setIfInBounds p v) a.tmps (#[p, q].zip #[(enc x).1, (enc x).2]) = (a.tmps.setIfInBounds p (enc x).1).setIfInBounds q (enc x).2 := by simp
      rw [← e] at h
      exact h) hbody hdone (fun D c W hD hi hk => wpIn_wide.2 (hstop D c W hD hi hk))
end Hp
end Go.Proofs.YtmdfbdfijnmhkaaGreat
namespace Go.Proofs.YtmdfbdfijnmhkaaGreat
set_option linter.unusedVariables false
set_option linter.unusedSimpArgs false
open Go.RowKit
namespace Hp
variable {P : Program} {F : Fence} {n : Nat}
def chainB (ops : Array Oper) (o : Oper) : Bool :=
  o.after.all (fun e => decide (e.on < ops.size)) && (
  (List.range ops.size).all (fun j => o.after.any (fun e => Region.binds .any e && e.on == j) || (List.range ops.size).any fun k => decide (j < k) && match ops[k]? with
    | some ok => ok.after.any fun e => Region.binds .any e && e.on == j
    | none => false) &&
  (List.range ops.size).all (fun i => match ops[i]? with
    | some oi => oi.after.all (fun e => decide (e.on < i)) && (match oi.guard with | none => true | some (j, _) => decide (j < ops.size))
    | none => false))
theorem chainB.on {ops : Array Oper} {o : Oper} (h : chainB ops o = true) : ∀ e ∈ o.after, e.on < ops.size := by
  simp only [chainB, Bool.and_eq_true] at h
  intro e he
  have := Array.all_eq_true'.1 h.1 e he
  simpa using this
theorem chainB.back {ops : Array Oper} {o : Oper} (h : chainB ops o = true) {i : Nat} (hi : i < ops.size) : (∀ e ∈ (ops[i]).after, e.on < i) ∧ ∀ j b, (ops[i]).guard = some (j, b) → j < ops.size := by
  simp only [chainB, Bool.and_eq_true, List.all_eq_true, List.mem_range] at h
  have h2 := h.2.2 i hi
  rw [Array.getElem?_eq_getElem hi] at h2
  simp only [Bool.and_eq_true] at h2
  refine ⟨fun e he => ?_, fun j b hg => ?_⟩
  · have := Array.all_eq_true'.1 h2.1 e he
    simpa using this
  · have := h2.2
    rw [hg] at this
    simpa using this
theorem chainB.next {ops : Array Oper} {o : Oper} (h : chainB ops o = true) {j : Nat} (hj : j < ops.size) : (∃ e ∈ o.after, Region.binds .any e = true ∧ e.on = j) ∨ ∃ (k : Nat) (hk : k < ops.size), j < k ∧ ∃ e ∈ (ops[k]).after, Region.binds .any e = true ∧ e.on = j := by
  simp only [chainB, Bool.and_eq_true, List.all_eq_true, List.mem_range] at h
  have h1 := h.2.1 j hj
  rw [Bool.or_eq_true] at h1
  rcases h1 with h1 | h1
  · obtain ⟨e, he, hb⟩ := Array.any_eq_true'.1 h1
    simp only [Bool.and_eq_true, beq_iff_eq] at hb
    exact .inl ⟨e, he, hb.1, hb.2⟩
  · rw [List.any_eq_true] at h1
    obtain ⟨k, hk, hb⟩ := h1
    rw [List.mem_range] at hk
    rw [Array.getElem?_eq_getElem hk, Bool.and_eq_true, decide_eq_true_eq] at hb
    obtain ⟨e, he, hb2⟩ := Array.any_eq_true'.1 hb.2
    simp only [Bool.and_eq_true, beq_iff_eq] at hb2
    exact .inr ⟨k, hk, hb.1, e, he, hb2.1, hb2.2⟩
def Cl (ops : Array Oper) (listed : Array Bool) : Prop := ∀ i (hi : i < ops.size), listed.getD i true = true → ∀ e ∈ (ops[i]).after, Region.binds .any e = true → listed.getD e.on false = true
theorem getD_any {l : Array Bool} {i : Nat} (h : i < l.size) (d d' : Bool) : l.getD i d = l.getD i d' := by
  simp [Array.getD_eq_getD_getElem?, Array.getElem?_eq_getElem h]
theorem Cl.start (ops : Array Oper) : Cl ops (Array.replicate ops.size false) := by
  intro i hi h
  rw [Array.getD_eq_getD_getElem?, Array.getElem?_eq_getElem (by simpa using hi)] at h
  simp at h
theorem Cl.add {ops : Array Oper} {listed : Array Bool} (h : Cl ops listed) (hs : listed.size = ops.size) {i : Nat} (hr : i ∈ Region.ready .any ops listed) : Cl ops (listed.setIfInBounds i true) := by
  obtain ⟨hi, _, ha⟩ := mem_ready.1 hr
  have key : ∀ (j : Nat) (d : Bool), listed.getD j d = true → (listed.setIfInBounds i true).getD j d = true := by
    intro j d hj
    rw [Array.getD_eq_getD_getElem?] at hj ⊢
    by_cases e : i = j
    · subst e
      rw [Array.getElem?_setIfInBounds_self_of_lt (by omega)]
      rfl
    · rw [Array.getElem?_setIfInBounds_ne e]
      exact hj
  intro j hj hl e he hb
  by_cases e1 : i = j
  · subst e1
    exact key _ _ (ha e he hb)
  · refine key _ _ (h j hj ?_ e he hb)
    rw [Array.getD_eq_getD_getElem?, Array.getElem?_setIfInBounds_ne e1] at hl
    rwa [Array.getD_eq_getD_getElem?]
theorem chain_all {ops : Array Oper} {o : Oper} (h : chainB ops o = true) {listed : Array Bool} (hs : listed.size = ops.size) (hc : Cl ops listed) (ha : ∀ e ∈ o.after, Region.binds .any e = true → listed.getD e.on false = true) : ∀ d j, ops.size = j + d → 0 < d → listed.getD j true = true := by
  intro d
  induction d using Nat.strongRecOn with
  | _ d ih =>
    intro j hd h0
    rcases chainB.next h (j := j) (by omega) with ⟨e, he, hb, rfl⟩ | ⟨k, hk, hjk, e, he, hb, rfl⟩
    · rw [getD_any (by omega) true false]
      exact ha e he hb
    · have h1 := ih (ops.size - k) (by omega) k (by omega) (by omega)
      rw [getD_any (by omega) true false]
      exact hc k hk h1 e he hb
def QLI (F : Fence) (n : Nat) (P : Program) (ops : Array Oper) (o : Oper) (Q : Exit → Act → World → Prop) : Exit → Act → World → Prop
  | .normal, a, w => wpOpIn F n P (ops.push o) Q ops.size (fun a' w' => Q .normal a' w') a w
  | e, a, w => Q e a w
theorem QLI.letsOut {ops : Array Oper} {o : Oper} {Q : Exit → Act → World → Prop} (h : LetsOut (QLI F n P ops o Q)) : LetsOut Q := h
theorem Oper.wpIn_swap {o : Oper} {a : Act} {w : World} {K K' : Act → World → Prop} {Q Q' : Exit → Act → World → Prop} (h : ∀ a w, K a w → K' a w) (hp : ∀ c a w, Q (.panic c) a w → Q' (.panic c) a w) (hl : LetsOut Q → LetsOut Q')
    (hh : o.wpIn F n P a w K Q) : o.wpIn F n P a w K' Q' := by
  unfold Oper.wpIn at *
  refine ⟨hh.1, ?_⟩
  have hh := hh.2
  generalize (o.semAt F.round a.eval).run P w = r at *
  cases r with
  | ok x w' =>
    cases x with
    | value v => exact h _ _ hh
    | skip => exact h _ _ hh
    | defer d => exact h _ _ hh
    | enter f args => exact ⟨hh.1, CallsIn.mono hh.2 (fun e w'' he => by cases e <;> first | exact h _ _ he | exact hp _ _ _ he | exact hl he)⟩
    | row r args => exact ⟨hh.1, RowsIn.mono hh.2 (fun _ _ he => h _ _ he)⟩
    | round l f tmps assign body => exact ⟨hh.1, RoundIn.mono hh.2 (fun e w'' he => by cases e <;> first | exact h _ _ he | exact hp _ _ _ he | exact hl he)⟩
    | _ => exact hh
  | halt x w' => cases x <;> first | exact hp _ _ _ hh | exact hh
section
variable {ops : Array Oper} {o : Oper} {Q : Exit → Act → World → Prop}
theorem chainB.wanted (h : chainB ops o = true) {i : Nat} (hi : i < ops.size) (t : Array Value) : Region.wanted ops[i] (yielded (ops.push o) t) = Region.wanted ops[i] (yielded ops t) := by
  unfold Region.wanted
  cases hg : (ops[i]).guard with
  | none => rfl
  | some p =>
    obtain ⟨j, b⟩ := p
    have hj := (chainB.back h hi).2 j b hg
    simp only [yielded, Array.getElem?_push, Nat.ne_of_lt hj, if_false]
theorem ready_pushC (h : chainB ops o = true) {listed : Array Bool} (hs : listed.size = ops.size) (x : Bool) {i : Nat} (hi : i < ops.size) : i ∈ Region.ready .any (ops.push o) (listed.push x) ↔ i ∈ Region.ready .any ops listed := by
  rw [mem_ready, mem_ready]
  have he : (ops.push o)[i]'(by simp; omega) = ops[i] := by simp [Array.getElem_push, hi]
  constructor
  · rintro ⟨hi', hl, ha⟩
    rw [getD_push_lt (by omega)] at hl
    refine ⟨hi, hl, fun e hm hb => ?_⟩
    have h1 := (chainB.back h hi).1 e hm
    have := ha e (by rw [he]; exact hm) hb
    rwa [getD_push_lt (by omega)] at this
  · rintro ⟨hi', hl, ha⟩
    refine ⟨by simp; omega, by rw [getD_push_lt (by omega)]; exact hl, fun e hm hb => ?_⟩
    rw [he] at hm
    have h1 := (chainB.back h hi).1 e hm
    rw [getD_push_lt (by omega)]
    exact ha e hm hb
theorem ready_nilC (h : chainB ops o = true) {listed : Array Bool} (hs : listed.size = ops.size) (hr : Region.ready .any ops listed = []) : ∀ i, i < ops.size → listed.getD i true = true := by
  intro i
  induction i using Nat.strongRecOn with
  | _ i ih =>
    intro hi
    rw [← Bool.not_eq_false]
    intro hf
    have : i ∈ Region.ready .any ops listed := mem_ready.2 ⟨hi, hf, fun e he hb => by
      have h1 := (chainB.back h hi).1 e he
      have h2 := ih e.on h1 (by omega)
      rwa [getD_any (by omega) true false] at h2⟩
    rw [hr] at this
    cases this
theorem wpAnyIn_last (h : chainB ops o = true) : ∀ (fuel : Nat) (listed : Array Bool) (a : Act) (w : World), listed.size = ops.size → Cl ops listed → wpAnyIn F n P .any ops (QLI F n P ops o Q) fuel listed a w → wpAnyIn F n P .any (ops.push o) Q (fuel + 1) (listed.push false) a w := by
  have fin : ∀ (fuel : Nat) (listed : Array Bool) (a : Act) (w : World), listed.size = ops.size → Region.ready .any ops listed = [] → QLI F n P ops o Q .normal a w → wpAnyIn F n P .any (ops.push o) Q (fuel + 1) (listed.push false) a w := by
    intro fuel listed a w hs hr hq
    have hall := ready_nilC h hs hr
    have hn : ops.size ∈ Region.ready .any (ops.push o) (listed.push false) := by
      refine mem_ready.2 ⟨by simp, by rw [← hs]; simp, fun e he hb => ?_⟩
      have he' : (ops.push o)[ops.size]'(by simp) = o := by simp
      rw [he'] at he
      have h1 := chainB.on h e he
      rw [getD_push_lt (by omega)]
      have h2 := hall e.on h1
      rwa [getD_any (by omega) true false] at h2
    refine ⟨fun h0 => ?_, fun i hi => ?_⟩
    · rw [h0] at hn; cases hn
    · have hin : i = ops.size := by
        obtain ⟨h1, _⟩ := mem_ready.1 hi
        simp at h1
        rcases Nat.lt_or_ge i ops.size with h2 | h2
        · have := (ready_pushC h hs false h2).1 hi
          rw [hr] at this; cases this
        · omega
      subst hin
      refine wpOpIn_mono (fun a' w' hq' => ?_) hq
      have hr2 : Region.ready .any (ops.push o) ((listed.push false).setIfInBounds ops.size true) = [] := by
        have e : (listed.push false).setIfInBounds ops.size true = listed.push true := by
          apply Array.ext
          · simp
          · intro i h1 h2
            simp at h1
            rw [Array.getElem_setIfInBounds (by simpa using h1)]
            simp only [Array.getElem_push]
            by_cases hj : i < listed.size
            · rw [dif_pos hj, dif_pos hj, if_neg (by omega)]
            · rw [dif_neg hj, dif_neg hj, if_pos (by omega)]
        rw [e]
        refine List.eq_nil_iff_forall_not_mem.2 fun i hi => ?_
        obtain ⟨h1, h2, _⟩ := mem_ready.1 hi
        simp at h1
        rcases Nat.lt_or_ge i ops.size with h3 | h3
        · have := (ready_pushC h hs true h3).1 hi
          rw [hr] at this; cases this
        · have : i = ops.size := by omega
          subst this
          have h4 : (listed.push true).getD ops.size true = true := by rw [← hs]; simp
          rw [h4] at h2; cases h2
      cases fuel with
      | zero => exact ⟨hr2, hq'⟩
      | succ fuel => exact ⟨fun _ => hq', fun i hi => by rw [hr2] at hi; cases hi⟩
  intro fuel
  induction fuel with
  | zero => intro listed a w hs _ hq; exact fin 0 listed a w hs hq.1 hq.2
  | succ fuel ih =>
    intro listed a w hs hcl hq
    by_cases hr : Region.ready .any ops listed = []
    · exact fin _ listed a w hs hr (hq.1 hr)
    · have hnot : ops.size ∉ Region.ready .any (ops.push o) (listed.push false) := by
        intro hm
        obtain ⟨h1, h2, h3⟩ := mem_ready.1 hm
        have he' : (ops.push o)[ops.size]'(by simp) = o := by simp
        rw [he'] at h3
        have hall := chain_all h hs hcl (fun e he hb => by
          have := h3 e he hb
          rwa [getD_push_lt (by rw [hs]; exact chainB.on h e he)] at this)
        obtain ⟨i, hi⟩ := List.exists_mem_of_ne_nil _ hr
        obtain ⟨hi1, hi2, _⟩ := mem_ready.1 hi
        rw [hall (ops.size - i) i (by omega) (by omega)] at hi2
        cases hi2
      refine ⟨fun h0 => absurd ?_ hr, fun i hi => ?_⟩
      · refine List.eq_nil_iff_forall_not_mem.2 fun i hi => ?_
        obtain ⟨h1, _⟩ := mem_ready.1 hi
        have := (ready_pushC h hs false h1).2 hi
        rw [h0] at this; cases this
      · have hlt : i < ops.size := by
          obtain ⟨h1, _⟩ := mem_ready.1 hi
          simp at h1
          rcases Nat.lt_or_ge i ops.size with h2 | h2
          · exact h2
          · exact absurd (by rwa [show i = ops.size by omega] at hi) hnot
        have hi' := (ready_pushC h hs false hlt).1 hi
        have hw := hq.2 i hi'
        have e : (listed.push false).setIfInBounds i true = (listed.setIfInBounds i true).push false := by
          apply Array.ext
          · simp
          · intro j h1 h2
            simp at h1
            rw [Array.getElem_setIfInBounds (by simpa using h1)]
            simp only [Array.getElem_push, Array.size_setIfInBounds]
            by_cases hj : j < listed.size
            · rw [dif_pos hj, dif_pos hj, Array.getElem_setIfInBounds hj]
            · rw [dif_neg hj, dif_neg hj, if_neg (by omega)]
        rw [e]
        unfold wpOpIn at hw ⊢
        have g1 : (ops.push o)[i]? = some ops[i] := by simp [Array.getElem?_push, Nat.ne_of_lt hlt, hlt]
        rw [g1]
        rw [Array.getElem?_eq_getElem hlt] at hw
        simp only [chainB.wanted h hlt] at hw ⊢
        have hcl2 := hcl.add hs hi'
        split
        · rename_i hwt
          simp only [hwt, if_true] at hw
          exact Oper.wpIn_swap (fun a' w' hk => ih _ a' w' (by simpa using hs) hcl2 hk) (Q := QLI F n P ops o Q) (fun c a w hp => hp) (QLI.letsOut (F := F) (n := n) (P := P) (ops := ops) (o := o)) hw
        · rename_i hwt
          simp only [hwt] at hw
          exact ⟨hw.1, ih _ _ _ (by simpa using hs) hcl2 hw.2⟩
end
theorem op_wide {o : Oper} {a : Act} {w : World} {K : Act → World → Prop} {Q : Exit → Act → World → Prop} (h : o.wp P a w K Q) : o.wpIn Fence.wide n P a w K Q := by
  refine ⟨fun _ _ => trivial, ?_⟩
  rw [show Fence.wide.round = none from rfl, Oper.semAt_none]
  unfold Oper.wp at h
  revert h
  generalize (execOp a.eval o).run P w = r
  intro h
  cases r with
  | ok x w' =>
    cases x <;> simp only [Oper.upon, Oper.uponIn] at h ⊢ <;>
      first
        | exact h
        | exact h.elim
        | exact ⟨fun h => (by cases h), callsIn_wide.2 h⟩
        | exact ⟨fun h => (by cases h), fun c cs _ => let ⟨v, w', r, s⟩ := h c cs; ⟨v, w', r, stepsIn_wide.2 s⟩⟩
  | halt x w' => cases x <;> simp only [Oper.upon, Oper.uponIn] at h ⊢ <;> exact h
theorem any_wide {ops : Array Oper} {Q : Exit → Act → World → Prop} {md : Region.Mode} (hQ : ¬ LetsOut Q) : ∀ (fuel : Nat) (listed : Array Bool) (a : Act) (w : World), wpAny P md ops Q fuel listed a w → wpAnyIn Fence.wide n P md ops Q fuel listed a w
  | 0, _, _, _, h => h
  | fuel + 1, listed, a, w, h => ⟨h.1, fun i hi => by
    have h2 := h.2 i hi
    unfold wpOp at h2
    unfold wpOpIn
    cases ho : ops[i]? with
    | none => rw [ho] at h2; exact any_wide hQ fuel _ a w h2
    | some o =>
      simp only [ho] at h2 ⊢
      split
      · rename_i hw
        simp only [hw, if_true] at h2
        rcases h2 with h2 | h2
        · exact op_wide (Oper.wp_swap (fun a w hh => any_wide hQ fuel _ a w hh) (fun _ _ _ h => h) id h2)
        · exact absurd h2.2 hQ
      · rename_i hw
        simp only [hw] at h2
        exact ⟨fun _ _ => trivial, any_wide hQ fuel _ _ w h2⟩⟩
theorem QLI_intro {ops : Array Oper} {o : Oper} {Q : Exit → Act → World → Prop} {a : Act} {w : World} (h : wpListIn F n P (ops.push o) Q [o] a w) : QLI F n P ops o Q .normal a w := by
  show wpOpIn _ _ _ _ _ _ _ _ _
  unfold wpOpIn
  simp only [Array.getElem?_push_size]
  unfold wpListIn at h
  exact h
def QT (T : Act → World → Prop) : Exit → Act → World → Prop
  | .normal, a, w => T a w
  | _, _, _ => False
theorem QT_intro {T : Act → World → Prop} {a : Act} {w : World} (h : T a w) : QT T .normal a w := h
theorem QT_out {T : Act → World → Prop} : ¬ LetsOut (QT T) := fun ⟨_, _, h⟩ => h
theorem anyIn_QT {ops : Array Oper} {Q : Exit → Act → World → Prop} {md : Region.Mode} : ∀ (fuel : Nat) (listed : Array Bool) (a : Act) (w : World), wpAnyIn F n P md ops (QT (Q .normal)) fuel listed a w → wpAnyIn F n P md ops Q fuel listed a w
  | 0, _, _, _, h => h
  | fuel + 1, listed, a, w, h => ⟨h.1, fun i hi => by
    have h2 := h.2 i hi
    unfold wpOpIn at h2 ⊢
    cases ho : ops[i]? with
    | none => rw [ho] at h2; exact anyIn_QT fuel _ a w h2
    | some o =>
      simp only [ho] at h2 ⊢
      split
      · rename_i hw
        simp only [hw, if_true] at h2
        exact Oper.wpIn_swap (fun a w hh => anyIn_QT fuel _ a w hh) (fun _ _ _ h => h.elim) (fun h => absurd h QT_out) h2
      · rename_i hw
        simp only [hw] at h2
        exact ⟨h2.1, anyIn_QT fuel _ _ w h2.2⟩⟩
theorem listIn_QT {ops : Array Oper} {Q : Exit → Act → World → Prop} : ∀ (L : List Oper) (a : Act) (w : World), wpListIn F n P ops (QT (Q .normal)) L a w → wpListIn F n P ops Q L a w
  | [], _, _, h => h
  | o :: L, a, w, h => by
    unfold wpListIn at h ⊢
    split
    · rename_i hw
      simp only [hw, if_true] at h
      exact Oper.wpIn_swap (fun a w hh => listIn_QT L a w hh) (fun _ _ _ h => h.elim) (fun h => absurd h QT_out) h
    · rename_i hw
      simp only [hw] at h
      exact ⟨h.1, listIn_QT L _ w h.2⟩
theorem list_round {l : Nat} {ops : Array Oper} {Q : Exit → Act → World → Prop} {L : List Oper} {a : Act} {w : World} (hd : noDefer L = true) (h : wpList P ops (QT (Q .normal)) L a w) : wpListIn (Fence.wide.inRound l) n P ops Q L a w :=
  listIn_QT L a w (list_inRound QT_out L a w hd h)
theorem region_round {l id : Nat} {L : Array Oper} {S : World → Prop} {a : Act} {w : World} {Q : Exit → Act → World → Prop} (hm : P.follows .mixedOrders = true) (hd : noDefer L.toList = true) (hS : S w.drew)
    (h : S w.drew → wpAnyH P .any L (QT (Q .normal)) S L.size (Array.replicate L.size false) a w.drew) : (Code.region id L true).wpIn (Fence.wide.inRound l) n P Q a w :=
  wpIn_region_any hm (anyIn_QT _ _ a _ (any_inRound hd QT_out _ _ a _ (wpAny_of_held _ _ _ _ (h hS))))
theorem region_last3 {id : Nat} {L : Array Oper} {o1 o2 o3 : Oper} {S : World → Prop} {a : Act} {w : World} {Q : Exit → Act → World → Prop} (hm : P.follows .mixedOrders = true)
    (e3 : L.back? = some o3) (e2 : L.pop.back? = some o2) (e1 : L.pop.pop.back? = some o1) (h1 : chainB L.pop.pop.pop o1 = true) (h2 : chainB L.pop.pop o2 = true) (h3 : chainB L.pop o3 = true) (hS : S w.drew)
    (h : S w.drew → wpAnyH P .any L.pop.pop.pop (QT (QLI Fence.wide n P L.pop.pop.pop o1 (QLI Fence.wide n P L.pop.pop o2 (QLI Fence.wide n P L.pop o3 Q)) .normal)) S L.pop.pop.pop.size (Array.replicate L.pop.pop.pop.size false) a w.drew) :
    (Code.region id L true).wpIn Fence.wide n P Q a w := by
  have p3 := push_pop e3
  have p2 := push_pop e2
  have p1 := push_pop e1
  obtain ⟨ops, hops⟩ : ∃ ops, ops = L.pop.pop.pop := ⟨_, rfl⟩
  rw [← hops] at h h1 p1
  rw [← p1] at p2 h2 h
  rw [← p2] at p3 h3 h
  rw [← p3]
  refine wpIn_region_any hm ?_
  have hr : ∀ k : Nat, (Array.replicate k false).push false = Array.replicate (k + 1) false := fun k => by rw [Array.replicate_succ]
  have g0 := anyIn_QT _ _ a w.drew (any_wide (n := n) QT_out _ _ a w.drew (wpAny_of_held _ _ _ _ (h hS)))
  have g1 := wpAnyIn_last h1 _ _ a w.drew (by simp) (Cl.start ops) g0
  have g2 := wpAnyIn_last h2 _ _ a w.drew (by simp) (by have := Cl.start (ops.push o1); rw [Array.size_push] at this; rw [hr]; exact this) g1
  have g3 := wpAnyIn_last h3 _ _ a w.drew (by simp) (by have := Cl.start ((ops.push o1).push o2); rw [Array.size_push, Array.size_push] at this; rw [hr, hr]; exact this) g2
  rw [hr, hr, hr] at g3
  simpa using g3
end Hp
end Go.Proofs.YtmdfbdfijnmhkaaGreat
namespace Go.Proofs.YtmdfbdfijnmhkaaGreat
set_option linter.unusedVariables false
set_option linter.unusedSimpArgs false
open Go.RowKit Hp
attribute [local irreducible] Go.Calls Go.wpList
set_option maxRecDepth 100000
set_option maxHeartbeats 4000000
def bxP (g3 g4 g5 gm : Nat) (but : Int) (pc : List Value) : List HA := [.blk g5 3 [.int .i64 but], .blk g4 34 pc, .blk g3 24 [PM gm]]
def copiesV (g3 g4 g5 : Nat) : Array Value := #[.pointer (some ⟨g4, 0, none⟩), .pointer (some ⟨g5, 0, none⟩), .pointer (some ⟨g3, 0, none⟩)]
theorem copies_any {w0 w : World} {M : List Nat} {L : List HA} (hS : St w0 M w L) (gm : Nat) (but : Int) (ao : Option Addr) (n c : Nat) (b v : Int) (S : List UInt8) :
    Calls Tryz.prog 68 #[PM gm, .agg (ptrCells (.slice ao n c) b v S).toArray, .int .i64 but] w fun e w' => ∃ g3 g4 g5, e = .returned (.func (.func 117) #[] (copiesV g3 g4 g5)) ∧ St w0 M w' (bxP g3 g4 g5 gm but (ptrCells (.slice ao n c) b v S) ++ L) := by
  have hst := hS
  clear hS
  unfold PM
  go_enter Tryz.func68, Tryz.ntmps68
  go_wp2_with (first | go_big_skip | go_big_guard | (refine wl_box hst rfl rfl rfl ?_; intro g3 _ hst1; clear hst) | (refine wl_boxA hst1 rfl rfl rfl ?_; intro g4 _ hst2; clear hst1) | (refine wl_box hst2 rfl rfl rfl ?_; intro g5 _ hst3; clear hst2))
  go_ret
  exact ⟨g3, g4, g5, rfl, hst3⟩
structure YV where
  k : Nat
  m : MV
  v : Value
section
variable (w0 : World) (M : List Nat) (gm ga : Nat) (x : GA) (bx : List HA) (l : List (Int × Int)) (but : Int) (S : List UInt8) (N0 : Nat) (Xp : Nat → MV → List HA → Prop)
def cI (s : Nat × MV) (W : World) : Prop := s.1 ≤ l.length ∧ MGood s.2 (N0 + s.1) ∧ ∃ X, Xp s.1 s.2 X ∧ St w0 M W (mP gm ga x s.2 ++ (bx ++ X))
def YV.pl (y : YV) : Int × Int := l.getD y.k (0, 0)
def YV.B (y : YV) : List UInt8 := y.m.lookB (y.pl l).1 (y.pl l).2 S
def YV.next (y : YV) : MV := y.m.looked (y.pl l).1 (y.pl l).2 S
def cY (y : YV) (W : World) : Prop := y.k < l.length ∧ (y.pl l).1 ≠ but ∧ MGood y.m (N0 + y.k) ∧ ∃ X, Xp y.k y.m X ∧ St w0 M W (.rowP isB y.v 5 1 (y.B l S).length (bytesV (y.B l S)) :: (mP gm ga x (y.next l S) ++ (bx ++ X)))
def cE (y : YV) : Value × Value := (.agg #[.int .i64 (y.pl l).1, .int .i64 (y.pl l).2], .agg #[.int .i64 (y.m.kind (y.pl l).1 (y.pl l).2 S), y.v])
def cN (y : YV) (s : Nat × MV) : Prop := s = (y.k + 1, y.next l S)
end
attribute [local go_sem] Oper.semAt_some
theorem loadedIm6 (A : Addr) : loadVar 3 A = loadVarH 3 A := rfl
theorem loadedAd6 (A : Addr) : loadVar 83 A = loadVarH 83 A := rfl
theorem loadedMi6 (A : Addr) : loadVar 24 A = loadVarH 24 A := rfl
theorem loadedID6 (A : Addr) : loadVar 32 A = loadVarH 32 A := rfl
theorem sub_x {w0 w : World} {M : List Nat} {A X : List HA} {p : HA} (h : St w0 M w (A ++ (p :: X))) : St w0 M w (A ++ X) := St.sub h (List.Sublist.append_left (List.sublist_cons_self _ _) _)
section
attribute [local go_sem ↓] loadedIm6 loadedAd6 loadedMi6 loadedID6
theorem copies1_seq {w0 : World} {M : List Nat} {gm ga : Nat} {x : GA} {g3 g4 g5 : Nat} (l : List (Int × Int)) (ao : Option Addr) (n c : Nat) (b v : Int) (S : List UInt8) (but : Int) (N0 : Nat) (m0 : MV) (hL : L32 S) (hn : l.length = n) (hN : N0 + n ≤ 900000) (Xp : Nat → MV → List HA → Prop)
    (hA : ∀ k m X W, Xp k m X → St w0 M W X → Rd W (.slice ao n c) 2 n (addrsV l)) (hskip : ∀ k m X, k < n → (l.getD k (0, 0)).1 = but → Xp k m X → Xp (k + 1) m X) :
    SeqM Fence.wide 4 Tryz.prog 117 (copiesV g3 g4 g5) (fun y => #[(cE l S y).1, (cE l S y).2]) (cI w0 M gm ga x (bxP g3 g4 g5 gm but (ptrCells (.slice ao n c) b v S)) l N0 Xp) (cY w0 M gm ga x (bxP g3 g4 g5 gm but (ptrCells (.slice ao n c) b v S)) l but S N0 Xp) (cN l S) (0, m0) (fun s => s.1 = l.length) := by
  intro lp R Jx hR hY W hI0 hR0
  refine callsIn_of_wp Tryz.func117 rfl trivial ?_ rfl
  simp only [Tryz.ntmps117, copiesV, List.size_toArray, List.length_cons, List.length_nil, Nat.reduceAdd, Nat.reduceSub, Array.replicate_succ, Array.replicate_zero, List.push_toArray, List.append_toArray, List.nil_append, List.cons_append]
  have c1 : W.cell? ⟨g4, 0, none⟩ = some (.slice ao n c) := by
    obtain ⟨_, _, X, _, hst⟩ := hI0
    exact hst.cell (T := 34) (cs := ptrCells (.slice ao n c) b v S) (List.mem_append_right _ (.tail _ (.head _))) rfl
  gi_wp2
  gi_loopw [10] (fun i wr => ∃ (k : Nat) (m : MV), i = .int .i64 k ∧ cI w0 M gm ga x (bxP g3 g4 g5 gm but (ptrCells (.slice ao n c) b v S)) l N0 Xp (k, m) wr ∧ R wr) (fun i _ => n - (intOf i).toNat)
  case atStart => exact ⟨0, m0, rfl, hI0, hR0⟩
  case round =>
    clear c1 hI0 hR0
    obtain ⟨k, m, rfl, hI1, hR1⟩ := hrel
    by_cases hlt : k < n
    · have d0 : decide ((k : Int) < (n : Int)) = true := decide_eq_true (by omega)
      obtain ⟨_, hg, X, hX, hst⟩ := hI1
      obtain ⟨bb, off, rfl, hr⟩ := (hA k m X wr hX (St.sub hst ((List.sublist_append_right _ _).trans (List.sublist_append_right _ _)))).at hlt
      obtain ⟨z, hz⟩ : ∃ z, z = l.getD k (0, 0) := ⟨_, rfl⟩
      have hb := addr_both hr (k := k) (by rw [hn]; exact hlt)
      rw [← hz] at hb
      have HB := hid hb
      have HZ := hid hz
      have HST := hid hst
      have HX := hid hX
      have HG := hid hg
      have HL := hid hL
      have hs := hst.selfM
      gi_upto_region 2 with (fail)
      refine wpIn_wide.2 ?_
      clear hz hb hr hst hX hg
      have HR := hid hR1
      clear hR1
      go_wp2_with (first | go_big_skip | go_big_guard | (refine wl_index rfl rfl rfl rfl (hlt) ?_) | (refine wl_loadE rfl rfl rfl ?_; refine ⟨_, Loads.range (P := Tryz.prog) (cs := [.int .i64 z.1, .int .i64 z.2]) (TyA.out (n := 2)) HB.out, ?_⟩) | (refine wl_alloc hs rfl rfl ?_; intro g6 w3 hs1; clear hs) | (refine wl_storeA [] hs1 rfl rfl rfl rfl rfl rfl rfl ?_; intro w4 hs2; clear hs1))
      have hs3 : St wr _ w4 (mP gm ga x m ++ (.blk g6 83 [.int .i64 z.1, .int .i64 z.2] :: (bxP g3 g4 g5 gm but (ptrCells (.slice (some ⟨bb, off, none⟩) n c) b v S) ++ X))) := St.behind (A := mP gm ga x m) hs2
      clear hs2
      have HN := hid hn
      gi_upto_region 3 with (fail)
      by_cases he : z.1 = but
      · have d1 : (z.1 != but) = false := by simpa using he
        refine wpIn_wide.2 ?_
        have hX := hs3.drew
        clear hs3
        refine wp_region_held_drew (S := (fun w' => (loadVarH 3 ⟨g6, 0, none⟩).run Tryz.prog w' = .ok (.int .i64 z.1) w' ∧ (loadVarH 3 ⟨g5, 0, none⟩).run Tryz.prog w' = .ok (.int .i64 but) w' ∧ (loadVarH 83 ⟨g6, 0, none⟩).run Tryz.prog w' = .ok (.agg (List.toArray [.int .i64 z.1, .int .i64 z.2])) w' ∧ (loadVarH 24 ⟨g3, 0, none⟩).run Tryz.prog w' = .ok (.pointer (some ⟨gm, 0, none⟩)) w' ∧ (loadVarH 32 ⟨g4, 3, none⟩).run Tryz.prog w' = .ok (.agg (List.toArray (bytesV S))) w')) (by kernel_rfl) (by exact ⟨Loads.blk (P := Tryz.prog) (T := 3) hX TyS.out (List.mem_append_right _ (.head _)) rfl, Loads.blk (P := Tryz.prog) (T := 3) hX TyS.out (List.mem_append_right _ (.tail _ (.head _))) rfl, Loads.blkA (P := Tryz.prog) (T := 83) (vs := [.int .i64 z.1, .int .i64 z.2]) hX (TyA.out (n := 2)) (List.mem_append_right _ (.head _)) (rfl), Loads.blk (P := Tryz.prog) (T := 24) hX TyS.out (List.mem_append_right _ (.tail _ (.tail _ (.tail _ (.head _))))) rfl, Loads.blkA (P := Tryz.prog) (T := 32) (vs := bytesV S) hX ((by rw [HL.out.v]; exact TyA.out)) (List.mem_append_right _ (.tail _ (.tail _ (.head _)))) (ptr_sum _ _ _ _)⟩) (fun hHeld => ?_)
        refine wpAnyH_take (i := 0) (oi := ⟨some 14, _, _, _, _, _⟩) (v := ?_) rfl (by kernel_rfl) (by kernel_rfl) (by kernel_rfl) (fun _ _ _ h => h) (Or.inl ⟨by rfl, ?_⟩) (by assumption) ?_
        rotate_left
        · intro w hSw; (try dsimp only at hSw); go_simp; try with_reducible rfl
        (try simp only [Act.put, List.setIfInBounds_toArray, List.set_cons_zero, List.set_cons_succ])
        refine wpAnyH_take (i := 2) (oi := ⟨some 16, _, _, _, _, _⟩) (v := ?_) rfl (by kernel_rfl) (by kernel_rfl) (by kernel_rfl) (fun _ _ _ h => h) (Or.inl ⟨by rfl, ?_⟩) (by assumption) ?_
        rotate_left
        · intro w hSw; (try dsimp only at hSw); go_simp; try with_reducible rfl
        (try simp only [Act.put, List.setIfInBounds_toArray, List.set_cons_zero, List.set_cons_succ])
        refine wpAnyH_take (i := 1) (oi := ⟨some 15, _, _, _, _, _⟩) (v := ?_) rfl (by kernel_rfl) (by kernel_rfl) (by kernel_rfl) (fun _ _ _ h => h) (Or.inl ⟨by rfl, ?_⟩) (by assumption) ?_
        rotate_left
        · intro w hSw; (try dsimp only at hSw); go_simp; try with_reducible rfl
        (try simp only [Act.put, List.setIfInBounds_toArray, List.set_cons_zero, List.set_cons_succ])
        refine wpAnyH_take (i := 3) (oi := ⟨some 17, _, _, _, _, _⟩) (v := ?_) rfl (by kernel_rfl) (by kernel_rfl) (by kernel_rfl) (fun _ _ _ h => h) (Or.inl ⟨by rfl, ?_⟩) (by assumption) ?_
        rotate_left
        · intro w hSw; (try dsimp only at hSw); go_simp; try with_reducible rfl
        (try simp only [Act.put, List.setIfInBounds_toArray, List.set_cons_zero, List.set_cons_succ])
        refine wpAnyH_take (i := 4) (oi := ⟨some 18, _, _, _, _, _⟩) (v := ?_) rfl (by kernel_rfl) (by kernel_rfl) (by kernel_rfl) (fun _ _ _ h => h) (Or.inl ⟨by rfl, ?_⟩) (by assumption) ?_
        rotate_left
        · intro w hSw; (try dsimp only at hSw); go_simp; try with_reducible rfl
        (try simp only [Act.put, List.setIfInBounds_toArray, List.set_cons_zero, List.set_cons_succ])
        refine wpAnyH_take (i := 5) (oi := ⟨some 19, _, _, _, _, _⟩) (v := undef) rfl (by kernel_rfl) (by kernel_rfl) (by kernel_rfl) (fun _ _ _ h => h) (Or.inr ⟨by rfl, rfl⟩) (by assumption) ?_
        (try simp only [Act.put, List.setIfInBounds_toArray, List.set_cons_zero, List.set_cons_succ])
        refine wpAnyH_take (i := 6) (oi := ⟨some 20, _, _, _, _, _⟩) (v := undef) rfl (by kernel_rfl) (by kernel_rfl) (by kernel_rfl) (fun _ _ _ h => h) (Or.inr ⟨by rfl, rfl⟩) (by assumption) ?_
        (try simp only [Act.put, List.setIfInBounds_toArray, List.set_cons_zero, List.set_cons_succ])
        refine wpAnyH_take (i := 7) (oi := ⟨some 21, _, _, _, _, _⟩) (v := undef) rfl (by kernel_rfl) (by kernel_rfl) (by kernel_rfl) (fun _ _ _ h => h) (Or.inr ⟨by rfl, rfl⟩) (by assumption) ?_
        (try simp only [Act.put, List.setIfInBounds_toArray, List.set_cons_zero, List.set_cons_succ])
        refine wpAnyH_take (i := 8) (oi := ⟨some 22, _, _, _, _, _⟩) (v := undef) rfl (by kernel_rfl) (by kernel_rfl) (by kernel_rfl) (fun _ _ _ h => h) (Or.inr ⟨by rfl, rfl⟩) (by assumption) ?_
        (try simp only [Act.put, List.setIfInBounds_toArray, List.set_cons_zero, List.set_cons_succ])
        refine wpAnyH_take (i := 9) (oi := ⟨some 23, _, _, _, _, _⟩) (v := undef) rfl (by kernel_rfl) (by kernel_rfl) (by kernel_rfl) (fun _ _ _ h => h) (Or.inr ⟨by rfl, rfl⟩) (by assumption) ?_
        (try simp only [Act.put, List.setIfInBounds_toArray, List.set_cons_zero, List.set_cons_succ])
        refine wpAnyH_take (i := 10) (oi := ⟨some 24, _, _, _, _, _⟩) (v := undef) rfl (by kernel_rfl) (by kernel_rfl) (by kernel_rfl) (fun _ _ _ h => h) (Or.inr ⟨by rfl, rfl⟩) (by assumption) ?_
        (try simp only [Act.put, List.setIfInBounds_toArray, List.set_cons_zero, List.set_cons_succ])
        refine wpAnyH_ready (rs := [11]) (by kernel_rfl) (by simp) ?_
        refine (AllReadyH.cons (o := ⟨some 25, _, _, _, _, _⟩) rfl (fun K hK => ?_) AllReadyH.nil)
        rw [if_neg (by rw [show Region.wanted _ _ = false from rfl]; exact Bool.false_ne_true)]
        refine hK.out _ _ ?_ (fun hHeld => ?_)
        · exact ⟨Loads.blk (P := Tryz.prog) (T := 3) hX TyS.out (List.mem_append_right _ (.head _)) rfl, Loads.blk (P := Tryz.prog) (T := 3) hX TyS.out (List.mem_append_right _ (.tail _ (.head _))) rfl, Loads.blkA (P := Tryz.prog) (T := 83) (vs := [.int .i64 z.1, .int .i64 z.2]) hX (TyA.out (n := 2)) (List.mem_append_right _ (.head _)) (rfl), Loads.blk (P := Tryz.prog) (T := 24) hX TyS.out (List.mem_append_right _ (.tail _ (.tail _ (.tail _ (.head _))))) rfl, Loads.blkA (P := Tryz.prog) (T := 32) (vs := bytesV S) hX ((by rw [HL.out.v]; exact TyA.out)) (List.mem_append_right _ (.tail _ (.tail _ (.head _)))) (ptr_sum _ _ _ _)⟩
        clear hK K
        (try simp only [Act.put, List.setIfInBounds_toArray, List.set_cons_zero, List.set_cons_succ])
        refine wpAnyH_ready (rs := [12]) (by kernel_rfl) (by simp) ?_
        refine (AllReadyH.cons (o := ⟨some 26, _, _, _, _, _⟩) rfl (fun K hK => ?_) AllReadyH.nil)
        rw [if_neg (by rw [show Region.wanted _ _ = false from rfl]; exact Bool.false_ne_true)]
        refine hK.out _ _ ?_ (fun hHeld => ?_)
        · exact ⟨Loads.blk (P := Tryz.prog) (T := 3) hX TyS.out (List.mem_append_right _ (.head _)) rfl, Loads.blk (P := Tryz.prog) (T := 3) hX TyS.out (List.mem_append_right _ (.tail _ (.head _))) rfl, Loads.blkA (P := Tryz.prog) (T := 83) (vs := [.int .i64 z.1, .int .i64 z.2]) hX (TyA.out (n := 2)) (List.mem_append_right _ (.head _)) (rfl), Loads.blk (P := Tryz.prog) (T := 24) hX TyS.out (List.mem_append_right _ (.tail _ (.tail _ (.tail _ (.head _))))) rfl, Loads.blkA (P := Tryz.prog) (T := 32) (vs := bytesV S) hX ((by rw [HL.out.v]; exact TyA.out)) (List.mem_append_right _ (.tail _ (.tail _ (.head _)))) (ptr_sum _ _ _ _)⟩
        clear hK K
        (try simp only [Act.put, List.setIfInBounds_toArray, List.set_cons_zero, List.set_cons_succ])
        refine wpAnyH_take (i := 13) (oi := ⟨some 27, _, _, _, _, _⟩) (v := undef) rfl (by kernel_rfl) (by kernel_rfl) (by kernel_rfl) (fun _ _ _ h => h) (Or.inr ⟨by rfl, rfl⟩) (by assumption) ?_
        (try simp only [Act.put, List.setIfInBounds_toArray, List.set_cons_zero, List.set_cons_succ])
        refine wpAnyH_take (i := 14) (oi := ⟨some 28, _, _, _, _, _⟩) (v := ?_) rfl (by kernel_rfl) (by kernel_rfl) (by kernel_rfl) (fun _ _ _ h => h) (Or.inl ⟨by rfl, ?_⟩) (by assumption) ?_
        rotate_left
        · intro w hSw; (try dsimp only at hSw); go_simp; try with_reducible rfl
        (try simp only [Act.put, List.setIfInBounds_toArray, List.set_cons_zero, List.set_cons_succ])
        refine wpAnyH_done (by kernel_rfl) ?_ _
        clear hHeld
        go_wp2_with (first | go_big_skip | go_big_guard | fail)
        have hI2 : cI w0 M gm ga x (bxP g3 g4 g5 gm but (ptrCells (.slice (some ⟨bb, off, none⟩) n c) b v S)) l N0 Xp (k + 1, m) _ := ⟨by show k + 1 ≤ _; omega, HG.out.mono (by show N0 + k ≤ N0 + (k + 1); omega), X, hskip k m X hlt (by rw [← HZ.out]; exact he) HX.out, sub_x (St.joinAll HST.out hX)⟩
        have hR2 := hR _ _ HR.out (St.keeps HST.out hX)
        gi_wp2
        go_roundw
        case rel => exact ⟨k + 1, m, by go_num, hI2, hR2⟩
        case measure => simp [intOf]; omega
      · have d1 : (z.1 != but) = true := by simpa using he
        have hX := hs3.drew
        clear hs3
        refine region_last3 (S := (fun w' => (loadVarH 3 ⟨g6, 0, none⟩).run Tryz.prog w' = .ok (.int .i64 z.1) w' ∧ (loadVarH 3 ⟨g5, 0, none⟩).run Tryz.prog w' = .ok (.int .i64 but) w' ∧ (loadVarH 83 ⟨g6, 0, none⟩).run Tryz.prog w' = .ok (.agg (List.toArray [.int .i64 z.1, .int .i64 z.2])) w' ∧ (loadVarH 24 ⟨g3, 0, none⟩).run Tryz.prog w' = .ok (.pointer (some ⟨gm, 0, none⟩)) w' ∧ (loadVarH 32 ⟨g4, 3, none⟩).run Tryz.prog w' = .ok (.agg (List.toArray (bytesV S))) w')) (by kernel_rfl) rfl rfl rfl (by kernel_rfl) (by kernel_rfl) (by kernel_rfl) (by exact ⟨Loads.blk (P := Tryz.prog) (T := 3) hX TyS.out (List.mem_append_right _ (.head _)) rfl, Loads.blk (P := Tryz.prog) (T := 3) hX TyS.out (List.mem_append_right _ (.tail _ (.head _))) rfl, Loads.blkA (P := Tryz.prog) (T := 83) (vs := [.int .i64 z.1, .int .i64 z.2]) hX (TyA.out (n := 2)) (List.mem_append_right _ (.head _)) (rfl), Loads.blk (P := Tryz.prog) (T := 24) hX TyS.out (List.mem_append_right _ (.tail _ (.tail _ (.tail _ (.head _))))) rfl, Loads.blkA (P := Tryz.prog) (T := 32) (vs := bytesV S) hX ((by rw [HL.out.v]; exact TyA.out)) (List.mem_append_right _ (.tail _ (.tail _ (.head _)))) (ptr_sum _ _ _ _)⟩) (fun hHeld => ?_)
        simp only [List.pop_toArray, List.dropLast, List.size_toArray, List.length_cons, List.length_nil]
        refine wpAnyH_take (i := 0) (oi := ⟨some 14, _, _, _, _, _⟩) (v := ?_) rfl (by kernel_rfl) (by kernel_rfl) (by kernel_rfl) (fun _ _ _ h => h) (Or.inl ⟨by rfl, ?_⟩) (by assumption) ?_
        rotate_left
        · intro w hSw; (try dsimp only at hSw); go_simp; try with_reducible rfl
        (try simp only [Act.put, List.setIfInBounds_toArray, List.set_cons_zero, List.set_cons_succ])
        refine wpAnyH_take (i := 2) (oi := ⟨some 16, _, _, _, _, _⟩) (v := ?_) rfl (by kernel_rfl) (by kernel_rfl) (by kernel_rfl) (fun _ _ _ h => h) (Or.inl ⟨by rfl, ?_⟩) (by assumption) ?_
        rotate_left
        · intro w hSw; (try dsimp only at hSw); go_simp; try with_reducible rfl
        (try simp only [Act.put, List.setIfInBounds_toArray, List.set_cons_zero, List.set_cons_succ])
        refine wpAnyH_take (i := 1) (oi := ⟨some 15, _, _, _, _, _⟩) (v := ?_) rfl (by kernel_rfl) (by kernel_rfl) (by kernel_rfl) (fun _ _ _ h => h) (Or.inl ⟨by rfl, ?_⟩) (by assumption) ?_
        rotate_left
        · intro w hSw; (try dsimp only at hSw); go_simp; try with_reducible rfl
        (try simp only [Act.put, List.setIfInBounds_toArray, List.set_cons_zero, List.set_cons_succ])
        refine wpAnyH_take (i := 3) (oi := ⟨some 17, _, _, _, _, _⟩) (v := ?_) rfl (by kernel_rfl) (by kernel_rfl) (by kernel_rfl) (fun _ _ _ h => h) (Or.inl ⟨by rfl, ?_⟩) (by assumption) ?_
        rotate_left
        · intro w hSw; (try dsimp only at hSw); go_simp; try with_reducible rfl
        (try simp only [Act.put, List.setIfInBounds_toArray, List.set_cons_zero, List.set_cons_succ])
        refine wpAnyH_take (i := 4) (oi := ⟨some 18, _, _, _, _, _⟩) (v := ?_) rfl (by kernel_rfl) (by kernel_rfl) (by kernel_rfl) (fun _ _ _ h => h) (Or.inl ⟨by rfl, ?_⟩) (by assumption) ?_
        rotate_left
        · intro w hSw; (try dsimp only at hSw); go_simp; try with_reducible rfl
        (try simp only [Act.put, List.setIfInBounds_toArray, List.set_cons_zero, List.set_cons_succ])
        refine wpAnyH_take (i := 5) (oi := ⟨some 19, _, _, _, _, _⟩) (v := ?_) rfl (by kernel_rfl) (by kernel_rfl) (by kernel_rfl) (fun _ _ _ h => h) (Or.inl ⟨by rfl, ?_⟩) (by assumption) ?_
        rotate_left
        · intro w hSw; (try dsimp only at hSw); go_simp; try with_reducible rfl
        (try simp only [Act.put, List.setIfInBounds_toArray, List.set_cons_zero, List.set_cons_succ])
        refine wpAnyH_take (i := 6) (oi := ⟨some 20, _, _, _, _, _⟩) (v := ?_) rfl (by kernel_rfl) (by kernel_rfl) (by kernel_rfl) (fun _ _ _ h => h) (Or.inl ⟨by rfl, ?_⟩) (by assumption) ?_
        rotate_left
        · intro w hSw; (try dsimp only at hSw); go_simp; try with_reducible rfl
        (try simp only [Act.put, List.setIfInBounds_toArray, List.set_cons_zero, List.set_cons_succ])
        refine wpAnyH_take (i := 7) (oi := ⟨some 21, _, _, _, _, _⟩) (v := ?_) rfl (by kernel_rfl) (by kernel_rfl) (by kernel_rfl) (fun _ _ _ h => h) (Or.inl ⟨by rfl, ?_⟩) (by assumption) ?_
        rotate_left
        · intro w hSw; (try dsimp only at hSw); go_simp; try with_reducible rfl
        (try simp only [Act.put, List.setIfInBounds_toArray, List.set_cons_zero, List.set_cons_succ])
        refine wpAnyH_take (i := 8) (oi := ⟨some 22, _, _, _, _, _⟩) (v := ?_) rfl (by kernel_rfl) (by kernel_rfl) (by kernel_rfl) (fun _ _ _ h => h) (Or.inl ⟨by rfl, ?_⟩) (by assumption) ?_
        rotate_left
        · intro w hSw; (try dsimp only at hSw); go_simp; try with_reducible rfl
        (try simp only [Act.put, List.setIfInBounds_toArray, List.set_cons_zero, List.set_cons_succ])
        refine wpAnyH_take (i := 9) (oi := ⟨some 23, _, _, _, _, _⟩) (v := ?_) rfl (by kernel_rfl) (by kernel_rfl) (by kernel_rfl) (fun _ _ _ h => h) (Or.inl ⟨by rfl, ?_⟩) (by assumption) ?_
        rotate_left
        · intro w hSw; (try dsimp only at hSw); go_simp; try with_reducible rfl
        (try simp only [Act.put, List.setIfInBounds_toArray, List.set_cons_zero, List.set_cons_succ])
        refine wpAnyH_take (i := 10) (oi := ⟨some 24, _, _, _, _, _⟩) (v := ?_) rfl (by kernel_rfl) (by kernel_rfl) (by kernel_rfl) (fun _ _ _ h => h) (Or.inl ⟨by rfl, ?_⟩) (by assumption) ?_
        rotate_left
        · intro w hSw; (try dsimp only at hSw); go_simp; try with_reducible rfl
        (try simp only [Act.put, List.setIfInBounds_toArray, List.set_cons_zero, List.set_cons_succ])
        refine wpAnyH_ready (rs := [11]) (by kernel_rfl) (by simp) ?_
        refine (AllReadyH.cons (o := ⟨some 25, _, _, _, _, _⟩) rfl (fun K hK => ?_) AllReadyH.nil)
        rw [if_pos (by rfl)]
        go_simp
        go_at_call 118
        refine (look_any (gm := gm) hX HG.out (by omega) z.1 z.2 S HL.out).mono ?_
        rintro _ w5 ⟨u, rfl, h4⟩
        have hE := h4
        clear h4
        refine hK.out _ _ ?_ (fun hHeld => ?_)
        · exact ⟨Loads.blk (P := Tryz.prog) (T := 3) hE TyS.out (.tail _ (List.mem_append_right _ (.head _))) rfl, Loads.blk (P := Tryz.prog) (T := 3) hE TyS.out (.tail _ (List.mem_append_right _ (.tail _ (.head _)))) rfl, Loads.blkA (P := Tryz.prog) (T := 83) (vs := [.int .i64 z.1, .int .i64 z.2]) hE (TyA.out (n := 2)) (.tail _ (List.mem_append_right _ (.head _))) (rfl), Loads.blk (P := Tryz.prog) (T := 24) hE TyS.out (.tail _ (List.mem_append_right _ (.tail _ (.tail _ (.tail _ (.head _)))))) rfl, Loads.blkA (P := Tryz.prog) (T := 32) (vs := bytesV S) hE ((by rw [HL.out.v]; exact TyA.out)) (.tail _ (List.mem_append_right _ (.tail _ (.tail _ (.head _))))) (ptr_sum _ _ _ _)⟩
        clear hK K
        (try simp only [Act.put, List.setIfInBounds_toArray, List.set_cons_zero, List.set_cons_succ])
        refine wpAnyH_done (by kernel_rfl) ?_ _
        clear hHeld
        have hR2 := hR _ _ HR.out (St.keeps HST.out hE)
        have hY0 : cY w0 M gm ga x (bxP g3 g4 g5 gm but (ptrCells (.slice (some ⟨bb, off, none⟩) n c) b v S)) l but S N0 Xp ⟨k, m, u⟩ _ := ⟨by show k < _; omega, by show (l.getD k (0, 0)).1 ≠ but; rw [← HZ.out]; exact he, HG.out, X, HX.out, (by
          have h := sub_x (A := .rowP isB u _ 1 _ _ :: mP gm ga x _) (St.joinAll HST.out hE)
          unfold YV.B YV.next YV.pl
          dsimp only
          rw [← HZ.out]
          exact h)⟩
        obtain ⟨fn, tmps, assign, body, hy, hRR⟩ := hY _ _ hY0 hR2
        unfold cE YV.pl at hy
        dsimp only at hy
        rw [← HZ.out] at hy
        refine QT_intro ?_
        refine QLI_intro ?_
        gi_wp2
        refine hRR.mono ?_
        rintro e W3 (⟨rfl, ⟨s, hns, hI3⟩, hR3⟩ | ⟨rfl, hJ⟩)
        · gi_wp2
          refine QLI_intro ?_
          gi_wp2
          refine QLI_intro ?_
          gi_wp2
          go_roundw
          case rel =>
            refine ⟨k + 1, s.2, by go_num, ?_, hR3⟩
            unfold cN at hns
            subst hns
            exact hI3
          case measure => simp [intOf]; omega
        · gi_wp2
          refine QLI_intro ?_
          gi_wp2
          refine QLI_intro ?_
          gi_wp2
          refine bodyPost_ret (results_none rfl _ _ _) rfl ?_
          exact ⟨⟨_, rfl⟩, .inr hJ⟩
    · have d0 : decide ((k : Int) < (n : Int)) = false := decide_eq_false (by omega)
      gi_wp2
      go_end0
      exact ⟨⟨_, rfl⟩, .inl ⟨(k, m), by show k = l.length; have := hI1.1; have : k ≤ l.length := this; omega, hI1, hR1⟩⟩
end
end Go.Proofs.YtmdfbdfijnmhkaaGreat
namespace Go.Proofs.YtmdfbdfijnmhkaaGreat
set_option linter.unusedVariables false
set_option linter.unusedSimpArgs false
open Go.RowKit Hp
set_option maxHeartbeats 400000
theorem nothing_any (sv : Value) (b l : Int) (S : List UInt8) (w : World) (hS : L32 S) :
    Calls Tryz.prog 142 #[.agg (ptrCells sv b l S).toArray] w fun e w' => e = .returned (.bool (nothingB b l S)) ∧ St w [] w' [] := by
  go_enter Tryz.func142, Tryz.ntmps142
  have hst := St.refl w
  go_wp2_with (first | go_big_skip | go_big_guard | (refine wl_boxA hst rfl rfl rfl ?_; intro g w1 hst1; clear hst) | (refine wl_loadE rfl rfl rfl ?_; first | refine ⟨_, Loads.at [] hst1 rfl, ?_⟩ | refine ⟨_, Loads.atA (bytesV S) [] hst1 (hS.v) (ptr_sum _ _ _ _), ?_⟩) | (refine wl_build0 rfl rfl ?_) | (refine wl_eql_bytes rfl rfl rfl rfl (hS.two L32.nones) ?_))
  all_goals (go_ret; exact ⟨ret_bool (by simp [nothingB, *]), hst1.nil⟩)
theorem hole_any (ao : Option Addr) (n c : Nat) (b l : Int) (S : List UInt8) (w : World) (hS : L32 S) :
    Calls Tryz.prog 96 #[.agg (ptrCells (.slice ao n c) b l S).toArray] w fun e w' => e = .returned (.bool (holeB n b l S)) ∧ St w [] w' [] := by
  go_enter Tryz.func96, Tryz.ntmps96
  have hst := St.refl w
  go_wp2_with (first | go_big_skip | go_big_guard | (refine wl_boxA hst rfl rfl rfl ?_; intro g w1 hst1; clear hst) | (refine wl_loadE rfl rfl rfl ?_; first | refine ⟨_, Loads.at [] hst1 rfl, ?_⟩ | refine ⟨_, Loads.atA (ptrCells (.slice ao n c) b l S) [] hst1 (ptr_len hS _ _ _) (ptr_all _ _ _ _), ?_⟩) | (go_at_call 142; refine (nothing_any _ _ _ _ _ hS).mono ?_; rintro _ _ ⟨rfl, hcall⟩; replace hst1 := St.call0 hst1 hcall; clear hcall))
  all_goals (go_ret; exact ⟨ret_bool (by grind [holeB]), hst1.nil⟩)
end Go.Proofs.YtmdfbdfijnmhkaaGreat
namespace Go.Proofs.YtmdfbdfijnmhkaaGreat
set_option linter.unusedVariables false
set_option linter.unusedSimpArgs false
open Go.RowKit Hp
set_option maxHeartbeats 400000
theorem may_any (ao : Option Addr) (n c : Nat) (l : List (Int × Int)) (w : World) (hA : Rd w (.slice ao n c) 2 n (addrsV l)) (hn : l.length = n) :
    Calls Tryz.prog 141 #[.slice ao n c] w fun e w' => e = .returned (.bool (mayB l)) ∧ St w [] w' [] := by
  have hbd := hA.bd
  have hbd1 := hbd.1
  have hbd2 := hbd.2.1
  clear hbd
  have Hn := hid hn; clear hn
  go_enter Tryz.func141, Tryz.ntmps141
  have hst := St.refl w
  go_wp2_with (first | go_big_skip | go_big_guard | (refine wl_alloc hst rfl rfl ?_; intro g w1 hst1; clear hst))
  go_loopw [8] (fun i wr => ∃ k : Nat, k ≤ n ∧ i = .int .i64 k ∧ okP l k = true ∧ St w [] wr [.blk g 204 (seenV (l.take k))]) (fun i _ => n - (intOf i).toNat)
  case atStart => exact ⟨0, Nat.zero_le _, rfl, okP_zero l, hst1⟩
  case round =>
    obtain ⟨k, hk, rfl, hok, hst2⟩ := hrel
    clear hst1
    by_cases hlt : k < n
    · obtain ⟨b, off, rfl, hr⟩ := hA.at hlt
      obtain ⟨x, hx⟩ : ∃ x, x = l.getD k (0, 0) := ⟨_, rfl⟩
      have hb := addr_both hr (k := k) (by rw [Hn.out]; exact hlt)
      rw [← hx] at hb
      have Hx := hid hx; clear hx
      have Hok := hid hok; clear hok
      go_wp2_with (first | go_big_skip | go_big_guard | (refine wl_index rfl rfl rfl rfl (hlt) ?_) | (refine wl_loadE rfl rfl rfl ?_; first | refine ⟨_, Loads.oldA hst2 rfl (hb), ?_⟩) | (refine wl_alloc hst2 rfl rfl ?_; intro ga w3 hst3; clear hst2) | (refine wl_store [] hst3 rfl rfl rfl (v := .agg (List.toArray _)) rfl rfl rfl ?_ ?_; (exact Nat.le_refl _); intro w4 hst4; clear hst3; (simp [putAt] at hst4)) | (refine wl_store [_] hst4 rfl rfl rfl (v := .bool _) rfl rfl rfl ?_ ?_; ((rw [length_seenV]; show x.fst.toNat + 1 ≤ 8; omega)); intro w5 hst5; clear hst4; (skip)) | (refine wl_loadE rfl rfl rfl ?_; first | refine ⟨_, Loads.at [] hst4 rfl, ?_⟩ | refine ⟨_, Loads.at [_] hst4 (seenV_get _ (by omega)), ?_⟩))
      all_goals first
        | (go_ret; exact ⟨ret_bool (may_stop1 (by rw [Hn.out]; exact hlt) Hx.out (by omega)).symm, hst4.nil⟩)
        | (go_ret; exact ⟨ret_bool (may_stop2 (by rw [Hn.out]; exact hlt) Hx.out (by omega) (by assumption)).symm, hst4.nil⟩)
        | (have hgo := may_go (by rw [Hn.out]; exact hlt) Hx.out Hok.out (by omega) (by omega) (by omega) (by omega) (by assumption)
           go_roundw
           case rel => exact ⟨k + 1, by omega, by go_num, hgo.1, by rw [← hgo.2]; exact hst5.sub (List.sublist_append_right _ _)⟩
           case measure => simp [intOf]; omega)
        | skip
      go_goals
      go_ways
    · have hkn : k = n := by omega
      have hme := may_end (l := l) (k := k) (by rw [Hn.out]; omega) hok
      rw [Hn.out] at hme
      have Hm := hid hme; clear hme hok
      go_wp2_with (first | go_big_skip | go_big_guard | fail)
      all_goals (go_ret; exact ⟨ret_bool (by rw [Hm.out]; grind), hst2.nil⟩)
end Go.Proofs.YtmdfbdfijnmhkaaGreat
namespace Go.Proofs.YtmdfbdfijnmhkaaGreat
set_option linter.unusedVariables false
set_option linter.unusedSimpArgs false
open Go.RowKit Hp
set_option maxHeartbeats 400000
end Go.Proofs.YtmdfbdfijnmhkaaGreat
namespace Go.Proofs.YtmdfbdfijnmhkaaGreat
set_option linter.unusedVariables false
set_option linter.unusedSimpArgs false
open Go.RowKit Hp
set_option maxHeartbeats 400000
end Go.Proofs.YtmdfbdfijnmhkaaGreat
namespace Go.Proofs.YtmdfbdfijnmhkaaGreat
set_option linter.unusedVariables false
set_option linter.unusedSimpArgs false
open Go.RowKit Hp
set_option maxHeartbeats 400000
theorem check_any (ao : Option Addr) (n c : Nat) (l : List (Int × Int)) (b v : Int) (S : List UInt8) (w : World) (hS : L32 S) (hA : Rd w (.slice ao n c) 2 n (addrsV l)) (hn : l.length = n) :
    Calls Tryz.prog 95 #[.agg (ptrCells (.slice ao n c) b v S).toArray] w fun e w' => e = .returned (.int .i64 (checkE l b v S)) ∧ St w [] w' [] := by
  have Hn := hid hn; clear hn
  go_enter Tryz.func95, Tryz.ntmps95
  have hst := St.refl w
  go_wp2_with (first | go_big_skip | go_big_guard | (refine wl_boxA hst rfl rfl rfl ?_; intro g w1 hst1; clear hst) | (refine wl_loadE rfl rfl rfl ?_; first | refine ⟨_, Loads.at [] hst1 rfl, ?_⟩ | refine ⟨_, Loads.atA (ptrCells (.slice ao n c) b v S) [] hst1 (ptr_len hS _ _ _) (ptr_all _ _ _ _), ?_⟩) | (go_at_call 96; refine (hole_any _ _ _ _ _ _ _ hS).mono ?_; rintro _ _ ⟨rfl, hcall⟩; replace hst1 := St.call0 hst1 hcall; clear hcall) | (go_at_call 141; refine (may_any _ _ _ l _ (Rd.old hst1 hA) Hn.out).mono ?_; rintro _ _ ⟨rfl, hcall⟩; replace hst1 := St.call0 hst1 hcall; clear hcall))
  all_goals (go_ret; exact ⟨ret_int (by have := Hn.out; unfold checkE checkB; grind), hst1.nil⟩)
end Go.Proofs.YtmdfbdfijnmhkaaGreat
namespace Go.Proofs.YtmdfbdfijnmhkaaGreat
set_option linter.unusedVariables false
set_option linter.unusedSimpArgs false
open Go.RowKit Hp
set_option maxHeartbeats 400000
section
variable (ao ao' : Option Addr) (n c n' c' : Nat) (l r : List (Int × Int)) (b v b' v' : Int) (S S' : List UInt8) (w : World) (hS : L32 S) (hS' : L32 S')
  (hA : Rd w (.slice ao n c) 2 n (addrsV l)) (hn : l.length = n) (hB : Rd w (.slice ao' n' c') 2 n' (addrsV r)) (hn' : r.length = n')
include hS hS' hA hn hB hn'
end
end Go.Proofs.YtmdfbdfijnmhkaaGreat
