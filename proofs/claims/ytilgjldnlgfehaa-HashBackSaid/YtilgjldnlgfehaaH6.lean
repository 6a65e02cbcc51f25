import Derived.Test.YtilgjldnlgfehaaH5
namespace Go.Proofs.Ytilgjldnlgfehaa
set_option linter.unusedVariables false
set_option linter.unusedSimpArgs false
open Go.RowKit Hp
attribute [local irreducible] Go.Calls
set_option maxHeartbeats 4000000
set_option maxRecDepth 100000
theorem bld8A (a b c d e f g h : Int) : Try.prog.built 36 [(0, .int .u32 a), (1, .int .u32 b), (2, .int .u32 c), (3, .int .u32 d), (4, .int .u32 e), (5, .int .u32 f), (6, .int .u32 g), (7, .int .u32 h)] = some #[.int .u32 a, .int .u32 b, .int .u32 c, .int .u32 d, .int .u32 e, .int .u32 f, .int .u32 g, .int .u32 h] := by kernel_rfl
def zS : S8 := ⟨0, 0, 0, 0, 0, 0, 0, 0⟩
instance tyB36 : TyB Try.prog 36 (wordsV zS.list) := ⟨by kernel_rfl⟩
def turnOut (s : S8) (p : List UInt8) (w : World) (e : Ending) (w' : World) : Prop :=
  (if p.length = 64 then e = .returned (.tuple #[.agg (wordsV (s.turn p).list).toArray, .int .i64 0]) else e = .returned (.tuple #[.agg (wordsV zS.list).toArray, .int .i64 2])) ∧ St w [] w' []
theorem turn_no (s : S8) (p : List UInt8) (ao : Option Addr) (n c : Nat) (w : World) (hl : p.length = n) (hn : n ≠ 64) :
    Calls Try.prog 19 #[.agg (wordsV s.list).toArray, .slice ao n c] w (turnOut s p w) := by
  have hst := St.refl w
  have d : ((n : Int) != 64) = true := by simp; omega
  have Hn := hid hn
  have Hl := hid hl
  clear hn hl
  go_enter Try.func19, Try.ntmps19
  go_wp2_with (first | go_big_skip | go_big_guard | (refine wl_boxA hst rfl rfl rfl ?_; intro g2 _ hst1; clear hst) | (refine wl_alloc hst1 rfl rfl ?_; intro g4 _ hst2; clear hst1) | (refine wl_build0 rfl rfl ?_) | (refine wl_storeA [] hst2 rfl rfl rfl rfl rfl rfl rfl ?_; intro _ hst3; clear hst2))
  have hl := Loads.atA (P := Try.prog) (off := 0) (T := 36) (wordsV zS.list) [] hst3 rfl rfl
  refine bodyPost_ret (results_cellTmp rfl rfl hl) rfl ?_
  unfold turnOut
  rw [if_neg (by rw [Hl.out]; exact Hn.out)]
  exact ⟨rfl, hst3.nil⟩
theorem refTurn_no (s : S8) (p : List UInt8) (ao : Option Addr) (n c : Nat) (w : World) (hl : p.length = n) (hn : n ≠ 64) :
    Calls Try.prog 20 #[.agg (wordsV s.list).toArray, .slice ao n c] w (turnOut s p w) := by
  have hst := St.refl w
  have d : ((n : Int) != 64) = true := by simp; omega
  have Hn := hid hn
  have Hl := hid hl
  clear hn hl
  go_enter Try.func20, Try.ntmps20
  go_wp2_with (first | go_big_skip | go_big_guard | (refine wl_boxA hst rfl rfl rfl ?_; intro g2 _ hst1; clear hst) | (refine wl_alloc hst1 rfl rfl ?_; intro g4 _ hst2; clear hst1) | (refine wl_build0 rfl rfl ?_) | (refine wl_storeA [] hst2 rfl rfl rfl rfl rfl rfl rfl ?_; intro _ hst3; clear hst2))
  have hl := Loads.atA (P := Try.prog) (off := 0) (T := 36) (wordsV zS.list) [] hst3 rfl rfl
  refine bodyPost_ret (results_cellTmp rfl rfl hl) rfl ?_
  unfold turnOut
  rw [if_neg (by rw [Hl.out]; exact Hn.out)]
  exact ⟨rfl, hst3.nil⟩
theorem turn_yes (s : S8) (p : List UInt8) (b off c : Nat) (w : World) (hp : Rd w (.slice (some ⟨b, off, none⟩) 64 c) 1 64 (bytesV p)) (hl : p.length = 64) :
    Calls Try.prog 19 #[.agg (wordsV s.list).toArray, .slice (some ⟨b, off, none⟩) 64 c] w (turnOut s p w) := by
  have hst := St.refl w
  have Hl := hid hl
  clear hl
  obtain ⟨F, hF⟩ : ∃ F, F = s.turn p := ⟨_, rfl⟩
  have HF := hid hF
  clear hF
  go_enter Try.func19, Try.ntmps19
  go_wp2_with (first | go_big_skip | go_big_guard | (refine wl_loadE rfl rfl rfl ?_; first | refine ⟨_, Loads.atA (wordsV s.list) [_] hst2 (rfl) (rfl), ?_⟩) | (refine wl_boxA hst rfl rfl rfl ?_; intro g2 _ hst1; clear hst) | (refine wl_alloc hst1 rfl rfl ?_; intro g4 _ hst2; clear hst1) | (go_at_call 36; refine (turned_any s p b off c _ (Rd.old hst2 hp) Hl.out).mono ?_; rw [← HF.out]; rintro _ _ ⟨rfl, h4⟩; have hst3 := St.call0 hst2 h4; clear h4 hst2) | (refine wl_storeA [] hst3 rfl rfl rfl rfl rfl rfl rfl ?_; intro _ hst4; clear hst3))
  have hl := Loads.atA (P := Try.prog) (off := 0) (T := 36) (wordsV F.list) [] hst4 rfl rfl
  refine bodyPost_ret (results_cellTmp rfl rfl hl) rfl ?_
  unfold turnOut
  rw [if_pos Hl.out, ← HF.out]
  exact ⟨rfl, hst4.nil⟩
theorem start_any (w : World) : Calls Try.prog 21 #[] w fun e w' => e = .returned (.agg (wordsV S8.start.list).toArray) ∧ St w [] w' [] := by
  have hst := St.refl w
  go_enter Try.func21, Try.ntmps21
  go_wp2_with (first | go_big_skip | go_big_guard | (refine wl_alloc hst rfl rfl ?_; intro g _ hst1; clear hst) | (refine wl_buildS (cs := wordsV S8.start.list) rfl rfl (by kernel_rfl) ?_) | (refine wl_storeA [] hst1 rfl rfl rfl rfl rfl rfl rfl ?_; intro _ hst2; clear hst1))
  have hl := Loads.atA (P := Try.prog) (off := 0) (T := 36) (wordsV S8.start.list) [] hst2 rfl rfl
  refine bodyPost_ret (results_cellL rfl rfl hl) rfl ⟨rfl, hst2.nil⟩
theorem refStart_any (w : World) : Calls Try.prog 22 #[] w fun e w' => e = .returned (.agg (wordsV S8.start.list).toArray) ∧ St w [] w' [] := by
  have hst := St.refl w
  go_enter Try.func22, Try.ntmps22
  go_wp2_with (first | go_big_skip | go_big_guard | (refine wl_alloc hst rfl rfl ?_; intro g _ hst1; clear hst) | (refine wl_buildS (cs := wordsV S8.start.list) rfl rfl (by kernel_rfl) ?_) | (refine wl_storeA [] hst1 rfl rfl rfl rfl rfl rfl rfl ?_; intro _ hst2; clear hst1))
  have hl := Loads.atA (P := Try.prog) (off := 0) (T := 36) (wordsV S8.start.list) [] hst2 rfl rfl
  refine bodyPost_ret (results_cellL rfl rfl hl) rfl ⟨rfl, hst2.nil⟩
section
attribute [local go_sem ↓] loadedB loadedW storedW conv8
attribute [local go_sem 5000] add32 and32 or32 xor32 not32 shl8u64e shl16u64e shl24u64e shr3u64e shr10u64e
theorem refTurn_yes (s : S8) (p : List UInt8) (b off c : Nat) (w : World) (hp : Rd w (.slice (some ⟨b, off, none⟩) 64 c) 1 64 (bytesV p)) (hl : p.length = 64) :
    Calls Try.prog 20 #[.agg (wordsV s.list).toArray, .slice (some ⟨b, off, none⟩) 64 c] w (turnOut s p w) := by
  have hst := St.refl w
  have Hl := hid hl
  clear hl
  obtain ⟨V, hV⟩ : ∃ V, V = wds p 64 := ⟨_, rfl⟩
  have HV := hid (show ∀ j, j < 64 → (wordsV V)[j]? = some (.int .u32 (wI (wdAt p j))) from fun j hj => by rw [hV, words_get _ (by rw [wds_length]; exact hj), wds_get p hj])
  have HVl := hid (show (wordsV V).length = 64 by rw [hV, length_wordsV, wds_length])
  have HV2 := hid hV
  clear hV
  go_enter Try.func20, Try.ntmps20
  go_wp2_with (first | go_big_skip | go_big_guard | (refine wl_loadE rfl rfl rfl ?_; first | refine ⟨_, Loads.atA (wordsV s.list) [_, _, _] hst8 (rfl) (rfl), ?_⟩) | (refine wl_boxA hst rfl rfl rfl ?_; intro g2 _ hst1; clear hst) | (refine wl_alloc hst1 rfl rfl ?_; intro g4 _ hst2; clear hst1) | (go_at_call 37; refine (table_any _).mono ?_; rintro _ _ ⟨rfl, h4⟩; have hst3 := St.call0 hst2 h4; clear h4 hst2) | (go_at_call 38; refine (words_any p b off c _ (Rd.old hst3 hp) Hl.out).mono ?_; rw [← HV2.out]; rintro _ _ ⟨rfl, h4⟩; have hst4 := St.call0 hst3 h4; clear h4 hst3) | (refine wl_alloc hst4 rfl rfl ?_; intro g6 _ hst5; clear hst4) | (refine wl_alloc hst5 rfl rfl ?_; intro g7 _ hst6; clear hst5) | (refine wl_storeA [_] hst6 rfl rfl rfl rfl rfl rfl rfl ?_; intro _ hst7; clear hst6) | (refine wl_storeA [] hst7 rfl rfl rfl rfl HVl.out (ones_words _) rfl ?_; intro _ hst8; clear hst7) | (refine wl_alloc hst8 rfl rfl ?_; intro g8 _ hst9; clear hst8) | (refine wl_storeA [] hst9 rfl rfl rfl rfl rfl rfl rfl ?_; intro _ hst10; clear hst9))
  have hst11 : St w [] _ [.blk g8 36 (wordsV (rnds s p 0).list), .blk g7 60 (wordsV V), .blk g6 60 (wordsV kT), .blk g4 36 (List.replicate 8 (.int .u32 0)), .blk g2 36 (wordsV s.list)] := hst10
  clear hst10
  go_loopw [9] (fun q wr => ∃ i : Nat, i ≤ 64 ∧ q = .int .i64 i ∧ St w [] wr [.blk g8 36 (wordsV (rnds s p i).list), .blk g7 60 (wordsV V), .blk g6 60 (wordsV kT), .blk g4 36 (List.replicate 8 (.int .u32 0)), .blk g2 36 (wordsV s.list)]) (fun q _ => 64 - (intOf q).toNat)
  case atStart => exact ⟨0, by omega, rfl, hst11⟩
  case round =>
    clear hst11
    obtain ⟨i, hi, rfl, hst⟩ := hrel
    by_cases hi64 : i < 64
    · obtain ⟨r, hr⟩ : ∃ r, r = rnds s p i := ⟨_, rfl⟩
      obtain ⟨K, hK⟩ : ∃ K, K = kT.getD i 0 := ⟨_, rfl⟩
      obtain ⟨D, hD0⟩ : ∃ D, D = wdAt p i := ⟨_, rfl⟩
      have HR := hid (show rnds s p (i + 1) = r.rnd K D by rw [hr, hK, hD0]; rfl)
      rw [← hr] at hst
      have gK := hid (show (wordsV kT)[i]? = some (.int .u32 (wI K)) by rw [words_get kT (by exact hi64), hK])
      have gD := hid (show (wordsV V)[i]? = some (.int .u32 (wI D)) by rw [hD0]; exact HV.out i hi64)
      have hi2 : (i : Int) < 64 := by omega
      clear hr hK hD0
      go_wp2_with (first | go_big_skip | go_big_guard | fail)
      have hD := hst.drew
      clear hst
      refine wp_region_held_drew (S := (fun w' => (loadVarH 35 ⟨g8, 0, none⟩).run Try.prog w' = .ok (.int .u32 (wI r.a)) w' ∧ (loadVarH 35 ⟨g8, 1, none⟩).run Try.prog w' = .ok (.int .u32 (wI r.b)) w' ∧ (loadVarH 35 ⟨g8, 2, none⟩).run Try.prog w' = .ok (.int .u32 (wI r.c)) w' ∧ (loadVarH 35 ⟨g8, 4, none⟩).run Try.prog w' = .ok (.int .u32 (wI r.e)) w' ∧ (loadVarH 35 ⟨g8, 5, none⟩).run Try.prog w' = .ok (.int .u32 (wI r.f)) w' ∧ (loadVarH 35 ⟨g8, 6, none⟩).run Try.prog w' = .ok (.int .u32 (wI r.g)) w')) (by kernel_rfl) (by exact ⟨ldS [] hD rfl, ldS [] hD rfl, ldS [] hD rfl, ldS [] hD rfl, ldS [] hD rfl, ldS [] hD rfl⟩) (fun hHeld => ?_)
      refine wpAnyH_take (i := 0) (oi := ⟨some 31, _, _, _, _, _⟩) (v := ?_) rfl (by kernel_rfl) (by kernel_rfl) (by kernel_rfl) (fun _ _ _ h => h) (Or.inl ⟨by rfl, ?_⟩) (by assumption) ?_
      rotate_left
      · intro w hSw; (try dsimp only at hSw); go_simp; try with_reducible rfl
      (try simp only [Act.put, List.setIfInBounds_toArray, List.set_cons_zero, List.set_cons_succ])
      refine wpAnyH_take (i := 1) (oi := ⟨some 32, _, _, _, _, _⟩) (v := ?_) rfl (by kernel_rfl) (by kernel_rfl) (by kernel_rfl) (fun _ _ _ h => h) (Or.inl ⟨by rfl, ?_⟩) (by assumption) ?_
      rotate_left
      · intro w hSw; (try dsimp only at hSw); go_simp; try with_reducible rfl
      (try simp only [Act.put, List.setIfInBounds_toArray, List.set_cons_zero, List.set_cons_succ])
      refine wpAnyH_take (i := 2) (oi := ⟨some 33, _, _, _, _, _⟩) (v := ?_) rfl (by kernel_rfl) (by kernel_rfl) (by kernel_rfl) (fun _ _ _ h => h) (Or.inl ⟨by rfl, ?_⟩) (by assumption) ?_
      rotate_left
      · intro w hSw; (try dsimp only at hSw); go_simp; try with_reducible rfl
      (try simp only [Act.put, List.setIfInBounds_toArray, List.set_cons_zero, List.set_cons_succ])
      refine wpAnyH_take (i := 3) (oi := ⟨some 34, _, _, _, _, _⟩) (v := ?_) rfl (by kernel_rfl) (by kernel_rfl) (by kernel_rfl) (fun _ _ _ h => h) (Or.inl ⟨by rfl, ?_⟩) (by assumption) ?_
      rotate_left
      · intro w hSw; (try dsimp only at hSw); go_simp; try with_reducible rfl
      (try simp only [Act.put, List.setIfInBounds_toArray, List.set_cons_zero, List.set_cons_succ])
      refine wpAnyH_take (i := 4) (oi := ⟨some 35, _, _, _, _, _⟩) (v := ?_) rfl (by kernel_rfl) (by kernel_rfl) (by kernel_rfl) (fun _ _ _ h => h) (Or.inl ⟨by rfl, ?_⟩) (by assumption) ?_
      rotate_left
      · intro w hSw; (try dsimp only at hSw); go_simp; try with_reducible rfl
      (try simp only [Act.put, List.setIfInBounds_toArray, List.set_cons_zero, List.set_cons_succ])
      refine wpAnyH_take (i := 5) (oi := ⟨some 36, _, _, _, _, _⟩) (v := ?_) rfl (by kernel_rfl) (by kernel_rfl) (by kernel_rfl) (fun _ _ _ h => h) (Or.inl ⟨by rfl, ?_⟩) (by assumption) ?_
      rotate_left
      · intro w hSw; (try dsimp only at hSw); go_simp; try with_reducible rfl
      (try simp only [Act.put, List.setIfInBounds_toArray, List.set_cons_zero, List.set_cons_succ])
      refine wpAnyH_take (i := 6) (oi := ⟨some 37, _, _, _, _, _⟩) (v := ?_) rfl (by kernel_rfl) (by kernel_rfl) (by kernel_rfl) (fun _ _ _ h => h) (Or.inl ⟨by rfl, ?_⟩) (by assumption) ?_
      rotate_left
      · intro w hSw; (try dsimp only at hSw); go_simp; try with_reducible rfl
      (try simp only [Act.put, List.setIfInBounds_toArray, List.set_cons_zero, List.set_cons_succ])
      refine wpAnyH_take (i := 7) (oi := ⟨some 38, _, _, _, _, _⟩) (v := ?_) rfl (by kernel_rfl) (by kernel_rfl) (by kernel_rfl) (fun _ _ _ h => h) (Or.inl ⟨by rfl, ?_⟩) (by assumption) ?_
      rotate_left
      · intro w hSw; (try dsimp only at hSw); go_simp; try with_reducible rfl
      (try simp only [Act.put, List.setIfInBounds_toArray, List.set_cons_zero, List.set_cons_succ])
      refine wpAnyH_take (i := 8) (oi := ⟨some 39, _, _, _, _, _⟩) (v := ?_) rfl (by kernel_rfl) (by kernel_rfl) (by kernel_rfl) (fun _ _ _ h => h) (Or.inl ⟨by rfl, ?_⟩) (by assumption) ?_
      rotate_left
      · intro w hSw; (try dsimp only at hSw); go_simp; try with_reducible rfl
      (try simp only [Act.put, List.setIfInBounds_toArray, List.set_cons_zero, List.set_cons_succ])
      refine wpAnyH_take (i := 9) (oi := ⟨some 40, _, _, _, _, _⟩) (v := ?_) rfl (by kernel_rfl) (by kernel_rfl) (by kernel_rfl) (fun _ _ _ h => h) (Or.inl ⟨by rfl, ?_⟩) (by assumption) ?_
      rotate_left
      · intro w hSw; (try dsimp only at hSw); go_simp; try with_reducible rfl
      (try simp only [Act.put, List.setIfInBounds_toArray, List.set_cons_zero, List.set_cons_succ])
      refine wpAnyH_take (i := 10) (oi := ⟨some 41, _, _, _, _, _⟩) (v := ?_) rfl (by kernel_rfl) (by kernel_rfl) (by kernel_rfl) (fun _ _ _ h => h) (Or.inl ⟨by rfl, ?_⟩) (by assumption) ?_
      rotate_left
      · intro w hSw; (try dsimp only at hSw); go_simp; try with_reducible rfl
      (try simp only [Act.put, List.setIfInBounds_toArray, List.set_cons_zero, List.set_cons_succ])
      refine wpAnyH_take (i := 11) (oi := ⟨some 42, _, _, _, _, _⟩) (v := ?_) rfl (by kernel_rfl) (by kernel_rfl) (by kernel_rfl) (fun _ _ _ h => h) (Or.inl ⟨by rfl, ?_⟩) (by assumption) ?_
      rotate_left
      · intro w hSw; (try dsimp only at hSw); go_simp; try with_reducible rfl
      (try simp only [Act.put, List.setIfInBounds_toArray, List.set_cons_zero, List.set_cons_succ])
      refine wpAnyH_take (i := 12) (oi := ⟨some 10, _, _, _, _, _⟩) (v := ?_) rfl (by kernel_rfl) (by kernel_rfl) (by kernel_rfl) (fun _ _ _ h => h) (Or.inl ⟨by rfl, ?_⟩) (by assumption) ?_
      rotate_left
      · intro w hSw; (try dsimp only at hSw); go_simp; try with_reducible rfl
      (try simp only [Act.put, List.setIfInBounds_toArray, List.set_cons_zero, List.set_cons_succ])
      refine wpAnyH_take (i := 13) (oi := ⟨some 11, _, _, _, _, _⟩) (v := ?_) rfl (by kernel_rfl) (by kernel_rfl) (by kernel_rfl) (fun _ _ _ h => h) (Or.inl ⟨by rfl, ?_⟩) (by assumption) ?_
      rotate_left
      · intro w hSw; (try dsimp only at hSw); go_simp; try with_reducible rfl
      (try simp only [Act.put, List.setIfInBounds_toArray, List.set_cons_zero, List.set_cons_succ])
      refine wpAnyH_take (i := 14) (oi := ⟨some 12, _, _, _, _, _⟩) (v := ?_) rfl (by kernel_rfl) (by kernel_rfl) (by kernel_rfl) (fun _ _ _ h => h) (Or.inl ⟨by rfl, ?_⟩) (by assumption) ?_
      rotate_left
      · intro w hSw; (try dsimp only at hSw); go_simp; try with_reducible rfl
      (try simp only [Act.put, List.setIfInBounds_toArray, List.set_cons_zero, List.set_cons_succ])
      refine wpAnyH_take (i := 15) (oi := ⟨some 13, _, _, _, _, _⟩) (v := ?_) rfl (by kernel_rfl) (by kernel_rfl) (by kernel_rfl) (fun _ _ _ h => h) (Or.inl ⟨by rfl, ?_⟩) (by assumption) ?_
      rotate_left
      · intro w hSw; (try dsimp only at hSw); go_simp; try with_reducible rfl
      (try simp only [Act.put, List.setIfInBounds_toArray, List.set_cons_zero, List.set_cons_succ])
      refine wpAnyH_take (i := 16) (oi := ⟨some 14, _, _, _, _, _⟩) (v := ?_) rfl (by kernel_rfl) (by kernel_rfl) (by kernel_rfl) (fun _ _ _ h => h) (Or.inl ⟨by rfl, ?_⟩) (by assumption) ?_
      rotate_left
      · intro w hSw; (try dsimp only at hSw); go_simp; try with_reducible rfl
      (try simp only [Act.put, List.setIfInBounds_toArray, List.set_cons_zero, List.set_cons_succ])
      refine wpAnyH_take (i := 17) (oi := ⟨some 15, _, _, _, _, _⟩) (v := ?_) rfl (by kernel_rfl) (by kernel_rfl) (by kernel_rfl) (fun _ _ _ h => h) (Or.inl ⟨by rfl, ?_⟩) (by assumption) ?_
      rotate_left
      · intro w hSw; (try dsimp only at hSw); go_simp; try with_reducible rfl
      (try simp only [Act.put, List.setIfInBounds_toArray, List.set_cons_zero, List.set_cons_succ])
      refine wpAnyH_done (by kernel_rfl) ?_ _
      clear hHeld
      go_wp2_with (first | go_big_skip | go_big_guard | fail)
      replace hD := hD.drew
      refine wp_region_held_drew (S := (fun w' => (loadVarH 35 ⟨g8, 7, none⟩).run Try.prog w' = .ok (.int .u32 (wI r.h)) w' ∧ (loadVarH 35 ⟨g6, i, none⟩).run Try.prog w' = .ok (.int .u32 (wI K)) w' ∧ (loadVarH 35 ⟨g7, i, none⟩).run Try.prog w' = .ok (.int .u32 (wI D)) w')) (by kernel_rfl) (by exact ⟨ldS [] hD rfl, ldS [_, _] hD (gK.out), ldS [_] hD (gD.out)⟩) (fun hHeld => ?_)
      refine wpAnyH_take (i := 0) (oi := ⟨some 43, _, _, _, _, _⟩) (v := ?_) rfl (by kernel_rfl) (by kernel_rfl) (by kernel_rfl) (fun _ _ _ h => h) (Or.inl ⟨by rfl, ?_⟩) (by assumption) ?_
      rotate_left
      · intro w hSw; (try dsimp only at hSw); go_simp; try with_reducible rfl
      (try simp only [Act.put, List.setIfInBounds_toArray, List.set_cons_zero, List.set_cons_succ])
      refine wpAnyH_take (i := 1) (oi := ⟨some 44, _, _, _, _, _⟩) (v := ?_) rfl (by kernel_rfl) (by kernel_rfl) (by kernel_rfl) (fun _ _ _ h => h) (Or.inl ⟨by rfl, ?_⟩) (by assumption) ?_
      rotate_left
      · intro w hSw; (try dsimp only at hSw); go_simp; try with_reducible rfl
      (try simp only [Act.put, List.setIfInBounds_toArray, List.set_cons_zero, List.set_cons_succ])
      refine wpAnyH_take (i := 2) (oi := ⟨some 45, _, _, _, _, _⟩) (v := ?_) rfl (by kernel_rfl) (by kernel_rfl) (by kernel_rfl) (fun _ _ _ h => h) (Or.inl ⟨by rfl, ?_⟩) (by assumption) ?_
      rotate_left
      · intro w hSw; (try dsimp only at hSw); go_simp; try with_reducible rfl
      (try simp only [Act.put, List.setIfInBounds_toArray, List.set_cons_zero, List.set_cons_succ])
      refine wpAnyH_take (i := 4) (oi := ⟨some 47, _, _, _, _, _⟩) (v := ?_) rfl (by kernel_rfl) (by kernel_rfl) (by kernel_rfl) (fun _ _ _ h => h) (Or.inl ⟨by rfl, ?_⟩) (by assumption) ?_
      rotate_left
      · intro w hSw; (try dsimp only at hSw); go_simp; try with_reducible rfl
      (try simp only [Act.put, List.setIfInBounds_toArray, List.set_cons_zero, List.set_cons_succ])
      refine wpAnyH_take (i := 7) (oi := ⟨some 50, _, _, _, _, _⟩) (v := ?_) rfl (by kernel_rfl) (by kernel_rfl) (by kernel_rfl) (fun _ _ _ h => h) (Or.inl ⟨by rfl, ?_⟩) (by assumption) ?_
      rotate_left
      · intro w hSw; (try dsimp only at hSw); go_simp; try with_reducible rfl
      (try simp only [Act.put, List.setIfInBounds_toArray, List.set_cons_zero, List.set_cons_succ])
      refine wpAnyH_take (i := 11) (oi := ⟨some 54, _, _, _, _, _⟩) (v := ?_) rfl (by kernel_rfl) (by kernel_rfl) (by kernel_rfl) (fun _ _ _ h => h) (Or.inl ⟨by rfl, ?_⟩) (by assumption) ?_
      rotate_left
      · intro w hSw; (try dsimp only at hSw); go_simp; try with_reducible rfl
      (try simp only [Act.put, List.setIfInBounds_toArray, List.set_cons_zero, List.set_cons_succ])
      refine wpAnyH_take (i := 12) (oi := ⟨some 55, _, _, _, _, _⟩) (v := ?_) rfl (by kernel_rfl) (by kernel_rfl) (by kernel_rfl) (fun _ _ _ h => h) (Or.inl ⟨by rfl, ?_⟩) (by assumption) ?_
      rotate_left
      · intro w hSw; (try dsimp only at hSw); go_simp; try with_reducible rfl
      (try simp only [Act.put, List.setIfInBounds_toArray, List.set_cons_zero, List.set_cons_succ])
      refine wpAnyH_take (i := 13) (oi := ⟨some 56, _, _, _, _, _⟩) (v := ?_) rfl (by kernel_rfl) (by kernel_rfl) (by kernel_rfl) (fun _ _ _ h => h) (Or.inl ⟨by rfl, ?_⟩) (by assumption) ?_
      rotate_left
      · intro w hSw; (try dsimp only at hSw); go_simp; try with_reducible rfl
      (try simp only [Act.put, List.setIfInBounds_toArray, List.set_cons_zero, List.set_cons_succ])
      refine wpAnyH_take (i := 14) (oi := ⟨some 57, _, _, _, _, _⟩) (v := ?_) rfl (by kernel_rfl) (by kernel_rfl) (by kernel_rfl) (fun _ _ _ h => h) (Or.inl ⟨by rfl, ?_⟩) (by assumption) ?_
      rotate_left
      · intro w hSw; (try dsimp only at hSw); go_simp; try with_reducible rfl
      (try simp only [Act.put, List.setIfInBounds_toArray, List.set_cons_zero, List.set_cons_succ])
      refine wpAnyH_take (i := 15) (oi := ⟨some 58, _, _, _, _, _⟩) (v := ?_) rfl (by kernel_rfl) (by kernel_rfl) (by kernel_rfl) (fun _ _ _ h => h) (Or.inl ⟨by rfl, ?_⟩) (by assumption) ?_
      rotate_left
      · intro w hSw; (try dsimp only at hSw); go_simp; try with_reducible rfl
      (try simp only [Act.put, List.setIfInBounds_toArray, List.set_cons_zero, List.set_cons_succ])
      refine wpAnyH_take (i := 16) (oi := ⟨some 59, _, _, _, _, _⟩) (v := ?_) rfl (by kernel_rfl) (by kernel_rfl) (by kernel_rfl) (fun _ _ _ h => h) (Or.inl ⟨by rfl, ?_⟩) (by assumption) ?_
      rotate_left
      · intro w hSw; (try dsimp only at hSw); go_simp; try with_reducible rfl
      (try simp only [Act.put, List.setIfInBounds_toArray, List.set_cons_zero, List.set_cons_succ])
      refine wpAnyH_take (i := 17) (oi := ⟨some 60, _, _, _, _, _⟩) (v := ?_) rfl (by kernel_rfl) (by kernel_rfl) (by kernel_rfl) (fun _ _ _ h => h) (Or.inl ⟨by rfl, ?_⟩) (by assumption) ?_
      rotate_left
      · intro w hSw; (try dsimp only at hSw); go_simp; try with_reducible rfl
      (try simp only [Act.put, List.setIfInBounds_toArray, List.set_cons_zero, List.set_cons_succ])
      refine wpAnyH_take (i := 18) (oi := ⟨some 61, _, _, _, _, _⟩) (v := ?_) rfl (by kernel_rfl) (by kernel_rfl) (by kernel_rfl) (fun _ _ _ h => h) (Or.inl ⟨by rfl, ?_⟩) (by assumption) ?_
      rotate_left
      · intro w hSw; (try dsimp only at hSw); go_simp; try with_reducible rfl
      (try simp only [Act.put, List.setIfInBounds_toArray, List.set_cons_zero, List.set_cons_succ])
      refine wpAnyH_take (i := 20) (oi := ⟨some 63, _, _, _, _, _⟩) (v := ?_) rfl (by kernel_rfl) (by kernel_rfl) (by kernel_rfl) (fun _ _ _ h => h) (Or.inl ⟨by rfl, ?_⟩) (by assumption) ?_
      rotate_left
      · intro w hSw; (try dsimp only at hSw); go_simp; try with_reducible rfl
      (try simp only [Act.put, List.setIfInBounds_toArray, List.set_cons_zero, List.set_cons_succ])
      refine wpAnyH_take (i := 21) (oi := ⟨some 64, _, _, _, _, _⟩) (v := ?_) rfl (by kernel_rfl) (by kernel_rfl) (by kernel_rfl) (fun _ _ _ h => h) (Or.inl ⟨by rfl, ?_⟩) (by assumption) ?_
      rotate_left
      · intro w hSw; (try dsimp only at hSw); go_simp; try with_reducible rfl
      (try simp only [Act.put, List.setIfInBounds_toArray, List.set_cons_zero, List.set_cons_succ])
      refine wpAnyH_take (i := 22) (oi := ⟨some 65, _, _, _, _, _⟩) (v := ?_) rfl (by kernel_rfl) (by kernel_rfl) (by kernel_rfl) (fun _ _ _ h => h) (Or.inl ⟨by rfl, ?_⟩) (by assumption) ?_
      rotate_left
      · intro w hSw; (try dsimp only at hSw); go_simp; try with_reducible rfl
      (try simp only [Act.put, List.setIfInBounds_toArray, List.set_cons_zero, List.set_cons_succ])
      refine wpAnyH_take (i := 24) (oi := ⟨some 67, _, _, _, _, _⟩) (v := ?_) rfl (by kernel_rfl) (by kernel_rfl) (by kernel_rfl) (fun _ _ _ h => h) (Or.inl ⟨by rfl, ?_⟩) (by assumption) ?_
      rotate_left
      · intro w hSw; (try dsimp only at hSw); go_simp; try with_reducible rfl
      (try simp only [Act.put, List.setIfInBounds_toArray, List.set_cons_zero, List.set_cons_succ])
      refine wpAnyH_take (i := 25) (oi := ⟨some 68, _, _, _, _, _⟩) (v := ?_) rfl (by kernel_rfl) (by kernel_rfl) (by kernel_rfl) (fun _ _ _ h => h) (Or.inl ⟨by rfl, ?_⟩) (by assumption) ?_
      rotate_left
      · intro w hSw; (try dsimp only at hSw); go_simp; try with_reducible rfl
      (try simp only [Act.put, List.setIfInBounds_toArray, List.set_cons_zero, List.set_cons_succ])
      refine wpAnyH_take (i := 26) (oi := ⟨some 69, _, _, _, _, _⟩) (v := ?_) rfl (by kernel_rfl) (by kernel_rfl) (by kernel_rfl) (fun _ _ _ h => h) (Or.inl ⟨by rfl, ?_⟩) (by assumption) ?_
      rotate_left
      · intro w hSw; (try dsimp only at hSw); go_simp; try with_reducible rfl
      (try simp only [Act.put, List.setIfInBounds_toArray, List.set_cons_zero, List.set_cons_succ])
      refine wpAnyH_ready (rs := [3]) (by kernel_rfl) (by simp) ?_
      refine (AllReadyH.cons (o := ⟨some 46, _, _, _, _, _⟩) rfl (fun K hK => ?_) AllReadyH.nil)
      go_simp
      go_at_call 39
      refine (refRight_6 _ _).mono ?_
      rintro _ _ ⟨rfl, h4⟩
      have hR1 := St.call0 hD h4
      clear h4
      refine hK.out _ _ ?_ (fun hHeld => ?_)
      · exact ⟨ldS [] hR1 rfl, ldS [_, _] hR1 (gK.out), ldS [_] hR1 (gD.out)⟩
      clear hK K
      (try simp only [Act.put, List.setIfInBounds_toArray, List.set_cons_zero, List.set_cons_succ])
      refine wpAnyH_ready (rs := [5]) (by kernel_rfl) (by simp) ?_
      refine (AllReadyH.cons (o := ⟨some 48, _, _, _, _, _⟩) rfl (fun K hK => ?_) AllReadyH.nil)
      go_simp
      go_at_call 39
      refine (refRight_11 _ _).mono ?_
      rintro _ _ ⟨rfl, h4⟩
      have hR2 := St.call0 hR1 h4
      clear h4
      refine hK.out _ _ ?_ (fun hHeld => ?_)
      · exact ⟨ldS [] hR2 rfl, ldS [_, _] hR2 (gK.out), ldS [_] hR2 (gD.out)⟩
      clear hK K
      (try simp only [Act.put, List.setIfInBounds_toArray, List.set_cons_zero, List.set_cons_succ])
      refine wpAnyH_take (i := 6) (oi := ⟨some 49, _, _, _, _, _⟩) (v := ?_) rfl (by kernel_rfl) (by kernel_rfl) (by kernel_rfl) (fun _ _ _ h => h) (Or.inl ⟨by rfl, ?_⟩) (by assumption) ?_
      rotate_left
      · intro w hSw; (try dsimp only at hSw); go_simp; try with_reducible rfl
      (try simp only [Act.put, List.setIfInBounds_toArray, List.set_cons_zero, List.set_cons_succ])
      refine wpAnyH_ready (rs := [8]) (by kernel_rfl) (by simp) ?_
      refine (AllReadyH.cons (o := ⟨some 51, _, _, _, _, _⟩) rfl (fun K hK => ?_) AllReadyH.nil)
      go_simp
      go_at_call 39
      refine (refRight_25 _ _).mono ?_
      rintro _ _ ⟨rfl, h4⟩
      have hR3 := St.call0 hR2 h4
      clear h4
      refine hK.out _ _ ?_ (fun hHeld => ?_)
      · exact ⟨ldS [] hR3 rfl, ldS [_, _] hR3 (gK.out), ldS [_] hR3 (gD.out)⟩
      clear hK K
      (try simp only [Act.put, List.setIfInBounds_toArray, List.set_cons_zero, List.set_cons_succ])
      refine wpAnyH_take (i := 9) (oi := ⟨some 52, _, _, _, _, _⟩) (v := ?_) rfl (by kernel_rfl) (by kernel_rfl) (by kernel_rfl) (fun _ _ _ h => h) (Or.inl ⟨by rfl, ?_⟩) (by assumption) ?_
      rotate_left
      · intro w hSw; (try dsimp only at hSw); go_simp; try with_reducible rfl
      (try simp only [Act.put, List.setIfInBounds_toArray, List.set_cons_zero, List.set_cons_succ])
      refine wpAnyH_take (i := 10) (oi := ⟨some 53, _, _, _, _, _⟩) (v := ?_) rfl (by kernel_rfl) (by kernel_rfl) (by kernel_rfl) (fun _ _ _ h => h) (Or.inl ⟨by rfl, ?_⟩) (by assumption) ?_
      rotate_left
      · intro w hSw; (try dsimp only at hSw); go_simp; try with_reducible rfl
      (try simp only [Act.put, List.setIfInBounds_toArray, List.set_cons_zero, List.set_cons_succ])
      refine wpAnyH_take (i := 19) (oi := ⟨some 62, _, _, _, _, _⟩) (v := ?_) rfl (by kernel_rfl) (by kernel_rfl) (by kernel_rfl) (fun _ _ _ h => h) (Or.inl ⟨by rfl, ?_⟩) (by assumption) ?_
      rotate_left
      · intro w hSw; (try dsimp only at hSw); go_simp; try with_reducible rfl
      (try simp only [Act.put, List.setIfInBounds_toArray, List.set_cons_zero, List.set_cons_succ])
      refine wpAnyH_take (i := 23) (oi := ⟨some 66, _, _, _, _, _⟩) (v := ?_) rfl (by kernel_rfl) (by kernel_rfl) (by kernel_rfl) (fun _ _ _ h => h) (Or.inl ⟨by rfl, ?_⟩) (by assumption) ?_
      rotate_left
      · intro w hSw; (try dsimp only at hSw); go_simp; try with_reducible rfl
      (try simp only [Act.put, List.setIfInBounds_toArray, List.set_cons_zero, List.set_cons_succ])
      refine wpAnyH_take (i := 27) (oi := ⟨some 70, _, _, _, _, _⟩) (v := ?_) rfl (by kernel_rfl) (by kernel_rfl) (by kernel_rfl) (fun _ _ _ h => h) (Or.inl ⟨by rfl, ?_⟩) (by assumption) ?_
      rotate_left
      · intro w hSw; (try dsimp only at hSw); go_simp; try with_reducible rfl
      (try simp only [Act.put, List.setIfInBounds_toArray, List.set_cons_zero, List.set_cons_succ])
      refine wpAnyH_take (i := 28) (oi := ⟨some 16, _, _, _, _, _⟩) (v := ?_) rfl (by kernel_rfl) (by kernel_rfl) (by kernel_rfl) (fun _ _ _ h => h) (Or.inl ⟨by rfl, ?_⟩) (by assumption) ?_
      rotate_left
      · intro w hSw; (try dsimp only at hSw); go_simp; try with_reducible rfl
      (try simp only [Act.put, List.setIfInBounds_toArray, List.set_cons_zero, List.set_cons_succ])
      refine wpAnyH_done (by kernel_rfl) ?_ _
      clear hHeld
      go_wp2_with (first | go_big_skip | go_big_guard | (refine wl_loadE rfl rfl rfl ?_; first | refine ⟨_, Loads.at [] hR3 rfl, ?_⟩ | refine ⟨_, Loads.at [_] hR3 rfl, ?_⟩ | refine ⟨_, Loads.at [_, _] hR3 rfl, ?_⟩ | refine ⟨_, Loads.at [_, _, _] hR3 rfl, ?_⟩ | refine ⟨_, Loads.at [_, _, _, _] hR3 rfl, ?_⟩ | refine ⟨_, Loads.at [] hst100 rfl, ?_⟩ | refine ⟨_, Loads.at [_] hst100 rfl, ?_⟩ | refine ⟨_, Loads.at [_, _] hst100 rfl, ?_⟩ | refine ⟨_, Loads.at [_, _, _] hst100 rfl, ?_⟩ | refine ⟨_, Loads.at [_, _, _, _] hst100 rfl, ?_⟩ | refine ⟨_, Loads.at [] hst101 rfl, ?_⟩ | refine ⟨_, Loads.at [_] hst101 rfl, ?_⟩ | refine ⟨_, Loads.at [_, _] hst101 rfl, ?_⟩ | refine ⟨_, Loads.at [_, _, _] hst101 rfl, ?_⟩ | refine ⟨_, Loads.at [_, _, _, _] hst101 rfl, ?_⟩ | refine ⟨_, Loads.at [] hst102 rfl, ?_⟩ | refine ⟨_, Loads.at [_] hst102 rfl, ?_⟩ | refine ⟨_, Loads.at [_, _] hst102 rfl, ?_⟩ | refine ⟨_, Loads.at [_, _, _] hst102 rfl, ?_⟩ | refine ⟨_, Loads.at [_, _, _, _] hst102 rfl, ?_⟩ | refine ⟨_, Loads.at [] hst103 rfl, ?_⟩ | refine ⟨_, Loads.at [_] hst103 rfl, ?_⟩ | refine ⟨_, Loads.at [_, _] hst103 rfl, ?_⟩ | refine ⟨_, Loads.at [_, _, _] hst103 rfl, ?_⟩ | refine ⟨_, Loads.at [_, _, _, _] hst103 rfl, ?_⟩) | (go_at_call 39; refine (refRight_2 _ _).mono ?_; rintro _ _ ⟨rfl, h4⟩; have hst100 := St.call0 hR3 h4; clear h4 hR3) | (go_at_call 39; refine (refRight_13 _ _).mono ?_; rintro _ _ ⟨rfl, h4⟩; have hst101 := St.call0 hst100 h4; clear h4 hst100) | (go_at_call 39; refine (refRight_22 _ _).mono ?_; rintro _ _ ⟨rfl, h4⟩; have hst102 := St.call0 hst101 h4; clear h4 hst101) | (apply wl_buildX [(0, .int .u32 _), (1, .int .u32 _), (2, .int .u32 _), (3, .int .u32 _), (4, .int .u32 _), (5, .int .u32 _), (6, .int .u32 _), (7, .int .u32 _)]; rfl; rfl; exact rfl; exact bld8A _ _ _ _ _ _ _ _) | (refine wl_storeA [] hst102 rfl rfl rfl rfl (rfl) (rfl) (rfl) ?_; intro _ hst103; clear hst102))
      have hst12 : St w [] _ [.blk g8 36 (wordsV (r.rnd K D).list), .blk g7 60 (wordsV V), .blk g6 60 (wordsV kT), .blk g4 36 (List.replicate 8 (.int .u32 0)), .blk g2 36 (wordsV s.list)] := hst103
      rw [← HR.out] at hst12
      clear hst103
      go_roundw
      case rel => exact ⟨i + 1, by omega, by go_num, hst12⟩
      case measure => simp [intOf]; omega
    · have e : i = 64 := by omega
      subst e
      rw [show ((64 : Nat) : Int) = 64 from rfl]
      clear hi hi64
      obtain ⟨r, hr⟩ : ∃ r, r = rnds s p 64 := ⟨_, rfl⟩
      obtain ⟨F, hF⟩ : ∃ F, F = r.add s := ⟨_, rfl⟩
      have HR := hid (show s.turn p = F by rw [hF, hr]; rfl)
      have HF := hid hF
      rw [← hr] at hst
      clear hr hF
      have hst0 : St w [] wr [.blk g8 36 (wordsV (addP r.list s.list 0)), .blk g7 60 (wordsV V), .blk g6 60 (wordsV kT), .blk g4 36 (List.replicate 8 (.int .u32 0)), .blk g2 36 (wordsV s.list)] := hst
      clear hst
      go_wp2_with (first | go_big_skip | go_big_guard | fail)
      go_loopw [18] (fun q wr => ∃ j : Nat, j ≤ 8 ∧ q = .int .i64 j ∧ St w [] wr [.blk g8 36 (wordsV (addP r.list s.list j)), .blk g7 60 (wordsV V), .blk g6 60 (wordsV kT), .blk g4 36 (List.replicate 8 (.int .u32 0)), .blk g2 36 (wordsV s.list)]) (fun q _ => 8 - (intOf q).toNat)
      case atStart => exact ⟨0, by omega, rfl, hst0⟩
      case round =>
        clear hst0
        obtain ⟨j, hj, rfl, hst⟩ := hrel
        by_cases hj8 : j < 8
        · have hjz : (j : Int) < 8 := by omega
          have hlr : (addP r.list s.list j).length = 8 := length_addP _ _ _
          obtain ⟨A, hA⟩ : ∃ A, A = r.list.getD j 0 := ⟨_, rfl⟩
          obtain ⟨B, hB⟩ : ∃ A, A = s.list.getD j 0 := ⟨_, rfl⟩
          have gA := hid (show (wordsV (addP r.list s.list j))[j]? = some (.int .u32 (wI A)) by rw [words_get _ (by omega), addP_get _ _ _ _ (Nat.le_refl _), hA])
          have gB := hid (show (wordsV s.list)[j]? = some (.int .u32 (wI B)) by rw [words_get _ (by exact hj8), hB])
          have HA2 := hid (show (addP r.list s.list j).set j (A + B) = addP r.list s.list (j + 1) by rw [hA, hB]; rfl)
          have Hlr := hid hlr
          clear hA hB hlr
          go_wp2_with (first | go_big_skip | go_big_guard | fail)
          have hD := hst.drew
          clear hst
          refine wp_region_last (S := (fun w' => (loadVarH 35 ⟨g8, j, none⟩).run Try.prog w' = .ok (.int .u32 (wI A)) w' ∧ (loadVarH 35 ⟨g2, j, none⟩).run Try.prog w' = .ok (.int .u32 (wI B)) w')) (by kernel_rfl) rfl (by kernel_rfl) (by exact ⟨ldS [] hD (gA.out), ldS [_, _, _, _] hD (gB.out)⟩) (fun hHeld => ?_)
          simp only [List.pop_toArray, List.dropLast, List.size_toArray, List.length_cons, List.length_nil]
          refine wpAnyH_take (i := 0) (oi := ⟨some 109, _, _, _, _, _⟩) (v := ?_) rfl (by kernel_rfl) (by kernel_rfl) (by kernel_rfl) (fun _ _ _ h => h) (Or.inl ⟨by rfl, ?_⟩) (by assumption) ?_
          rotate_left
          · intro w hSw; (try dsimp only at hSw); go_simp; try with_reducible rfl
          (try simp only [Act.put, List.setIfInBounds_toArray, List.set_cons_zero, List.set_cons_succ])
          refine wpAnyH_take (i := 1) (oi := ⟨some 110, _, _, _, _, _⟩) (v := ?_) rfl (by kernel_rfl) (by kernel_rfl) (by kernel_rfl) (fun _ _ _ h => h) (Or.inl ⟨by rfl, ?_⟩) (by assumption) ?_
          rotate_left
          · intro w hSw; (try dsimp only at hSw); go_simp; try with_reducible rfl
          (try simp only [Act.put, List.setIfInBounds_toArray, List.set_cons_zero, List.set_cons_succ])
          refine wpAnyH_take (i := 2) (oi := ⟨some 111, _, _, _, _, _⟩) (v := ?_) rfl (by kernel_rfl) (by kernel_rfl) (by kernel_rfl) (fun _ _ _ h => h) (Or.inl ⟨by rfl, ?_⟩) (by assumption) ?_
          rotate_left
          · intro w hSw; (try dsimp only at hSw); go_simp; try with_reducible rfl
          (try simp only [Act.put, List.setIfInBounds_toArray, List.set_cons_zero, List.set_cons_succ])
          refine wpAnyH_take (i := 3) (oi := ⟨some 112, _, _, _, _, _⟩) (v := ?_) rfl (by kernel_rfl) (by kernel_rfl) (by kernel_rfl) (fun _ _ _ h => h) (Or.inl ⟨by rfl, ?_⟩) (by assumption) ?_
          rotate_left
          · intro w hSw; (try dsimp only at hSw); go_simp; try with_reducible rfl
          (try simp only [Act.put, List.setIfInBounds_toArray, List.set_cons_zero, List.set_cons_succ])
          refine wpAnyH_take (i := 4) (oi := ⟨some 113, _, _, _, _, _⟩) (v := ?_) rfl (by kernel_rfl) (by kernel_rfl) (by kernel_rfl) (fun _ _ _ h => h) (Or.inl ⟨by rfl, ?_⟩) (by assumption) ?_
          rotate_left
          · intro w hSw; (try dsimp only at hSw); go_simp; try with_reducible rfl
          (try simp only [Act.put, List.setIfInBounds_toArray, List.set_cons_zero, List.set_cons_succ])
          refine wpAnyH_take (i := 5) (oi := ⟨some 114, _, _, _, _, _⟩) (v := ?_) rfl (by kernel_rfl) (by kernel_rfl) (by kernel_rfl) (fun _ _ _ h => h) (Or.inl ⟨by rfl, ?_⟩) (by assumption) ?_
          rotate_left
          · intro w hSw; (try dsimp only at hSw); go_simp; try with_reducible rfl
          (try simp only [Act.put, List.setIfInBounds_toArray, List.set_cons_zero, List.set_cons_succ])
          refine wpAnyH_take (i := 6) (oi := ⟨some 115, _, _, _, _, _⟩) (v := ?_) rfl (by kernel_rfl) (by kernel_rfl) (by kernel_rfl) (fun _ _ _ h => h) (Or.inl ⟨by rfl, ?_⟩) (by assumption) ?_
          rotate_left
          · intro w hSw; (try dsimp only at hSw); go_simp; try with_reducible rfl
          (try simp only [Act.put, List.setIfInBounds_toArray, List.set_cons_zero, List.set_cons_succ])
          refine wpAnyH_take (i := 7) (oi := ⟨some 116, _, _, _, _, _⟩) (v := ?_) rfl (by kernel_rfl) (by kernel_rfl) (by kernel_rfl) (fun _ _ _ h => h) (Or.inl ⟨by rfl, ?_⟩) (by assumption) ?_
          rotate_left
          · intro w hSw; (try dsimp only at hSw); go_simp; try with_reducible rfl
          (try simp only [Act.put, List.setIfInBounds_toArray, List.set_cons_zero, List.set_cons_succ])
          refine wpAnyH_take (i := 8) (oi := ⟨some 117, _, _, _, _, _⟩) (v := ?_) rfl (by kernel_rfl) (by kernel_rfl) (by kernel_rfl) (fun _ _ _ h => h) (Or.inl ⟨by rfl, ?_⟩) (by assumption) ?_
          rotate_left
          · intro w hSw; (try dsimp only at hSw); go_simp; try with_reducible rfl
          (try simp only [Act.put, List.setIfInBounds_toArray, List.set_cons_zero, List.set_cons_succ])
          refine wpAnyH_done (by kernel_rfl) ?_ _
          clear hHeld
          refine QL_intro ?_
          refine wl_store [] hD rfl rfl rfl (v := .int .u32 (wI (A + B))) rfl rfl rfl (by rw [length_wordsV, Hlr.out]; show j + 1 ≤ 8; omega) ?_
          intro w1 h1
          have h2 := st_setL [] (by rw [Hlr.out]; exact hj8) h1
          rw [HA2.out] at h2
          clear h1 hD
          (try simp only [Act.put, List.setIfInBounds_toArray, List.set_cons_zero, List.set_cons_succ])
          go_wp2_with (first | go_big_skip | go_big_guard | fail)
          go_roundw
          case rel => exact ⟨j + 1, by omega, by go_num, h2⟩
          case measure => simp [intOf]; omega
        · have e : j = 8 := by omega
          subst e
          rw [addP_all, ← HF.out] at hst
          go_wp2_with (first | go_big_skip | go_big_guard | (refine wl_loadE rfl rfl rfl ?_; first | refine ⟨_, Loads.atA (wordsV F.list) [] hst (rfl) (rfl), ?_⟩) | (refine wl_storeA [_, _, _] hst rfl rfl rfl rfl rfl rfl rfl ?_; intro w12 hst12; clear hst))
          have hl := Loads.atA (P := Try.prog) (off := 0) (T := 36) (wordsV F.list) [_, _, _] hst12 rfl rfl
          refine bodyPost_ret (results_cellTmp rfl rfl hl) rfl ?_
          unfold turnOut
          rw [if_pos Hl.out, HR.out]
          exact ⟨rfl, hst12.nil⟩
end
theorem turn_any (s : S8) (p : List UInt8) (ao : Option Addr) (n c : Nat) (w : World) (hp : Rd w (.slice ao n c) 1 n (bytesV p)) (hl : p.length = n) :
    Calls Try.prog 19 #[.agg (wordsV s.list).toArray, .slice ao n c] w (turnOut s p w) := by
  by_cases h : n = 64
  · subst h
    obtain ⟨b, off, rfl, _⟩ := hp.at (k := 0) (by decide)
    exact turn_yes s p b off c w hp hl
  · exact turn_no s p ao n c w hl h
theorem refTurn_any (s : S8) (p : List UInt8) (ao : Option Addr) (n c : Nat) (w : World) (hp : Rd w (.slice ao n c) 1 n (bytesV p)) (hl : p.length = n) :
    Calls Try.prog 20 #[.agg (wordsV s.list).toArray, .slice ao n c] w (turnOut s p w) := by
  by_cases h : n = 64
  · subst h
    obtain ⟨b, off, rfl, _⟩ := hp.at (k := 0) (by decide)
    exact refTurn_yes s p b off c w hp hl
  · exact refTurn_no s p ao n c w hl h
end Go.Proofs.Ytilgjldnlgfehaa
